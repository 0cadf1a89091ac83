/- RefH -/
import Derived.Test.YtjboncbmeanlgaaDoorURefG
/- The document's look at expressions, patterns, statements: the program's. -/
set_option linter.unusedVariables false
set_option linter.unusedSimpArgs false
namespace Go.Proofs.YtjboncbmeanlgaaDoor.Tr
open Go.RowKit Go.Proofs Go.Proofs.YtjboncbmeanlgaaDoor.PTreePrints Go.Proofs.YtjboncbmeanlgaaDoorW.PrintWords Go.Proofs.YtjboncbmeanlgaaDoorW.PrintMore Go.Proofs.YtjboncbmeanlgaaDoorW.PrintLast
set_option maxRecDepth 100000 in
set_option maxHeartbeats 8000000 in
/-- Some expressions, the document's look. -/
theorem rexprs_call (l : List S31) (A : Option Addr) (c : Nat) (lo hi : Int) (w : World) (hC : Kd.C k31 w A l.length l) (hc : l.length ≤ c) :
    Calls Tryd.prog 22 #[.slice A l.length c, .int .i64 lo, .int .i64 hi] w (Says (goodEL l && withinB l.length lo hi) w) := by
  have hlen := C_len hC
  have HC := Lib.hid hC
  clear hC
  go_enter Tryd.func22, Tryd.ntmps22
  go_wp2
  go_loopw [7] (fun vi wr => ∃ i : Nat, vi = .int .i64 i ∧ i ≤ l.length ∧ Hid (goodEL (l.take i) = true) ∧ Hid (Below w.heap.size w wr)) (fun vi _ => l.length - (intOf vi).toNat)
  case atStart => exact ⟨0, by go_num, Nat.zero_le _, Lib.hid rfl, Lib.hid (Below.refl _ _)⟩
  case round =>
    obtain ⟨i, rfl, hil, HG, HB⟩ := hrel
    obtain ⟨wq, hwq⟩ : ∃ wq, wq = wr := ⟨_, rfl⟩
    subst hwq
    by_cases hlt : i < l.length
    · have q1 : (i : Int) < (l.length : Int) := by omega
      have q0 : (0 : Int) ≤ (i : Int) := by omega
      obtain ⟨ad, A5, c5, hA4, u0, u1, u2, u3, u4, hc5, hC5⟩ := at_T31 (Kd.C_below HC.out HB.out) (i : Int) q0 q1
      subst hA4
      rw [rd31 l i hlt, Int.toNat_natCast] at u0 u1 u2 u3 u4
      rw [rd31 l i hlt] at hc5 hC5
      have HT := Lib.hid (show goodEL (l.take (i + 1)) = goodE l[i] by rw [List.take_succ_eq_append_getElem hlt, goodEL_app, HG.out]; simp [goodEL])
      have HF := Lib.hid (show goodE l[i] = false → goodEL l = false by
        intro h
        have e : l = l.take i ++ (l[i] :: l.drop (i + 1)) := by rw [← List.drop_eq_getElem_cons hlt, List.take_append_drop]
        rw [e, goodEL_app, goodEL, h]
        simp)
      have HC5 := Lib.hid hC5
      clear hC5
      generalize l[i] = x at *
      go_wp2_with (go_at_call 48; refine (RE_call x A5 c5 _ HC5.out hc5).mono ?_; rintro e w3 ⟨rfl, hd⟩; have B3 := Lib.hid (below_step HB.out hd); clear hd; cases hb : goodE x)
      · go_ret
        exact ⟨by rw [HF.out hb]; rfl, B3.out⟩
      · go_roundw
        case rel => exact ⟨i + 1, by go_num, hlt, Lib.hid (HT.out.trans hb), B3⟩
        case measure => simp [intOf]; omega
    · obtain rfl : i = l.length := by omega
      have hgl := HG.out
      rw [List.take_length] at hgl
      go_wp2
      all_goals (go_ret; refine ⟨?_, HB.out⟩; congr 2; simp_all [withinB]; try omega)
set_option maxRecDepth 100000 in
set_option maxHeartbeats 16000000 in
/-- A statement, the document's look. -/
theorem rstmt_call (x : S37) (A : Option Addr) (c : Nat) (w : World) (hC : Kd.C k31 w A x.f4.length x.f4) (hc : x.f4.length ≤ c) :
    Calls Tryd.prog 49 #[.agg #[.int .i64 x.f0, .int .i64 x.f1, .string x.f2, .string x.f3, .slice A x.f4.length c]] w (Says (goodSt x) w) := by
  obtain ⟨k, a, s, t, args⟩ := x
  simp only at hC hc ⊢
  have HC := Lib.hid hC
  clear hC
  go_enter Tryd.func49, Tryd.ntmps49
  have hal := below_alloc (Below.refl _ w) (.cells #[.int .i64 k, .int .i64 a, .string s, .string t, .slice A args.length c] 37)
  have XB := Lib.hid (blk_new w (.cells #[.int .i64 k, .int .i64 a, .string s, .string t, .slice A args.length c] 37))
  have B2 := Lib.hid hal
  have C2 := Lib.hid (Kd.C_below HC.out hal)
  clear hal
  go_upto_region 1 with fail
  generalize w.alloc (.cells #[.int .i64 k, .int .i64 a, .string s, .string t, .slice A args.length c] 37) = w2 at *
  generalize hgx : w.heap.size = gx at *
  have BW := Lib.hid (show Below w.heap.size w w2 by rw [hgx]; exact B2.out)
  clear B2
  have y0 := blk_cell XB.out 0
  have y2 := blk_cell XB.out 2
  have y3 := blk_cell XB.out 3
  have y4 := blk_cell XB.out 4
  go_wp2_with (first
    | (go_at_call 21; refine (atom_call _ _).mono ?_; rintro e w3 ⟨rfl, hd⟩; have BN := Lib.hid (below_step BW.out hd); have XN := Lib.hid (blk_below XB.out hd); have CN := Lib.hid (Kd.C_below C2.out hd); clear hd BW XB C2 y0 y2 y3 y4; have BW := Lib.hid BN.out; have XB := Lib.hid XN.out; have C2 := Lib.hid CN.out; clear BN XN CN; have y0 := blk_cell XB.out 0; have y2 := blk_cell XB.out 2; have y3 := blk_cell XB.out 3; have y4 := blk_cell XB.out 4; first | (cases hs : nameOk s) | (cases ht : nameOk t))
    | (go_at_call 22; refine (rexprs_call args A c _ _ _ C2.out hc).mono ?_; rintro e w3 ⟨rfl, hd⟩; have BN := Lib.hid (below_step BW.out hd); clear hd BW XB C2 y0 y2 y3 y4; have BW := Lib.hid BN.out; clear BN))
  all_goals (go_ret; refine ⟨?_, BW.out⟩; congr 2; simp_all [goodSt])
end Go.Proofs.YtjboncbmeanlgaaDoor.Tr
