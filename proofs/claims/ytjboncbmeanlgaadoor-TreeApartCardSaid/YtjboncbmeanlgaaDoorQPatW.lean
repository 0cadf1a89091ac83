/- PatW -/
import Derived.Test.YtjboncbmeanlgaaDoorQStmtW
/- Patterns that may be: the program's look. -/
set_option linter.unusedVariables false
set_option linter.unusedSimpArgs false
namespace Go.Proofs.YtjboncbmeanlgaaDoor.Tr
open Go.RowKit Go.Proofs Go.Proofs.YtjboncbmeanlgaaDoor.PTreePrints Go.Proofs.YtjboncbmeanlgaaDoorW.PrintWords Go.Proofs.YtjboncbmeanlgaaDoorW.PrintMore Go.Proofs.YtjboncbmeanlgaaDoorW.PrintLast
theorem rd83 (l : List S83) (i : Nat) (h : i < l.length) : rd_T83 l (i : Int) = l[i] := by
  unfold rd_T83
  rw [Int.toNat_natCast, List.getD_eq_getElem?_getD, List.getElem?_eq_getElem h]
  rfl
mutual
/-- May a pattern be? -/
def goodP : S83 → Bool
  | ⟨k, _, n, s, args⟩ =>
    if k = 5 then decide (n = 0) && (goodPL args && (s.toList == ([] : List UInt8) && withinB args.length 1 4))
    else decide (args.length = 0) && (if k = 2 then withinB n (-2305843009213693951) 2305843009213693951 && s.toList == ([] : List UInt8)
    else decide (n = 0) && (if k = 1 then s.toList == ([] : List UInt8) else if k = 3 ∨ k = 4 then nameOk s else false))
def goodPL : List S83 → Bool
  | [] => true
  | x :: r => goodP x && goodPL r
end
theorem goodPL_app : ∀ (a b : List S83), goodPL (a ++ b) = (goodPL a && goodPL b)
  | [], b => by simp [goodPL]
  | x :: a, b => by rw [List.cons_append, goodPL, goodPL_app a b, goodPL, Bool.and_assoc]
def GP (e : S83) : Prop := ∀ (A : Option Addr) (c : Nat) (w : World), Kd.C k83 w A e.f4.length e.f4 → e.f4.length ≤ c → Calls Tryd.prog 45 #[.agg #[.int .i64 e.f0, .int .i64 e.f1, .int .i64 e.f2, .string e.f3, .slice A e.f4.length c]] w (Says (goodP e) w)
set_option maxRecDepth 100000 in
set_option maxHeartbeats 16000000 in
theorem pat_ok (e : S83) (hI : ∀ x, x ∈ e.f4 → GP x) : GP e := by
  obtain ⟨k, a, n, s, l⟩ := e
  intro A c w hC hc
  simp only at hI hC hc ⊢
  have hlen := C_len hC
  have HI := Lib.hid hI
  have HC := Lib.hid hC
  clear hI hC
  go_enter Tryd.func45, Tryd.ntmps45
  have hal := below_alloc (Below.refl _ w) (.cells #[.int .i64 k, .int .i64 a, .int .i64 n, .string s, .slice A l.length c] 83)
  have XB := Lib.hid (blk_new w (.cells #[.int .i64 k, .int .i64 a, .int .i64 n, .string s, .slice A l.length c] 83))
  have B2 := Lib.hid hal
  have C2 := Lib.hid (Kd.C_below HC.out hal)
  clear hal
  go_upto_region 1 with fail
  generalize w.alloc (.cells #[.int .i64 k, .int .i64 a, .int .i64 n, .string s, .slice A l.length c] 83) = w2 at *
  generalize hgx : w.heap.size = gx at *
  have BW := Lib.hid (show Below w.heap.size w w2 by rw [hgx]; exact B2.out)
  clear B2
  have y0 := blk_cell XB.out 0
  have y2 := blk_cell XB.out 2
  have y3 := blk_cell XB.out 3
  have y4 := blk_cell XB.out 4
  by_cases e5 : k = 5
  · subst e5
    by_cases hn : n = 0
    · subst hn
      go_wp2
      go_loopw [52] (fun v52 wr => ∃ i : Nat, v52 = .int .i64 i ∧ i ≤ l.length ∧ Hid (goodPL (l.take i) = true) ∧ Hid (Below w2.heap.size w2 wr)) (fun v52 _ => l.length - (intOf v52).toNat)
      case atStart => exact ⟨0, by go_num, Nat.zero_le _, Lib.hid rfl, Lib.hid (Below.refl _ _)⟩
      case round =>
        obtain ⟨i, rfl, hil, HG, HB⟩ := hrel
        obtain ⟨wq, hwq⟩ : ∃ wq, wq = wr := ⟨_, rfl⟩
        subst hwq
        by_cases hlt : i < l.length
        · have q1 : (i : Int) < (l.length : Int) := by omega
          have q0 : (0 : Int) ≤ (i : Int) := by omega
          obtain ⟨ad, A5, c5, hA4, u0, u1, u2, u3, u4, hc5, hC5⟩ := at_T83 (Kd.C_below C2.out HB.out) (i : Int) q0 q1
          subst hA4
          rw [rd83 l i hlt, Int.toNat_natCast] at u0 u1 u2 u3 u4
          rw [rd83 l i hlt] at hc5 hC5
          have HE := Lib.hid (HI.out l[i] (List.getElem_mem hlt))
          have HT := Lib.hid (show goodPL (l.take (i + 1)) = goodP l[i] by rw [List.take_succ_eq_append_getElem hlt, goodPL_app, HG.out]; simp [goodPL])
          have HF := Lib.hid (show goodP l[i] = false → goodPL l = false by
            intro h
            have e : l = l.take i ++ (l[i] :: l.drop (i + 1)) := by rw [← List.drop_eq_getElem_cons hlt, List.take_append_drop]
            rw [e, goodPL_app, goodPL, h]
            simp)
          have HC5 := Lib.hid hC5
          clear hC5
          generalize l[i] = x at *
          go_upto_region 15 with fail
          have hal := below_alloc (Below.refl _ wq) (.cells #[.int .i64 x.f0, .int .i64 x.f1, .int .i64 x.f2, .string x.f3, .slice A5 x.f4.length c5] 83)
          have XC := Lib.hid (blk_new wq (.cells #[.int .i64 x.f0, .int .i64 x.f1, .int .i64 x.f2, .string x.f3, .slice A5 x.f4.length c5] 83))
          have BC := Lib.hid (below_step HB.out hal)
          have CC := Lib.hid (Kd.C_below HC5.out hal)
          clear hal u0 u1 u2 u3 u4
          generalize wq.alloc (.cells #[.int .i64 x.f0, .int .i64 x.f1, .int .i64 x.f2, .string x.f3, .slice A5 x.f4.length c5] 83) = w4 at *
          generalize wq.heap.size = gq at *
          have z0 := blk_cell XC.out 0
          have z1 := blk_cell XC.out 1
          have z2 := blk_cell XC.out 2
          have z3 := blk_cell XC.out 3
          have z4 := blk_cell XC.out 4
          go_wp2_with (go_at_call 45; refine (HE.out A5 c5 _ CC.out hc5).mono ?_; rintro e w3 ⟨rfl, hd⟩; have B3 := Lib.hid (below_step BC.out hd); clear hd; cases hb : goodP x)
          · go_ret
            exact ⟨by rw [goodP, if_pos rfl, HF.out hb]; simp, below_step BW.out B3.out⟩
          · go_roundw
            case rel => exact ⟨i + 1, by go_num, hlt, Lib.hid (HT.out.trans hb), B3⟩
            case measure => simp [intOf]; omega
        · obtain rfl : i = l.length := by omega
          have hg := HG.out
          rw [List.take_length] at hg
          have HGG := Lib.hid hg
          have XQ := Lib.hid (blk_below XB.out HB.out)
          have BQ := Lib.hid (below_step BW.out HB.out)
          clear hg HG y0 y2 y3 y4
          have y0 := blk_cell XQ.out 0
          have y3 := blk_cell XQ.out 3
          have y4 := blk_cell XQ.out 4
          go_wp2_with (go_at_call 16; refine (within_call _ _ _ _).mono ?_; rintro e w3 ⟨rfl, hd⟩; have B3 := Lib.hid (below_step BQ.out hd); clear hd)
          all_goals (go_ret; refine ⟨?_, by first | exact B3.out | exact BQ.out⟩; rw [goodP, if_pos rfl, HGG.out]; congr 2; simp_all)
    · have hn' : (n != 0) = true := by simp [hn]
      go_wp2
      go_ret
      exact ⟨by rw [goodP, if_pos rfl, decide_eq_false hn]; rfl, BW.out⟩
  · have e5' : (k != 5) = true := by simp [e5]
    have e5'' : (k == 5) = false := by simp [e5]
    have harg : l = [] ∨ (0 < l.length ∧ ¬ l = []) := by cases l <;> simp
    rcases harg with rfl | ⟨ha1, ha2⟩ <;> go_wp2_with (first | (go_at_call 16; refine (within_call _ _ _ _).mono ?_; rintro e w3 ⟨rfl, hd⟩; have XQ := Lib.hid (blk_below XB.out hd); have B3 := Lib.hid (below_step BW.out hd); clear hd y0 y2 y3 y4; have y3 := blk_cell XQ.out 3; cases hb : withinB n (-2305843009213693951) 2305843009213693951) | (go_at_call 18; refine (name_call _ _).mono ?_; rintro e w3 ⟨rfl, hd⟩; have B3 := Lib.hid (below_step BW.out hd); clear hd))
    all_goals try (go_ret; refine ⟨?_, by first | exact B3.out | exact BW.out⟩; congr 2; simp_all [goodP]; done)
theorem pat_any : ∀ (n : Nat) (e : S83), SizeOf.sizeOf e ≤ n → GP e := by
  intro n
  induction n with
  | zero =>
    intro e he
    cases e
    simp at he
  | succ n ih =>
    intro e he
    refine pat_ok e (fun x hx => ih x ?_)
    have h1 := List.sizeOf_lt_of_mem hx
    cases e
    simp at he
    simp only at h1
    omega
theorem pat_call (e : S83) : GP e := pat_any _ e (Nat.le_refl _)
end Go.Proofs.YtjboncbmeanlgaaDoor.Tr
