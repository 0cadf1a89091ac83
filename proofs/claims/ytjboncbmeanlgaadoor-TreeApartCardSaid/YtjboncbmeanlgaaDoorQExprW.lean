/- ExprW -/
import Derived.Test.YtjboncbmeanlgaaDoorQNameP
/- Expressions that may be: the program's look. -/
set_option linter.unusedVariables false
set_option linter.unusedSimpArgs false
namespace Go.Proofs.YtjboncbmeanlgaaDoor.Tr
open Go.RowKit Go.Proofs Go.Proofs.YtjboncbmeanlgaaDoor.PTreePrints Go.Proofs.YtjboncbmeanlgaaDoorW.PrintWords Go.Proofs.YtjboncbmeanlgaaDoorW.PrintMore Go.Proofs.YtjboncbmeanlgaaDoorW.PrintLast
theorem C_len {α : Type} {d : Kd α} {w : World} {A : Option Addr} {n : Nat} {xs : List α} (h : d.C w A n xs) : n ≤ 9223372036854775807 := h.2.1
theorem rd31 (l : List S31) (i : Nat) (h : i < l.length) : rd_T31 l (i : Int) = l[i] := by
  unfold rd_T31
  rw [Int.toNat_natCast, List.getD_eq_getElem?_getD, List.getElem?_eq_getElem h]
  rfl
def signB (s : ByteArray) : Bool := s.toList == ([43] : List UInt8) || (s.toList == ([45] : List UInt8) || (s.toList == ([42] : List UInt8) || (s.toList == ([60] : List UInt8) || s.toList == ([61, 61] : List UInt8))))
mutual
/-- May an expression be? -/
def goodE : S31 → Bool
  | ⟨k, _, n, s, args⟩ =>
    if k = 1 then decide (args.length = 0) && (withinB n 0 2305843009213693951 && s.toList == ([] : List UInt8))
    else decide (n = 0) && (if k = 2 ∨ k = 3 then decide (args.length = 0) && nameOk s
    else if k = 4 then decide (args.length = 0) && s.toList == ([] : List UInt8)
    else if k = 5 then s.toList == ([] : List UInt8) && (goodEL args && withinB args.length 1 4)
    else if k = 6 then signB s && (goodEL args && withinB args.length 2 2)
    else false)
def goodEL : List S31 → Bool
  | [] => true
  | x :: r => goodE x && goodEL r
end
theorem goodEL_app : ∀ (a b : List S31), goodEL (a ++ b) = (goodEL a && goodEL b)
  | [], b => by simp [goodEL]
  | x :: a, b => by rw [List.cons_append, goodEL, goodEL_app a b, goodEL, Bool.and_assoc]
def GE (e : S31) : Prop := ∀ (A : Option Addr) (c : Nat) (w : World), Kd.C k31 w A e.f4.length e.f4 → e.f4.length ≤ c → Calls Tryd.prog 43 #[.agg #[.int .i64 e.f0, .int .i64 e.f1, .int .i64 e.f2, .string e.f3, .slice A e.f4.length c]] w fun r w' => r = .returned (.bool (goodE e)) ∧ Below w.heap.size w w'
/-- Yes or no, as it is. -/
def Says (b : Bool) (w : World) (r : Ending) (w' : World) : Prop := r = .returned (.bool b) ∧ Below w.heap.size w w'
set_option maxRecDepth 100000 in
set_option maxHeartbeats 8000000 in
theorem exprs_ok (l : List S31) (hI : ∀ x, x ∈ l → GE x) (A : Option Addr) (c : Nat) (lo hi : Int) (w : World) (hC : Kd.C k31 w A l.length l) (hc : l.length ≤ c) :
    Calls Tryd.prog 19 #[.slice A l.length c, .int .i64 lo, .int .i64 hi] w (Says (goodEL l && withinB l.length lo hi) w) := by
  have hlen := C_len hC
  have HI := Lib.hid hI
  have HC := Lib.hid hC
  clear hI hC
  go_enter Tryd.func19, Tryd.ntmps19
  go_wp2
  go_loopw [11] (fun v11 wr => ∃ i : Nat, v11 = .int .i64 i ∧ i ≤ l.length ∧ Hid (goodEL (l.take i) = true) ∧ Hid (Below w.heap.size w wr)) (fun v11 _ => l.length - (intOf v11).toNat)
  case atStart => exact ⟨0, by go_num, Nat.zero_le _, Lib.hid rfl, Lib.hid (Below.refl _ _)⟩
  case round =>
    obtain ⟨i, rfl, hil, HG, HB⟩ := hrel
    obtain ⟨wq, hwq⟩ : ∃ wq, wq = wr := ⟨_, rfl⟩
    subst hwq
    by_cases hlt : i < l.length
    · have q1 : (i : Int) < (l.length : Int) := by omega
      have q0 : (0 : Int) ≤ (i : Int) := by omega
      obtain ⟨ad, A5, c5, hA4, u0, u1, u2, u3, u4, hc5, hC5⟩ := at_T31 (Kd.C_below HC.out HB.out) (i : Int) q0 q1
      subst hA4
      rw [rd31 l i hlt, Int.toNat_natCast] at u0 u1 u2 u3 u4
      rw [rd31 l i hlt] at hc5 hC5
      have HE := Lib.hid (HI.out l[i] (List.getElem_mem hlt))
      have HT := Lib.hid (show goodEL (l.take (i + 1)) = goodE l[i] by rw [List.take_succ_eq_append_getElem hlt, goodEL_app, HG.out]; simp [goodEL])
      have HF := Lib.hid (show goodE l[i] = false → goodEL l = false by
        intro h
        have e : l = l.take i ++ (l[i] :: l.drop (i + 1)) := by rw [← List.drop_eq_getElem_cons hlt, List.take_append_drop]
        rw [e, goodEL_app, goodEL, h]
        simp)
      have HC5 := Lib.hid hC5
      clear hC5
      generalize l[i] = x at *
      go_upto_region 4 with fail
      have hal := below_alloc (Below.refl _ wq) (.cells #[.int .i64 x.f0, .int .i64 x.f1, .int .i64 x.f2, .string x.f3, .slice A5 x.f4.length c5] 31)
      have XB := Lib.hid (blk_new wq (.cells #[.int .i64 x.f0, .int .i64 x.f1, .int .i64 x.f2, .string x.f3, .slice A5 x.f4.length c5] 31))
      have B2 := Lib.hid (below_step HB.out hal)
      have C2 := Lib.hid (Kd.C_below HC5.out hal)
      clear hal u0 u1 u2 u3 u4
      generalize wq.alloc (.cells #[.int .i64 x.f0, .int .i64 x.f1, .int .i64 x.f2, .string x.f3, .slice A5 x.f4.length c5] 31) = w2 at *
      generalize wq.heap.size = gx at *
      have y0 := blk_cell XB.out 0
      have y1 := blk_cell XB.out 1
      have y2 := blk_cell XB.out 2
      have y3 := blk_cell XB.out 3
      have y4 := blk_cell XB.out 4
      go_wp2_with (go_at_call 43; refine (HE.out A5 c5 _ C2.out hc5).mono ?_; rintro e w3 ⟨rfl, hd⟩; have B3 := Lib.hid (below_step B2.out hd); clear hd; cases hb : goodE x)
      · go_ret
        exact ⟨by rw [HF.out hb]; rfl, B3.out⟩
      · go_roundw
        case rel => exact ⟨i + 1, by go_num, hlt, Lib.hid (HT.out.trans hb), B3⟩
        case measure => simp [intOf]; omega
    · obtain rfl : i = l.length := by omega
      have hg := HG.out
      rw [List.take_length] at hg
      have HGG := Lib.hid hg
      clear hg HG
      go_wp2_with (go_at_call 16; refine (within_call _ lo hi _).mono ?_; rintro e w3 ⟨rfl, hd⟩; have B3 := Lib.hid (below_step HB.out hd); clear hd)
      go_ret
      exact ⟨by rw [HGG.out]; rfl, B3.out⟩
set_option maxRecDepth 100000 in
set_option maxHeartbeats 16000000 in
theorem expr_ok (e : S31) (hI : ∀ x, x ∈ e.f4 → GE x) : GE e := by
  obtain ⟨k, a, n, s, args⟩ := e
  intro A c w hC hc
  simp only at hI hC hc ⊢
  have HI := Lib.hid hI
  have HC := Lib.hid hC
  clear hI hC
  go_enter Tryd.func43, Tryd.ntmps43
  have hal := below_alloc (Below.refl _ w) (.cells #[.int .i64 k, .int .i64 a, .int .i64 n, .string s, .slice A args.length c] 31)
  have XB := Lib.hid (blk_new w (.cells #[.int .i64 k, .int .i64 a, .int .i64 n, .string s, .slice A args.length c] 31))
  have B2 := Lib.hid hal
  have C2 := Lib.hid (Kd.C_below HC.out hal)
  clear hal
  go_upto_region 1 with fail
  generalize w.alloc (.cells #[.int .i64 k, .int .i64 a, .int .i64 n, .string s, .slice A args.length c] 31) = w2 at *
  generalize hgx : w.heap.size = gx at *
  have BW := Lib.hid (show Below w.heap.size w w2 by rw [hgx]; exact B2.out)
  clear B2
  have y0 := blk_cell XB.out 0
  have y1 := blk_cell XB.out 1
  have y2 := blk_cell XB.out 2
  have y3 := blk_cell XB.out 3
  have y4 := blk_cell XB.out 4
  go_wp2_with (first | (go_at_call 16; refine (within_call _ _ _ _).mono ?_; rintro e w3 ⟨rfl, hd⟩; have B3 := Lib.hid (below_step BW.out hd); have XB3 := blk_below XB.out hd; have z3 := blk_cell XB3 3; clear hd; cases hb : withinB n 0 2305843009213693951) | (go_at_call 18; refine (name_call _ _).mono ?_; rintro e w3 ⟨rfl, hd⟩; have B3 := Lib.hid (below_step BW.out hd); clear hd) | (go_at_call 19; refine (exprs_ok args HI.out A c _ _ _ C2.out hc).mono ?_; rintro e w3 ⟨rfl, hd⟩; have B3 := Lib.hid (below_step BW.out hd); clear hd))
  all_goals try (go_ret; refine ⟨?_, by first | exact B3.out | exact BW.out⟩; congr 2; simp_all [goodE, signB]; done)
  all_goals exact absurd (List.length_pos_iff.2 ‹¬args = []›) ‹¬0 < args.length›
theorem expr_any : ∀ (n : Nat) (e : S31), SizeOf.sizeOf e ≤ n → GE e := by
  intro n
  induction n with
  | zero =>
    intro e he
    cases e
    simp at he
  | succ n ih =>
    intro e he
    refine expr_ok e (fun x hx => ih x ?_)
    have h1 := List.sizeOf_lt_of_mem hx
    cases e
    simp at he
    simp only at h1
    omega
/-- The look at an expression, at some. -/
theorem expr_call (e : S31) : GE e := expr_any _ e (Nat.le_refl _)
theorem exprs_call (l : List S31) (A : Option Addr) (c : Nat) (lo hi : Int) (w : World) (hC : Kd.C k31 w A l.length l) (hc : l.length ≤ c) :
    Calls Tryd.prog 19 #[.slice A l.length c, .int .i64 lo, .int .i64 hi] w (Says (goodEL l && withinB l.length lo hi) w) := exprs_ok l (fun x _ => expr_call x) A c lo hi w hC hc
end Go.Proofs.YtjboncbmeanlgaaDoor.Tr
