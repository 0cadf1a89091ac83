/- RefG -/
import Derived.Test.YtjboncbmeanlgaaDoorURefN
import Derived.Test.YtjboncbmeanlgaaDoorUBodyW
/- The document's look at expressions, patterns, statements: the program's. -/
set_option linter.unusedVariables false
set_option linter.unusedSimpArgs false
namespace Go.Proofs.YtjboncbmeanlgaaDoor.Tr
open Go.RowKit Go.Proofs Go.Proofs.YtjboncbmeanlgaaDoor.PTreePrints Go.Proofs.YtjboncbmeanlgaaDoorW.PrintWords Go.Proofs.YtjboncbmeanlgaaDoorW.PrintMore Go.Proofs.YtjboncbmeanlgaaDoorW.PrintLast
theorem badE {k a n : Int} {s : ByteArray} {args : List S31} (h : goodEL args = false) : goodE ⟨k, a, n, s, args⟩ = false := by
  have hl : ¬ args.length = 0 := fun h0 => by
    rw [List.length_eq_zero_iff.1 h0] at h
    cases h
  rw [goodE, h, decide_eq_false hl]
  split
  · rfl
  · split
    · simp
    · split
      · simp
      · split
        · simp
        · split <;> simp
theorem badP {k a n : Int} {s : ByteArray} {args : List S83} (h : goodPL args = false) : goodP ⟨k, a, n, s, args⟩ = false := by
  have hl : ¬ args.length = 0 := fun h0 => by
    rw [List.length_eq_zero_iff.1 h0] at h
    cases h
  rw [goodP, h, decide_eq_false hl]
  split <;> simp
/-- What is to be shown of an expression. -/
def RE (e : S31) : Prop := ∀ (A : Option Addr) (c : Nat) (w : World), Kd.C k31 w A e.f4.length e.f4 → e.f4.length ≤ c → Calls Tryd.prog 48 #[.agg #[.int .i64 e.f0, .int .i64 e.f1, .int .i64 e.f2, .string e.f3, .slice A e.f4.length c]] w (Says (goodE e) w)
set_option maxRecDepth 100000 in
set_option maxHeartbeats 16000000 in
theorem RE_ok (e : S31) (hI : ∀ x, x ∈ e.f4 → RE x) : RE e := by
  obtain ⟨k, a, n, s, l⟩ := e
  intro A c w hC hc
  simp only at hI hC hc ⊢
  have hlen := C_len hC
  have HI := Lib.hid hI
  have HC := Lib.hid hC
  clear hI hC
  go_enter Tryd.func48, Tryd.ntmps48
  have hal := below_alloc (Below.refl _ w) (.cells #[.int .i64 k, .int .i64 a, .int .i64 n, .string s, .slice A l.length c] 31)
  have XB := Lib.hid (blk_new w (.cells #[.int .i64 k, .int .i64 a, .int .i64 n, .string s, .slice A l.length c] 31))
  have B2 := Lib.hid hal
  have C2 := Lib.hid (Kd.C_below HC.out hal)
  clear hal
  go_upto_region 1 with fail
  generalize w.alloc (.cells #[.int .i64 k, .int .i64 a, .int .i64 n, .string s, .slice A l.length c] 31) = w2 at *
  generalize hgx : w.heap.size = gx at *
  have BW := Lib.hid (show Below w.heap.size w w2 by rw [hgx]; exact B2.out)
  clear B2 hgx
  have y4 := blk_cell XB.out 4
  go_wp2
  go_loopw [3] (fun vi wr => ∃ i : Nat, vi = .int .i64 i ∧ i ≤ l.length ∧ Hid (goodEL (l.take i) = true) ∧ Hid (Below w2.heap.size w2 wr)) (fun vi _ => l.length - (intOf vi).toNat)
  case atStart => exact ⟨0, by go_num, Nat.zero_le _, Lib.hid rfl, Lib.hid (Below.refl _ _)⟩
  case round =>
    obtain ⟨i, rfl, hil, HG, HB⟩ := hrel
    obtain ⟨wq, hwq⟩ : ∃ wq, wq = wr := ⟨_, rfl⟩
    subst hwq
    clear y4
    have XQ := Lib.hid (blk_below XB.out HB.out)
    have y4 := blk_cell XQ.out 4
    by_cases hlt : i < l.length
    · have q1 : (i : Int) < (l.length : Int) := by omega
      have q0 : (0 : Int) ≤ (i : Int) := by omega
      obtain ⟨ad, A5, c5, hA4, u0, u1, u2, u3, u4, hc5, hC5⟩ := at_T31 (Kd.C_below C2.out HB.out) (i : Int) q0 q1
      subst hA4
      rw [rd31 l i hlt, Int.toNat_natCast] at u0 u1 u2 u3 u4
      rw [rd31 l i hlt] at hc5 hC5
      have HE := Lib.hid (HI.out l[i] (List.getElem_mem hlt))
      have HT := Lib.hid (show goodEL (l.take (i + 1)) = goodE l[i] by rw [List.take_succ_eq_append_getElem hlt, goodEL_app, HG.out]; simp [goodEL])
      have HF := Lib.hid (show goodE l[i] = false → goodEL l = false by
        intro h
        have e : l = l.take i ++ (l[i] :: l.drop (i + 1)) := by rw [← List.drop_eq_getElem_cons hlt, List.take_append_drop]
        rw [e, goodEL_app, goodEL, h]
        simp)
      have HC5 := Lib.hid hC5
      clear hC5
      generalize l[i] = x at *
      go_wp2_with (go_at_call 48; refine (HE.out A5 c5 _ HC5.out hc5).mono ?_; rintro e w3 ⟨rfl, hd⟩; have B3 := Lib.hid (below_step HB.out hd); clear hd; cases hb : goodE x)
      · go_ret
        exact ⟨by rw [badE (HF.out hb)]; rfl, below_step BW.out B3.out⟩
      · go_roundw
        case rel => exact ⟨i + 1, by go_num, hlt, Lib.hid (HT.out.trans hb), B3⟩
        case measure => simp [intOf]; omega
    · obtain rfl : i = l.length := by omega
      have hgl := HG.out
      rw [List.take_length] at hgl
      have BQ := Lib.hid (below_step BW.out HB.out)
      clear HG BW HB
      have y0 := blk_cell XQ.out 0
      have y2 := blk_cell XQ.out 2
      have y3 := blk_cell XQ.out 3
      have harg : l = [] ∨ (0 < l.length ∧ ¬ l = []) := by cases l <;> simp
      rcases harg with rfl | ⟨ha1, ha2⟩ <;> go_wp2_with (go_at_call 21; refine (atom_call _ _).mono ?_; rintro e w3 ⟨rfl, hd⟩; have B3 := Lib.hid (below_step BQ.out hd); have X3 := Lib.hid (blk_below XQ.out hd); clear hd y0 y2 y3 y4; have y4 := blk_cell X3.out 4; have y3 := blk_cell X3.out 3; cases hn : nameOk s)
      all_goals try (go_ret; refine ⟨?_, by first | exact B3.out | exact BQ.out⟩; congr 2; simp_all [goodE, signB, withinB]; done)
      all_goals try (go_ret; refine ⟨?_, by first | exact B3.out | exact BQ.out⟩; congr 2; simp_all [goodE, signB, withinB]; omega)
      all_goals (go_ret; refine ⟨?_, by first | exact B3.out | exact BQ.out⟩; refine congrArg Ending.returned ?_; show Value.bool _ = Value.bool _; congr 1; rw [Bool.eq_iff_iff]; simp_all [goodE, signB, withinB]; omega)
theorem RE_any : ∀ (n : Nat) (e : S31), SizeOf.sizeOf e ≤ n → RE e := by
  intro n
  induction n with
  | zero =>
    intro e he
    cases e
    simp at he
  | succ n ih =>
    intro e he
    refine RE_ok e (fun x hx => ih x ?_)
    have h1 := List.sizeOf_lt_of_mem hx
    cases e
    simp at he
    simp only at h1
    omega
theorem RE_call (e : S31) : RE e := RE_any _ e (Nat.le_refl _)
/-- What is to be shown of a pattern. -/
def RP (e : S83) : Prop := ∀ (A : Option Addr) (c : Nat) (w : World), Kd.C k83 w A e.f4.length e.f4 → e.f4.length ≤ c → Calls Tryd.prog 70 #[.agg #[.int .i64 e.f0, .int .i64 e.f1, .int .i64 e.f2, .string e.f3, .slice A e.f4.length c]] w (Says (goodP e) w)
set_option maxRecDepth 100000 in
set_option maxHeartbeats 16000000 in
theorem RP_ok (e : S83) (hI : ∀ x, x ∈ e.f4 → RP x) : RP e := by
  obtain ⟨k, a, n, s, l⟩ := e
  intro A c w hC hc
  simp only at hI hC hc ⊢
  have hlen := C_len hC
  have HI := Lib.hid hI
  have HC := Lib.hid hC
  clear hI hC
  go_enter Tryd.func70, Tryd.ntmps70
  have hal := below_alloc (Below.refl _ w) (.cells #[.int .i64 k, .int .i64 a, .int .i64 n, .string s, .slice A l.length c] 83)
  have XB := Lib.hid (blk_new w (.cells #[.int .i64 k, .int .i64 a, .int .i64 n, .string s, .slice A l.length c] 83))
  have B2 := Lib.hid hal
  have C2 := Lib.hid (Kd.C_below HC.out hal)
  clear hal
  go_upto_region 1 with fail
  generalize w.alloc (.cells #[.int .i64 k, .int .i64 a, .int .i64 n, .string s, .slice A l.length c] 83) = w2 at *
  generalize hgx : w.heap.size = gx at *
  have BW := Lib.hid (show Below w.heap.size w w2 by rw [hgx]; exact B2.out)
  clear B2 hgx
  have y4 := blk_cell XB.out 4
  go_wp2
  go_loopw [3] (fun vi wr => ∃ i : Nat, vi = .int .i64 i ∧ i ≤ l.length ∧ Hid (goodPL (l.take i) = true) ∧ Hid (Below w2.heap.size w2 wr)) (fun vi _ => l.length - (intOf vi).toNat)
  case atStart => exact ⟨0, by go_num, Nat.zero_le _, Lib.hid rfl, Lib.hid (Below.refl _ _)⟩
  case round =>
    obtain ⟨i, rfl, hil, HG, HB⟩ := hrel
    obtain ⟨wq, hwq⟩ : ∃ wq, wq = wr := ⟨_, rfl⟩
    subst hwq
    clear y4
    have XQ := Lib.hid (blk_below XB.out HB.out)
    have y4 := blk_cell XQ.out 4
    by_cases hlt : i < l.length
    · have q1 : (i : Int) < (l.length : Int) := by omega
      have q0 : (0 : Int) ≤ (i : Int) := by omega
      obtain ⟨ad, A5, c5, hA4, u0, u1, u2, u3, u4, hc5, hC5⟩ := at_T83 (Kd.C_below C2.out HB.out) (i : Int) q0 q1
      subst hA4
      rw [rd83 l i hlt, Int.toNat_natCast] at u0 u1 u2 u3 u4
      rw [rd83 l i hlt] at hc5 hC5
      have HE := Lib.hid (HI.out l[i] (List.getElem_mem hlt))
      have HT := Lib.hid (show goodPL (l.take (i + 1)) = goodP l[i] by rw [List.take_succ_eq_append_getElem hlt, goodPL_app, HG.out]; simp [goodPL])
      have HF := Lib.hid (show goodP l[i] = false → goodPL l = false by
        intro h
        have e : l = l.take i ++ (l[i] :: l.drop (i + 1)) := by rw [← List.drop_eq_getElem_cons hlt, List.take_append_drop]
        rw [e, goodPL_app, goodPL, h]
        simp)
      have HC5 := Lib.hid hC5
      clear hC5
      generalize l[i] = x at *
      go_wp2_with (go_at_call 70; refine (HE.out A5 c5 _ HC5.out hc5).mono ?_; rintro e w3 ⟨rfl, hd⟩; have B3 := Lib.hid (below_step HB.out hd); clear hd; cases hb : goodP x)
      · go_ret
        exact ⟨by rw [badP (HF.out hb)]; rfl, below_step BW.out B3.out⟩
      · go_roundw
        case rel => exact ⟨i + 1, by go_num, hlt, Lib.hid (HT.out.trans hb), B3⟩
        case measure => simp [intOf]; omega
    · obtain rfl : i = l.length := by omega
      have hgl := HG.out
      rw [List.take_length] at hgl
      have BQ := Lib.hid (below_step BW.out HB.out)
      clear HG BW HB
      have y0 := blk_cell XQ.out 0
      have y2 := blk_cell XQ.out 2
      have y3 := blk_cell XQ.out 3
      have harg : l = [] ∨ (0 < l.length ∧ ¬ l = []) := by cases l <;> simp
      rcases harg with rfl | ⟨ha1, ha2⟩ <;> go_wp2_with (go_at_call 21; refine (atom_call _ _).mono ?_; rintro e w3 ⟨rfl, hd⟩; have B3 := Lib.hid (below_step BQ.out hd); have X3 := Lib.hid (blk_below XQ.out hd); clear hd y0 y2 y3 y4; have y4 := blk_cell X3.out 4; have y3 := blk_cell X3.out 3; cases hn : nameOk s)
      all_goals try (go_ret; refine ⟨?_, by first | exact B3.out | exact BQ.out⟩; congr 2; simp_all [goodP, signB, withinB]; done)
      all_goals try (go_ret; refine ⟨?_, by first | exact B3.out | exact BQ.out⟩; congr 2; simp_all [goodP, signB, withinB]; omega)
      all_goals (go_ret; refine ⟨?_, by first | exact B3.out | exact BQ.out⟩; refine congrArg Ending.returned ?_; show Value.bool _ = Value.bool _; congr 1; rw [Bool.eq_iff_iff]; simp_all [goodP, signB, withinB]; omega)
theorem RP_any : ∀ (n : Nat) (e : S83), SizeOf.sizeOf e ≤ n → RP e := by
  intro n
  induction n with
  | zero =>
    intro e he
    cases e
    simp at he
  | succ n ih =>
    intro e he
    refine RP_ok e (fun x hx => ih x ?_)
    have h1 := List.sizeOf_lt_of_mem hx
    cases e
    simp at he
    simp only at h1
    omega
theorem RP_call (e : S83) : RP e := RP_any _ e (Nat.le_refl _)
end Go.Proofs.YtjboncbmeanlgaaDoor.Tr
