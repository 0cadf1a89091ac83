/- StmtW -/
import Derived.Test.YtjboncbmeanlgaaDoorQExprW
/- Statements and patterns that may be: the program's look. -/
set_option linter.unusedVariables false
set_option linter.unusedSimpArgs false
namespace Go.Proofs.YtjboncbmeanlgaaDoor.Tr
open Go.RowKit Go.Proofs Go.Proofs.YtjboncbmeanlgaaDoor.PTreePrints Go.Proofs.YtjboncbmeanlgaaDoorW.PrintWords Go.Proofs.YtjboncbmeanlgaaDoorW.PrintMore Go.Proofs.YtjboncbmeanlgaaDoorW.PrintLast
/-- May a statement be? -/
def goodSt (x : S37) : Bool :=
  if x.f0 = 1 then nameOk x.f2 && (x.f3.toList == ([] : List UInt8) && (goodEL x.f4 && withinB x.f4.length 1 1))
  else if x.f0 = 2 then nameOk x.f2 && (nameOk x.f3 && (goodEL x.f4 && withinB x.f4.length 0 8))
  else if x.f0 = 3 then x.f2.toList == ([] : List UInt8) && (x.f3.toList == ([] : List UInt8) && (goodEL x.f4 && withinB x.f4.length 2 2))
  else if x.f0 = 4 then x.f2.toList == ([] : List UInt8) && (x.f3.toList == ([] : List UInt8) && (goodEL x.f4 && withinB x.f4.length 1 1))
  else false
set_option maxRecDepth 100000 in
set_option maxHeartbeats 16000000 in
theorem stmt_call (x : S37) (A : Option Addr) (c : Nat) (w : World) (hC : Kd.C k31 w A x.f4.length x.f4) (hc : x.f4.length ≤ c) :
    Calls Tryd.prog 44 #[.agg #[.int .i64 x.f0, .int .i64 x.f1, .string x.f2, .string x.f3, .slice A x.f4.length c]] w (Says (goodSt x) w) := by
  obtain ⟨k, a, s, t, args⟩ := x
  simp only at hC hc ⊢
  have HC := Lib.hid hC
  clear hC
  go_enter Tryd.func44, Tryd.ntmps44
  have hal := below_alloc (Below.refl _ w) (.cells #[.int .i64 k, .int .i64 a, .string s, .string t, .slice A args.length c] 37)
  have XB := Lib.hid (blk_new w (.cells #[.int .i64 k, .int .i64 a, .string s, .string t, .slice A args.length c] 37))
  have B2 := Lib.hid hal
  have C2 := Lib.hid (Kd.C_below HC.out hal)
  clear hal
  go_upto_region 1 with fail
  generalize w.alloc (.cells #[.int .i64 k, .int .i64 a, .string s, .string t, .slice A args.length c] 37) = w2 at *
  generalize hgx : w.heap.size = gx at *
  have BW := Lib.hid (show Below w.heap.size w w2 by rw [hgx]; exact B2.out)
  clear B2
  have y0 := blk_cell XB.out 0
  have y1 := blk_cell XB.out 1
  have y2 := blk_cell XB.out 2
  have y3 := blk_cell XB.out 3
  have y4 := blk_cell XB.out 4
  go_wp2_with (first
    | (go_at_call 18; refine (name_call _ _).mono ?_; rintro e w3 ⟨rfl, hd⟩; replace BW := Lib.hid (below_step BW.out hd); have XB' := blk_below XB.out hd; have C2' := Kd.C_below C2.out hd; clear C2 XB y0 y1 y2 y3 y4; have XB := Lib.hid XB'; have C2 := Lib.hid C2'; clear XB' C2' hd; have y0 := blk_cell XB.out 0; have y1 := blk_cell XB.out 1; have y2 := blk_cell XB.out 2; have y3 := blk_cell XB.out 3; have y4 := blk_cell XB.out 4; first | (cases hb : nameOk s; done) | cases hb : nameOk s)
    | (go_at_call 19; refine (exprs_call args A c _ _ _ C2.out hc).mono ?_; rintro e w3 ⟨rfl, hd⟩; have B3 := Lib.hid (below_step BW.out hd); clear hd))
  all_goals try (go_ret; refine ⟨?_, by first | exact B3.out | exact BW.out⟩; congr 2; simp_all [goodSt]; done)
/-- May a body's end be, but for its arms and parts? -/
def goodEnd (x : S42) : Bool :=
  if x.f1 = 4 then x.f3.toList == ([] : List UInt8) && (decide (x.f4.length = 0) && (decide (x.f5.length = if x.f7 = true then 1 else 0) && (withinB x.f8 0 (if x.f7 = true then 2305843009213693951 else 0) && (x.f7 || decide (0 < x.f6.length)))))
  else decide (x.f6.length = 0) && (!x.f7 && (decide (x.f8 = 0) && (if x.f1 = 1 then nameOk x.f3 && ((goodEL x.f4 && withinB x.f4.length 0 8) && decide (x.f5.length = 0))
    else x.f3.toList == ([] : List UInt8) && (if x.f1 = 2 then decide (x.f4.length = 0) && decide (x.f5.length = 0) else if x.f1 = 3 then (goodEL x.f4 && withinB x.f4.length 1 1) && decide (x.f5.length = 2) else false))))
/-- A body as an argument. -/
abbrev bodyV (x : S42) (A0 : Option Addr) (c0 : Nat) (A4 : Option Addr) (c4 : Nat) (A5 : Option Addr) (c5 : Nat) (A6 : Option Addr) (c6 : Nat) : Value := .agg #[.slice A0 x.f0.length c0, .int .i64 x.f1, .int .i64 x.f2, .string x.f3, .slice A4 x.f4.length c4, .slice A5 x.f5.length c5, .slice A6 x.f6.length c6, .bool x.f7, .int .i64 x.f8]
set_option maxRecDepth 100000 in
set_option maxHeartbeats 16000000 in
theorem end_call (x : S42) (A0 : Option Addr) (c0 : Nat) (A4 : Option Addr) (c4 : Nat) (A5 : Option Addr) (c5 : Nat) (A6 : Option Addr) (c6 : Nat) (w : World) (hB : BodyC w x A0 c0 A4 c4 A5 c5 A6 c6) :
    Calls Tryd.prog 46 #[bodyV x A0 c0 A4 c4 A5 c5 A6 c6] w (Says (goodEnd x) w) := by
  obtain ⟨f0, k, a, s, args, parts, arms, late, after⟩ := x
  have HC := Lib.hid hB.g4
  have hc := hB.l4
  simp only at hc HC ⊢
  clear hB
  unfold bodyV
  go_enter Tryd.func46, Tryd.ntmps46
  have hal := below_alloc (Below.refl _ w) (.cells #[.slice A0 f0.length c0, .int .i64 k, .int .i64 a, .string s, .slice A4 args.length c4, .slice A5 parts.length c5, .slice A6 arms.length c6, .bool late, .int .i64 after] 42)
  have XB := Lib.hid (blk_new w (.cells #[.slice A0 f0.length c0, .int .i64 k, .int .i64 a, .string s, .slice A4 args.length c4, .slice A5 parts.length c5, .slice A6 arms.length c6, .bool late, .int .i64 after] 42))
  have B2 := Lib.hid hal
  have C2 := Lib.hid (Kd.C_below HC.out hal)
  clear hal
  go_upto_region 1 with fail
  generalize w.alloc (.cells #[.slice A0 f0.length c0, .int .i64 k, .int .i64 a, .string s, .slice A4 args.length c4, .slice A5 parts.length c5, .slice A6 arms.length c6, .bool late, .int .i64 after] 42) = w2 at *
  generalize hgx : w.heap.size = gx at *
  have BW := Lib.hid (show Below w.heap.size w w2 by rw [hgx]; exact B2.out)
  clear B2
  have y0 := blk_cell XB.out 0
  have y1 := blk_cell XB.out 1
  have y2 := blk_cell XB.out 2
  have y3 := blk_cell XB.out 3
  have y4 := blk_cell XB.out 4
  have y5 := blk_cell XB.out 5
  have y6 := blk_cell XB.out 6
  have y7 := blk_cell XB.out 7
  have y8 := blk_cell XB.out 8
  have harm : arms = [] ∨ (0 < arms.length ∧ ¬ arms = []) := by cases arms <;> simp
  rcases harm with rfl | ⟨ha1, ha2⟩ <;> cases late <;> go_wp2_with (first
    | (go_at_call 18; refine (name_call _ _).mono ?_; rintro e w3 ⟨rfl, hd⟩; replace BW := Lib.hid (below_step BW.out hd); have XB' := blk_below XB.out hd; have C2' := Kd.C_below C2.out hd; clear C2 XB y0 y1 y2 y3 y4 y5 y6 y7 y8; have XB := Lib.hid XB'; have C2 := Lib.hid C2'; clear XB' C2' hd; have y0 := blk_cell XB.out 0; have y1 := blk_cell XB.out 1; have y2 := blk_cell XB.out 2; have y3 := blk_cell XB.out 3; have y4 := blk_cell XB.out 4; have y5 := blk_cell XB.out 5; have y6 := blk_cell XB.out 6; have y7 := blk_cell XB.out 7; have y8 := blk_cell XB.out 8; cases hb : nameOk s)
    | (go_at_call 19; refine (exprs_call args A4 c4 _ _ _ C2.out hc).mono ?_; rintro e w3 ⟨rfl, hd⟩; replace BW := Lib.hid (below_step BW.out hd); have XB' := blk_below XB.out hd; clear C2 XB y0 y1 y2 y3 y4 y5 y6 y7 y8; have XB := Lib.hid XB'; clear XB' hd; have y5 := blk_cell XB.out 5; first | (cases hg : (goodEL args && withinB args.length 0 8) <;> trivial) | skip)
    | (go_at_call 16; refine (within_call _ _ _ _).mono ?_; rintro e w3 ⟨rfl, hd⟩; replace BW := Lib.hid (below_step BW.out hd); have XB' := blk_below XB.out hd; clear XB y0 y1 y2 y3 y4 y5 y6 y7 y8; have XB := Lib.hid XB'; clear XB' hd; have y6 := blk_cell XB.out 6; have y7 := blk_cell XB.out 7))
  all_goals try (go_ret; refine ⟨?_, BW.out⟩; congr 2; simp_all [goodEnd]; done)
  all_goals try (go_ret; refine ⟨?_, BW.out⟩; congr 2; simp_all [goodEnd])
  all_goals first
    | omega
    | (intro h; omega)
    | (rw [Bool.eq_iff_iff, beq_iff_eq, decide_eq_true_iff, ← List.length_eq_zero_iff]; omega)
    | (rw [Bool.eq_iff_iff, beq_iff_eq, decide_eq_true_iff]; omega)
end Go.Proofs.YtjboncbmeanlgaaDoor.Tr
