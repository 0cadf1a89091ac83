/- BodyW -/
import Derived.Test.YtjboncbmeanlgaaDoorQPatW
/- Bodies that may be: the program's look. -/
set_option linter.unusedVariables false
set_option linter.unusedSimpArgs false
namespace Go.Proofs.YtjboncbmeanlgaaDoor.Tr
open Go.RowKit Go.Proofs Go.Proofs.YtjboncbmeanlgaaDoor.PTreePrints Go.Proofs.YtjboncbmeanlgaaDoorW.PrintWords Go.Proofs.YtjboncbmeanlgaaDoorW.PrintMore Go.Proofs.YtjboncbmeanlgaaDoorW.PrintLast
theorem rd37 (l : List S37) (i : Nat) (h : i < l.length) : rd_T37 l (i : Int) = l[i] := by
  unfold rd_T37
  rw [Int.toNat_natCast, List.getD_eq_getElem?_getD, List.getElem?_eq_getElem h]
  rfl
theorem rd42 (l : List S42) (i : Nat) (h : i < l.length) : rd_T42 l (i : Int) = l[i] := by
  unfold rd_T42
  rw [Int.toNat_natCast, List.getD_eq_getElem?_getD, List.getElem?_eq_getElem h]
  rfl
theorem rdArm (l : List Arm) (i : Nat) (h : i < l.length) : rd_TArm l (i : Int) = l[i] := by
  unfold rd_TArm
  rw [Int.toNat_natCast, List.getD_eq_getElem?_getD, List.getElem?_eq_getElem h]
  rfl
def goodSL : List S37 → Bool
  | [] => true
  | x :: r => goodSt x && goodSL r
mutual
/-- May a body be? -/
def goodB : S42 → Bool
  | ⟨f0, f1, f2, f3, f4, f5, f6, f7, f8⟩ => goodSL f0 && (goodBL f5 && (goodAL f6 && goodEnd ⟨f0, f1, f2, f3, f4, f5, f6, f7, f8⟩))
def goodBL : List S42 → Bool
  | [] => true
  | x :: r => goodB x && goodBL r
def goodAL : List (S83 × List S31 × S42) → Bool
  | [] => true
  | x :: r => goodA x && goodAL r
def goodA : S83 × List S31 × S42 → Bool
  | (p, q) => goodP p && goodG q
def goodG : List S31 × S42 → Bool
  | (g, b) => (goodEL g && withinB g.length 0 1) && goodB b
end
theorem goodSL_app : ∀ (a b : List S37), goodSL (a ++ b) = (goodSL a && goodSL b)
  | [], b => by simp [goodSL]
  | x :: a, b => by rw [List.cons_append, goodSL, goodSL_app a b, goodSL, Bool.and_assoc]
theorem goodSL_next {l : List S37} {i : Nat} (h : i < l.length) (hg : goodSL (l.take i) = true) : goodSL (l.take (i + 1)) = goodSt l[i] := by
  rw [List.take_succ_eq_append_getElem h, goodSL_app, hg]
  simp [goodSL]
theorem goodSL_no {l : List S37} {i : Nat} (h : i < l.length) (hb : goodSt l[i] = false) : goodSL l = false := by
  have e : l = l.take i ++ (l[i] :: l.drop (i + 1)) := by rw [← List.drop_eq_getElem_cons h, List.take_append_drop]
  rw [e, goodSL_app, goodSL, hb]
  simp
theorem goodBL_app : ∀ (a b : List S42), goodBL (a ++ b) = (goodBL a && goodBL b)
  | [], b => by simp [goodBL]
  | x :: a, b => by rw [List.cons_append, goodBL, goodBL_app a b, goodBL, Bool.and_assoc]
theorem goodBL_next {l : List S42} {i : Nat} (h : i < l.length) (hg : goodBL (l.take i) = true) : goodBL (l.take (i + 1)) = goodB l[i] := by
  rw [List.take_succ_eq_append_getElem h, goodBL_app, hg]
  simp [goodBL]
theorem goodBL_no {l : List S42} {i : Nat} (h : i < l.length) (hb : goodB l[i] = false) : goodBL l = false := by
  have e : l = l.take i ++ (l[i] :: l.drop (i + 1)) := by rw [← List.drop_eq_getElem_cons h, List.take_append_drop]
  rw [e, goodBL_app, goodBL, hb]
  simp
theorem goodAL_app : ∀ (a b : List Arm), goodAL (a ++ b) = (goodAL a && goodAL b)
  | [], b => by simp [goodAL]
  | x :: a, b => by rw [List.cons_append, goodAL, goodAL_app a b, goodAL, Bool.and_assoc]
theorem goodAL_next {l : List Arm} {i : Nat} (h : i < l.length) (hg : goodAL (l.take i) = true) : goodAL (l.take (i + 1)) = goodA l[i] := by
  rw [List.take_succ_eq_append_getElem h, goodAL_app, hg]
  simp [goodAL]
theorem goodAL_no {l : List Arm} {i : Nat} (h : i < l.length) (hb : goodA l[i] = false) : goodAL l = false := by
  have e : l = l.take i ++ (l[i] :: l.drop (i + 1)) := by rw [← List.drop_eq_getElem_cons h, List.take_append_drop]
  rw [e, goodAL_app, goodAL, hb]
  simp
/-- What an arm's slices lead to. -/
structure ArmC (w : World) (x : Arm) (Ap : Option Addr) (cp : Nat) (Ag : Option Addr) (cg : Nat) (A0 : Option Addr) (c0 : Nat) (A4 : Option Addr) (c4 : Nat) (A5 : Option Addr) (c5 : Nat) (A6 : Option Addr) (c6 : Nat) : Prop where
  lp : x.1.f4.length ≤ cp
  gp : k83.C w Ap x.1.f4.length x.1.f4
  lg : x.2.1.length ≤ cg
  gg : k31.C w Ag x.2.1.length x.2.1
  hB : BodyC w x.2.2 A0 c0 A4 c4 A5 c5 A6 c6
theorem ArmC.below {w w' : World} {x : Arm} {Ap : Option Addr} {cp : Nat} {Ag : Option Addr} {cg : Nat} {A0 : Option Addr} {c0 : Nat} {A4 : Option Addr} {c4 : Nat} {A5 : Option Addr} {c5 : Nat} {A6 : Option Addr} {c6 : Nat} (h : ArmC w x Ap cp Ag cg A0 c0 A4 c4 A5 c5 A6 c6) (hb : Below w.heap.size w w') : ArmC w' x Ap cp Ag cg A0 c0 A4 c4 A5 c5 A6 c6 :=
  ⟨h.lp, Kd.C_below h.gp hb, h.lg, Kd.C_below h.gg hb, h.hB.below hb⟩
def GB (x : S42) : Prop := ∀ (A0 : Option Addr) (c0 : Nat) (A4 : Option Addr) (c4 : Nat) (A5 : Option Addr) (c5 : Nat) (A6 : Option Addr) (c6 : Nat) (w : World), BodyC w x A0 c0 A4 c4 A5 c5 A6 c6 → Calls Tryd.prog 20 #[bodyV x A0 c0 A4 c4 A5 c5 A6 c6] w (Says (goodB x) w)
set_option maxRecDepth 100000 in
set_option maxHeartbeats 16000000 in
theorem body_ok (x : S42) (hI : ∀ y, y ∈ x.f5 → GB y) (hJ : ∀ y, y ∈ x.f6 → GB y.2.2) : GB x := by
  obtain ⟨f0, f1, f2, f3, f4, f5, f6, f7, f8⟩ := x
  intro A0 c0 A4 c4 A5 c5 A6 c6 w hB
  simp only at hI hJ
  have hln0 := C_len hB.g0
  have hln5 := C_len hB.g5
  have hln6 := C_len hB.g6
  simp only at hln0 hln5 hln6
  have HI := Lib.hid hI
  have HJ := Lib.hid hJ
  have HB := Lib.hid hB
  clear hI hJ hB
  unfold bodyV
  simp only
  go_enter Tryd.func20, Tryd.ntmps20
  have hal := below_alloc (Below.refl _ w) (.cells #[.slice A0 f0.length c0, .int .i64 f1, .int .i64 f2, .string f3, .slice A4 f4.length c4, .slice A5 f5.length c5, .slice A6 f6.length c6, .bool f7, .int .i64 f8] 42)
  have XB := Lib.hid (blk_new w (.cells #[.slice A0 f0.length c0, .int .i64 f1, .int .i64 f2, .string f3, .slice A4 f4.length c4, .slice A5 f5.length c5, .slice A6 f6.length c6, .bool f7, .int .i64 f8] 42))
  have B2 := Lib.hid hal
  have C2 := Lib.hid (HB.out.below hal)
  clear hal
  go_upto_region 1 with fail
  generalize w.alloc (.cells #[.slice A0 f0.length c0, .int .i64 f1, .int .i64 f2, .string f3, .slice A4 f4.length c4, .slice A5 f5.length c5, .slice A6 f6.length c6, .bool f7, .int .i64 f8] 42) = w2 at *
  generalize hgx : w.heap.size = gx at *
  have BW := Lib.hid (show Below w.heap.size w w2 by rw [hgx]; exact B2.out)
  clear B2
  have y0 := blk_cell XB.out 0
  have XP := Lib.hid XB.out
  have CP := Lib.hid C2.out
  have BP := Lib.hid BW.out
  clear XB C2 BW
  generalize w2 = wp at *
  go_wp2
  go_loopw [12] (fun vi wr => ∃ i : Nat, vi = .int .i64 i ∧ i ≤ f0.length ∧ Hid (goodSL (f0.take i) = true) ∧ Hid (Below wp.heap.size wp wr)) (fun vi _ => f0.length - (intOf vi).toNat)
  case atStart => exact ⟨0, by go_num, Nat.zero_le _, Lib.hid rfl, Lib.hid (Below.refl _ _)⟩
  case round =>
    obtain ⟨i, rfl, hil, HG, HB_⟩ := hrel
    obtain ⟨wq, hwq⟩ : ∃ wq, wq = wr := ⟨_, rfl⟩
    subst hwq
    by_cases hlt : i < f0.length
    · have q1 : (i : Int) < (f0.length : Int) := by omega
      have q0 : (0 : Int) ≤ (i : Int) := by omega
      obtain ⟨ad_, A9, c9, hA_, u0, u1, u2, u3, u4, hX_⟩ := at_T37 (CP.out.below HB_.out).g0 (i : Int) q0 q1
      subst hA_
      rw [rd37 f0 i hlt, Int.toNat_natCast] at u0 u1 u2 u3 u4
      rw [rd37 f0 i hlt] at hX_
      have HT := Lib.hid (goodSL_next hlt HG.out)
      have HF := Lib.hid (fun h => goodSL_no hlt h)
      have HX := Lib.hid hX_
      clear hX_
      generalize f0[i] = x at *
      go_upto_region 4 with fail
      have hal := below_alloc (Below.refl _ wq) (.cells #[.int .i64 x.f0, .int .i64 x.f1, .string x.f2, .string x.f3, .slice A9 x.f4.length c9] 37)
      have XC := Lib.hid (blk_new wq (.cells #[.int .i64 x.f0, .int .i64 x.f1, .string x.f2, .string x.f3, .slice A9 x.f4.length c9] 37))
      have BC := Lib.hid (below_step HB_.out hal)
      have CA := Lib.hid (Kd.C_below HX.out.2 hal)
      clear hal
      generalize wq.alloc (.cells #[.int .i64 x.f0, .int .i64 x.f1, .string x.f2, .string x.f3, .slice A9 x.f4.length c9] 37) = w4 at *
      generalize wq.heap.size = gq at *
      have z0 := blk_cell XC.out 0
      have z1 := blk_cell XC.out 1
      have z2 := blk_cell XC.out 2
      have z3 := blk_cell XC.out 3
      have z4 := blk_cell XC.out 4
      clear u0 u1 u2 u3 u4
      go_wp2_with (go_at_call 44; refine (stmt_call x A9 c9 _ CA.out HX.out.1).mono ?_; rintro e w5 ⟨rfl, hd⟩; have B3 := Lib.hid (below_step BC.out hd); clear hd; cases hb : goodSt x)
      · go_ret
        exact ⟨by rw [goodB, HF.out hb]; rfl, below_step BP.out B3.out⟩
      · go_roundw
        case rel => exact ⟨i + 1, by go_num, hlt, Lib.hid (HT.out.trans hb), B3⟩
        case measure => simp [intOf]; omega
    · obtain rfl : i = f0.length := by omega
      have hg := HG.out
      rw [List.take_length] at hg
      have H0 := Lib.hid hg
      have XP' := Lib.hid (blk_below XP.out HB_.out)
      have CP' := Lib.hid (CP.out.below HB_.out)
      have BP' := Lib.hid (below_step BP.out HB_.out)
      clear XP CP BP HG HB_ y0
      have XP := Lib.hid XP'.out
      have CP := Lib.hid CP'.out
      have BP := Lib.hid BP'.out
      clear XP' CP' BP' hg
      have y5 := blk_cell XP.out 5
      generalize wq = wp at *
      go_wp2
      go_loopw [23] (fun vi wr => ∃ i : Nat, vi = .int .i64 i ∧ i ≤ f5.length ∧ Hid (goodBL (f5.take i) = true) ∧ Hid (Below wp.heap.size wp wr)) (fun vi _ => f5.length - (intOf vi).toNat)
      case atStart => exact ⟨0, by go_num, Nat.zero_le _, Lib.hid rfl, Lib.hid (Below.refl _ _)⟩
      case round =>
        obtain ⟨i, rfl, hil, HG, HB_⟩ := hrel
        obtain ⟨wq, hwq⟩ : ∃ wq, wq = wr := ⟨_, rfl⟩
        subst hwq
        by_cases hlt : i < f5.length
        · have q1 : (i : Int) < (f5.length : Int) := by omega
          have q0 : (0 : Int) ≤ (i : Int) := by omega
          obtain ⟨ad_, B0, b0, B4, b4, B5, b5, B6, b6, hA_, u0, u1, u2, u3, u4, u5, u6, u7, u8, hX_⟩ := at_T42 (CP.out.below HB_.out).g5 (i : Int) q0 q1
          subst hA_
          rw [rd42 f5 i hlt, Int.toNat_natCast] at u0 u1 u2 u3 u4 u5 u6 u7 u8
          rw [rd42 f5 i hlt] at hX_
          have HT := Lib.hid (goodBL_next hlt HG.out)
          have HF := Lib.hid (fun h => goodBL_no hlt h)
          have HE := Lib.hid (HI.out f5[i] (List.getElem_mem hlt))
          have HX := Lib.hid hX_
          clear hX_
          generalize f5[i] = x at *
          go_upto_region 10 with fail
          have hal := below_alloc (Below.refl _ wq) (.cells #[.slice B0 x.f0.length b0, .int .i64 x.f1, .int .i64 x.f2, .string x.f3, .slice B4 x.f4.length b4, .slice B5 x.f5.length b5, .slice B6 x.f6.length b6, .bool x.f7, .int .i64 x.f8] 42)
          have XC := Lib.hid (blk_new wq (.cells #[.slice B0 x.f0.length b0, .int .i64 x.f1, .int .i64 x.f2, .string x.f3, .slice B4 x.f4.length b4, .slice B5 x.f5.length b5, .slice B6 x.f6.length b6, .bool x.f7, .int .i64 x.f8] 42))
          have BC := Lib.hid (below_step HB_.out hal)
          have CA := Lib.hid (HX.out.below hal)
          clear hal
          generalize wq.alloc (.cells #[.slice B0 x.f0.length b0, .int .i64 x.f1, .int .i64 x.f2, .string x.f3, .slice B4 x.f4.length b4, .slice B5 x.f5.length b5, .slice B6 x.f6.length b6, .bool x.f7, .int .i64 x.f8] 42) = w4 at *
          generalize wq.heap.size = gq at *
          have z0 := blk_cell XC.out 0
          have z1 := blk_cell XC.out 1
          have z2 := blk_cell XC.out 2
          have z3 := blk_cell XC.out 3
          have z4 := blk_cell XC.out 4
          have z5 := blk_cell XC.out 5
          have z6 := blk_cell XC.out 6
          have z7 := blk_cell XC.out 7
          have z8 := blk_cell XC.out 8
          clear u0 u1 u2 u3 u4 u5 u6 u7 u8
          go_wp2_with (go_at_call 20; refine (HE.out B0 b0 B4 b4 B5 b5 B6 b6 _ CA.out).mono ?_; rintro e w5 ⟨rfl, hd⟩; have B3 := Lib.hid (below_step BC.out hd); clear hd; cases hb : goodB x)
          · go_ret
            exact ⟨by rw [goodB, H0.out, HF.out hb]; rfl, below_step BP.out B3.out⟩
          · go_roundw
            case rel => exact ⟨i + 1, by go_num, hlt, Lib.hid (HT.out.trans hb), B3⟩
            case measure => simp [intOf]; omega
        · obtain rfl : i = f5.length := by omega
          have hg := HG.out
          rw [List.take_length] at hg
          have H5 := Lib.hid hg
          have XP' := Lib.hid (blk_below XP.out HB_.out)
          have CP' := Lib.hid (CP.out.below HB_.out)
          have BP' := Lib.hid (below_step BP.out HB_.out)
          clear XP CP BP HG HB_ y5
          have XP := Lib.hid XP'.out
          have CP := Lib.hid CP'.out
          have BP := Lib.hid BP'.out
          clear XP' CP' BP' hg
          have y6 := blk_cell XP.out 6
          generalize wq = wp at *
          go_wp2
          go_loopw [34] (fun vi wr => ∃ i : Nat, vi = .int .i64 i ∧ i ≤ f6.length ∧ Hid (goodAL (f6.take i) = true) ∧ Hid (Below wp.heap.size wp wr)) (fun vi _ => f6.length - (intOf vi).toNat)
          case atStart => exact ⟨0, by go_num, Nat.zero_le _, Lib.hid rfl, Lib.hid (Below.refl _ _)⟩
          case round =>
            obtain ⟨i, rfl, hil, HG, HB_⟩ := hrel
            obtain ⟨wq, hwq⟩ : ∃ wq, wq = wr := ⟨_, rfl⟩
            subst hwq
            by_cases hlt : i < f6.length
            · have q1 : (i : Int) < (f6.length : Int) := by omega
              have q0 : (0 : Int) ≤ (i : Int) := by omega
              obtain ⟨ad_, Ap, cp, Ag, cg, B0, b0, B4, b4, B5, b5, B6, b6, hA_, u0, u1, u2, u3, u4, u5, u6, u7, u8, u9, u10, u11, u12, u13, u14, hX_⟩ := at_TArm (CP.out.below HB_.out).g6 (i : Int) q0 q1
              subst hA_
              rw [rdArm f6 i hlt, Int.toNat_natCast] at u0 u1 u2 u3 u4 u5 u6 u7 u8 u9 u10 u11 u12 u13 u14
              rw [rdArm f6 i hlt] at hX_
              have HT := Lib.hid (goodAL_next hlt HG.out)
              have HF := Lib.hid (fun h => goodAL_no hlt h)
              have HE := Lib.hid (HJ.out f6[i] (List.getElem_mem hlt))
              have HX := Lib.hid hX_
              clear hX_
              generalize f6[i] = x at *
              go_upto_region 16 with fail
              have hal := below_alloc (Below.refl _ wq) (.cells #[.int .i64 x.1.f0, .int .i64 x.1.f1, .int .i64 x.1.f2, .string x.1.f3, .slice Ap x.1.f4.length cp, .slice Ag x.2.1.length cg, .slice B0 x.2.2.f0.length b0, .int .i64 x.2.2.f1, .int .i64 x.2.2.f2, .string x.2.2.f3, .slice B4 x.2.2.f4.length b4, .slice B5 x.2.2.f5.length b5, .slice B6 x.2.2.f6.length b6, .bool x.2.2.f7, .int .i64 x.2.2.f8] 85)
              have XC := Lib.hid (blk_new wq (.cells #[.int .i64 x.1.f0, .int .i64 x.1.f1, .int .i64 x.1.f2, .string x.1.f3, .slice Ap x.1.f4.length cp, .slice Ag x.2.1.length cg, .slice B0 x.2.2.f0.length b0, .int .i64 x.2.2.f1, .int .i64 x.2.2.f2, .string x.2.2.f3, .slice B4 x.2.2.f4.length b4, .slice B5 x.2.2.f5.length b5, .slice B6 x.2.2.f6.length b6, .bool x.2.2.f7, .int .i64 x.2.2.f8] 85))
              have BC := Lib.hid (below_step HB_.out hal)
              have CA := Lib.hid ((ArmC.mk HX.out.1 HX.out.2.1 HX.out.2.2.1 HX.out.2.2.2.1 HX.out.2.2.2.2).below hal)
              clear hal
              generalize wq.alloc (.cells #[.int .i64 x.1.f0, .int .i64 x.1.f1, .int .i64 x.1.f2, .string x.1.f3, .slice Ap x.1.f4.length cp, .slice Ag x.2.1.length cg, .slice B0 x.2.2.f0.length b0, .int .i64 x.2.2.f1, .int .i64 x.2.2.f2, .string x.2.2.f3, .slice B4 x.2.2.f4.length b4, .slice B5 x.2.2.f5.length b5, .slice B6 x.2.2.f6.length b6, .bool x.2.2.f7, .int .i64 x.2.2.f8] 85) = w4 at *
              generalize wq.heap.size = gq at *
              have z0 := blk_cell XC.out 0
              have z1 := blk_cell XC.out 1
              have z2 := blk_cell XC.out 2
              have z3 := blk_cell XC.out 3
              have z4 := blk_cell XC.out 4
              have z5 := blk_cell XC.out 5
              have z6 := blk_cell XC.out 6
              have z7 := blk_cell XC.out 7
              have z8 := blk_cell XC.out 8
              have z9 := blk_cell XC.out 9
              have z10 := blk_cell XC.out 10
              have z11 := blk_cell XC.out 11
              have z12 := blk_cell XC.out 12
              have z13 := blk_cell XC.out 13
              have z14 := blk_cell XC.out 14
              clear u0 u1 u2 u3 u4 u5 u6 u7 u8 u9 u10 u11 u12 u13 u14
              have hgA : goodA x = (goodP x.1 && ((goodEL x.2.1 && withinB x.2.1.length 0 1) && goodB x.2.2)) := by obtain ⟨p, g, b⟩ := x; rfl
              have HGA := Lib.hid hgA
              clear hgA
              go_wp2_with (first
                | (go_at_call 45; refine (pat_call x.1 Ap cp _ CA.out.gp CA.out.lp).mono ?_; rintro e w5 ⟨rfl, hd⟩; have XC2 := Lib.hid (blk_below XC.out hd); have CA2 := Lib.hid (CA.out.below hd); have B3 := Lib.hid (below_step BC.out hd); clear hd XC CA BC z0 z1 z2 z3 z4 z5 z6 z7 z8 z9 z10 z11 z12 z13 z14; have XC := Lib.hid XC2.out; have CA := Lib.hid CA2.out; have BC := Lib.hid B3.out; clear XC2 CA2; have z0 := blk_cell XC.out 0; have z1 := blk_cell XC.out 1; have z2 := blk_cell XC.out 2; have z3 := blk_cell XC.out 3; have z4 := blk_cell XC.out 4; have z5 := blk_cell XC.out 5; have z6 := blk_cell XC.out 6; have z7 := blk_cell XC.out 7; have z8 := blk_cell XC.out 8; have z9 := blk_cell XC.out 9; have z10 := blk_cell XC.out 10; have z11 := blk_cell XC.out 11; have z12 := blk_cell XC.out 12; have z13 := blk_cell XC.out 13; have z14 := blk_cell XC.out 14; cases hb1 : goodP x.1)
                | (go_at_call 19; refine (exprs_call x.2.1 Ag cg _ _ _ CA.out.gg CA.out.lg).mono ?_; rintro e w5 ⟨rfl, hd⟩; have XC2 := Lib.hid (blk_below XC.out hd); have CA2 := Lib.hid (CA.out.below hd); have B3 := Lib.hid (below_step BC.out hd); clear hd XC CA BC z0 z1 z2 z3 z4 z5 z6 z7 z8 z9 z10 z11 z12 z13 z14; have XC := Lib.hid XC2.out; have CA := Lib.hid CA2.out; have BC := Lib.hid B3.out; clear XC2 CA2; have z0 := blk_cell XC.out 0; have z1 := blk_cell XC.out 1; have z2 := blk_cell XC.out 2; have z3 := blk_cell XC.out 3; have z4 := blk_cell XC.out 4; have z5 := blk_cell XC.out 5; have z6 := blk_cell XC.out 6; have z7 := blk_cell XC.out 7; have z8 := blk_cell XC.out 8; have z9 := blk_cell XC.out 9; have z10 := blk_cell XC.out 10; have z11 := blk_cell XC.out 11; have z12 := blk_cell XC.out 12; have z13 := blk_cell XC.out 13; have z14 := blk_cell XC.out 14; cases hb2 : (goodEL x.2.1 && withinB x.2.1.length 0 1))
                | (go_at_call 20; refine (HE.out B0 b0 B4 b4 B5 b5 B6 b6 _ CA.out.hB).mono ?_; rintro e w5 ⟨rfl, hd⟩; have XC2 := Lib.hid (blk_below XC.out hd); have CA2 := Lib.hid (CA.out.below hd); have B3 := Lib.hid (below_step BC.out hd); clear hd XC CA BC z0 z1 z2 z3 z4 z5 z6 z7 z8 z9 z10 z11 z12 z13 z14; have XC := Lib.hid XC2.out; have CA := Lib.hid CA2.out; have BC := Lib.hid B3.out; clear XC2 CA2; have z0 := blk_cell XC.out 0; have z1 := blk_cell XC.out 1; have z2 := blk_cell XC.out 2; have z3 := blk_cell XC.out 3; have z4 := blk_cell XC.out 4; have z5 := blk_cell XC.out 5; have z6 := blk_cell XC.out 6; have z7 := blk_cell XC.out 7; have z8 := blk_cell XC.out 8; have z9 := blk_cell XC.out 9; have z10 := blk_cell XC.out 10; have z11 := blk_cell XC.out 11; have z12 := blk_cell XC.out 12; have z13 := blk_cell XC.out 13; have z14 := blk_cell XC.out 14; cases hb3 : goodB x.2.2))
              all_goals first
                | (have hbA : goodA x = false := by rw [HGA.out]; simp_all
                   go_ret
                   exact ⟨by rw [goodB, H0.out, H5.out, HF.out hbA]; rfl, below_step BP.out BC.out⟩)
                | (have hb : goodA x = true := by rw [HGA.out]; simp_all
                   go_roundw
                   case rel => exact ⟨i + 1, by go_num, hlt, Lib.hid (HT.out.trans hb), BC⟩
                   case measure => simp [intOf]; omega)
            · obtain rfl : i = f6.length := by omega
              have hg := HG.out
              rw [List.take_length] at hg
              have H6 := Lib.hid hg
              have XQ := Lib.hid (blk_below XP.out HB_.out)
              have CQ := Lib.hid (CP.out.below HB_.out)
              have BQ := Lib.hid (below_step BP.out HB_.out)
              have y0 := blk_cell XQ.out 0
              have y1 := blk_cell XQ.out 1
              have y2 := blk_cell XQ.out 2
              have y3 := blk_cell XQ.out 3
              have y4 := blk_cell XQ.out 4
              have y5 := blk_cell XQ.out 5
              have y6 := blk_cell XQ.out 6
              have y7 := blk_cell XQ.out 7
              have y8 := blk_cell XQ.out 8
              go_wp2_with (go_at_call 46; refine (end_call ⟨f0, f1, f2, f3, f4, f5, f6, f7, f8⟩ A0 c0 A4 c4 A5 c5 A6 c6 _ CQ.out).mono ?_; rintro e w5 ⟨rfl, hd⟩; have B5_ := Lib.hid (below_step BQ.out hd); clear hd)
              go_ret
              exact ⟨by rw [goodB, H0.out, H5.out, H6.out]; rfl, B5_.out⟩
theorem body_any : ∀ (n : Nat) (x : S42), SizeOf.sizeOf x ≤ n → GB x := by
  intro n
  induction n with
  | zero =>
    intro x hx
    cases x
    simp at hx
  | succ n ih =>
    intro x hx
    refine body_ok x (fun y hy => ih y ?_) (fun y hy => ih y.2.2 ?_)
    · have h1 := List.sizeOf_lt_of_mem hy
      cases x
      simp at hx
      simp only at h1
      omega
    · have h1 := List.sizeOf_lt_of_mem hy
      obtain ⟨p, g, b⟩ := y
      cases x
      simp at hx
      simp at h1 ⊢
      omega
theorem body_call (x : S42) : GB x := body_any _ x (Nat.le_refl _)
end Go.Proofs.YtjboncbmeanlgaaDoor.Tr
