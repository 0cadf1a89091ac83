/- RefB -/
import Derived.Test.YtjboncbmeanlgaaDoorURefH
/- The document's look at bodies and arms: the program's. -/
set_option linter.unusedVariables false
set_option linter.unusedSimpArgs false
namespace Go.Proofs.YtjboncbmeanlgaaDoor.Tr
open Go.RowKit Go.Proofs Go.Proofs.YtjboncbmeanlgaaDoor.PTreePrints Go.Proofs.YtjboncbmeanlgaaDoorW.PrintWords Go.Proofs.YtjboncbmeanlgaaDoorW.PrintMore Go.Proofs.YtjboncbmeanlgaaDoorW.PrintLast
/-- What is to be shown of a body. -/
def RB (x : S42) : Prop := ∀ (A0 : Option Addr) (c0 : Nat) (A4 : Option Addr) (c4 : Nat) (A5 : Option Addr) (c5 : Nat) (A6 : Option Addr) (c6 : Nat) (w : World), BodyC w x A0 c0 A4 c4 A5 c5 A6 c6 → Calls Tryd.prog 23 #[bodyV x A0 c0 A4 c4 A5 c5 A6 c6] w (Says (goodB x) w)
theorem goodA_eq (x : Arm) : goodA x = (goodP x.1 && ((goodEL x.2.1 && withinB x.2.1.length 0 1) && goodB x.2.2)) := by obtain ⟨p, g, b⟩ := x; simp only [goodA, goodG]
set_option maxRecDepth 100000 in
set_option maxHeartbeats 16000000 in
theorem rarms_ok (l : List Arm) (hI : ∀ y, y ∈ l → RB y.2.2) (A : Option Addr) (c : Nat) (w : World) (hC : Kd.C kArm w A l.length l) (hc : l.length ≤ c) :
    Calls Tryd.prog 50 #[.slice A l.length c] w (Says (goodAL l) w) := by
  have hlen := C_len hC
  have HI := Lib.hid hI
  have HC := Lib.hid hC
  clear hI hC
  go_enter Tryd.func50, Tryd.ntmps50
  go_wp2
  go_loopw [3] (fun vi wr => ∃ i : Nat, vi = .int .i64 i ∧ i ≤ l.length ∧ Hid (goodAL (l.take i) = true) ∧ Hid (Below w.heap.size w wr)) (fun vi _ => l.length - (intOf vi).toNat)
  case atStart => exact ⟨0, by go_num, Nat.zero_le _, Lib.hid rfl, Lib.hid (Below.refl _ _)⟩
  case round =>
    obtain ⟨i, rfl, hil, HG, HB⟩ := hrel
    obtain ⟨wq, hwq⟩ : ∃ wq, wq = wr := ⟨_, rfl⟩
    subst hwq
    by_cases hlt : i < l.length
    · have q1 : (i : Int) < (l.length : Int) := by omega
      have q0 : (0 : Int) ≤ (i : Int) := by omega
      obtain ⟨ad_, Ap, cp, Ag, cg, B0, b0, B4, b4, B5, b5, B6, b6, hA_, u0, u1, u2, u3, u4, u5, u6, u7, u8, u9, u10, u11, u12, u13, u14, hX_⟩ := at_TArm HC.out (i : Int) q0 q1
      subst hA_
      rw [rdArm l i hlt, Int.toNat_natCast] at u0 u1 u2 u3 u4 u5 u6 u7 u8 u9 u10 u11 u12 u13 u14
      rw [rdArm l i hlt] at hX_
      have V0 := Lib.hid u0
      replace u0 := (HB.out.cell (World.block_lt_of_cell? w _ V0.out)).trans V0.out
      have V1 := Lib.hid u1
      replace u1 := (HB.out.cell (World.block_lt_of_cell? w _ V1.out)).trans V1.out
      have V2 := Lib.hid u2
      replace u2 := (HB.out.cell (World.block_lt_of_cell? w _ V2.out)).trans V2.out
      have V3 := Lib.hid u3
      replace u3 := (HB.out.cell (World.block_lt_of_cell? w _ V3.out)).trans V3.out
      have V4 := Lib.hid u4
      replace u4 := (HB.out.cell (World.block_lt_of_cell? w _ V4.out)).trans V4.out
      have V5 := Lib.hid u5
      replace u5 := (HB.out.cell (World.block_lt_of_cell? w _ V5.out)).trans V5.out
      have V6 := Lib.hid u6
      replace u6 := (HB.out.cell (World.block_lt_of_cell? w _ V6.out)).trans V6.out
      have V7 := Lib.hid u7
      replace u7 := (HB.out.cell (World.block_lt_of_cell? w _ V7.out)).trans V7.out
      have V8 := Lib.hid u8
      replace u8 := (HB.out.cell (World.block_lt_of_cell? w _ V8.out)).trans V8.out
      have V9 := Lib.hid u9
      replace u9 := (HB.out.cell (World.block_lt_of_cell? w _ V9.out)).trans V9.out
      have V10 := Lib.hid u10
      replace u10 := (HB.out.cell (World.block_lt_of_cell? w _ V10.out)).trans V10.out
      have V11 := Lib.hid u11
      replace u11 := (HB.out.cell (World.block_lt_of_cell? w _ V11.out)).trans V11.out
      have V12 := Lib.hid u12
      replace u12 := (HB.out.cell (World.block_lt_of_cell? w _ V12.out)).trans V12.out
      have V13 := Lib.hid u13
      replace u13 := (HB.out.cell (World.block_lt_of_cell? w _ V13.out)).trans V13.out
      have V14 := Lib.hid u14
      replace u14 := (HB.out.cell (World.block_lt_of_cell? w _ V14.out)).trans V14.out
      have HE := Lib.hid (HI.out l[i] (List.getElem_mem hlt))
      have HT := Lib.hid (show goodAL (l.take (i + 1)) = goodA l[i] by rw [List.take_succ_eq_append_getElem hlt, goodAL_app, HG.out]; simp [goodAL])
      have HF := Lib.hid (show goodA l[i] = false → goodAL l = false by
        intro h
        have e : l = l.take i ++ (l[i] :: l.drop (i + 1)) := by rw [← List.drop_eq_getElem_cons hlt, List.take_append_drop]
        rw [e, goodAL_app, goodAL, h]
        simp)
      have HZ := Lib.hid hX_
      clear hX_
      generalize l[i] = x at *
      have HGA := Lib.hid (goodA_eq x)
      go_wp2_with (first
        | (go_at_call 70; refine (RP_call x.1 Ap cp _ (Kd.C_below HZ.out.2.1 HB.out) HZ.out.1).mono ?_; rintro e w3 ⟨rfl, hd⟩; have Q3 := Lib.hid (below_step HB.out hd); clear hd u0 u1 u2 u3 u4 u5 u6 u7 u8 u9 u10 u11 u12 u13 u14; have u0 := (Q3.out.cell (World.block_lt_of_cell? w _ V0.out)).trans V0.out; have u1 := (Q3.out.cell (World.block_lt_of_cell? w _ V1.out)).trans V1.out; have u2 := (Q3.out.cell (World.block_lt_of_cell? w _ V2.out)).trans V2.out; have u3 := (Q3.out.cell (World.block_lt_of_cell? w _ V3.out)).trans V3.out; have u4 := (Q3.out.cell (World.block_lt_of_cell? w _ V4.out)).trans V4.out; have u5 := (Q3.out.cell (World.block_lt_of_cell? w _ V5.out)).trans V5.out; have u6 := (Q3.out.cell (World.block_lt_of_cell? w _ V6.out)).trans V6.out; have u7 := (Q3.out.cell (World.block_lt_of_cell? w _ V7.out)).trans V7.out; have u8 := (Q3.out.cell (World.block_lt_of_cell? w _ V8.out)).trans V8.out; have u9 := (Q3.out.cell (World.block_lt_of_cell? w _ V9.out)).trans V9.out; have u10 := (Q3.out.cell (World.block_lt_of_cell? w _ V10.out)).trans V10.out; have u11 := (Q3.out.cell (World.block_lt_of_cell? w _ V11.out)).trans V11.out; have u12 := (Q3.out.cell (World.block_lt_of_cell? w _ V12.out)).trans V12.out; have u13 := (Q3.out.cell (World.block_lt_of_cell? w _ V13.out)).trans V13.out; have u14 := (Q3.out.cell (World.block_lt_of_cell? w _ V14.out)).trans V14.out; cases hb1 : goodP x.1)
        | (go_at_call 22; refine (rexprs_call x.2.1 Ag cg _ _ _ (Kd.C_below HZ.out.2.2.2.1 Q3.out) HZ.out.2.2.1).mono ?_; rintro e w4 ⟨rfl, hd⟩; have Q4 := Lib.hid (below_step Q3.out hd); clear hd u0 u1 u2 u3 u4 u5 u6 u7 u8 u9 u10 u11 u12 u13 u14; have u0 := (Q4.out.cell (World.block_lt_of_cell? w _ V0.out)).trans V0.out; have u1 := (Q4.out.cell (World.block_lt_of_cell? w _ V1.out)).trans V1.out; have u2 := (Q4.out.cell (World.block_lt_of_cell? w _ V2.out)).trans V2.out; have u3 := (Q4.out.cell (World.block_lt_of_cell? w _ V3.out)).trans V3.out; have u4 := (Q4.out.cell (World.block_lt_of_cell? w _ V4.out)).trans V4.out; have u5 := (Q4.out.cell (World.block_lt_of_cell? w _ V5.out)).trans V5.out; have u6 := (Q4.out.cell (World.block_lt_of_cell? w _ V6.out)).trans V6.out; have u7 := (Q4.out.cell (World.block_lt_of_cell? w _ V7.out)).trans V7.out; have u8 := (Q4.out.cell (World.block_lt_of_cell? w _ V8.out)).trans V8.out; have u9 := (Q4.out.cell (World.block_lt_of_cell? w _ V9.out)).trans V9.out; have u10 := (Q4.out.cell (World.block_lt_of_cell? w _ V10.out)).trans V10.out; have u11 := (Q4.out.cell (World.block_lt_of_cell? w _ V11.out)).trans V11.out; have u12 := (Q4.out.cell (World.block_lt_of_cell? w _ V12.out)).trans V12.out; have u13 := (Q4.out.cell (World.block_lt_of_cell? w _ V13.out)).trans V13.out; have u14 := (Q4.out.cell (World.block_lt_of_cell? w _ V14.out)).trans V14.out; cases hb2 : (goodEL x.2.1 && withinB x.2.1.length 0 1))
        | (go_at_call 23; refine (HE.out B0 b0 B4 b4 B5 b5 B6 b6 _ (HZ.out.2.2.2.2.below Q4.out)).mono ?_; rintro e w5 ⟨rfl, hd⟩; have Q5 := Lib.hid (below_step Q4.out hd); clear hd u0 u1 u2 u3 u4 u5 u6 u7 u8 u9 u10 u11 u12 u13 u14; cases hb3 : goodB x.2.2))
      all_goals first
        | (have hbA : goodA x = false := by rw [HGA.out]; simp_all
           go_ret
           exact ⟨by rw [HF.out hbA]; rfl, by first | exact Q5.out | exact Q4.out | exact Q3.out⟩)
        | (have hbA : goodA x = true := by rw [HGA.out]; simp_all
           go_roundw
           case rel => exact ⟨i + 1, by go_num, hlt, Lib.hid (HT.out.trans hbA), Q5⟩
           case measure => simp [intOf]; omega)
    · obtain rfl : i = l.length := by omega
      have hg := HG.out
      rw [List.take_length] at hg
      go_wp2
      go_ret
      exact ⟨by rw [hg]; rfl, HB.out⟩
set_option maxRecDepth 100000 in
set_option maxHeartbeats 32000000 in
theorem RB_ok (x : S42) (hI : ∀ y, y ∈ x.f5 → RB y) (hJ : ∀ y, y ∈ x.f6 → RB y.2.2) : RB x := by
  obtain ⟨f0, f1, f2, f3, f4, f5, f6, f7, f8⟩ := x
  intro A0 c0 A4 c4 A5 c5 A6 c6 w hB
  simp only at hI hJ
  have hln0 := C_len hB.g0
  have hln5 := C_len hB.g5
  simp only at hln0 hln5
  have HI := Lib.hid hI
  have HJ := Lib.hid hJ
  have HBC := Lib.hid hB
  clear hI hJ hB
  have HV := Lib.hid (show goodB ⟨f0, f1, f2, f3, f4, f5, f6, f7, f8⟩ = (goodSL f0 && (goodBL f5 && (goodAL f6 && goodEnd ⟨f0, f1, f2, f3, f4, f5, f6, f7, f8⟩))) by rw [goodB])
  unfold bodyV
  simp only
  go_enter Tryd.func23, Tryd.ntmps23
  have hal := below_alloc (Below.refl _ w) (.cells #[.slice A0 f0.length c0, .int .i64 f1, .int .i64 f2, .string f3, .slice A4 f4.length c4, .slice A5 f5.length c5, .slice A6 f6.length c6, .bool f7, .int .i64 f8] 42)
  have XB := Lib.hid (blk_new w (.cells #[.slice A0 f0.length c0, .int .i64 f1, .int .i64 f2, .string f3, .slice A4 f4.length c4, .slice A5 f5.length c5, .slice A6 f6.length c6, .bool f7, .int .i64 f8] 42))
  have B2 := Lib.hid hal
  clear hal
  go_upto_region 1 with fail
  generalize w.alloc (.cells #[.slice A0 f0.length c0, .int .i64 f1, .int .i64 f2, .string f3, .slice A4 f4.length c4, .slice A5 f5.length c5, .slice A6 f6.length c6, .bool f7, .int .i64 f8] 42) = w2 at *
  generalize hgx : w.heap.size = gx at *
  have BW := Lib.hid (show Below w.heap.size w w2 by rw [hgx]; exact B2.out)
  clear B2 hgx
  have y0 := blk_cell XB.out 0
  go_wp2
  go_loopw [3] (fun vi wr => ∃ i : Nat, vi = .int .i64 i ∧ i ≤ f0.length ∧ Hid (goodSL (f0.take i) = true) ∧ Hid (Below w2.heap.size w2 wr)) (fun vi _ => f0.length - (intOf vi).toNat)
  case atStart => exact ⟨0, by go_num, Nat.zero_le _, Lib.hid rfl, Lib.hid (Below.refl _ _)⟩
  case round =>
    obtain ⟨i, rfl, hil, HG, HQ⟩ := hrel
    obtain ⟨wq, hwq⟩ : ∃ wq, wq = wr := ⟨_, rfl⟩
    subst hwq
    clear y0
    have XQ := Lib.hid (blk_below XB.out HQ.out)
    have BQ := Lib.hid (below_step BW.out HQ.out)
    have y0 := blk_cell XQ.out 0
    by_cases hlt : i < f0.length
    · have q1 : (i : Int) < (f0.length : Int) := by omega
      have q0 : (0 : Int) ≤ (i : Int) := by omega
      obtain ⟨ad_, A9, c9, hA_, u0, u1, u2, u3, u4, hX_⟩ := at_T37 (HBC.out.below BQ.out).g0 (i : Int) q0 q1
      subst hA_
      rw [rd37 f0 i hlt, Int.toNat_natCast] at u0 u1 u2 u3 u4
      rw [rd37 f0 i hlt] at hX_
      have HT := Lib.hid (show goodSL (f0.take (i + 1)) = goodSt f0[i] by rw [List.take_succ_eq_append_getElem hlt, goodSL_app, HG.out]; simp [goodSL])
      have HF := Lib.hid (show goodSt f0[i] = false → goodSL f0 = false by
        intro h
        have e : f0 = f0.take i ++ (f0[i] :: f0.drop (i + 1)) := by rw [← List.drop_eq_getElem_cons hlt, List.take_append_drop]
        rw [e, goodSL_app, goodSL, h]
        simp)
      have HZ := Lib.hid hX_
      clear hX_
      generalize f0[i] = x at *
      go_wp2_with (go_at_call 49; refine (rstmt_call x A9 c9 _ HZ.out.2 HZ.out.1).mono ?_; rintro e w3 ⟨rfl, hd⟩; have B3 := Lib.hid (below_step HQ.out hd); clear hd; cases hb : goodSt x)
      · go_ret
        exact ⟨by rw [HV.out, HF.out hb]; rfl, below_step BW.out B3.out⟩
      · go_roundw
        case rel => exact ⟨i + 1, by go_num, hlt, Lib.hid (HT.out.trans hb), B3⟩
        case measure => simp [intOf]; omega
    · obtain rfl : i = f0.length := by omega
      have hg_ := HG.out
      rw [List.take_length] at hg_
      have HS1 := Lib.hid hg_
      clear hg_ HG
      have y5 := blk_cell XQ.out 5
      obtain ⟨wp, hwp⟩ : ∃ wp, wp = wq := ⟨_, rfl⟩
      subst hwp
      go_wp2
      go_loopw [4] (fun vi wr => ∃ i : Nat, vi = .int .i64 i ∧ i ≤ f5.length ∧ Hid (goodBL (f5.take i) = true) ∧ Hid (Below w2.heap.size w2 wr)) (fun vi _ => f5.length - (intOf vi).toNat)
      case atStart => exact ⟨0, by go_num, Nat.zero_le _, Lib.hid rfl, HQ⟩
      case round =>
        obtain ⟨i, rfl, hil, HG, HQ⟩ := hrel
        obtain ⟨wq, hwq⟩ : ∃ wq, wq = wr := ⟨_, rfl⟩
        subst hwq
        clear y0 y5 XQ BQ
        have XQ := Lib.hid (blk_below XB.out HQ.out)
        have BQ := Lib.hid (below_step BW.out HQ.out)
        have y5 := blk_cell XQ.out 5
        by_cases hlt : i < f5.length
        · have q1 : (i : Int) < (f5.length : Int) := by omega
          have q0 : (0 : Int) ≤ (i : Int) := by omega
          obtain ⟨ad_, B0, b0, B4, b4, B5, b5, B6, b6, hA_, u0, u1, u2, u3, u4, u5, u6, u7, u8, hX_⟩ := at_T42 (HBC.out.below BQ.out).g5 (i : Int) q0 q1
          subst hA_
          rw [rd42 f5 i hlt, Int.toNat_natCast] at u0 u1 u2 u3 u4 u5 u6 u7 u8
          rw [rd42 f5 i hlt] at hX_
          have HE := Lib.hid (HI.out f5[i] (List.getElem_mem hlt))
          have HT := Lib.hid (show goodBL (f5.take (i + 1)) = goodB f5[i] by rw [List.take_succ_eq_append_getElem hlt, goodBL_app, HG.out]; simp [goodBL])
          have HF := Lib.hid (show goodB f5[i] = false → goodBL f5 = false by
            intro h
            have e : f5 = f5.take i ++ (f5[i] :: f5.drop (i + 1)) := by rw [← List.drop_eq_getElem_cons hlt, List.take_append_drop]
            rw [e, goodBL_app, goodBL, h]
            simp)
          have HZ := Lib.hid hX_
          clear hX_
          generalize f5[i] = x at *
          go_wp2_with (go_at_call 23; refine (HE.out B0 b0 B4 b4 B5 b5 B6 b6 _ HZ.out).mono ?_; rintro e w3 ⟨rfl, hd⟩; have B3 := Lib.hid (below_step HQ.out hd); clear hd; cases hb : goodB x)
          · go_ret
            exact ⟨by rw [HV.out, HS1.out, HF.out hb]; rfl, below_step BW.out B3.out⟩
          · go_roundw
            case rel => exact ⟨i + 1, by go_num, hlt, Lib.hid (HT.out.trans hb), B3⟩
            case measure => simp [intOf]; omega
        · obtain rfl : i = f5.length := by omega
          have hg_ := HG.out
          rw [List.take_length] at hg_
          have HS2 := Lib.hid (show goodB ⟨f0, f1, f2, f3, f4, f5, f6, f7, f8⟩ = (goodAL f6 && goodEnd ⟨f0, f1, f2, f3, f4, f5, f6, f7, f8⟩) by rw [HV.out, HS1.out, hg_]; rfl)
          clear hg_ HG HV HS1 XB BW HQ
          have y6 := blk_cell XQ.out 6
          have CB := Lib.hid (HBC.out.below BQ.out)
          have y1 := blk_cell XQ.out 1
          have y3 := blk_cell XQ.out 3
          have y4 := blk_cell XQ.out 4
          have y7 := blk_cell XQ.out 7
          have y8 := blk_cell XQ.out 8
          have hq6 : (¬ 0 < f6.length ∧ f6 = []) ∨ (0 < f6.length ∧ ¬ f6 = []) := by cases f6 <;> simp
          rcases hq6 with ⟨hq1, hq2⟩ | ⟨hq1, hq2⟩ <;> have HQ2 := Lib.hid hq2 <;> clear hq2 <;> go_wp2_with (first
            | (go_at_call 50; refine (rarms_ok f6 HJ.out A6 c6 _ CB.out.g6 CB.out.l6).mono ?_; rintro e w3 ⟨rfl, hd⟩; have BN := Lib.hid (below_step BQ.out hd); have XN := Lib.hid (blk_below XQ.out hd); have CN := Lib.hid (CB.out.below hd); clear hd BQ XQ CB y5 y6 y1 y3 y4 y7 y8; have BQ := Lib.hid BN.out; have XQ := Lib.hid XN.out; have CB := Lib.hid CN.out; clear BN XN CN; have y1 := blk_cell XQ.out 1; have y3 := blk_cell XQ.out 3; have y4 := blk_cell XQ.out 4; have y5 := blk_cell XQ.out 5; have y6 := blk_cell XQ.out 6; have y7 := blk_cell XQ.out 7; have y8 := blk_cell XQ.out 8; cases hA : goodAL f6)
            | (go_at_call 21; refine (atom_call _ _).mono ?_; rintro e w3 ⟨rfl, hd⟩; have BN := Lib.hid (below_step BQ.out hd); have XN := Lib.hid (blk_below XQ.out hd); have CN := Lib.hid (CB.out.below hd); clear hd BQ XQ CB y5 y6 y1 y3 y4 y7 y8; have BQ := Lib.hid BN.out; have XQ := Lib.hid XN.out; have CB := Lib.hid CN.out; clear BN XN CN; have y1 := blk_cell XQ.out 1; have y3 := blk_cell XQ.out 3; have y4 := blk_cell XQ.out 4; have y5 := blk_cell XQ.out 5; have y6 := blk_cell XQ.out 6; have y7 := blk_cell XQ.out 7; have y8 := blk_cell XQ.out 8; cases hs : nameOk f3)
            | (go_at_call 22; refine (rexprs_call f4 A4 c4 _ _ _ CB.out.g4 CB.out.l4).mono ?_; rintro e w3 ⟨rfl, hd⟩; have BN := Lib.hid (below_step BQ.out hd); have XN := Lib.hid (blk_below XQ.out hd); have CN := Lib.hid (CB.out.below hd); clear hd BQ XQ CB y5 y6 y1 y3 y4 y7 y8; have BQ := Lib.hid BN.out; have XQ := Lib.hid XN.out; have CB := Lib.hid CN.out; clear BN XN CN; have y1 := blk_cell XQ.out 1; have y3 := blk_cell XQ.out 3; have y4 := blk_cell XQ.out 4; have y5 := blk_cell XQ.out 5; have y6 := blk_cell XQ.out 6; have y7 := blk_cell XQ.out 7; have y8 := blk_cell XQ.out 8))
          all_goals (have hs2 := HS2.out; have hq2 := HQ2.out)
          all_goals try (go_ret; refine ⟨congrArg Ending.returned ?_, BQ.out⟩; show Value.bool _ = Value.bool _; congr 1; simp_all [goodEnd]; done)
          all_goals try (go_ret; refine ⟨congrArg Ending.returned ?_, BQ.out⟩; show Value.bool _ = Value.bool _; congr 1; simp_all [goodEnd, withinB]; omega)
          all_goals (go_ret; refine ⟨congrArg Ending.returned ?_, BQ.out⟩; show Value.bool _ = Value.bool _; congr 1; rw [Bool.eq_iff_iff]; simp_all [goodEnd, withinB]; try omega)
theorem RB_any : ∀ (n : Nat) (x : S42), SizeOf.sizeOf x ≤ n → RB x := by
  intro n
  induction n with
  | zero =>
    intro x hx
    cases x
    simp at hx
  | succ n ih =>
    intro x hx
    refine RB_ok x (fun y hy => ih y ?_) (fun y hy => ih y.2.2 ?_)
    · have h1 := List.sizeOf_lt_of_mem hy
      cases x
      simp at hx
      simp only at h1
      omega
    · have h1 := List.sizeOf_lt_of_mem hy
      obtain ⟨p, q, b⟩ := y
      cases x
      simp at hx
      simp at h1 ⊢
      omega
theorem RB_call (x : S42) : RB x := RB_any _ x (Nat.le_refl _)
end Go.Proofs.YtjboncbmeanlgaaDoor.Tr
