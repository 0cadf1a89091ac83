/- GoodW -/
import Derived.Test.YtjboncbmeanlgaaDoorQWalkPD
import Derived.Test.YtjboncbmeanlgaaDoorQWalkPS
/- Programs that may be: the program's look. -/
set_option linter.unusedVariables false
set_option linter.unusedSimpArgs false
namespace Go.Proofs.YtjboncbmeanlgaaDoor.Tr
open Go.RowKit Go.Proofs Go.Proofs.YtjboncbmeanlgaaDoor.PTreePrints Go.Proofs.YtjboncbmeanlgaaDoorW.PrintWords Go.Proofs.YtjboncbmeanlgaaDoorW.PrintMore Go.Proofs.YtjboncbmeanlgaaDoorW.PrintLast
/-- May a definition be? -/
def goodDef (d : S44) : Bool := nameOk d.f1 && (decide ((d.f2.length : Int) ≤ 8) && (goodB d.f3 && d.f2.all nameOk))
/-- The head of the look at a program. -/
def goodHd (x : S25) : Bool := withinB x.f0.length 1 64 && (decide (walkPr stS x 0 ≤ 4096) && (decide (walkPr stD x 0 ≤ 64) && (nameOk x.f2 && (goodEL x.f3 && withinB x.f3.length 0 8))))
/-- May a program be? -/
def goodPr (x : S25) : Bool := goodHd x && x.f0.all goodDef
theorem progC_below {w w' : World} {x : S25} {AD : Option Addr} {cD : Nat} {AX : Option Addr} {cX : Nat} (h : ProgC w x AD cD AX cX) (hb : Below w.heap.size w w') : ProgC w' x AD cD AX cX := ⟨h.ld, Kd.C_below h.gd hb, h.lx, Kd.C_below h.gx hb⟩
set_option maxRecDepth 100000 in
set_option maxHeartbeats 32000000 in
theorem good_call (x : S25) (AD : Option Addr) (cD : Nat) (AX : Option Addr) (cX : Nat) (w : World) (hP : ProgC w x AD cD AX cX) :
    Calls Tryd.prog 8 #[.agg #[.slice AD x.f0.length cD, .int .i64 x.f1, .string x.f2, .slice AX x.f3.length cX]] w (Says (goodPr x) w) := by
  have hlnD := C_len hP.gd
  have HP := Lib.hid hP
  clear hP
  go_enter Tryd.func8, Tryd.ntmps8
  have hal := below_alloc (Below.refl _ w) (.cells #[.slice AD x.f0.length cD, .int .i64 x.f1, .string x.f2, .slice AX x.f3.length cX] 25)
  have XB := Lib.hid (blk_new w (.cells #[.slice AD x.f0.length cD, .int .i64 x.f1, .string x.f2, .slice AX x.f3.length cX] 25))
  have CP := Lib.hid (progC_below HP.out hal)
  have B2 := Lib.hid hal
  clear hal
  go_upto_region 1 with fail
  generalize w.alloc (.cells #[.slice AD x.f0.length cD, .int .i64 x.f1, .string x.f2, .slice AX x.f3.length cX] 25) = w2 at *
  generalize hgx : w.heap.size = gx at *
  have BW := Lib.hid (show Below w.heap.size w w2 by rw [hgx]; exact B2.out)
  clear B2
  have y0 := blk_cell XB.out 0
  have y1 := blk_cell XB.out 1
  have y2 := blk_cell XB.out 2
  have y3 := blk_cell XB.out 3
  go_upto_region 3 with (first
    | (go_at_call 16; refine (within_call _ _ _ _).mono ?_; rintro e w3 ⟨rfl, hd⟩; have BN := Lib.hid (below_step BW.out hd); have XN := Lib.hid (blk_below XB.out hd); have CN := Lib.hid (progC_below CP.out hd); clear hd BW XB CP y0 y1 y2 y3; have BW := Lib.hid BN.out; have XB := Lib.hid XN.out; have CP := Lib.hid CN.out; clear BN XN CN; have y0 := blk_cell XB.out 0; have y1 := blk_cell XB.out 1; have y2 := blk_cell XB.out 2; have y3 := blk_cell XB.out 3; cases h16 : withinB (x.f0.length : Int) 1 64)
    | (go_at_call 17; refine (top_39_call x AD cD AX cX _ CP.out).mono ?_; rintro e w3 ⟨rfl, hd⟩; have BN := Lib.hid (below_step BW.out hd); have XN := Lib.hid (blk_below XB.out hd); have CN := Lib.hid (progC_below CP.out hd); clear hd BW XB CP y0 y1 y2 y3; have BW := Lib.hid BN.out; have XB := Lib.hid XN.out; have CP := Lib.hid CN.out; clear BN XN CN; have y0 := blk_cell XB.out 0; have y1 := blk_cell XB.out 1; have y2 := blk_cell XB.out 2; have y3 := blk_cell XB.out 3; by_cases h17 : walkPr stS x 0 ≤ 4096)
    | (go_at_call 13; refine (top_35_call x AD cD AX cX _ CP.out).mono ?_; rintro e w3 ⟨rfl, hd⟩; have BN := Lib.hid (below_step BW.out hd); have XN := Lib.hid (blk_below XB.out hd); have CN := Lib.hid (progC_below CP.out hd); clear hd BW XB CP y0 y1 y2 y3; have BW := Lib.hid BN.out; have XB := Lib.hid XN.out; have CP := Lib.hid CN.out; clear BN XN CN; have y0 := blk_cell XB.out 0; have y1 := blk_cell XB.out 1; have y2 := blk_cell XB.out 2; have y3 := blk_cell XB.out 3; by_cases h13 : walkPr stD x 0 ≤ 64)
    | (go_at_call 18; refine (name_call _ _).mono ?_; rintro e w3 ⟨rfl, hd⟩; have BN := Lib.hid (below_step BW.out hd); have XN := Lib.hid (blk_below XB.out hd); have CN := Lib.hid (progC_below CP.out hd); clear hd BW XB CP y0 y1 y2 y3; have BW := Lib.hid BN.out; have XB := Lib.hid XN.out; have CP := Lib.hid CN.out; clear BN XN CN; have y0 := blk_cell XB.out 0; have y1 := blk_cell XB.out 1; have y2 := blk_cell XB.out 2; have y3 := blk_cell XB.out 3; cases h18 : nameOk x.f2)
    | (go_at_call 19; refine (exprs_call x.f3 AX cX _ _ _ CP.out.gx CP.out.lx).mono ?_; rintro e w3 ⟨rfl, hd⟩; have BN := Lib.hid (below_step BW.out hd); have XN := Lib.hid (blk_below XB.out hd); have CN := Lib.hid (progC_below CP.out hd); clear hd BW XB CP y0 y1 y2 y3; have BW := Lib.hid BN.out; have XB := Lib.hid XN.out; have CP := Lib.hid CN.out; clear BN XN CN; have y0 := blk_cell XB.out 0; have y1 := blk_cell XB.out 1; have y2 := blk_cell XB.out 2; have y3 := blk_cell XB.out 3; cases h19 : (goodEL x.f3 && withinB x.f3.length 0 8)))
  all_goals try (go_ret; refine ⟨?_, BW.out⟩; congr 2; simp_all [goodPr, goodHd]; done)
  all_goals try (go_ret; refine ⟨?_, BW.out⟩; congr 2; simp_all [goodPr, goodHd]; omega)
  have HH := Lib.hid (show goodHd x = true by simp only [goodHd, h16, h17, h13, h18, decide_true, Bool.true_and]; exact h19)
  clear h16 h17 h13 h18 h19
  obtain ⟨wp, hwp⟩ : ∃ wp, wp = w3 := ⟨_, rfl⟩
  subst hwp
  clear y1 y2 y3
  go_wp2
  go_loopw [37] (fun vi wr => ∃ i : Nat, vi = .int .i64 i ∧ i ≤ x.f0.length ∧ Hid ((x.f0.take i).all goodDef = true) ∧ Hid (Below wp.heap.size wp wr)) (fun vi _ => x.f0.length - (intOf vi).toNat)
  case atStart => exact ⟨0, by go_num, Nat.zero_le _, Lib.hid rfl, Lib.hid (Below.refl _ _)⟩
  case round =>
    obtain ⟨i, rfl, hil, HG, HB⟩ := hrel
    obtain ⟨wq, hwq⟩ : ∃ wq, wq = wr := ⟨_, rfl⟩
    subst hwq
    by_cases hlt : i < x.f0.length
    · have q1 : (i : Int) < (x.f0.length : Int) := by omega
      have q0 : (0 : Int) ≤ (i : Int) := by omega
      obtain ⟨ad_, As, cs_, B0, b0, B4, b4, B5, b5, B6, b6, hA_, u0, u1, u2, u3, u4, u5, u6, u7, u8, u9, u10, u11, hX_⟩ := at_T44 (progC_below CP.out HB.out).gd (i : Int) q0 q1
      subst hA_
      rw [rd44 x.f0 i hlt, Int.toNat_natCast] at u0 u1 u2 u3 u4 u5 u6 u7 u8 u9 u10 u11
      rw [rd44 x.f0 i hlt] at hX_
      have HT := Lib.hid (show ∀ b, goodDef x.f0[i] = b → (x.f0.take (i + 1)).all goodDef = b from fun b hb => by rw [List.take_succ_eq_append_getElem hlt, List.all_append, HG.out]; simpa using hb)
      have HF := Lib.hid (show goodDef x.f0[i] = false → goodPr x = false from fun h => by
        have h2 : x.f0.all goodDef = false := by
          rw [Bool.eq_false_iff]
          intro ha
          have h3 := List.all_eq_true.mp ha _ (List.getElem_mem hlt)
          rw [h] at h3
          cases h3
        rw [goodPr, h2, Bool.and_false])
      have HX := Lib.hid hX_
      clear hX_
      have hdl := C_len HX.out.2.1
      generalize x.f0[i] = d at *
      go_upto_region 6 with fail
      have hal := below_alloc (Below.refl _ wq) (.cells #[.int .i64 d.f0, .string d.f1, .slice As d.f2.length cs_, .slice B0 d.f3.f0.length b0, .int .i64 d.f3.f1, .int .i64 d.f3.f2, .string d.f3.f3, .slice B4 d.f3.f4.length b4, .slice B5 d.f3.f5.length b5, .slice B6 d.f3.f6.length b6, .bool d.f3.f7, .int .i64 d.f3.f8] 44)
      have XC := Lib.hid (blk_new wq (.cells #[.int .i64 d.f0, .string d.f1, .slice As d.f2.length cs_, .slice B0 d.f3.f0.length b0, .int .i64 d.f3.f1, .int .i64 d.f3.f2, .string d.f3.f3, .slice B4 d.f3.f4.length b4, .slice B5 d.f3.f5.length b5, .slice B6 d.f3.f6.length b6, .bool d.f3.f7, .int .i64 d.f3.f8] 44))
      have BC := Lib.hid (below_step HB.out hal)
      have PB := Lib.hid (BodyC.below HX.out.2.2 hal)
      have PS := Lib.hid (Kd.C_below HX.out.2.1 hal)
      clear hal u0 u1 u2 u3 u4 u5 u6 u7 u8 u9 u10 u11
      generalize wq.alloc (.cells #[.int .i64 d.f0, .string d.f1, .slice As d.f2.length cs_, .slice B0 d.f3.f0.length b0, .int .i64 d.f3.f1, .int .i64 d.f3.f2, .string d.f3.f3, .slice B4 d.f3.f4.length b4, .slice B5 d.f3.f5.length b5, .slice B6 d.f3.f6.length b6, .bool d.f3.f7, .int .i64 d.f3.f8] 44) = w4 at *
      generalize wq.heap.size = gd at *
      have hcs := HX.out.1
      have z0 := blk_cell XC.out 0
      have z1 := blk_cell XC.out 1
      have z2 := blk_cell XC.out 2
      have z3 := blk_cell XC.out 3
      have z4 := blk_cell XC.out 4
      have z5 := blk_cell XC.out 5
      have z6 := blk_cell XC.out 6
      have z7 := blk_cell XC.out 7
      have z8 := blk_cell XC.out 8
      have z9 := blk_cell XC.out 9
      have z10 := blk_cell XC.out 10
      have z11 := blk_cell XC.out 11
      rcases (show (d.f2.length : Int) ≤ 8 ∨ ¬ (d.f2.length : Int) ≤ 8 by omega) with h2 | h2 <;> go_upto_region 8 with (first
        | (go_at_call 18; refine (name_call _ _).mono ?_; rintro e w5 ⟨rfl, hd⟩; have B5 := Lib.hid (below_step BC.out hd); have X5 := Lib.hid (blk_below XC.out hd); have Q5 := Lib.hid (BodyC.below PB.out hd); have P5 := Lib.hid (Kd.C_below PS.out hd); clear hd BC XC PB PS z0 z1 z2 z3 z4 z5 z6 z7 z8 z9 z10 z11; have BC := Lib.hid B5.out; have XC := Lib.hid X5.out; have PB := Lib.hid Q5.out; have PS := Lib.hid P5.out; clear B5 X5 Q5 P5; have z0 := blk_cell XC.out 0; have z1 := blk_cell XC.out 1; have z2 := blk_cell XC.out 2; have z3 := blk_cell XC.out 3; have z4 := blk_cell XC.out 4; have z5 := blk_cell XC.out 5; have z6 := blk_cell XC.out 6; have z7 := blk_cell XC.out 7; have z8 := blk_cell XC.out 8; have z9 := blk_cell XC.out 9; have z10 := blk_cell XC.out 10; have z11 := blk_cell XC.out 11; cases h1 : nameOk d.f1)
        | (go_at_call 20; refine (body_call d.f3 B0 b0 B4 b4 B5 b5 B6 b6 _ PB.out).mono ?_; rintro e w5 ⟨rfl, hd⟩; have B5 := Lib.hid (below_step BC.out hd); have X5 := Lib.hid (blk_below XC.out hd); have Q5 := Lib.hid (BodyC.below PB.out hd); have P5 := Lib.hid (Kd.C_below PS.out hd); clear hd BC XC PB PS z0 z1 z2 z3 z4 z5 z6 z7 z8 z9 z10 z11; have BC := Lib.hid B5.out; have XC := Lib.hid X5.out; have PB := Lib.hid Q5.out; have PS := Lib.hid P5.out; clear B5 X5 Q5 P5; have z0 := blk_cell XC.out 0; have z1 := blk_cell XC.out 1; have z2 := blk_cell XC.out 2; have z3 := blk_cell XC.out 3; have z4 := blk_cell XC.out 4; have z5 := blk_cell XC.out 5; have z6 := blk_cell XC.out 6; have z7 := blk_cell XC.out 7; have z8 := blk_cell XC.out 8; have z9 := blk_cell XC.out 9; have z10 := blk_cell XC.out 10; have z11 := blk_cell XC.out 11; cases h3 : goodB d.f3))
      all_goals try (have hz_ : nameOk d.f1 = false := h1; go_ret; refine ⟨?_, below_step BW.out BC.out⟩; rw [HF.out (by simp only [goodDef, hz_, Bool.false_and])]; rfl)
      all_goals try (have hz_ : goodB d.f3 = false := h3; go_ret; refine ⟨?_, below_step BW.out BC.out⟩; rw [HF.out (by simp only [goodDef, hz_, Bool.false_and, Bool.and_false])]; rfl)
      all_goals try (have hz_ : 8 < (d.f2.length : Int) := h2; go_ret; refine ⟨?_, below_step BW.out BC.out⟩; rw [HF.out (by simp only [goodDef, decide_eq_false (show ¬ (d.f2.length : Int) ≤ 8 by omega), Bool.false_and, Bool.and_false])]; rfl)
      obtain ⟨wo, hwo⟩ : ∃ wo, wo = w5 := ⟨_, rfl⟩
      subst hwo
      clear z0 z1 z3 z4 z5 z6 z7 z8 z9 z10 z11
      have HD := Lib.hid (show goodDef d = d.f2.all nameOk by simp only [goodDef, h1, h2, h3, decide_true, Bool.true_and])
      clear h1 h2 h3
      have hlnS := C_len PS.out
      go_wp2
      go_loopw [60] (fun vi wr => ∃ q : Nat, vi = .int .i64 q ∧ q ≤ d.f2.length ∧ Hid ((d.f2.take q).all nameOk = true) ∧ Hid (Below wo.heap.size wo wr)) (fun vi _ => d.f2.length - (intOf vi).toNat)
      case atStart => exact ⟨0, by go_num, Nat.zero_le _, Lib.hid rfl, Lib.hid (Below.refl _ _)⟩
      case round =>
        obtain ⟨q, rfl, hql, HGQ, HBQ⟩ := hrel
        obtain ⟨wi, hwi⟩ : ∃ wi, wi = wr := ⟨_, rfl⟩
        subst hwi
        by_cases hq : q < d.f2.length
        · have p1 : (q : Int) < (d.f2.length : Int) := by omega
          have p0 : (0 : Int) ≤ (q : Int) := by omega
          obtain ⟨as_, cc_, hs1, _, hK2, hc2⟩ := Kd.C_get (Kd.C_below PS.out HBQ.out) (⟨#[]⟩ : ByteArray) (q : Int) p0 p1
          subst hs1
          obtain rfl : cc_ = [.string (d.f2.getD (q : Int).toNat (⟨#[]⟩ : ByteArray))] := hK2
          have hgd : d.f2.getD (q : Int).toNat (⟨#[]⟩ : ByteArray) = d.f2[q] := by rw [Int.toNat_natCast, List.getD_eq_getElem?_getD, List.getElem?_eq_getElem hq]; rfl
          have v0 : wi.cell? (as_.add q) = some (.string d.f2[q]) := by
            have v : wi.cell? (as_.add (q * 1 + 0)) = some (.string (d.f2.getD (q : Int).toNat (⟨#[]⟩ : ByteArray))) := hc2 0 _ rfl
            rwa [hgd, Nat.mul_one, Nat.add_zero] at v
          clear hc2 hgd
          have HTQ := Lib.hid (show ∀ b, nameOk d.f2[q] = b → (d.f2.take (q + 1)).all nameOk = b from fun b hb => by rw [List.take_succ_eq_append_getElem hq, List.all_append, HGQ.out]; simpa using hb)
          have HFQ := Lib.hid (show nameOk d.f2[q] = false → d.f2.all nameOk = false from fun h => by
            rw [Bool.eq_false_iff]
            intro ha
            have h3 := List.all_eq_true.mp ha _ (List.getElem_mem hq)
            rw [h] at h3
            cases h3)
          generalize d.f2[q] = sq at *
          go_wp2_with (go_at_call 18; refine (name_call _ _).mono ?_; rintro e w7 ⟨rfl, hd⟩; have B7 := Lib.hid (below_step HBQ.out hd); clear hd; cases h1 : nameOk sq)
          · go_ret
            refine ⟨?_, below_step BW.out (below_step BC.out B7.out)⟩
            rw [HF.out (HD.out.trans (HFQ.out h1))]; rfl
          · go_roundw
            case rel => exact ⟨q + 1, by go_num, hq, Lib.hid (HTQ.out _ h1), B7⟩
            case measure => simp [intOf]; omega
        · obtain rfl : q = d.f2.length := by omega
          have hg_ := HGQ.out
          rw [List.take_length] at hg_
          go_wp2
          go_roundw
          case rel => exact ⟨i + 1, by go_num, hlt, Lib.hid (HT.out _ (HD.out.trans hg_)), Lib.hid (below_step BC.out HBQ.out)⟩
          case measure => simp [intOf]; omega
    · obtain rfl : i = x.f0.length := by omega
      have hg_ := HG.out
      rw [List.take_length] at hg_
      go_wp2
      go_ret
      refine ⟨?_, below_step BW.out HB.out⟩
      rw [goodPr, HH.out, hg_]; rfl
end Go.Proofs.YtjboncbmeanlgaaDoor.Tr
