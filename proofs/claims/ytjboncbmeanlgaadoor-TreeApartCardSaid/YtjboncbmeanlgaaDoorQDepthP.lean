/- DepthP -/
import Derived.Test.YtjboncbmeanlgaaDoorQDepthB
/- The document's depth: programs. -/
set_option linter.unusedVariables false
set_option linter.unusedSimpArgs false
namespace Go.Proofs.YtjboncbmeanlgaaDoor.Tr
open Go.RowKit Go.Proofs Go.Proofs.YtjboncbmeanlgaaDoor.PTreePrints Go.Proofs.YtjboncbmeanlgaaDoorW.PrintWords Go.Proofs.YtjboncbmeanlgaaDoorW.PrintMore Go.Proofs.YtjboncbmeanlgaaDoorW.PrintLast
set_option maxRecDepth 100000 in
set_option maxHeartbeats 16000000 in
/-- The document's Depth. -/
theorem ref_depth_call (x : S25) (AD : Option Addr) (cD : Nat) (AX : Option Addr) (cX : Nat) (w : World) (hP : ProgC w x AD cD AX cX) :
    Calls Tryd.prog 12 #[.agg #[.slice AD x.f0.length cD, .int .i64 x.f1, .string x.f2, .slice AX x.f3.length cX]] w fun e w' => e = .returned (.int .i64 (dpPr x)) ∧ Below w.heap.size w w' := by
  have hlnD := C_len hP.gd
  have HP := Lib.hid hP
  clear hP
  go_enter Tryd.func12, Tryd.ntmps12
  have hal := below_alloc (Below.refl _ w) (.cells #[.slice AD x.f0.length cD, .int .i64 x.f1, .string x.f2, .slice AX x.f3.length cX] 25)
  have XP := Lib.hid (blk_new w (.cells #[.slice AD x.f0.length cD, .int .i64 x.f1, .string x.f2, .slice AX x.f3.length cX] 25))
  have BL := Lib.hid hal
  clear hal
  go_upto_region 1 with fail
  generalize w.alloc (.cells #[.slice AD x.f0.length cD, .int .i64 x.f1, .string x.f2, .slice AX x.f3.length cX] 25) = wp at *
  generalize hgx : w.heap.size = gx at *
  have BW := Lib.hid (show Below w.heap.size w wp by rw [hgx]; exact BL.out)
  clear BL hgx
  have y3 := blk_cell XP.out 3
  go_upto_region 2 with (go_at_call 32; refine ((show Calls Tryd.prog 32 #[.agg #[], .slice AX x.f3.length cX, .int .i64 65] _ (TellsD (dpEL x.f3 65) _) from DE_call w x.f3 AX cX 65 _ (by omega) BW.out HP.out.gx (C_len HP.out.gx) HP.out.lx)).mono ?_; rintro e w6 ⟨rfl, hd⟩; have B6 := Lib.hid (below_step BW.out hd); have X6 := Lib.hid (blk_below XP.out hd); clear hd)
  clear y3 XP
  obtain ⟨d0, hd0⟩ : ∃ q, q = dpEL x.f3 65 := ⟨_, rfl⟩
  rw [← hd0]
  have HN0 := Lib.hid (show 0 ≤ d0 by rw [hd0]; exact dpEL_nn _ _)
  have HD0 := Lib.hid hd0
  clear hd0
  have y0 := blk_cell X6.out 0
  go_wp2
  go_loopw [4, 3] (fun vi v3 wr => ∃ i : Nat, vi = .int .i64 i ∧ v3 = .int .i64 (mx d0 (dpDL (x.f0.take i))) ∧ i ≤ x.f0.length ∧ Hid (Below w.heap.size w wr) ∧ Hid (wr.heap[gx]? = some (.cells #[.slice AD x.f0.length cD, .int .i64 x.f1, .string x.f2, .slice AX x.f3.length cX] 25 (0, 0)))) (fun vi _ _ => x.f0.length - (intOf vi).toNat)
  case atStart => exact ⟨0, by go_num, by rw [List.take_zero]; simp only [dpDL]; rw [mx_zero HN0.out], Nat.zero_le _, B6, X6⟩
  case round =>
    obtain ⟨i, rfl, rfl, hil, HB, HX⟩ := hrel
    clear y0
    have y0 := blk_cell HX.out 0
    obtain ⟨wq, hwq⟩ : ∃ wq, wq = wr := ⟨_, rfl⟩
    subst hwq
    by_cases hlt : i < x.f0.length
    · have q1 : (i : Int) < (x.f0.length : Int) := by omega
      have q0 : (0 : Int) ≤ (i : Int) := by omega
      obtain ⟨ad_, As, cs_, B0, b0, B4, b4, B5, b5, B6, b6, hA_, u0, u1, u2, u3, u4, u5, u6, u7, u8, u9, u10, u11, hX_⟩ := at_T44 HP.out.gd (i : Int) q0 q1
      subst hA_
      rw [rd44 x.f0 i hlt, Int.toNat_natCast] at u0 u1 u2 u3 u4 u5 u6 u7 u8 u9 u10 u11
      rw [rd44 x.f0 i hlt] at hX_
      replace u0 := (HB.out.cell (World.block_lt_of_cell? w _ u0)).trans u0
      replace u1 := (HB.out.cell (World.block_lt_of_cell? w _ u1)).trans u1
      replace u2 := (HB.out.cell (World.block_lt_of_cell? w _ u2)).trans u2
      replace u3 := (HB.out.cell (World.block_lt_of_cell? w _ u3)).trans u3
      replace u4 := (HB.out.cell (World.block_lt_of_cell? w _ u4)).trans u4
      replace u5 := (HB.out.cell (World.block_lt_of_cell? w _ u5)).trans u5
      replace u6 := (HB.out.cell (World.block_lt_of_cell? w _ u6)).trans u6
      replace u7 := (HB.out.cell (World.block_lt_of_cell? w _ u7)).trans u7
      replace u8 := (HB.out.cell (World.block_lt_of_cell? w _ u8)).trans u8
      replace u9 := (HB.out.cell (World.block_lt_of_cell? w _ u9)).trans u9
      replace u10 := (HB.out.cell (World.block_lt_of_cell? w _ u10)).trans u10
      replace u11 := (HB.out.cell (World.block_lt_of_cell? w _ u11)).trans u11
      have HT := Lib.hid (show mx d0 (dpDL (x.f0.take (i + 1))) = mx (mx d0 (dpDL (x.f0.take i))) (dpB x.f0[i].f3 65) by rw [List.take_succ_eq_append_getElem hlt, dpDL_snoc, mx_shift])
      have HZ := Lib.hid hX_
      clear hX_
      generalize x.f0[i] = d at *
      generalize mx d0 (dpDL (x.f0.take i)) = mi at *
      go_wp2_with (go_at_call 33; refine ((show Calls Tryd.prog 33 #[.agg #[], bodyV d.f3 B0 b0 B4 b4 B5 b5 B6 b6, .int .i64 65] _ (TellsD (dpB d.f3 65) _) from DB_call w d.f3 B0 b0 B4 b4 B5 b5 B6 b6 65 _ (by omega) HB.out HZ.out.2.2)).mono ?_; rintro e w7 ⟨rfl, hd⟩; have B7 := Lib.hid (below_step HB.out hd); have X7 := Lib.hid (blk_below HX.out hd); clear hd)
      all_goals go_roundw
      all_goals first
        | exact ⟨i + 1, by go_num, by rw [HT.out]; rfl, hlt, B7, X7⟩
        | exact ⟨i + 1, by go_num, by rw [HT.out]; rfl, hlt, B7⟩
        | (simp [intOf]; omega)
    · obtain rfl : i = x.f0.length := by omega
      rw [List.take_length]
      go_wp2
      go_ret
      exact ⟨by rw [dpPr, ← HD0.out]; rfl, HB.out⟩
end Go.Proofs.YtjboncbmeanlgaaDoor.Tr
