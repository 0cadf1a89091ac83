/- PrintsW -/
import Derived.Test.YtjboncbmeanlgaaDoorURefPr
import Derived.Test.YtjboncbmeanlgaaDoorUBoundP
import Derived.Test.YtjboncbmeanlgaaDoorULivesW
/- The law TreePrints. -/
set_option linter.unusedVariables false
set_option linter.unusedSimpArgs false
namespace Go.Proofs.YtjboncbmeanlgaaDoor.Tr
open Go.RowKit Go.Proofs Go.Proofs.YtjboncbmeanlgaaDoor.PTreePrints Go.Proofs.YtjboncbmeanlgaaDoorW.PrintWords Go.Proofs.YtjboncbmeanlgaaDoorW.PrintMore Go.Proofs.YtjboncbmeanlgaaDoorW.PrintLast
/-- What Print tells, as a string. -/
def str (x : S25) : ByteArray := ⟨(printed x).toArray⟩
theorem print_str (x : S25) (AD : Option Addr) (cD : Nat) (AX : Option Addr) (cX : Nat) (w : World) (hP : ProgC w x AD cD AX cX) (hT : Tab w) :
    Calls Tryd.prog 10 #[.agg #[.slice AD x.f0.length cD, .int .i64 x.f1, .string x.f2, .slice AX x.f3.length cX]] w fun e w' => e = .returned (.string (str x)) ∧ Below w.heap.size w w' :=
  print_call x AD cD AX cX w hP hT (short_good x)
theorem rprint_str (x : S25) (AD : Option Addr) (cD : Nat) (AX : Option Addr) (cX : Nat) (w : World) (hP : ProgC w x AD cD AX cX) :
    Calls Tryd.prog 11 #[.agg #[.slice AD x.f0.length cD, .int .i64 x.f1, .string x.f2, .slice AX x.f3.length cX]] w fun e w' => e = .returned (.string (str x)) ∧ Below w.heap.size w w' :=
  (rprint_call x AD cD AX cX w hP (short_good x)).mono fun e w' ⟨r, he, hr, hd⟩ => ⟨by rw [he, show r = str x from by unfold str; rw [← hr]], hd⟩
set_option maxRecDepth 100000 in
set_option maxHeartbeats 16000000 in
/-- The law. -/
theorem prints_true (x : S25) (AD : Option Addr) (cD : Nat) (AX : Option Addr) (cX : Nat) (w : World) (hP : ProgC w x AD cD AX cX) (hT : Tab w) :
    Calls Tryd.prog 3 #[.agg #[.slice AD x.f0.length cD, .int .i64 x.f1, .string x.f2, .slice AX x.f3.length cX]] w fun e w' => e = .returned (.bool true) ∧ Below w.heap.size w w' := by
  go_enter Tryd.func3, Tryd.ntmps3
  have hal := below_alloc (Below.refl _ w) (.cells #[.slice AD x.f0.length cD, .int .i64 x.f1, .string x.f2, .slice AX x.f3.length cX] 25)
  have XB := Lib.hid (blk_new w (.cells #[.slice AD x.f0.length cD, .int .i64 x.f1, .string x.f2, .slice AX x.f3.length cX] 25))
  have CP := Lib.hid (progC_below hP hal)
  have B2 := Lib.hid hal
  clear hal
  go_upto_region 1 with fail
  generalize w.alloc (.cells #[.slice AD x.f0.length cD, .int .i64 x.f1, .string x.f2, .slice AX x.f3.length cX] 25) = w2 at *
  generalize hgx : w.heap.size = gx at *
  have BW := Lib.hid (show Below w.heap.size w w2 by rw [hgx]; exact B2.out)
  clear B2 hgx
  have y0 := blk_cell XB.out 0
  have y1 := blk_cell XB.out 1
  have y2 := blk_cell XB.out 2
  have y3 := blk_cell XB.out 3
  have hT2 := Lib.hid (hT.below BW.out)
  clear hT hP
  go_upto_region 3 with (first
    | (go_at_call 6; refine (light_call x AD cD AX cX _ CP.out).mono ?_; rintro e w3 ⟨rfl, hd⟩; have B3 := Lib.hid (below_step BW.out hd); have X3 := Lib.hid (blk_below XB.out hd); have P3 := Lib.hid (progC_below CP.out hd); have T3 := Lib.hid (hT2.out.below hd); clear hd y0 y1 y2 y3; cases hlb : lightB x)
    | (go_at_call 7; refine (lives_true _ T3.out).mono ?_; rintro e w4 ⟨rfl, hd⟩; have B4 := Lib.hid (below_step B3.out hd); clear hd))
  · go_ret
    exact ⟨rfl, B4.out⟩
  · clear BW XB CP hT2
    have XS := Lib.hid (fun (W' : World) (h : Below w3.heap.size w3 W') => blk_below X3.out h)
    have PS := Lib.hid (fun (W' : World) (h : Below w3.heap.size w3 W') => progC_below P3.out h)
    have TS3 := Lib.hid (fun (W' : World) (h : Below w3.heap.size w3 W') => T3.out.below h)
    have K8 := Lib.hid (fun (W' : World) (h : Below w3.heap.size w3 W') => good_call x AD cD AX cX W' (PS.out W' h))
    have K9 := Lib.hid (fun (W' : World) (h : Below w3.heap.size w3 W') => rgood_call x AD cD AX cX W' (PS.out W' h))
    have K10 := Lib.hid (fun (W' : World) (h : Below w3.heap.size w3 W') => print_str x AD cD AX cX W' (PS.out W' h) (TS3.out W' h))
    have K11 := Lib.hid (fun (W' : World) (h : Below w3.heap.size w3 W') => rprint_str x AD cD AX cX W' (PS.out W' h))
    have K7 := Lib.hid (fun (W' : World) (h : Below w3.heap.size w3 W') => lives_true W' (TS3.out W' h))
    generalize goodPr x = gb at *
    generalize str x = sb at *
    have hgg : (gb == gb) = true := beq_self_eq_true _
    have hsd : decide (sb = sb) = true := by simp
    have BD := Lib.hid (Below.refl w3.heap.size w3).drew
    refine start_ (n := 16) (S := fun w' => w'.cell? ⟨gx, 0, none⟩ = some (.slice AD x.f0.length cD) ∧ w'.cell? ⟨gx, 1, none⟩ = some (.int .i64 x.f1) ∧ w'.cell? ⟨gx, 2, none⟩ = some (.string x.f2) ∧ w'.cell? ⟨gx, 3, none⟩ = some (.slice AX x.f3.length cX)) (ds := []) #[false, false, false, false, false, false, false, false, false, false, false, false, false, false, false, false] (by kernel_rfl) rfl rfl ⟨(blk_cell (XS.out _ BD.out) 0), (blk_cell (XS.out _ BD.out) 1), (blk_cell (XS.out _ BD.out) 2), (blk_cell (XS.out _ BD.out) 3)⟩ (fun hHeld => ?_)
    generalize w3.drew = WD at *
    refine take_ (i := 0) (N := some 7) (v := ?_) (a' := ?_) #[true, false, false, false, false, false, false, false, false, false, false, false, false, false, false, false] rfl rfl (by kernel_rfl) (fun _ _ _ h => h) (Or.inl ⟨by rfl, ?_⟩) hHeld ?_ ?_
    rotate_left
    · rintro w' ⟨s0, s1, s2, s3⟩
      go_simp
      with_reducible rfl
    rotate_left
    · simp only [Act.put, List.setIfInBounds_toArray, List.set_cons_zero, List.set_cons_succ, i64_w, i32_w]
      rfl
    refine take_ (i := 2) (N := some 9) (v := ?_) (a' := ?_) #[true, false, true, false, false, false, false, false, false, false, false, false, false, false, false, false] rfl rfl (by kernel_rfl) (fun _ _ _ h => h) (Or.inl ⟨by rfl, ?_⟩) hHeld ?_ ?_
    rotate_left
    · rintro w' ⟨s0, s1, s2, s3⟩
      go_simp
      with_reducible rfl
    rotate_left
    · simp only [Act.put, List.setIfInBounds_toArray, List.set_cons_zero, List.set_cons_succ, i64_w, i32_w]
      rfl
    refine one_ (i := 1) (N := some 8) #[true, true, true, false, false, false, false, false, false, false, false, false, false, false, false, false] rfl rfl (by kernel_rfl) (by decide) (fun K hK => ?_)
    refine goes_ Tryd.func8 (by kernel_rfl) rfl #[.agg #[.slice AD x.f0.length cD, .int .i64 x.f1, .string x.f2, .slice AX x.f3.length cX]] (by rfl) rfl rfl (by simp only [List.map_toArray, List.map_cons, List.map_nil]; rfl) ?_
    with_reducible refine (K8.out _ BD.out).mono ?_
    rintro e w_Z1 ⟨rfl, hd⟩
    refine ⟨_, rfl, ?_⟩
    have Z1 := Lib.hid (below_step BD.out hd)
    clear hd
    refine hK.out _ _ ⟨(blk_cell (XS.out _ Z1.out) 0), (blk_cell (XS.out _ Z1.out) 1), (blk_cell (XS.out _ Z1.out) 2), (blk_cell (XS.out _ Z1.out) 3)⟩ (fun hHeld => ?_)
    clear hK K
    refine norm_ (a' := ?_) ?_ ?_
    rotate_left
    · show Act.put _ (some 8) _ = _
      simp only [Act.put, List.setIfInBounds_toArray, List.set_cons_zero, List.set_cons_succ, i64_w, i32_w]
      rfl
    refine one_ (i := 3) (N := some 10) #[true, true, true, true, false, false, false, false, false, false, false, false, false, false, false, false] rfl rfl (by kernel_rfl) (by decide) (fun K hK => ?_)
    refine goes_ Tryd.func9 (by kernel_rfl) rfl #[.agg #[.slice AD x.f0.length cD, .int .i64 x.f1, .string x.f2, .slice AX x.f3.length cX]] (by rfl) rfl rfl (by simp only [List.map_toArray, List.map_cons, List.map_nil]; rfl) ?_
    with_reducible refine (K9.out _ Z1.out).mono ?_
    rintro e w_Z2 ⟨rfl, hd⟩
    refine ⟨_, rfl, ?_⟩
    have Z2 := Lib.hid (below_step Z1.out hd)
    clear hd
    refine hK.out _ _ ⟨(blk_cell (XS.out _ Z2.out) 0), (blk_cell (XS.out _ Z2.out) 1), (blk_cell (XS.out _ Z2.out) 2), (blk_cell (XS.out _ Z2.out) 3)⟩ (fun hHeld => ?_)
    clear hK K
    refine norm_ (a' := ?_) ?_ ?_
    rotate_left
    · show Act.put _ (some 10) _ = _
      simp only [Act.put, List.setIfInBounds_toArray, List.set_cons_zero, List.set_cons_succ, i64_w, i32_w]
      rfl
    refine pure_ (i := 4) (N := some 11) (v := ?_) (a' := ?_) #[true, true, true, true, true, false, false, false, false, false, false, false, false, false, false, false] rfl rfl (by kernel_rfl) (fun _ _ _ h => h) (Or.inl ⟨by rfl, ?_⟩) ?_ ?_
    rotate_left
    · intro w'
      go_simp
      with_reducible rfl
    rotate_left
    · simp only [Act.put, List.setIfInBounds_toArray, List.set_cons_zero, List.set_cons_succ, i64_w, i32_w]
      rfl
    refine pure_ (i := 5) (N := some 12) (v := ?_) (a' := ?_) #[true, true, true, true, true, true, false, false, false, false, false, false, false, false, false, false] rfl rfl (by kernel_rfl) (fun _ _ _ h => h) (Or.inl ⟨by rfl, ?_⟩) ?_ ?_
    rotate_left
    · intro w'
      go_simp
      with_reducible rfl
    rotate_left
    · simp only [Act.put, List.setIfInBounds_toArray, List.set_cons_zero, List.set_cons_succ, i64_w, i32_w]
      rfl
    refine take_ (i := 6) (N := some 13) (v := ?_) (a' := ?_) #[true, true, true, true, true, true, true, false, false, false, false, false, false, false, false, false] rfl rfl (by kernel_rfl) (fun _ _ _ h => h) (Or.inl ⟨by rfl, ?_⟩) hHeld ?_ ?_
    rotate_left
    · rintro w' ⟨s0, s1, s2, s3⟩
      go_simp
      with_reducible rfl
    rotate_left
    · simp only [Act.put, List.setIfInBounds_toArray, List.set_cons_zero, List.set_cons_succ, i64_w, i32_w]
      rfl
    refine take_ (i := 8) (N := some 15) (v := ?_) (a' := ?_) #[true, true, true, true, true, true, true, false, true, false, false, false, false, false, false, false] rfl rfl (by kernel_rfl) (fun _ _ _ h => h) (Or.inl ⟨by rfl, ?_⟩) hHeld ?_ ?_
    rotate_left
    · rintro w' ⟨s0, s1, s2, s3⟩
      go_simp
      with_reducible rfl
    rotate_left
    · simp only [Act.put, List.setIfInBounds_toArray, List.set_cons_zero, List.set_cons_succ, i64_w, i32_w]
      rfl
    refine one_ (i := 7) (N := some 14) #[true, true, true, true, true, true, true, true, true, false, false, false, false, false, false, false] rfl rfl (by kernel_rfl) (by decide) (fun K hK => ?_)
    refine goes_ Tryd.func10 (by kernel_rfl) rfl #[.agg #[.slice AD x.f0.length cD, .int .i64 x.f1, .string x.f2, .slice AX x.f3.length cX]] (by rfl) rfl rfl (by simp only [List.map_toArray, List.map_cons, List.map_nil]; rfl) ?_
    with_reducible refine (K10.out _ Z2.out).mono ?_
    rintro e w_Z3 ⟨rfl, hd⟩
    refine ⟨_, rfl, ?_⟩
    have Z3 := Lib.hid (below_step Z2.out hd)
    clear hd
    refine hK.out _ _ ⟨(blk_cell (XS.out _ Z3.out) 0), (blk_cell (XS.out _ Z3.out) 1), (blk_cell (XS.out _ Z3.out) 2), (blk_cell (XS.out _ Z3.out) 3)⟩ (fun hHeld => ?_)
    clear hK K
    refine norm_ (a' := ?_) ?_ ?_
    rotate_left
    · show Act.put _ (some 14) _ = _
      simp only [Act.put, List.setIfInBounds_toArray, List.set_cons_zero, List.set_cons_succ, i64_w, i32_w]
      rfl
    refine one_ (i := 9) (N := some 16) #[true, true, true, true, true, true, true, true, true, true, false, false, false, false, false, false] rfl rfl (by kernel_rfl) (by decide) (fun K hK => ?_)
    refine goes_ Tryd.func11 (by kernel_rfl) rfl #[.agg #[.slice AD x.f0.length cD, .int .i64 x.f1, .string x.f2, .slice AX x.f3.length cX]] (by rfl) rfl rfl (by simp only [List.map_toArray, List.map_cons, List.map_nil]; rfl) ?_
    with_reducible refine (K11.out _ Z3.out).mono ?_
    rintro e w_Z4 ⟨rfl, hd⟩
    refine ⟨_, rfl, ?_⟩
    have Z4 := Lib.hid (below_step Z3.out hd)
    clear hd
    refine hK.out _ _ ⟨(blk_cell (XS.out _ Z4.out) 0), (blk_cell (XS.out _ Z4.out) 1), (blk_cell (XS.out _ Z4.out) 2), (blk_cell (XS.out _ Z4.out) 3)⟩ (fun hHeld => ?_)
    clear hK K
    refine norm_ (a' := ?_) ?_ ?_
    rotate_left
    · show Act.put _ (some 16) _ = _
      simp only [Act.put, List.setIfInBounds_toArray, List.set_cons_zero, List.set_cons_succ, i64_w, i32_w]
      rfl
    refine pure_ (i := 10) (N := some 17) (v := ?_) (a' := ?_) #[true, true, true, true, true, true, true, true, true, true, true, false, false, false, false, false] rfl rfl (by kernel_rfl) (fun _ _ _ h => h) (Or.inl ⟨by rfl, ?_⟩) ?_ ?_
    rotate_left
    · intro w'
      go_simp
      with_reducible rfl
    rotate_left
    · simp only [Act.put, List.setIfInBounds_toArray, List.set_cons_zero, List.set_cons_succ, i64_w, i32_w]
      rfl
    refine pure_ (i := 11) (N := some 18) (v := ?_) (a' := ?_) #[true, true, true, true, true, true, true, true, true, true, true, true, false, false, false, false] rfl rfl (by kernel_rfl) (fun _ _ _ h => h) (Or.inl ⟨by rfl, ?_⟩) ?_ ?_
    rotate_left
    · intro w'
      go_simp
      with_reducible rfl
    rotate_left
    · simp only [Act.put, List.setIfInBounds_toArray, List.set_cons_zero, List.set_cons_succ, i64_w, i32_w]
      rfl
    refine pure_ (i := 12) (N := some 19) (v := ?_) (a' := ?_) #[true, true, true, true, true, true, true, true, true, true, true, true, true, false, false, false] rfl rfl (by kernel_rfl) (fun _ _ _ h => h) (Or.inl ⟨by rfl, ?_⟩) ?_ ?_
    rotate_left
    · intro w'
      go_simp
      with_reducible rfl
    rotate_left
    · simp only [Act.put, List.setIfInBounds_toArray, List.set_cons_zero, List.set_cons_succ, i64_w, i32_w]
      rfl
    refine one_ (i := 13) (N := some 20) #[true, true, true, true, true, true, true, true, true, true, true, true, true, true, false, false] rfl rfl (by kernel_rfl) (by decide) (fun K hK => ?_)
    refine goes_ Tryd.func7 (by kernel_rfl) rfl #[] (by rfl) rfl rfl (by simp only [List.map_toArray, List.map_cons, List.map_nil]) ?_
    with_reducible refine (K7.out _ Z4.out).mono ?_
    rintro e w_Z5 ⟨rfl, hd⟩
    refine ⟨_, rfl, ?_⟩
    have Z5 := Lib.hid (below_step Z4.out hd)
    clear hd
    refine hK.out _ _ ⟨(blk_cell (XS.out _ Z5.out) 0), (blk_cell (XS.out _ Z5.out) 1), (blk_cell (XS.out _ Z5.out) 2), (blk_cell (XS.out _ Z5.out) 3)⟩ (fun hHeld => ?_)
    clear hK K
    refine norm_ (a' := ?_) ?_ ?_
    rotate_left
    · show Act.put _ (some 20) _ = _
      simp only [Act.put, List.setIfInBounds_toArray, List.set_cons_zero, List.set_cons_succ, i64_w, i32_w]
      rfl
    refine pure_ (i := 14) (N := some 21) (v := ?_) (a' := ?_) #[true, true, true, true, true, true, true, true, true, true, true, true, true, true, true, false] rfl rfl (by kernel_rfl) (fun _ _ _ h => h) (Or.inl ⟨by rfl, ?_⟩) ?_ ?_
    rotate_left
    · intro w'
      go_simp
      with_reducible rfl
    rotate_left
    · simp only [Act.put, List.setIfInBounds_toArray, List.set_cons_zero, List.set_cons_succ, i64_w, i32_w]
      rfl
    refine pure_ (i := 15) (N := some 2) (v := ?_) (a' := ?_) #[true, true, true, true, true, true, true, true, true, true, true, true, true, true, true, true] rfl rfl (by kernel_rfl) (fun _ _ _ h => h) (Or.inl ⟨by rfl, ?_⟩) ?_ ?_
    rotate_left
    · intro w'
      go_simp
      with_reducible rfl
    rotate_left
    · simp only [Act.put, List.setIfInBounds_toArray, List.set_cons_zero, List.set_cons_succ, i64_w, i32_w]
      rfl
    refine done_ (by kernel_rfl) ?_
    clear hHeld
    go_wp2
    go_ret
    exact ⟨rfl, below_step B3.out Z5.out⟩
end Go.Proofs.YtjboncbmeanlgaaDoor.Tr
