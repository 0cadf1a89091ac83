/- ApartW -/
import Derived.Test.YtjboncbmeanlgaaDoorQSamePr
import Derived.Test.YtjboncbmeanlgaaDoorQBoundP
import Derived.Test.YtjboncbmeanlgaaDoorQLivesW
/- The law TreeApart. -/
set_option linter.unusedVariables false
set_option linter.unusedSimpArgs false
namespace Go.Proofs.YtjboncbmeanlgaaDoor.Tr
open Go.RowKit Go.Proofs Go.Proofs.YtjboncbmeanlgaaDoor.PTreePrints Go.Proofs.YtjboncbmeanlgaaDoorW.PrintWords Go.Proofs.YtjboncbmeanlgaaDoorW.PrintMore Go.Proofs.YtjboncbmeanlgaaDoorW.PrintLast
/-- What Print tells, as a string. -/
def strP (x : S25) : ByteArray := ⟨(printed x).toArray⟩
theorem print_strP (x : S25) (AD : Option Addr) (cD : Nat) (AX : Option Addr) (cX : Nat) (w : World) (hP : ProgC w x AD cD AX cX) (hT : Tab w) :
    Calls Tryd.prog 10 #[.agg #[.slice AD x.f0.length cD, .int .i64 x.f1, .string x.f2, .slice AX x.f3.length cX]] w fun e w' => e = .returned (.string (strP x)) ∧ Below w.heap.size w w' :=
  print_call x AD cD AX cX w hP hT (short_good x)
theorem strP_eq {x y : S25} (hx : goodPr x = true) (hy : goodPr y = true) : ((strP x).toList == (strP y).toList) = samePr x y := by
  have h := apart hx hy
  rw [Bool.eq_iff_iff, ← h, toList_bl, toList_bl]
  unfold strP
  simp [bl]
set_option maxRecDepth 100000 in
set_option maxHeartbeats 32000000 in
/-- The law. -/
theorem apart_true (x y : S25) (AD : Option Addr) (cD : Nat) (AX : Option Addr) (cX : Nat) (ED : Option Addr) (eD : Nat) (EX : Option Addr) (eX : Nat) (w : World) (hP : ProgC w x AD cD AX cX) (hQ : ProgC w y ED eD EX eX) (hT : Tab w) :
    Calls Tryd.prog 5 #[.agg #[.slice AD x.f0.length cD, .int .i64 x.f1, .string x.f2, .slice AX x.f3.length cX], .agg #[.slice ED y.f0.length eD, .int .i64 y.f1, .string y.f2, .slice EX y.f3.length eX]] w fun e w' => e = .returned (.bool true) ∧ Below w.heap.size w w' := by
  go_enter Tryd.func5, Tryd.ntmps5
  go_upto_region 1 with fail
  have s1 : (w.alloc (.cells #[.slice AD x.f0.length cD, .int .i64 x.f1, .string x.f2, .slice AX x.f3.length cX] 25)).heap.size = w.heap.size + 1 := by simp
  have Y2 := blk_new (w.alloc (.cells #[.slice AD x.f0.length cD, .int .i64 x.f1, .string x.f2, .slice AX x.f3.length cX] 25)) (.cells #[.slice ED y.f0.length eD, .int .i64 y.f1, .string y.f2, .slice EX y.f3.length eX] 25)
  have X2 := Lib.hid (blk_alloc (blk_new w (.cells #[.slice AD x.f0.length cD, .int .i64 x.f1, .string x.f2, .slice AX x.f3.length cX] 25)) (.cells #[.slice ED y.f0.length eD, .int .i64 y.f1, .string y.f2, .slice EX y.f3.length eX] 25))
  rw [s1] at Y2
  have Y2 := Lib.hid Y2
  have hal := below_alloc (below_alloc (Below.refl _ w) (.cells #[.slice AD x.f0.length cD, .int .i64 x.f1, .string x.f2, .slice AX x.f3.length cX] 25)) (.cells #[.slice ED y.f0.length eD, .int .i64 y.f1, .string y.f2, .slice EX y.f3.length eX] 25)
  have CP := Lib.hid (progC_below hP hal)
  have CQ := Lib.hid (progC_below hQ hal)
  have CT := Lib.hid (hT.below hal)
  have BL := Lib.hid hal
  clear s1 hal hP hQ hT
  generalize ((w.alloc (.cells #[.slice AD x.f0.length cD, .int .i64 x.f1, .string x.f2, .slice AX x.f3.length cX] 25)).alloc (.cells #[.slice ED y.f0.length eD, .int .i64 y.f1, .string y.f2, .slice EX y.f3.length eX] 25)) = w2 at *
  generalize hgx : w.heap.size = gx at *
  have BW := Lib.hid (show Below w.heap.size w w2 by rw [hgx]; exact BL.out)
  clear BL hgx
  have XS := Lib.hid (fun (W' : World) (h : Below w2.heap.size w2 W') => blk_below X2.out h)
  have YS := Lib.hid (fun (W' : World) (h : Below w2.heap.size w2 W') => blk_below Y2.out h)
  have PS := Lib.hid (fun (W' : World) (h : Below w2.heap.size w2 W') => progC_below CP.out h)
  have QS := Lib.hid (fun (W' : World) (h : Below w2.heap.size w2 W') => progC_below CQ.out h)
  have TS3 := Lib.hid (fun (W' : World) (h : Below w2.heap.size w2 W') => CT.out.below h)
  have B3 := Lib.hid (Below.refl w2.heap.size w2)
  clear X2 Y2 CP CQ CT
  have y0 := blk_cell (XS.out _ B3.out) 0
  have z0 := blk_cell (YS.out _ B3.out) 0
  have y1 := blk_cell (XS.out _ B3.out) 1
  have z1 := blk_cell (YS.out _ B3.out) 1
  have y2 := blk_cell (XS.out _ B3.out) 2
  have z2 := blk_cell (YS.out _ B3.out) 2
  have y3 := blk_cell (XS.out _ B3.out) 3
  have z3 := blk_cell (YS.out _ B3.out) 3
  go_upto_region 3 with (first
    | (go_at_call 6; first
      | ((with_reducible refine (light_call x AD cD AX cX _ (PS.out _ B3.out)).mono ?_); rintro e w3 ⟨rfl, hd⟩; have BN := Lib.hid (below_step B3.out hd); clear hd B3 y0 z0 y1 z1 y2 z2 y3 z3; have B3 := Lib.hid BN.out; clear BN; have y0 := blk_cell (XS.out _ B3.out) 0; have z0 := blk_cell (YS.out _ B3.out) 0; have y1 := blk_cell (XS.out _ B3.out) 1; have z1 := blk_cell (YS.out _ B3.out) 1; have y2 := blk_cell (XS.out _ B3.out) 2; have z2 := blk_cell (YS.out _ B3.out) 2; have y3 := blk_cell (XS.out _ B3.out) 3; have z3 := blk_cell (YS.out _ B3.out) 3; cases hlx : lightB x)
      | ((with_reducible refine (light_call y ED eD EX eX _ (QS.out _ B3.out)).mono ?_); rintro e w3 ⟨rfl, hd⟩; have BN := Lib.hid (below_step B3.out hd); clear hd B3 y0 z0 y1 z1 y2 z2 y3 z3; have B3 := Lib.hid BN.out; clear BN; have y0 := blk_cell (XS.out _ B3.out) 0; have z0 := blk_cell (YS.out _ B3.out) 0; have y1 := blk_cell (XS.out _ B3.out) 1; have z1 := blk_cell (YS.out _ B3.out) 1; have y2 := blk_cell (XS.out _ B3.out) 2; have z2 := blk_cell (YS.out _ B3.out) 2; have y3 := blk_cell (XS.out _ B3.out) 3; have z3 := blk_cell (YS.out _ B3.out) 3; cases hly : lightB y))
    | (go_at_call 8; first
      | ((with_reducible refine (good_call x AD cD AX cX _ (PS.out _ B3.out)).mono ?_); rintro e w3 ⟨rfl, hd⟩; have BN := Lib.hid (below_step B3.out hd); clear hd B3 y0 z0 y1 z1 y2 z2 y3 z3; have B3 := Lib.hid BN.out; clear BN; have y0 := blk_cell (XS.out _ B3.out) 0; have z0 := blk_cell (YS.out _ B3.out) 0; have y1 := blk_cell (XS.out _ B3.out) 1; have z1 := blk_cell (YS.out _ B3.out) 1; have y2 := blk_cell (XS.out _ B3.out) 2; have z2 := blk_cell (YS.out _ B3.out) 2; have y3 := blk_cell (XS.out _ B3.out) 3; have z3 := blk_cell (YS.out _ B3.out) 3; cases hgx : goodPr x)
      | ((with_reducible refine (good_call y ED eD EX eX _ (QS.out _ B3.out)).mono ?_); rintro e w3 ⟨rfl, hd⟩; have BN := Lib.hid (below_step B3.out hd); clear hd B3 y0 z0 y1 z1 y2 z2 y3 z3; have B3 := Lib.hid BN.out; clear BN; have y0 := blk_cell (XS.out _ B3.out) 0; have z0 := blk_cell (YS.out _ B3.out) 0; have y1 := blk_cell (XS.out _ B3.out) 1; have z1 := blk_cell (YS.out _ B3.out) 1; have y2 := blk_cell (XS.out _ B3.out) 2; have z2 := blk_cell (YS.out _ B3.out) 2; have y3 := blk_cell (XS.out _ B3.out) 3; have z3 := blk_cell (YS.out _ B3.out) 3; cases hgy : goodPr y))
    | (go_at_call 7; refine (lives_true _ (TS3.out _ B3.out)).mono ?_; rintro e w4 ⟨rfl, hd⟩; have B4 := Lib.hid (below_step B3.out hd); clear hd))
  all_goals try (go_ret; exact ⟨rfl, below_step BW.out B4.out⟩)
  obtain ⟨wp, hwp⟩ : ∃ wp, wp = w3 := ⟨_, rfl⟩
  subst hwp
  have K10 := Lib.hid (fun (W' : World) (h : Below w2.heap.size w2 W') => print_strP x AD cD AX cX W' (PS.out W' h) (TS3.out W' h))
  have K11 := Lib.hid (fun (W' : World) (h : Below w2.heap.size w2 W') => print_strP y ED eD EX eX W' (QS.out W' h) (TS3.out W' h))
  have K14 := Lib.hid (fun (W' : World) (h : Below w2.heap.size w2 W') => rsame_call x y AD cD AX cX ED eD EX eX W' (PS.out W' h) (QS.out W' h))
  have K7 := Lib.hid (fun (W' : World) (h : Below w2.heap.size w2 W') => lives_true W' (TS3.out W' h))
  have hss := strP_eq hgx hgy
  clear hgx hgy hlx hly y0 y1 y2 y3 z0 z1 z2 z3
  generalize samePr x y = sb at *
  generalize strP x = sx at *
  generalize strP y = sy at *
  have hgg : (sb == sb) = true := beq_self_eq_true _
  have BD := Lib.hid (below_step B3.out (Below.refl wp.heap.size wp).drew)
  refine start_ (n := 13) (S := fun w' => w'.cell? ⟨gx, 0, none⟩ = some (.slice AD x.f0.length cD) ∧ w'.cell? ⟨gx, 1, none⟩ = some (.int .i64 x.f1) ∧ w'.cell? ⟨gx, 2, none⟩ = some (.string x.f2) ∧ w'.cell? ⟨gx, 3, none⟩ = some (.slice AX x.f3.length cX) ∧ w'.cell? ⟨gx + 1, 0, none⟩ = some (.slice ED y.f0.length eD) ∧ w'.cell? ⟨gx + 1, 1, none⟩ = some (.int .i64 y.f1) ∧ w'.cell? ⟨gx + 1, 2, none⟩ = some (.string y.f2) ∧ w'.cell? ⟨gx + 1, 3, none⟩ = some (.slice EX y.f3.length eX)) (ds := []) #[false, false, false, false, false, false, false, false, false, false, false, false, false] (by kernel_rfl) rfl rfl ⟨(blk_cell (XS.out _ BD.out) 0), (blk_cell (XS.out _ BD.out) 1), (blk_cell (XS.out _ BD.out) 2), (blk_cell (XS.out _ BD.out) 3), (blk_cell (YS.out _ BD.out) 0), (blk_cell (YS.out _ BD.out) 1), (blk_cell (YS.out _ BD.out) 2), (blk_cell (YS.out _ BD.out) 3)⟩ (fun hHeld => ?_)
  generalize wp.drew = WD at *
  refine take_ (i := 0) (N := some 24) (v := ?_) (a' := ?_) #[true, false, false, false, false, false, false, false, false, false, false, false, false] rfl rfl (by kernel_rfl) (fun _ _ _ h => h) (Or.inl ⟨by rfl, ?_⟩) hHeld ?_ ?_
  rotate_left
  · rintro w' ⟨s0, s1, s2, s3, s4, s5, s6, s7⟩
    go_simp
    with_reducible rfl
  rotate_left
  · simp only [Act.put, List.setIfInBounds_toArray, List.set_cons_zero, List.set_cons_succ, i64_w, i32_w]
    rfl
  refine take_ (i := 2) (N := some 26) (v := ?_) (a' := ?_) #[true, false, true, false, false, false, false, false, false, false, false, false, false] rfl rfl (by kernel_rfl) (fun _ _ _ h => h) (Or.inl ⟨by rfl, ?_⟩) hHeld ?_ ?_
  rotate_left
  · rintro w' ⟨s0, s1, s2, s3, s4, s5, s6, s7⟩
    go_simp
    with_reducible rfl
  rotate_left
  · simp only [Act.put, List.setIfInBounds_toArray, List.set_cons_zero, List.set_cons_succ, i64_w, i32_w]
    rfl
  refine take_ (i := 5) (N := some 29) (v := ?_) (a' := ?_) #[true, false, true, false, false, true, false, false, false, false, false, false, false] rfl rfl (by kernel_rfl) (fun _ _ _ h => h) (Or.inl ⟨by rfl, ?_⟩) hHeld ?_ ?_
  rotate_left
  · rintro w' ⟨s0, s1, s2, s3, s4, s5, s6, s7⟩
    go_simp
    with_reducible rfl
  rotate_left
  · simp only [Act.put, List.setIfInBounds_toArray, List.set_cons_zero, List.set_cons_succ, i64_w, i32_w]
    rfl
  refine take_ (i := 6) (N := some 30) (v := ?_) (a' := ?_) #[true, false, true, false, false, true, true, false, false, false, false, false, false] rfl rfl (by kernel_rfl) (fun _ _ _ h => h) (Or.inl ⟨by rfl, ?_⟩) hHeld ?_ ?_
  rotate_left
  · rintro w' ⟨s0, s1, s2, s3, s4, s5, s6, s7⟩
    go_simp
    with_reducible rfl
  rotate_left
  · simp only [Act.put, List.setIfInBounds_toArray, List.set_cons_zero, List.set_cons_succ, i64_w, i32_w]
    rfl
  refine one_ (i := 1) (N := some 25) #[true, true, true, false, false, true, true, false, false, false, false, false, false] rfl rfl (by kernel_rfl) (by decide) (fun K hK => ?_)
  refine goes_ Tryd.func10 (by kernel_rfl) rfl #[.agg #[.slice AD x.f0.length cD, .int .i64 x.f1, .string x.f2, .slice AX x.f3.length cX]] (by rfl) rfl rfl (by simp only [List.map_toArray, List.map_cons, List.map_nil]; rfl) ?_
  with_reducible refine (K10.out _ BD.out).mono ?_
  rintro e w_Z1 ⟨rfl, hd⟩
  refine ⟨_, rfl, ?_⟩
  have Z1 := Lib.hid (below_step BD.out hd)
  clear hd
  refine hK.out _ _ ⟨(blk_cell (XS.out _ Z1.out) 0), (blk_cell (XS.out _ Z1.out) 1), (blk_cell (XS.out _ Z1.out) 2), (blk_cell (XS.out _ Z1.out) 3), (blk_cell (YS.out _ Z1.out) 0), (blk_cell (YS.out _ Z1.out) 1), (blk_cell (YS.out _ Z1.out) 2), (blk_cell (YS.out _ Z1.out) 3)⟩ (fun hHeld => ?_)
  clear hK K
  refine norm_ (a' := ?_) ?_ ?_
  rotate_left
  · show Act.put _ (some 25) _ = _
    simp only [Act.put, List.setIfInBounds_toArray, List.set_cons_zero, List.set_cons_succ, i64_w, i32_w]
    rfl
  refine one_ (i := 3) (N := some 27) #[true, true, true, true, false, true, true, false, false, false, false, false, false] rfl rfl (by kernel_rfl) (by decide) (fun K hK => ?_)
  refine goes_ Tryd.func10 (by kernel_rfl) rfl #[.agg #[.slice ED y.f0.length eD, .int .i64 y.f1, .string y.f2, .slice EX y.f3.length eX]] (by rfl) rfl rfl (by simp only [List.map_toArray, List.map_cons, List.map_nil]; rfl) ?_
  with_reducible refine (K11.out _ Z1.out).mono ?_
  rintro e w_Z2 ⟨rfl, hd⟩
  refine ⟨_, rfl, ?_⟩
  have Z2 := Lib.hid (below_step Z1.out hd)
  clear hd
  refine hK.out _ _ ⟨(blk_cell (XS.out _ Z2.out) 0), (blk_cell (XS.out _ Z2.out) 1), (blk_cell (XS.out _ Z2.out) 2), (blk_cell (XS.out _ Z2.out) 3), (blk_cell (YS.out _ Z2.out) 0), (blk_cell (YS.out _ Z2.out) 1), (blk_cell (YS.out _ Z2.out) 2), (blk_cell (YS.out _ Z2.out) 3)⟩ (fun hHeld => ?_)
  clear hK K
  refine norm_ (a' := ?_) ?_ ?_
  rotate_left
  · show Act.put _ (some 27) _ = _
    simp only [Act.put, List.setIfInBounds_toArray, List.set_cons_zero, List.set_cons_succ, i64_w, i32_w]
    rfl
  refine pure_ (i := 4) (N := some 28) (v := ?_) (a' := ?_) #[true, true, true, true, true, true, true, false, false, false, false, false, false] rfl rfl (by kernel_rfl) (fun _ _ _ h => h) (Or.inl ⟨by rfl, ?_⟩) ?_ ?_
  rotate_left
  · intro w'
    go_simp
    with_reducible rfl
  rotate_left
  · simp only [Act.put, List.setIfInBounds_toArray, List.set_cons_zero, List.set_cons_succ, i64_w, i32_w]
    rfl
  refine one_ (i := 7) (N := some 31) #[true, true, true, true, true, true, true, true, false, false, false, false, false] rfl rfl (by kernel_rfl) (by decide) (fun K hK => ?_)
  refine goes_ Tryd.func14 (by kernel_rfl) rfl #[.agg #[.slice AD x.f0.length cD, .int .i64 x.f1, .string x.f2, .slice AX x.f3.length cX], .agg #[.slice ED y.f0.length eD, .int .i64 y.f1, .string y.f2, .slice EX y.f3.length eX]] (by rfl) rfl rfl (by simp only [List.map_toArray, List.map_cons, List.map_nil]; rfl) ?_
  with_reducible refine (K14.out _ Z2.out).mono ?_
  rintro e w_Z3 ⟨rfl, hd⟩
  refine ⟨_, rfl, ?_⟩
  have Z3 := Lib.hid (below_step Z2.out hd)
  clear hd
  refine hK.out _ _ ⟨(blk_cell (XS.out _ Z3.out) 0), (blk_cell (XS.out _ Z3.out) 1), (blk_cell (XS.out _ Z3.out) 2), (blk_cell (XS.out _ Z3.out) 3), (blk_cell (YS.out _ Z3.out) 0), (blk_cell (YS.out _ Z3.out) 1), (blk_cell (YS.out _ Z3.out) 2), (blk_cell (YS.out _ Z3.out) 3)⟩ (fun hHeld => ?_)
  clear hK K
  refine norm_ (a' := ?_) ?_ ?_
  rotate_left
  · show Act.put _ (some 31) _ = _
    simp only [Act.put, List.setIfInBounds_toArray, List.set_cons_zero, List.set_cons_succ, i64_w, i32_w]
    rfl
  refine pure_ (i := 8) (N := some 32) (v := ?_) (a' := ?_) #[true, true, true, true, true, true, true, true, true, false, false, false, false] rfl rfl (by kernel_rfl) (fun _ _ _ h => h) (Or.inl ⟨by rfl, ?_⟩) ?_ ?_
  rotate_left
  · intro w'
    go_simp
    with_reducible rfl
  rotate_left
  · simp only [Act.put, List.setIfInBounds_toArray, List.set_cons_zero, List.set_cons_succ, i64_w, i32_w]
    rfl
  refine pure_ (i := 9) (N := some 33) (v := ?_) (a' := ?_) #[true, true, true, true, true, true, true, true, true, true, false, false, false] rfl rfl (by kernel_rfl) (fun _ _ _ h => h) (Or.inl ⟨by rfl, ?_⟩) ?_ ?_
  rotate_left
  · intro w'
    go_simp
    with_reducible rfl
  rotate_left
  · simp only [Act.put, List.setIfInBounds_toArray, List.set_cons_zero, List.set_cons_succ, i64_w, i32_w]
    rfl
  refine one_ (i := 10) (N := some 34) #[true, true, true, true, true, true, true, true, true, true, true, false, false] rfl rfl (by kernel_rfl) (by decide) (fun K hK => ?_)
  refine goes_ Tryd.func7 (by kernel_rfl) rfl #[] (by rfl) rfl rfl (by simp only [List.map_toArray, List.map_cons, List.map_nil]) ?_
  with_reducible refine (K7.out _ Z3.out).mono ?_
  rintro e w_Z4 ⟨rfl, hd⟩
  refine ⟨_, rfl, ?_⟩
  have Z4 := Lib.hid (below_step Z3.out hd)
  clear hd
  refine hK.out _ _ ⟨(blk_cell (XS.out _ Z4.out) 0), (blk_cell (XS.out _ Z4.out) 1), (blk_cell (XS.out _ Z4.out) 2), (blk_cell (XS.out _ Z4.out) 3), (blk_cell (YS.out _ Z4.out) 0), (blk_cell (YS.out _ Z4.out) 1), (blk_cell (YS.out _ Z4.out) 2), (blk_cell (YS.out _ Z4.out) 3)⟩ (fun hHeld => ?_)
  clear hK K
  refine norm_ (a' := ?_) ?_ ?_
  rotate_left
  · show Act.put _ (some 34) _ = _
    simp only [Act.put, List.setIfInBounds_toArray, List.set_cons_zero, List.set_cons_succ, i64_w, i32_w]
    rfl
  refine pure_ (i := 11) (N := some 35) (v := ?_) (a' := ?_) #[true, true, true, true, true, true, true, true, true, true, true, true, false] rfl rfl (by kernel_rfl) (fun _ _ _ h => h) (Or.inl ⟨by rfl, ?_⟩) ?_ ?_
  rotate_left
  · intro w'
    go_simp
    with_reducible rfl
  rotate_left
  · simp only [Act.put, List.setIfInBounds_toArray, List.set_cons_zero, List.set_cons_succ, i64_w, i32_w]
    rfl
  refine pure_ (i := 12) (N := some 4) (v := ?_) (a' := ?_) #[true, true, true, true, true, true, true, true, true, true, true, true, true] rfl rfl (by kernel_rfl) (fun _ _ _ h => h) (Or.inl ⟨by rfl, ?_⟩) ?_ ?_
  rotate_left
  · intro w'
    go_simp
    with_reducible rfl
  rotate_left
  · simp only [Act.put, List.setIfInBounds_toArray, List.set_cons_zero, List.set_cons_succ, i64_w, i32_w]
    rfl
  refine done_ (by kernel_rfl) ?_
  clear hHeld
  go_wp2
  go_ret
  exact ⟨rfl, below_step BW.out Z4.out⟩
end Go.Proofs.YtjboncbmeanlgaaDoor.Tr
