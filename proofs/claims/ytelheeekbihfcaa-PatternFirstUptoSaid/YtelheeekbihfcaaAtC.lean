/- The pattern's tests: the function that is called at each part. -/
import Derived.Test.YtelheeekbihfcaaOut
set_option linter.unusedVariables false
set_option linter.unusedSimpArgs false
namespace Go.Proofs.Ytelheeekbihfcaa.Pt
open Go.RowKit Go.Proofs Go.Proofs.Ytelheeekbihfcaa.PPatternFirst Go.Proofs.YtelheeekbihfcaaW.PrintWords Go.Proofs.YtelheeekbihfcaaW.PrintMore Go.Proofs.YtelheeekbihfcaaW.PrintLast

theorem lastOf_ge : ∀ (l : List ByteArray) (s : ByteArray), -1 ≤ lastOf l s
  | [], _ => by simp [lastOf]
  | x :: r, s => by
    have := lastOf_ge r s
    unfold lastOf
    split
    · split <;> omega
    · omega
theorem lastOf_snoc : ∀ (l : List ByteArray) (x s : ByteArray), lastOf (l ++ [x]) s = if x.toList = s.toList then (l.length : Int) else lastOf l s
  | [], x, s => by simp [lastOf]
  | y :: l, x, s => by
    have ih := lastOf_snoc l x s
    have hg := lastOf_ge l s
    rw [List.cons_append, lastOf, ih]
    by_cases h : x.toList = s.toList
    · simp only [if_pos h]
      rw [if_neg (by omega), List.length_cons]
      omega
    · simp only [if_neg h]
      rw [lastOf]
theorem place_go (l : List ByteArray) (s : ByteArray) (hl : l.length ≤ 1000000) : ∀ i : Nat, i ≤ l.length → pattern_place.l0 (i + 1) l s ((i : Int) - 1) = some (lastOf (l.take i) s)
  | 0, _ => by
    rw [pattern_place.l0, if_neg (by omega)]
    rfl
  | i + 1, hi => by
    have h1 := place_go l s hl i (by omega)
    have hlt : i < l.length := hi
    have e1 : ((i + 1 : Nat) : Int) - 1 = (i : Int) := by omega
    have e2 : wrap64 ((i : Int) - 1) = (i : Int) - 1 := by clear h1 e1; unfold wrap64; omega
    have e3 : rdOf ByteArray.empty l (i : Int) = l[i] := by
      unfold rdOf
      rw [Int.toNat_natCast, List.getD_eq_getElem?_getD, List.getElem?_eq_getElem hlt]
      rfl
    rw [pattern_place.l0, e1, if_pos (by omega), if_pos (by omega), if_pos (by omega), e3, List.take_succ_eq_append_getElem hlt, lastOf_snoc]
    by_cases h : l[i].toList = s.toList
    · rw [if_pos h, if_pos h, List.length_take, Nat.min_eq_left (by omega)]
    · rw [if_neg h, if_neg h, e2]
      exact h1
theorem place_f (l : List ByteArray) (s : ByteArray) (hl : l.length ≤ 1000000) : pattern_place.f (l.length + 1) l s = some (lastOf l s) := by
  have h := place_go l s hl l.length (Nat.le_refl _)
  rw [List.take_length] at h
  unfold pattern_place.f
  rw [show wrap64 ((l.length : Int) - 1) = (l.length : Int) - 1 by clear h; unfold wrap64; omega]
  exact h

set_option maxRecDepth 100000 in
set_option maxHeartbeats 8000000 in
theorem at_call (base go ga b' : Nat) (f0 f1 f2 : Int) (f3 : ByteArray) (args : List S53) (A4 : Option Addr) (c4 : Nat) (vp : Value) (path : List Int) (l : List S39) (at_ : List ByteArray) (Aa : Option Addr) (ca : Nat) (W : World)
    (hO : OutB base go W l) (hbase : base ≤ W.heap.size) (hgo : base ≤ go) (hga : W.heap[ga]? = some (.cells #[.slice Aa at_.length ca] 23 (0, 0))) (hCa : Kd.C Kd.string W Aa at_.length at_) (hca : at_.length ≤ ca) (hal : at_.length ≤ 1000000)
    (hp : Kd.R (Kd.int .i64) 3 W b' (fun _ => True) vp path) (hb : base ≤ b') (hl : l.length ≤ 1000000) :
    Calls Try.prog 26 #[.agg #[.int .i64 f0, .int .i64 f1, .int .i64 f2, .string f3, .slice A4 args.length c4], vp, .pointer (some ⟨go, 0, none⟩), .pointer (some ⟨ga, 0, none⟩)] W fun e W' => e = .returned (.tuple #[]) ∧ OutB base go W' (l ++ ownT at_ ⟨f0, f1, f2, f3, args⟩ path) ∧ KT base go W W' := by
  obtain ⟨v, hg, hr⟩ := hO
  obtain ⟨Ap, cp, rfl⟩ := Kd.R_slice hp
  have HPO := Lib.hid (path_ok hp hb hr)
  have hgne : go < W.heap.size := blk_lt hg
  have HR := Lib.hid hr
  have HG := Lib.hid hg
  have HGA := Lib.hid hga
  have HCA := Lib.hid hCa
  obtain ⟨Av, cv, rfl⟩ := Kd.R_slice hr
  clear hga hCa hp
  go_enter Try.func26, Try.ntmps26
  go_upto_region 1 with fail
  have X := blk_new W (.cells #[.int .i64 f0, .int .i64 f1, .int .i64 f2, .string f3, .slice A4 args.length c4] 53)
  have k0 := blk_cell X 0
  have k2 := blk_cell X 2
  have k3 := blk_cell X 3
  have k4 := blk_cell X 4
  have KA := Lib.hid (KT.alloc (KT.refl base go W) (.cells #[.int .i64 f0, .int .i64 f1, .int .i64 f2, .string f3, .slice A4 args.length c4] 53))
  have RA := Lib.hid (Kd.R_alloc hr (.cells #[.int .i64 f0, .int .i64 f1, .int .i64 f2, .string f3, .slice A4 args.length c4] 53))
  have PA := Lib.hid (Kd.R_alloc HPO.out (.cells #[.int .i64 f0, .int .i64 f1, .int .i64 f2, .string f3, .slice A4 args.length c4] 53))
  have GA := Lib.hid (blk_alloc hg (.cells #[.int .i64 f0, .int .i64 f1, .int .i64 f2, .string f3, .slice A4 args.length c4] 53))
  have GGA := Lib.hid (blk_alloc HGA.out (.cells #[.int .i64 f0, .int .i64 f1, .int .i64 f2, .string f3, .slice A4 args.length c4] 53))
  have CA := Lib.hid (Kd.C_alloc HCA.out (.cells #[.int .i64 f0, .int .i64 f1, .int .i64 f2, .string f3, .slice A4 args.length c4] 53))
  have BW := Lib.hid (KA.out.below hbase)
  have hbs : base ≤ (W.alloc (.cells #[.int .i64 f0, .int .i64 f1, .int .i64 f2, .string f3, .slice A4 args.length c4] 53)).heap.size := Nat.le_trans hbase KA.out.size
  generalize W.alloc (.cells #[.int .i64 f0, .int .i64 f1, .int .i64 f2, .string f3, .slice A4 args.length c4] 53) = WA at *
  generalize W.heap.size = gb at *
  have kg := blk_cell GA.out 0
  have ka := blk_cell GGA.out 0
  have XB0 := Lib.hid X
  clear X hr hg HR HG
  by_cases e2 : f0 = 2
  · subst e2
    go_wp2_with ((with_reducible refine gate_builtin (b := .append) (xs := #[.tmp 10, .tmp 17]) rfl ?_); at_builtin; refine Kd.R_append k39 (w0 := W) base (by rfl) (.tmp 10) (.tmp 17) 50 39 (.agg #[.slice none 0 0, .int .i64 0, .int .i64 0]) 40 rfl Try.underlying50 info39' rfl (by decide) (by decide) (.slice Av l.length cv) l (⟨path, 2, f2⟩ : S39) [.slice Ap path.length cp, .int .i64 2, .int .i64 f2] (fun _ => True) (fun k => some k ≠ (Value.slice Av l.length cv).ownBlock) (by go_simp) (by rfl) (k39_mkM _ _ _ (⟨path, 2, f2⟩ : S39) PA.out) (fun _ hk => ⟨trivial, hk⟩) (fun _ _ => trivial) RA.out BW.out hbs (by omega) ?_; intro v1 w1 hr1 hb1 hg1 hat1; obtain ⟨A1, c1, rfl⟩ := Kd.R_slice hr1; rw [List.length_append, List.length_singleton] at hr1; have HR1 := Lib.hid hr1; have X1 := Lib.hid (blk_grown GA.out hg1 (Kd.R_ne RA.out GA.out (by decide))); have HG1 := Lib.hid hg1; have kx := blk_cell X1.out 0; have kf := blk_frozen X1.out 0; clear hr1 hb1 hg1 hat1 kg)
    go_end0
    rw [show ownT at_ ⟨2, f1, f2, f3, args⟩ path = [⟨path, 2, f2⟩] from rfl]
    exact ⟨rfl, OutB.store GA.out RA.out HG1.out HR1.out, KA.out.trans (KT.store hgo RA.out HG1.out)⟩
  · have e2' : (f0 == 2) = false := by simpa using e2
    by_cases e3 : f0 = 3
    · subst e3
      go_upto_region 5 with fail
      have GD := Lib.hid (blk_drew GA.out)
      have XD := Lib.hid (blk_drew XB0.out)
      have AD := Lib.hid (blk_drew GGA.out)
      have RD := Lib.hid (Kd.R_drew RA.out)
      have PD := Lib.hid (Kd.R_drew PA.out)
      have CD := Lib.hid (Kd.C_drew CA.out)
      have BD := Lib.hid (below_drew1 BW.out)
      have KD := Lib.hid KA.out.drew
      have hbsE : base ≤ WA.drew.heap.size := hbs
      refine start_ (n := 12) (S := fun w' => w'.cell? ⟨go, 0, none⟩ = some (.slice Av l.length cv) ∧ w'.cell? ⟨gb, 0, none⟩ = some (.int .i64 3) ∧ w'.cell? ⟨gb, 3, none⟩ = some (.string f3) ∧ w'.cell? ⟨ga, 0, none⟩ = some (.slice Aa at_.length ca)) (ds := [11]) #[false, false, false, false, false, false, false, false, false, false, false, false] (by kernel_rfl) rfl rfl ⟨blk_cell (GD.out) 0, blk_cell (XD.out) 0, blk_cell (XD.out) 3, blk_cell (AD.out) 0⟩ (fun hHeld => ?_)
      refine pure_ (i := 1) (N := some 22) (v := ?_) (a' := ?_) #[false, true, false, false, false, false, false, false, false, false, false, false] rfl rfl (by kernel_rfl) (fun _ _ _ h => h) (Or.inl ⟨by rfl, ?_⟩) ?_ ?_
      rotate_left
      · intro w'
        go_simp
        with_reducible rfl
      rotate_left
      · simp only [Act.put, List.setIfInBounds_toArray, List.set_cons_zero, List.set_cons_succ, i64_w, i32_w]
        rfl
      refine pure_ (i := 2) (N := some 23) (v := ?_) (a' := ?_) #[false, true, true, false, false, false, false, false, false, false, false, false] rfl rfl (by kernel_rfl) (fun _ _ _ h => h) (Or.inl ⟨by rfl, ?_⟩) ?_ ?_
      rotate_left
      · intro w'
        go_simp
        with_reducible rfl
      rotate_left
      · simp only [Act.put, List.setIfInBounds_toArray, List.set_cons_zero, List.set_cons_succ, i64_w, i32_w]
        rfl
      refine pure_ (i := 5) (N := some 26) (v := ?_) (a' := ?_) #[false, true, true, false, false, true, false, false, false, false, false, false] rfl rfl (by kernel_rfl) (fun _ _ _ h => h) (Or.inl ⟨by rfl, ?_⟩) ?_ ?_
      rotate_left
      · intro w'
        go_simp
        with_reducible rfl
      rotate_left
      · simp only [Act.put, List.setIfInBounds_toArray, List.set_cons_zero, List.set_cons_succ, i64_w, i32_w]
        rfl
      refine take_ (i := 0) (N := some 21) (v := ?_) (a' := ?_) #[true, true, true, false, false, true, false, false, false, false, false, false] rfl rfl (by kernel_rfl) (fun _ _ _ h => h) (Or.inl ⟨by rfl, ?_⟩) hHeld ?_ ?_
      rotate_left
      · rintro w' ⟨s0, s1, s2, s3⟩
        go_simp
        with_reducible rfl
      rotate_left
      · simp only [Act.put, List.setIfInBounds_toArray, List.set_cons_zero, List.set_cons_succ, i64_w, i32_w]
        rfl
      refine take_ (i := 3) (N := some 24) (v := ?_) (a' := ?_) #[true, true, true, true, false, true, false, false, false, false, false, false] rfl rfl (by kernel_rfl) (fun _ _ _ h => h) (Or.inl ⟨by rfl, ?_⟩) hHeld ?_ ?_
      rotate_left
      · rintro w' ⟨s0, s1, s2, s3⟩
        go_simp
        with_reducible rfl
      rotate_left
      · simp only [Act.put, List.setIfInBounds_toArray, List.set_cons_zero, List.set_cons_succ, i64_w, i32_w]
        rfl
      refine take_ (i := 4) (N := some 25) (v := ?_) (a' := ?_) #[true, true, true, true, true, true, false, false, false, false, false, false] rfl rfl (by kernel_rfl) (fun _ _ _ h => h) (Or.inl ⟨by rfl, ?_⟩) hHeld ?_ ?_
      rotate_left
      · rintro w' ⟨s0, s1, s2, s3⟩
        go_simp
        with_reducible rfl
      rotate_left
      · simp only [Act.put, List.setIfInBounds_toArray, List.set_cons_zero, List.set_cons_succ, i64_w, i32_w]
        rfl
      refine take_ (i := 6) (N := some 27) (v := ?_) (a' := ?_) #[true, true, true, true, true, true, true, false, false, false, false, false] rfl rfl (by kernel_rfl) (fun _ _ _ h => h) (Or.inl ⟨by rfl, ?_⟩) hHeld ?_ ?_
      rotate_left
      · rintro w' ⟨s0, s1, s2, s3⟩
        go_simp
        with_reducible rfl
      rotate_left
      · simp only [Act.put, List.setIfInBounds_toArray, List.set_cons_zero, List.set_cons_succ, i64_w, i32_w]
        rfl
      refine one_ (i := 7) (N := some 28) #[true, true, true, true, true, true, true, true, false, false, false, false] rfl rfl (by kernel_rfl) (by decide) (fun K hK => ?_)
      refine goes_ Try.func27 (by kernel_rfl) rfl #[.slice Aa at_.length ca, .string f3] (by rfl) rfl rfl (by simp only [List.map_toArray, List.map_cons, List.map_nil]; rfl) ?_
      with_reducible refine (pattern_place.calls _ Aa ca at_ f3 (lastOf at_ f3) _ CD.out hca (place_f at_ f3 hal)).mono ?_
      rintro e w2 ⟨rfl, ⟨nd, rfl⟩⟩
      refine ⟨_, rfl, ?_⟩
      have GE := Lib.hid (blk_drewN GD.out nd)
      have XE := Lib.hid (blk_drewN XD.out nd)
      have AE := Lib.hid (blk_drewN AD.out nd)
      have RE := Lib.hid (Kd.R_drewN RD.out nd)
      have PE := Lib.hid (Kd.R_drewN PD.out nd)
      have BE := Lib.hid (pw_below_drewN BD.out nd)
      have KE := Lib.hid (KD.out.trans (KT.of_below (pw_below_drewN (Below.refl _ _) nd)))
      have hbsE2 : base ≤ (WA.drew.drewN nd).heap.size := hbsE
      generalize WA.drew.drewN nd = WE at *
      refine hK.out _ _ ⟨blk_cell (GE.out) 0, blk_cell (XE.out) 0, blk_cell (XE.out) 3, blk_cell (AE.out) 0⟩ (fun hHeld => ?_)
      clear hK K
      refine norm_ (a' := ?_) ?_ ?_
      rotate_left
      · show Act.put _ (some 28) _ = _
        simp only [Act.put, List.setIfInBounds_toArray, List.set_cons_zero, List.set_cons_succ, i64_w, i32_w]
        rfl
      refine pure_ (i := 8) (N := some 29) (v := ?_) (a' := ?_) #[true, true, true, true, true, true, true, true, true, false, false, false] rfl rfl (by kernel_rfl) (fun _ _ _ h => h) (Or.inl ⟨by rfl, ?_⟩) ?_ ?_
      rotate_left
      · intro w'
        go_simp
        with_reducible rfl
      rotate_left
      · simp only [Act.put, List.setIfInBounds_toArray, List.set_cons_zero, List.set_cons_succ, i64_w, i32_w]
        rfl
      refine one_ (i := 9) (N := some 30) #[true, true, true, true, true, true, true, true, true, true, false, false] rfl rfl (by kernel_rfl) (by decide) (fun K hK => ?_)
      refine value_ (w1 := ?_) (v := ?_) (by rfl) rfl ?_ ?_
      rotate_left 2
      · go_simp
        constructor
        · rfl
        · rfl
      refine hK.out _ _ ⟨blk_cell (blk_alloc GE.out _) 0, blk_cell (blk_alloc XE.out _) 0, blk_cell (blk_alloc XE.out _) 3, blk_cell (blk_alloc AE.out _) 0⟩ (fun hHeld => ?_)
      clear hK K
      refine norm_ (a' := ?_) ?_ ?_
      rotate_left
      · show Act.put _ (some 30) _ = _
        simp only [Act.put, List.setIfInBounds_toArray, List.set_cons_zero, List.set_cons_succ, i64_w, i32_w]
        rfl
      refine one_ (i := 10) (N := some 31) #[true, true, true, true, true, true, true, true, true, true, true, false] rfl rfl (by kernel_rfl) (by decide) (fun K hK => ?_)
      refine Kd.R_append_step k39 (w0 := W) base (by rfl) (.tmp 21) (.tmp 30) 50 39 (.agg #[.slice none 0 0, .int .i64 0, .int .i64 0]) 40 rfl Try.underlying50 info39' rfl (by decide) (by decide) (.slice Av l.length cv) l (⟨path, 3, lastOf at_ f3⟩ : S39) [.slice Ap path.length cp, .int .i64 3, .int .i64 (lastOf at_ f3)] (fun _ => True) (fun k => some k ≠ (Value.slice Av l.length cv).ownBlock) (by go_simp) (by rfl) (k39_mkM _ _ _ (⟨path, 3, lastOf at_ f3⟩ : S39) PE.out) (fun _ hk => ⟨trivial, hk⟩) (fun _ _ => trivial) RE.out BE.out hbsE2 (by omega) ?_
      intro v1 w1 hr1 hb1 hg1 hat1
      obtain ⟨A1, c1, rfl⟩ := Kd.R_slice hr1
      rw [List.length_append, List.length_singleton] at hr1
      have HR1 := Lib.hid hr1
      have HG1 := Lib.hid hg1
      have X1 := Lib.hid (blk_grown GE.out hg1 (Kd.R_ne RE.out GE.out (by decide)))
      have XB := Lib.hid (blk_grown XE.out hg1 (Kd.R_ne RE.out XE.out (by decide)))
      have XA := Lib.hid (blk_grown AE.out hg1 (Kd.R_ne RE.out AE.out (by decide)))
      have kx := blk_cell X1.out 0
      have kf := blk_frozen X1.out 0
      refine hK.out _ _ ⟨blk_cell (X1.out) 0, blk_cell (XB.out) 0, blk_cell (XB.out) 3, blk_cell (XA.out) 0⟩ (fun hHeld => ?_)
      clear hK K
      refine norm_ (a' := ?_) ?_ ?_
      rotate_left
      · show Act.put _ (some 31) _ = _
        simp only [Act.put, List.setIfInBounds_toArray, List.set_cons_zero, List.set_cons_succ, i64_w, i32_w]
        rfl
      refine last_ (i := 11) (N := none) #[true, true, true, true, true, true, true, true, true, true, true, true] rfl rfl (by kernel_rfl) (by decide) (fun K hK => ?_)
      refine skip_ (w1 := ?_) (by rfl) rfl ?_ ?_
      rotate_left
      · go_simp
        rfl
      refine hK.out _ _ ?_
      clear hK K
      refine done_ (by kernel_rfl) ?_
      clear hHeld
      go_wp2
      go_end0
      rw [show ownT at_ ⟨3, f1, f2, f3, args⟩ path = [⟨path, 3, lastOf at_ f3⟩] from rfl]
      exact ⟨rfl, OutB.store GE.out RE.out HG1.out HR1.out, KE.out.trans (KT.store hgo RE.out HG1.out)⟩
    · have e3' : (f0 == 3) = false := by simpa using e3
      by_cases e5 : f0 = 5
      · subst e5
        go_wp2_with ((with_reducible refine gate_builtin (b := .append) (xs := #[.tmp 34, .tmp 42]) rfl ?_); at_builtin; refine Kd.R_append k39 (w0 := W) base (by rfl) (.tmp 34) (.tmp 42) 50 39 (.agg #[.slice none 0 0, .int .i64 0, .int .i64 0]) 40 rfl Try.underlying50 info39' rfl (by decide) (by decide) (.slice Av l.length cv) l (⟨path, 5, (args.length : Int)⟩ : S39) [.slice Ap path.length cp, .int .i64 5, .int .i64 (args.length : Int)] (fun _ => True) (fun k => some k ≠ (Value.slice Av l.length cv).ownBlock) (by go_simp) (by rfl) (k39_mkM _ _ _ (⟨path, 5, (args.length : Int)⟩ : S39) PA.out) (fun _ hk => ⟨trivial, hk⟩) (fun _ _ => trivial) RA.out BW.out hbs (by omega) ?_; intro v1 w1 hr1 hb1 hg1 hat1; obtain ⟨A1, c1, rfl⟩ := Kd.R_slice hr1; rw [List.length_append, List.length_singleton] at hr1; have HR1 := Lib.hid hr1; have X1 := Lib.hid (blk_grown GA.out hg1 (Kd.R_ne RA.out GA.out (by decide))); have HG1 := Lib.hid hg1; have kx := blk_cell X1.out 0; have kf := blk_frozen X1.out 0; clear hr1 hb1 hg1 hat1 kg)
        go_end0
        rw [show ownT at_ ⟨5, f1, f2, f3, args⟩ path = [⟨path, 5, (args.length : Int)⟩] from rfl]
        exact ⟨rfl, OutB.store GA.out RA.out HG1.out HR1.out, KA.out.trans (KT.store hgo RA.out HG1.out)⟩
      · have e5' : (f0 == 5) = false := by simpa using e5
        go_wp2
        go_end0
        rw [show ownT at_ ⟨f0, f1, f2, f3, args⟩ path = [] by simp [ownT, e2, e3, e5], List.append_nil]
        exact ⟨rfl, ⟨_, GA.out, RA.out⟩, KA.out⟩
end Go.Proofs.Ytelheeekbihfcaa.Pt
