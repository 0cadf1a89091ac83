/- PlansW -/
import Derived.Test.YtelheeekbihfcaaRefB
/- The law PatternPlans, walked. -/
set_option linter.unusedVariables false
set_option linter.unusedSimpArgs false
namespace Go.Proofs.Ytelheeekbihfcaa.Pt
open Go.RowKit Go.Proofs Go.Proofs.Ytelheeekbihfcaa.PPatternFirst Go.Proofs.YtelheeekbihfcaaW.PrintWords Go.Proofs.YtelheeekbihfcaaW.PrintMore Go.Proofs.YtelheeekbihfcaaW.PrintLast
open Go.Proofs.Ytelheeekbihfcaa.PPatternPlans (S42 S44 k42 k44 rd_T42 rd_T44 k44_mk at_T44)
theorem info44' : (Try.prog.info? 44).map (fun i => (i.zero, i.size, i.bytes)) = some (some (.agg #[.slice none 0 0, .int .i64 0, .int .i64 0, .int .i64 0, .int .i64 0, .int .i64 0]), 6, 64) := by kernel_rfl
theorem go17_callsN (k : Nat) (AO : Option Addr) (cO : Nat) (ns : List S41) (fr : Int) (v : S27) (A2 : Option Addr) (c2 : Nat) (r : Int) (w : World) (hr0 : Kd.C k44 w AO ns.length (ns.map c44)) (hc0 : ns.length ≤ cO) (hr2 : Kd.C k27 w A2 v.f2.length v.f2) (hc2 : v.f2.length ≤ c2) (h : PPatternPlans.postbagref17_Go.f k (ns.map c44) fr v.f0 v.f1 v.f2 = some r) :
    Calls Try.prog 13 #[.slice AO ns.length cO, .int .i64 fr, .agg #[.int .i64 v.f0, .int .i64 v.f1, .slice A2 v.f2.length c2]] w fun e w' => e = .returned (.int .i64 r) ∧ Below w.heap.size w w' := by
  have hl : (ns.map c44).length = ns.length := List.length_map _
  have h1 := PPatternPlans.postbagref17_Go.calls k AO cO (ns.map c44) fr v.f0 v.f1 A2 c2 v.f2 r w (by rw [hl]; exact hr0) (by rw [hl]; exact hc0) hr2 hc2 h
  rw [hl] at h1
  exact h1
theorem ref_plan (at_ : List ByteArray) (hal : at_.length ≤ 1000000) (l : List S53) (hn : l.length ≤ 1000) (hnl : nodesL l ≤ 900000) (A0 : Option Addr) (c0 : Nat) (A1 : Option Addr) (c1 : Nat) (w : World) (hr0 : Kd.C k53 w A0 l.length l) (hc0 : l.length ≤ c0) (hr1 : Kd.C Kd.string w A1 at_.length at_) (hc1 : at_.length ≤ c1) :
    Calls Try.prog 9 #[.slice A0 l.length c0, .slice A1 at_.length c1] w fun e w' => ∃ A c Af cf, e = .returned (.tuple #[.slice A (planN at_ l).length c, .slice Af (firstsOf (allOf at_ l) 0).length cf]) ∧ (planN at_ l).length ≤ c ∧ Kd.C k44 w' A (planN at_ l).length ((planN at_ l).map c44) ∧ (firstsOf (allOf at_ l) 0).length ≤ cf ∧ Kd.C (Kd.int .i64) w' Af (firstsOf (allOf at_ l) 0).length (firstsOf (allOf at_ l) 0) ∧ Below w.heap.size w w' := by
  obtain ⟨K, e⟩ := plan17_f at_ hal l hn hnl
  refine (PPatternPlans.postbagref17_Plan.calls K A0 c0 l A1 c1 at_ _ _ w hr0 hc0 hr1 hc1 e).mono ?_
  rintro e w' ⟨v0, v1, rfl, h0, h1, hb⟩
  obtain ⟨A, c, rfl⟩ := Kd.V_slice (Kd.N_V (base' := 0) h0)
  obtain ⟨Af, cf, rfl⟩ := Kd.R_slice h1
  obtain ⟨_, q1, q2⟩ := Kd.V_reads' (base := 0) (e := 44) (Kd.N_V (base' := 0) h0)
  obtain ⟨_, q3, q4⟩ := Kd.R_reads' h1
  have hl : ((planN at_ l).map c44).length = (planN at_ l).length := List.length_map _
  rw [hl] at q1 q2
  exact ⟨A, c, Af, cf, by rw [hl], q1, q2, q3, q4, hb⟩
set_option maxRecDepth 100000 in
set_option maxHeartbeats 16000000 in
theorem plans_true (A0 : Option Addr) (l : List S53) (c0 : Nat) (A1 : Option Addr) (at_ : List ByteArray) (c1 : Nat) (A3 : Option Addr) (ns : List S41) (c3 : Nat) (fr : Int) (v : S27) (A2 : Option Addr) (c2 : Nat) (w : World)
    (hC : Kd.C k53 w A0 l.length l) (hc0 : l.length ≤ c0) (hCa : Kd.C Kd.string w A1 at_.length at_) (hc1 : at_.length ≤ c1) (hCn : Kd.C k41 w A3 ns.length ns) (hc3 : ns.length ≤ c3) (hCv : Kd.C k27 w A2 v.f2.length v.f2) (hc2 : v.f2.length ≤ c2) (hn : nodesL l ≤ 800000) (hv : nodesV v ≤ 1000000) :
    Calls Try.prog 3 #[.slice A0 l.length c0, .slice A1 at_.length c1, .slice A3 ns.length c3, .int .i64 fr, .agg #[.int .i64 v.f0, .int .i64 v.f1, .slice A2 v.f2.length c2]] w fun e w' => e = .returned (.bool true) ∧ Below w.heap.size w w' := by
  have HC := Lib.hid hC
  have HCA := Lib.hid hCa
  have HCN := Lib.hid hCn
  have HCV := Lib.hid hCv
  have hn1 : nodesL l ≤ 1000000 := by omega
  obtain ⟨k15, r15, e15⟩ := light15_tot v hv
  have E15 := Lib.hid e15
  clear hC hCa hCn hCv e15
  go_enter Try.func3, Try.ntmps3
  have hbl1 := below_alloc (Below.refl _ w) (.cells #[.int .i64 v.f0, .int .i64 v.f1, .slice A2 v.f2.length c2] 27)
  have XB := Lib.hid (blk_new w (.cells #[.int .i64 v.f0, .int .i64 v.f1, .slice A2 v.f2.length c2] 27))
  have B1 := Lib.hid hbl1
  clear hbl1
  go_upto_region 1 with fail
  generalize w.alloc (.cells #[.int .i64 v.f0, .int .i64 v.f1, .slice A2 v.f2.length c2] 27) = W1 at *
  generalize hgb : w.heap.size = gb at *
  have BW1 := Lib.hid (show Below w.heap.size w W1 by rw [hgb]; exact B1.out)
  have C1 := Lib.hid (Kd.C_below HC.out BW1.out)
  have CA1 := Lib.hid (Kd.C_below HCA.out BW1.out)
  have CV1 := Lib.hid (Kd.C_below HCV.out BW1.out)
  go_upto_region 3 with (first | (go_at_call 5; refine (light_ok A0 l c0 _ C1.out hc0 hn1).mono ?_; rintro e w2 ⟨b, rfl, h30, hd⟩; have B2 := Lib.hid (below_step BW1.out hd); have XB2 := Lib.hid (blk_below XB.out hd); have C2 := Lib.hid (Kd.C_below C1.out hd); have CA2 := Lib.hid (Kd.C_below CA1.out hd); have CV2 := Lib.hid (Kd.C_below CV1.out hd); clear hd; have j0 := blk_cell XB2.out 0; have j1 := blk_cell XB2.out 1; have j2 := blk_cell XB2.out 2; have hb : b = true ∧ l.length ≤ 30 ∨ b = false := (by cases b; exact Or.inr rfl; exact Or.inl ⟨rfl, h30 rfl⟩); clear h30; rcases hb with ⟨rfl, hl30⟩ | rfl) | (go_at_call 6; refine (postbaglaw15_Light.calls k15 (some ⟨w2.heap.size, 0, none⟩) 1 [v] r15 _ (C_one (d := k27) (blk_new w2 _) (k27_mk _ v hc2 (Kd.C_below CV2.out (below_alloc (Below.refl _ w2) _))) rfl) (Nat.le_refl 1) E15.out).mono ?_; rintro e w3 ⟨rfl, hd⟩; have hd2 := below_step (below_alloc (Below.refl _ w2) (.cells #[.int .i64 v.f0, .int .i64 v.f1, .slice A2 v.f2.length c2] 27)) hd; have B3 := Lib.hid (below_step B2.out hd2); have XB3 := Lib.hid (blk_below XB2.out hd2); have C3 := Lib.hid (Kd.C_below C2.out hd2); have CA3 := Lib.hid (Kd.C_below CA2.out hd2); have CV3 := Lib.hid (Kd.C_below CV2.out hd2); clear hd hd2; cases r15) | (go_at_call 7; refine (lives_true _).mono ?_; rintro e w9 ⟨rfl, hd9⟩; have HD9 := Lib.hid hd9; clear hd9))
  · go_ret
    exact ⟨rfl, below_step B3.out HD9.out⟩
  · go_ret
    exact ⟨rfl, below_step B3.out HD9.out⟩
  rotate_left
  · go_ret
    exact ⟨rfl, below_step B3.out HD9.out⟩
  · go_ret
    exact ⟨rfl, below_step B2.out HD9.out⟩
  rename_i hq1 hq2 _ _
  have ha50 : at_.length ≤ 50 := by omega
  have hn100 : ns.length ≤ 100 := by omega
  clear hq1 hq2
  clear j0 j1 j2 B1 XB C1 CA1 CV1 B2 XB2 C2 CA2 CV2 BW1 E15
  go_upto_region 4 with (go_at_call 8; refine (plan_one at_ A1 c1 A0 l c0 _ CA3.out hc1 (by omega) C3.out hc0 (by omega) (by omega)).mono ?_; rintro e w4 ⟨AN, cN, AF, cF, rfl, hcN, hCN, hcF, hCF, hd⟩; have B4 := Lib.hid (below_step B3.out hd); have XB4 := Lib.hid (blk_below XB3.out hd); have C4 := Lib.hid (Kd.C_below C3.out hd); have CA4 := Lib.hid (Kd.C_below CA3.out hd); have CV4 := Lib.hid (Kd.C_below CV3.out hd); have CN4 := Lib.hid hCN; have CF4 := Lib.hid hCF; have HcN := Lib.hid hcN; have HcF := Lib.hid hcF; clear hd hCN hCF hcN hcF)
  clear B3 XB3 C3 CA3 CV3
  go_upto_region 5 with (go_at_call 9; refine (ref_plan at_ (by omega) l (by omega) (by omega) A0 c0 A1 c1 _ C4.out hc0 CA4.out hc1).mono ?_; rintro e w5 ⟨AM, cM, AG, cG, rfl, hcM, hCM, hcG, hCG, hd⟩; have B5 := Lib.hid (below_step B4.out hd); have XB5 := Lib.hid (blk_below XB4.out hd); have CV5 := Lib.hid (Kd.C_below CV4.out hd); have CN5 := Lib.hid (Kd.C_below CN4.out hd); have CF5 := Lib.hid (Kd.C_below CF4.out hd); have CM5 := Lib.hid hCM; have CG5 := Lib.hid hCG; have HcM := Lib.hid hcM; have HcG := Lib.hid hcG; clear hd hCM hCG hcM hcG)
  clear B4 XB4 C4 CA4 CV4 CN4 CF4
  have hend := endOf_nodes at_ l
  have hpn : (planN at_ l).length = endOf (allOf at_ l) + 1 := by unfold planN; rw [show l.length = (allOf at_ l).length from by simp [allOf], nn_len]
  have hpl : (planN at_ l).length ≤ 900000 := by omega
  have hfl : (firstsOf (allOf at_ l) 0).length ≤ 30 := by rw [firstsOf_len]; simp [allOf]; omega
  have HINT := Lib.hid (show PPatternPlans.postbagref02_Ints.f ((firstsOf (allOf at_ l) 0).length + 1) (firstsOf (allOf at_ l) 0) (firstsOf (allOf at_ l) 0) = some true by rw [ints_f _ _ (by omega)]; simp)
  have HPP := Lib.hid (planN_path at_ l (by omega))
  clear hend hpn
  generalize planN at_ l = P at *
  generalize firstsOf (allOf at_ l) 0 = Fs at *
  go_upto_region 7 with (go_at_call 10; refine (PPatternPlans.postbagref02_Ints.calls _ AF cF Fs AG cG Fs true _ CF5.out HcF.out CG5.out HcG.out HINT.out).mono ?_; rintro e w6 ⟨rfl, hd0⟩; have hd := hd0.below; have B6 := Lib.hid (below_step B5.out hd); have XB6 := Lib.hid (blk_below XB5.out hd); have CV6 := Lib.hid (Kd.C_below CV5.out hd); have CN6 := Lib.hid (Kd.C_below CN5.out hd); have CM6 := Lib.hid (Kd.C_below CM5.out hd); clear hd hd0)
  clear B5 XB5 CV5 CN5 CF5 CM5 CG5
  go_wp2
  go_loopw [64] (fun v64 wr => ∃ i : Nat, v64 = .int .i64 i ∧ i ≤ P.length ∧ Hid (Below w6.heap.size w6 wr)) (fun v64 _ => P.length - (intOf v64).toNat)
  case atStart => exact ⟨0, by go_num, Nat.zero_le _, Lib.hid (Below.refl _ _)⟩
  case round =>
    obtain ⟨i, rfl, hil, HBR⟩ := hrel
    obtain ⟨wq, hwq⟩ : ∃ wq, wq = wr := ⟨_, rfl⟩
    subst hwq
    by_cases hlt : i < P.length
    · have q1 : (i : Int) < (P.length : Int) := by omega
      have q0 : (0 : Int) ≤ (i : Int) := by omega
      obtain ⟨ad1, AP, cP, hA1, a0, a1, a2, a3, a4, a5, hcP, hCP⟩ := at_T41 (Kd.C_below CN6.out HBR.out) (i : Int) q0 q1
      subst hA1
      obtain ⟨ad2, AR, cR, hA2, b0, b1, b2, b3, b4, b5, hcR, hCR⟩ := at_T44 (Kd.C_below CM6.out HBR.out) (i : Int) q0 q1
      subst hA2
      rw [rd44 P i q0 q1] at b0 b1 b2 b3 b4 b5 hcR hCR
      have hmem := rd41_mem P i q0 q1
      have hpth := HPP.out _ hmem
      rw [Int.toNat_natCast] at a0 a1 a2 a3 a4 a5 b0 b1 b2 b3 b4 b5
      generalize rd_T41 P i = nd at *
      change wq.cell? (ad2.add (i * 6)) = some (.slice AR nd.f0.f0.length cR) at b0
      change wq.cell? ⟨(ad2.add (i * 6)).block, (ad2.add (i * 6)).off + 1, none⟩ = some (.int .i64 nd.f0.f1) at b1
      change wq.cell? ⟨(ad2.add (i * 6)).block, (ad2.add (i * 6)).off + 2, none⟩ = some (.int .i64 nd.f0.f2) at b2
      change wq.cell? ⟨(ad2.add (i * 6)).block, (ad2.add (i * 6)).off + 3, none⟩ = some (.int .i64 nd.f1) at b3
      change wq.cell? ⟨(ad2.add (i * 6)).block, (ad2.add (i * 6)).off + 4, none⟩ = some (.int .i64 nd.f2) at b4
      change wq.cell? ⟨(ad2.add (i * 6)).block, (ad2.add (i * 6)).off + 5, none⟩ = some (.int .i64 nd.f3) at b5
      change nd.f0.f0.length ≤ cR at hcR
      change (Kd.int .i64).C wq AR nd.f0.f0.length nd.f0.f0 at hCR
      have HSM := Lib.hid (show PPatternPlans.postbagref17_SameTest.f (nd.f0.f0.length + 1) nd.f0.f0 nd.f0.f1 nd.f0.f2 nd.f0.f0 nd.f0.f1 nd.f0.f2 = some true by rw [same17_f nd.f0 nd.f0 (by omega), (sameT_iff nd.f0 nd.f0).2 rfl])
      have CPD := Lib.hid (Kd.C_drew hCP)
      have CRD := Lib.hid (Kd.C_drew hCR)
      have BD := Lib.hid (below_drew1 (below_step B6.out HBR.out))
      have RD := Lib.hid (below_drew1 HBR.out)
      clear hCP hCR hmem
      go_upto_region 10 with fail
      replace a0 : wq.drew.cell? (ad1.add (i * 6)) = some (.slice AP nd.f0.f0.length cP) := a0
      replace a1 : wq.drew.cell? ⟨(ad1.add (i * 6)).block, (ad1.add (i * 6)).off + 1, none⟩ = some (.int .i64 nd.f0.f1) := a1
      replace a2 : wq.drew.cell? ⟨(ad1.add (i * 6)).block, (ad1.add (i * 6)).off + 2, none⟩ = some (.int .i64 nd.f0.f2) := a2
      replace a3 : wq.drew.cell? ⟨(ad1.add (i * 6)).block, (ad1.add (i * 6)).off + 3, none⟩ = some (.int .i64 nd.f1) := a3
      replace a4 : wq.drew.cell? ⟨(ad1.add (i * 6)).block, (ad1.add (i * 6)).off + 4, none⟩ = some (.int .i64 nd.f2) := a4
      replace a5 : wq.drew.cell? ⟨(ad1.add (i * 6)).block, (ad1.add (i * 6)).off + 5, none⟩ = some (.int .i64 nd.f3) := a5
      replace b0 : wq.drew.cell? (ad2.add (i * 6)) = some (.slice AR nd.f0.f0.length cR) := b0
      replace b1 : wq.drew.cell? ⟨(ad2.add (i * 6)).block, (ad2.add (i * 6)).off + 1, none⟩ = some (.int .i64 nd.f0.f1) := b1
      replace b2 : wq.drew.cell? ⟨(ad2.add (i * 6)).block, (ad2.add (i * 6)).off + 2, none⟩ = some (.int .i64 nd.f0.f2) := b2
      replace b3 : wq.drew.cell? ⟨(ad2.add (i * 6)).block, (ad2.add (i * 6)).off + 3, none⟩ = some (.int .i64 nd.f1) := b3
      replace b4 : wq.drew.cell? ⟨(ad2.add (i * 6)).block, (ad2.add (i * 6)).off + 4, none⟩ = some (.int .i64 nd.f2) := b4
      replace b5 : wq.drew.cell? ⟨(ad2.add (i * 6)).block, (ad2.add (i * 6)).off + 5, none⟩ = some (.int .i64 nd.f3) := b5
      refine start_ (n := 51) (S := fun w' => w'.cell? (ad1.add (i * 6)) = some (.slice AP nd.f0.f0.length cP) ∧ w'.cell? ⟨(ad1.add (i * 6)).block, (ad1.add (i * 6)).off + 1, none⟩ = some (.int .i64 nd.f0.f1) ∧ w'.cell? ⟨(ad1.add (i * 6)).block, (ad1.add (i * 6)).off + 2, none⟩ = some (.int .i64 nd.f0.f2) ∧ w'.cell? ⟨(ad1.add (i * 6)).block, (ad1.add (i * 6)).off + 3, none⟩ = some (.int .i64 nd.f1) ∧ w'.cell? ⟨(ad1.add (i * 6)).block, (ad1.add (i * 6)).off + 4, none⟩ = some (.int .i64 nd.f2) ∧ w'.cell? ⟨(ad1.add (i * 6)).block, (ad1.add (i * 6)).off + 5, none⟩ = some (.int .i64 nd.f3) ∧ w'.cell? (ad2.add (i * 6)) = some (.slice AR nd.f0.f0.length cR) ∧ w'.cell? ⟨(ad2.add (i * 6)).block, (ad2.add (i * 6)).off + 1, none⟩ = some (.int .i64 nd.f0.f1) ∧ w'.cell? ⟨(ad2.add (i * 6)).block, (ad2.add (i * 6)).off + 2, none⟩ = some (.int .i64 nd.f0.f2) ∧ w'.cell? ⟨(ad2.add (i * 6)).block, (ad2.add (i * 6)).off + 3, none⟩ = some (.int .i64 nd.f1) ∧ w'.cell? ⟨(ad2.add (i * 6)).block, (ad2.add (i * 6)).off + 4, none⟩ = some (.int .i64 nd.f2) ∧ w'.cell? ⟨(ad2.add (i * 6)).block, (ad2.add (i * 6)).off + 5, none⟩ = some (.int .i64 nd.f3)) (ds := [48]) #[false, false, false, false, false, false, false, false, false, false, false, false, false, false, false, false, false, false, false, false, false, false, false, false, false, false, false, false, false, false, false, false, false, false, false, false, false, false, false, false, false, false, false, false, false, false, false, false, false, false, false] (by kernel_rfl) rfl rfl ⟨a0, a1, a2, a3, a4, a5, b0, b1, b2, b3, b4, b5⟩ (fun hHeld => ?_)
      generalize wq.drew = wd at *
      refine pure_ (i := 0) (N := some 67) (v := ?_) (a' := ?_) #[true, false, false, false, false, false, false, false, false, false, false, false, false, false, false, false, false, false, false, false, false, false, false, false, false, false, false, false, false, false, false, false, false, false, false, false, false, false, false, false, false, false, false, false, false, false, false, false, false, false, false] rfl rfl (by kernel_rfl) (fun _ _ _ h => h) (Or.inl ⟨by rfl, ?_⟩) ?_ ?_
      rotate_left
      · intro w'
        go_simp
        with_reducible rfl
      rotate_left
      · simp only [Act.put, List.setIfInBounds_toArray, List.set_cons_zero, List.set_cons_succ, i64_w, i32_w]
        rfl
      refine pure_ (i := 1) (N := some 68) (v := ?_) (a' := ?_) #[true, true, false, false, false, false, false, false, false, false, false, false, false, false, false, false, false, false, false, false, false, false, false, false, false, false, false, false, false, false, false, false, false, false, false, false, false, false, false, false, false, false, false, false, false, false, false, false, false, false, false] rfl rfl (by kernel_rfl) (fun _ _ _ h => h) (Or.inl ⟨by rfl, ?_⟩) ?_ ?_
      rotate_left
      · intro w'
        go_simp
        with_reducible rfl
      rotate_left
      · simp only [Act.put, List.setIfInBounds_toArray, List.set_cons_zero, List.set_cons_succ, i64_w, i32_w]
        rfl
      refine pure_ (i := 2) (N := some 69) (v := ?_) (a' := ?_) #[true, true, true, false, false, false, false, false, false, false, false, false, false, false, false, false, false, false, false, false, false, false, false, false, false, false, false, false, false, false, false, false, false, false, false, false, false, false, false, false, false, false, false, false, false, false, false, false, false, false, false] rfl rfl (by kernel_rfl) (fun _ _ _ h => h) (Or.inl ⟨by rfl, ?_⟩) ?_ ?_
      rotate_left
      · intro w'
        go_simp
        with_reducible rfl
      rotate_left
      · simp only [Act.put, List.setIfInBounds_toArray, List.set_cons_zero, List.set_cons_succ, i64_w, i32_w]
        rfl
      refine pure_ (i := 3) (N := some 70) (v := ?_) (a' := ?_) #[true, true, true, true, false, false, false, false, false, false, false, false, false, false, false, false, false, false, false, false, false, false, false, false, false, false, false, false, false, false, false, false, false, false, false, false, false, false, false, false, false, false, false, false, false, false, false, false, false, false, false] rfl rfl (by kernel_rfl) (fun _ _ _ h => h) (Or.inl ⟨by rfl, ?_⟩) ?_ ?_
      rotate_left
      · intro w'
        go_simp
        with_reducible rfl
      rotate_left
      · simp only [Act.put, List.setIfInBounds_toArray, List.set_cons_zero, List.set_cons_succ, i64_w, i32_w]
        rfl
      refine pure_ (i := 5) (N := some 72) (v := ?_) (a' := ?_) #[true, true, true, true, false, true, false, false, false, false, false, false, false, false, false, false, false, false, false, false, false, false, false, false, false, false, false, false, false, false, false, false, false, false, false, false, false, false, false, false, false, false, false, false, false, false, false, false, false, false, false] rfl rfl (by kernel_rfl) (fun _ _ _ h => h) (Or.inl ⟨by rfl, ?_⟩) ?_ ?_
      rotate_left
      · intro w'
        go_simp
        with_reducible rfl
      rotate_left
      · simp only [Act.put, List.setIfInBounds_toArray, List.set_cons_zero, List.set_cons_succ, i64_w, i32_w]
        rfl
      refine pure_ (i := 6) (N := some 73) (v := ?_) (a' := ?_) #[true, true, true, true, false, true, true, false, false, false, false, false, false, false, false, false, false, false, false, false, false, false, false, false, false, false, false, false, false, false, false, false, false, false, false, false, false, false, false, false, false, false, false, false, false, false, false, false, false, false, false] rfl rfl (by kernel_rfl) (fun _ _ _ h => h) (Or.inl ⟨by rfl, ?_⟩) ?_ ?_
      rotate_left
      · intro w'
        go_simp
        with_reducible rfl
      rotate_left
      · simp only [Act.put, List.setIfInBounds_toArray, List.set_cons_zero, List.set_cons_succ, i64_w, i32_w]
        rfl
      refine pure_ (i := 7) (N := some 74) (v := ?_) (a' := ?_) #[true, true, true, true, false, true, true, true, false, false, false, false, false, false, false, false, false, false, false, false, false, false, false, false, false, false, false, false, false, false, false, false, false, false, false, false, false, false, false, false, false, false, false, false, false, false, false, false, false, false, false] rfl rfl (by kernel_rfl) (fun _ _ _ h => h) (Or.inl ⟨by rfl, ?_⟩) ?_ ?_
      rotate_left
      · intro w'
        go_simp
        with_reducible rfl
      rotate_left
      · simp only [Act.put, List.setIfInBounds_toArray, List.set_cons_zero, List.set_cons_succ, i64_w, i32_w]
        rfl
      refine pure_ (i := 8) (N := some 75) (v := ?_) (a' := ?_) #[true, true, true, true, false, true, true, true, true, false, false, false, false, false, false, false, false, false, false, false, false, false, false, false, false, false, false, false, false, false, false, false, false, false, false, false, false, false, false, false, false, false, false, false, false, false, false, false, false, false, false] rfl rfl (by kernel_rfl) (fun _ _ _ h => h) (Or.inl ⟨by rfl, ?_⟩) ?_ ?_
      rotate_left
      · intro w'
        go_simp
        with_reducible rfl
      rotate_left
      · simp only [Act.put, List.setIfInBounds_toArray, List.set_cons_zero, List.set_cons_succ, i64_w, i32_w]
        rfl
      refine take_ (i := 4) (N := some 71) (v := ?_) (a' := ?_) #[true, true, true, true, true, true, true, true, true, false, false, false, false, false, false, false, false, false, false, false, false, false, false, false, false, false, false, false, false, false, false, false, false, false, false, false, false, false, false, false, false, false, false, false, false, false, false, false, false, false, false] rfl rfl (by kernel_rfl) (fun _ _ _ h => h) (Or.inl ⟨by rfl, ?_⟩) hHeld ?_ ?_
      rotate_left
      · rintro w' ⟨s0, s1, s2, s3, s4, s5, s6, s7, s8, s9, s10, s11⟩
        go_simp
        with_reducible rfl
      rotate_left
      · simp only [Act.put, List.setIfInBounds_toArray, List.set_cons_zero, List.set_cons_succ, i64_w, i32_w]
        rfl
      refine take_ (i := 9) (N := some 76) (v := ?_) (a' := ?_) #[true, true, true, true, true, true, true, true, true, true, false, false, false, false, false, false, false, false, false, false, false, false, false, false, false, false, false, false, false, false, false, false, false, false, false, false, false, false, false, false, false, false, false, false, false, false, false, false, false, false, false] rfl rfl (by kernel_rfl) (fun _ _ _ h => h) (Or.inl ⟨by rfl, ?_⟩) hHeld ?_ ?_
      rotate_left
      · rintro w' ⟨s0, s1, s2, s3, s4, s5, s6, s7, s8, s9, s10, s11⟩
        go_simp
        with_reducible rfl
      rotate_left
      · simp only [Act.put, List.setIfInBounds_toArray, List.set_cons_zero, List.set_cons_succ, i64_w, i32_w]
        rfl
      refine pure_ (i := 10) (N := some 77) (v := ?_) (a' := ?_) #[true, true, true, true, true, true, true, true, true, true, true, false, false, false, false, false, false, false, false, false, false, false, false, false, false, false, false, false, false, false, false, false, false, false, false, false, false, false, false, false, false, false, false, false, false, false, false, false, false, false, false] rfl rfl (by kernel_rfl) (fun _ _ _ h => h) (Or.inl ⟨by rfl, ?_⟩) ?_ ?_
      rotate_left
      · intro w'
        go_simp
        with_reducible rfl
      rotate_left
      · simp only [Act.put, List.setIfInBounds_toArray, List.set_cons_zero, List.set_cons_succ, i64_w, i32_w]
        rfl
      refine pure_ (i := 11) (N := some 78) (v := ?_) (a' := ?_) #[true, true, true, true, true, true, true, true, true, true, true, true, false, false, false, false, false, false, false, false, false, false, false, false, false, false, false, false, false, false, false, false, false, false, false, false, false, false, false, false, false, false, false, false, false, false, false, false, false, false, false] rfl rfl (by kernel_rfl) (fun _ _ _ h => h) (Or.inl ⟨by rfl, ?_⟩) ?_ ?_
      rotate_left
      · intro w'
        go_simp
        with_reducible rfl
      rotate_left
      · simp only [Act.put, List.setIfInBounds_toArray, List.set_cons_zero, List.set_cons_succ, i64_w, i32_w]
        rfl
      refine pure_ (i := 12) (N := some 79) (v := ?_) (a' := ?_) #[true, true, true, true, true, true, true, true, true, true, true, true, true, false, false, false, false, false, false, false, false, false, false, false, false, false, false, false, false, false, false, false, false, false, false, false, false, false, false, false, false, false, false, false, false, false, false, false, false, false, false] rfl rfl (by kernel_rfl) (fun _ _ _ h => h) (Or.inl ⟨by rfl, ?_⟩) ?_ ?_
      rotate_left
      · intro w'
        go_simp
        with_reducible rfl
      rotate_left
      · simp only [Act.put, List.setIfInBounds_toArray, List.set_cons_zero, List.set_cons_succ, i64_w, i32_w]
        rfl
      refine pure_ (i := 13) (N := some 80) (v := ?_) (a' := ?_) #[true, true, true, true, true, true, true, true, true, true, true, true, true, true, false, false, false, false, false, false, false, false, false, false, false, false, false, false, false, false, false, false, false, false, false, false, false, false, false, false, false, false, false, false, false, false, false, false, false, false, false] rfl rfl (by kernel_rfl) (fun _ _ _ h => h) (Or.inl ⟨by rfl, ?_⟩) ?_ ?_
      rotate_left
      · intro w'
        go_simp
        with_reducible rfl
      rotate_left
      · simp only [Act.put, List.setIfInBounds_toArray, List.set_cons_zero, List.set_cons_succ, i64_w, i32_w]
        rfl
      refine pure_ (i := 14) (N := some 81) (v := ?_) (a' := ?_) #[true, true, true, true, true, true, true, true, true, true, true, true, true, true, true, false, false, false, false, false, false, false, false, false, false, false, false, false, false, false, false, false, false, false, false, false, false, false, false, false, false, false, false, false, false, false, false, false, false, false, false] rfl rfl (by kernel_rfl) (fun _ _ _ h => h) (Or.inl ⟨by rfl, ?_⟩) ?_ ?_
      rotate_left
      · intro w'
        go_simp
        with_reducible rfl
      rotate_left
      · simp only [Act.put, List.setIfInBounds_toArray, List.set_cons_zero, List.set_cons_succ, i64_w, i32_w]
        rfl
      refine pure_ (i := 15) (N := some 82) (v := ?_) (a' := ?_) #[true, true, true, true, true, true, true, true, true, true, true, true, true, true, true, true, false, false, false, false, false, false, false, false, false, false, false, false, false, false, false, false, false, false, false, false, false, false, false, false, false, false, false, false, false, false, false, false, false, false, false] rfl rfl (by kernel_rfl) (fun _ _ _ h => h) (Or.inl ⟨by rfl, ?_⟩) ?_ ?_
      rotate_left
      · intro w'
        go_simp
        with_reducible rfl
      rotate_left
      · simp only [Act.put, List.setIfInBounds_toArray, List.set_cons_zero, List.set_cons_succ, i64_w, i32_w]
        rfl
      refine pure_ (i := 17) (N := some 84) (v := ?_) (a' := ?_) #[true, true, true, true, true, true, true, true, true, true, true, true, true, true, true, true, false, true, false, false, false, false, false, false, false, false, false, false, false, false, false, false, false, false, false, false, false, false, false, false, false, false, false, false, false, false, false, false, false, false, false] rfl rfl (by kernel_rfl) (fun _ _ _ h => h) (Or.inl ⟨by rfl, ?_⟩) ?_ ?_
      rotate_left
      · intro w'
        go_simp
        with_reducible rfl
      rotate_left
      · simp only [Act.put, List.setIfInBounds_toArray, List.set_cons_zero, List.set_cons_succ, i64_w, i32_w]
        rfl
      refine pure_ (i := 18) (N := some 85) (v := ?_) (a' := ?_) #[true, true, true, true, true, true, true, true, true, true, true, true, true, true, true, true, false, true, true, false, false, false, false, false, false, false, false, false, false, false, false, false, false, false, false, false, false, false, false, false, false, false, false, false, false, false, false, false, false, false, false] rfl rfl (by kernel_rfl) (fun _ _ _ h => h) (Or.inl ⟨by rfl, ?_⟩) ?_ ?_
      rotate_left
      · intro w'
        go_simp
        with_reducible rfl
      rotate_left
      · simp only [Act.put, List.setIfInBounds_toArray, List.set_cons_zero, List.set_cons_succ, i64_w, i32_w]
        rfl
      refine pure_ (i := 19) (N := some 86) (v := ?_) (a' := ?_) #[true, true, true, true, true, true, true, true, true, true, true, true, true, true, true, true, false, true, true, true, false, false, false, false, false, false, false, false, false, false, false, false, false, false, false, false, false, false, false, false, false, false, false, false, false, false, false, false, false, false, false] rfl rfl (by kernel_rfl) (fun _ _ _ h => h) (Or.inl ⟨by rfl, ?_⟩) ?_ ?_
      rotate_left
      · intro w'
        go_simp
        with_reducible rfl
      rotate_left
      · simp only [Act.put, List.setIfInBounds_toArray, List.set_cons_zero, List.set_cons_succ, i64_w, i32_w]
        rfl
      refine pure_ (i := 20) (N := some 87) (v := ?_) (a' := ?_) #[true, true, true, true, true, true, true, true, true, true, true, true, true, true, true, true, false, true, true, true, true, false, false, false, false, false, false, false, false, false, false, false, false, false, false, false, false, false, false, false, false, false, false, false, false, false, false, false, false, false, false] rfl rfl (by kernel_rfl) (fun _ _ _ h => h) (Or.inl ⟨by rfl, ?_⟩) ?_ ?_
      rotate_left
      · intro w'
        go_simp
        with_reducible rfl
      rotate_left
      · simp only [Act.put, List.setIfInBounds_toArray, List.set_cons_zero, List.set_cons_succ, i64_w, i32_w]
        rfl
      refine take_ (i := 16) (N := some 83) (v := ?_) (a' := ?_) #[true, true, true, true, true, true, true, true, true, true, true, true, true, true, true, true, true, true, true, true, true, false, false, false, false, false, false, false, false, false, false, false, false, false, false, false, false, false, false, false, false, false, false, false, false, false, false, false, false, false, false] rfl rfl (by kernel_rfl) (fun _ _ _ h => h) (Or.inl ⟨by rfl, ?_⟩) hHeld ?_ ?_
      rotate_left
      · rintro w' ⟨s0, s1, s2, s3, s4, s5, s6, s7, s8, s9, s10, s11⟩
        go_simp
        with_reducible rfl
      rotate_left
      · simp only [Act.put, List.setIfInBounds_toArray, List.set_cons_zero, List.set_cons_succ, i64_w, i32_w]
        rfl
      refine take_ (i := 21) (N := some 88) (v := ?_) (a' := ?_) #[true, true, true, true, true, true, true, true, true, true, true, true, true, true, true, true, true, true, true, true, true, true, false, false, false, false, false, false, false, false, false, false, false, false, false, false, false, false, false, false, false, false, false, false, false, false, false, false, false, false, false] rfl rfl (by kernel_rfl) (fun _ _ _ h => h) (Or.inl ⟨by rfl, ?_⟩) hHeld ?_ ?_
      rotate_left
      · rintro w' ⟨s0, s1, s2, s3, s4, s5, s6, s7, s8, s9, s10, s11⟩
        go_simp
        with_reducible rfl
      rotate_left
      · simp only [Act.put, List.setIfInBounds_toArray, List.set_cons_zero, List.set_cons_succ, i64_w, i32_w]
        rfl
      refine pure_ (i := 22) (N := some 89) (v := ?_) (a' := ?_) #[true, true, true, true, true, true, true, true, true, true, true, true, true, true, true, true, true, true, true, true, true, true, true, false, false, false, false, false, false, false, false, false, false, false, false, false, false, false, false, false, false, false, false, false, false, false, false, false, false, false, false] rfl rfl (by kernel_rfl) (fun _ _ _ h => h) (Or.inl ⟨by rfl, ?_⟩) ?_ ?_
      rotate_left
      · intro w'
        go_simp
        with_reducible rfl
      rotate_left
      · simp only [Act.put, List.setIfInBounds_toArray, List.set_cons_zero, List.set_cons_succ, i64_w, i32_w]
        rfl
      refine pure_ (i := 23) (N := some 90) (v := ?_) (a' := ?_) #[true, true, true, true, true, true, true, true, true, true, true, true, true, true, true, true, true, true, true, true, true, true, true, true, false, false, false, false, false, false, false, false, false, false, false, false, false, false, false, false, false, false, false, false, false, false, false, false, false, false, false] rfl rfl (by kernel_rfl) (fun _ _ _ h => h) (Or.inl ⟨by rfl, ?_⟩) ?_ ?_
      rotate_left
      · intro w'
        go_simp
        with_reducible rfl
      rotate_left
      · simp only [Act.put, List.setIfInBounds_toArray, List.set_cons_zero, List.set_cons_succ, i64_w, i32_w]
        rfl
      refine pure_ (i := 24) (N := some 91) (v := ?_) (a' := ?_) #[true, true, true, true, true, true, true, true, true, true, true, true, true, true, true, true, true, true, true, true, true, true, true, true, true, false, false, false, false, false, false, false, false, false, false, false, false, false, false, false, false, false, false, false, false, false, false, false, false, false, false] rfl rfl (by kernel_rfl) (fun _ _ _ h => h) (Or.inl ⟨by rfl, ?_⟩) ?_ ?_
      rotate_left
      · intro w'
        go_simp
        with_reducible rfl
      rotate_left
      · simp only [Act.put, List.setIfInBounds_toArray, List.set_cons_zero, List.set_cons_succ, i64_w, i32_w]
        rfl
      refine pure_ (i := 25) (N := some 92) (v := ?_) (a' := ?_) #[true, true, true, true, true, true, true, true, true, true, true, true, true, true, true, true, true, true, true, true, true, true, true, true, true, true, false, false, false, false, false, false, false, false, false, false, false, false, false, false, false, false, false, false, false, false, false, false, false, false, false] rfl rfl (by kernel_rfl) (fun _ _ _ h => h) (Or.inl ⟨by rfl, ?_⟩) ?_ ?_
      rotate_left
      · intro w'
        go_simp
        with_reducible rfl
      rotate_left
      · simp only [Act.put, List.setIfInBounds_toArray, List.set_cons_zero, List.set_cons_succ, i64_w, i32_w]
        rfl
      refine pure_ (i := 26) (N := some 93) (v := ?_) (a' := ?_) #[true, true, true, true, true, true, true, true, true, true, true, true, true, true, true, true, true, true, true, true, true, true, true, true, true, true, true, false, false, false, false, false, false, false, false, false, false, false, false, false, false, false, false, false, false, false, false, false, false, false, false] rfl rfl (by kernel_rfl) (fun _ _ _ h => h) (Or.inl ⟨by rfl, ?_⟩) ?_ ?_
      rotate_left
      · intro w'
        go_simp
        with_reducible rfl
      rotate_left
      · simp only [Act.put, List.setIfInBounds_toArray, List.set_cons_zero, List.set_cons_succ, i64_w, i32_w]
        rfl
      refine pure_ (i := 27) (N := some 94) (v := ?_) (a' := ?_) #[true, true, true, true, true, true, true, true, true, true, true, true, true, true, true, true, true, true, true, true, true, true, true, true, true, true, true, true, false, false, false, false, false, false, false, false, false, false, false, false, false, false, false, false, false, false, false, false, false, false, false] rfl rfl (by kernel_rfl) (fun _ _ _ h => h) (Or.inl ⟨by rfl, ?_⟩) ?_ ?_
      rotate_left
      · intro w'
        go_simp
        with_reducible rfl
      rotate_left
      · simp only [Act.put, List.setIfInBounds_toArray, List.set_cons_zero, List.set_cons_succ, i64_w, i32_w]
        rfl
      refine pure_ (i := 28) (N := some 95) (v := ?_) (a' := ?_) #[true, true, true, true, true, true, true, true, true, true, true, true, true, true, true, true, true, true, true, true, true, true, true, true, true, true, true, true, true, false, false, false, false, false, false, false, false, false, false, false, false, false, false, false, false, false, false, false, false, false, false] rfl rfl (by kernel_rfl) (fun _ _ _ h => h) (Or.inl ⟨by rfl, ?_⟩) ?_ ?_
      rotate_left
      · intro w'
        go_simp
        with_reducible rfl
      rotate_left
      · simp only [Act.put, List.setIfInBounds_toArray, List.set_cons_zero, List.set_cons_succ, i64_w, i32_w]
        rfl
      refine pure_ (i := 30) (N := some 97) (v := ?_) (a' := ?_) #[true, true, true, true, true, true, true, true, true, true, true, true, true, true, true, true, true, true, true, true, true, true, true, true, true, true, true, true, true, false, true, false, false, false, false, false, false, false, false, false, false, false, false, false, false, false, false, false, false, false, false] rfl rfl (by kernel_rfl) (fun _ _ _ h => h) (Or.inl ⟨by rfl, ?_⟩) ?_ ?_
      rotate_left
      · intro w'
        go_simp
        with_reducible rfl
      rotate_left
      · simp only [Act.put, List.setIfInBounds_toArray, List.set_cons_zero, List.set_cons_succ, i64_w, i32_w]
        rfl
      refine pure_ (i := 31) (N := some 98) (v := ?_) (a' := ?_) #[true, true, true, true, true, true, true, true, true, true, true, true, true, true, true, true, true, true, true, true, true, true, true, true, true, true, true, true, true, false, true, true, false, false, false, false, false, false, false, false, false, false, false, false, false, false, false, false, false, false, false] rfl rfl (by kernel_rfl) (fun _ _ _ h => h) (Or.inl ⟨by rfl, ?_⟩) ?_ ?_
      rotate_left
      · intro w'
        go_simp
        with_reducible rfl
      rotate_left
      · simp only [Act.put, List.setIfInBounds_toArray, List.set_cons_zero, List.set_cons_succ, i64_w, i32_w]
        rfl
      refine pure_ (i := 32) (N := some 99) (v := ?_) (a' := ?_) #[true, true, true, true, true, true, true, true, true, true, true, true, true, true, true, true, true, true, true, true, true, true, true, true, true, true, true, true, true, false, true, true, true, false, false, false, false, false, false, false, false, false, false, false, false, false, false, false, false, false, false] rfl rfl (by kernel_rfl) (fun _ _ _ h => h) (Or.inl ⟨by rfl, ?_⟩) ?_ ?_
      rotate_left
      · intro w'
        go_simp
        with_reducible rfl
      rotate_left
      · simp only [Act.put, List.setIfInBounds_toArray, List.set_cons_zero, List.set_cons_succ, i64_w, i32_w]
        rfl
      refine pure_ (i := 33) (N := some 100) (v := ?_) (a' := ?_) #[true, true, true, true, true, true, true, true, true, true, true, true, true, true, true, true, true, true, true, true, true, true, true, true, true, true, true, true, true, false, true, true, true, true, false, false, false, false, false, false, false, false, false, false, false, false, false, false, false, false, false] rfl rfl (by kernel_rfl) (fun _ _ _ h => h) (Or.inl ⟨by rfl, ?_⟩) ?_ ?_
      rotate_left
      · intro w'
        go_simp
        with_reducible rfl
      rotate_left
      · simp only [Act.put, List.setIfInBounds_toArray, List.set_cons_zero, List.set_cons_succ, i64_w, i32_w]
        rfl
      refine take_ (i := 29) (N := some 96) (v := ?_) (a' := ?_) #[true, true, true, true, true, true, true, true, true, true, true, true, true, true, true, true, true, true, true, true, true, true, true, true, true, true, true, true, true, true, true, true, true, true, false, false, false, false, false, false, false, false, false, false, false, false, false, false, false, false, false] rfl rfl (by kernel_rfl) (fun _ _ _ h => h) (Or.inl ⟨by rfl, ?_⟩) hHeld ?_ ?_
      rotate_left
      · rintro w' ⟨s0, s1, s2, s3, s4, s5, s6, s7, s8, s9, s10, s11⟩
        go_simp
        with_reducible rfl
      rotate_left
      · simp only [Act.put, List.setIfInBounds_toArray, List.set_cons_zero, List.set_cons_succ, i64_w, i32_w]
        rfl
      refine take_ (i := 34) (N := some 101) (v := ?_) (a' := ?_) #[true, true, true, true, true, true, true, true, true, true, true, true, true, true, true, true, true, true, true, true, true, true, true, true, true, true, true, true, true, true, true, true, true, true, true, false, false, false, false, false, false, false, false, false, false, false, false, false, false, false, false] rfl rfl (by kernel_rfl) (fun _ _ _ h => h) (Or.inl ⟨by rfl, ?_⟩) hHeld ?_ ?_
      rotate_left
      · rintro w' ⟨s0, s1, s2, s3, s4, s5, s6, s7, s8, s9, s10, s11⟩
        go_simp
        with_reducible rfl
      rotate_left
      · simp only [Act.put, List.setIfInBounds_toArray, List.set_cons_zero, List.set_cons_succ, i64_w, i32_w]
        rfl
      refine pure_ (i := 35) (N := some 102) (v := ?_) (a' := ?_) #[true, true, true, true, true, true, true, true, true, true, true, true, true, true, true, true, true, true, true, true, true, true, true, true, true, true, true, true, true, true, true, true, true, true, true, true, false, false, false, false, false, false, false, false, false, false, false, false, false, false, false] rfl rfl (by kernel_rfl) (fun _ _ _ h => h) (Or.inl ⟨by rfl, ?_⟩) ?_ ?_
      rotate_left
      · intro w'
        go_simp
        with_reducible rfl
      rotate_left
      · simp only [Act.put, List.setIfInBounds_toArray, List.set_cons_zero, List.set_cons_succ, i64_w, i32_w]
        rfl
      refine pure_ (i := 36) (N := some 103) (v := ?_) (a' := ?_) #[true, true, true, true, true, true, true, true, true, true, true, true, true, true, true, true, true, true, true, true, true, true, true, true, true, true, true, true, true, true, true, true, true, true, true, true, true, false, false, false, false, false, false, false, false, false, false, false, false, false, false] rfl rfl (by kernel_rfl) (fun _ _ _ h => h) (Or.inl ⟨by rfl, ?_⟩) ?_ ?_
      rotate_left
      · intro w'
        go_simp
        with_reducible rfl
      rotate_left
      · simp only [Act.put, List.setIfInBounds_toArray, List.set_cons_zero, List.set_cons_succ, i64_w, i32_w]
        rfl
      refine pure_ (i := 37) (N := some 104) (v := ?_) (a' := ?_) #[true, true, true, true, true, true, true, true, true, true, true, true, true, true, true, true, true, true, true, true, true, true, true, true, true, true, true, true, true, true, true, true, true, true, true, true, true, true, false, false, false, false, false, false, false, false, false, false, false, false, false] rfl rfl (by kernel_rfl) (fun _ _ _ h => h) (Or.inl ⟨by rfl, ?_⟩) ?_ ?_
      rotate_left
      · intro w'
        go_simp
        with_reducible rfl
      rotate_left
      · simp only [Act.put, List.setIfInBounds_toArray, List.set_cons_zero, List.set_cons_succ, i64_w, i32_w]
        rfl
      refine pure_ (i := 38) (N := some 105) (v := ?_) (a' := ?_) #[true, true, true, true, true, true, true, true, true, true, true, true, true, true, true, true, true, true, true, true, true, true, true, true, true, true, true, true, true, true, true, true, true, true, true, true, true, true, true, false, false, false, false, false, false, false, false, false, false, false, false] rfl rfl (by kernel_rfl) (fun _ _ _ h => h) (Or.inl ⟨by rfl, ?_⟩) ?_ ?_
      rotate_left
      · intro w'
        go_simp
        with_reducible rfl
      rotate_left
      · simp only [Act.put, List.setIfInBounds_toArray, List.set_cons_zero, List.set_cons_succ, i64_w, i32_w]
        rfl
      refine pure_ (i := 39) (N := some 106) (v := ?_) (a' := ?_) #[true, true, true, true, true, true, true, true, true, true, true, true, true, true, true, true, true, true, true, true, true, true, true, true, true, true, true, true, true, true, true, true, true, true, true, true, true, true, true, true, false, false, false, false, false, false, false, false, false, false, false] rfl rfl (by kernel_rfl) (fun _ _ _ h => h) (Or.inl ⟨by rfl, ?_⟩) ?_ ?_
      rotate_left
      · intro w'
        go_simp
        with_reducible rfl
      rotate_left
      · simp only [Act.put, List.setIfInBounds_toArray, List.set_cons_zero, List.set_cons_succ, i64_w, i32_w]
        rfl
      refine pure_ (i := 40) (N := some 107) (v := ?_) (a' := ?_) #[true, true, true, true, true, true, true, true, true, true, true, true, true, true, true, true, true, true, true, true, true, true, true, true, true, true, true, true, true, true, true, true, true, true, true, true, true, true, true, true, true, false, false, false, false, false, false, false, false, false, false] rfl rfl (by kernel_rfl) (fun _ _ _ h => h) (Or.inl ⟨by rfl, ?_⟩) ?_ ?_
      rotate_left
      · intro w'
        go_simp
        with_reducible rfl
      rotate_left
      · simp only [Act.put, List.setIfInBounds_toArray, List.set_cons_zero, List.set_cons_succ, i64_w, i32_w]
        rfl
      refine pure_ (i := 41) (N := some 108) (v := ?_) (a' := ?_) #[true, true, true, true, true, true, true, true, true, true, true, true, true, true, true, true, true, true, true, true, true, true, true, true, true, true, true, true, true, true, true, true, true, true, true, true, true, true, true, true, true, true, false, false, false, false, false, false, false, false, false] rfl rfl (by kernel_rfl) (fun _ _ _ h => h) (Or.inl ⟨by rfl, ?_⟩) ?_ ?_
      rotate_left
      · intro w'
        go_simp
        with_reducible rfl
      rotate_left
      · simp only [Act.put, List.setIfInBounds_toArray, List.set_cons_zero, List.set_cons_succ, i64_w, i32_w]
        rfl
      refine pure_ (i := 43) (N := some 110) (v := ?_) (a' := ?_) #[true, true, true, true, true, true, true, true, true, true, true, true, true, true, true, true, true, true, true, true, true, true, true, true, true, true, true, true, true, true, true, true, true, true, true, true, true, true, true, true, true, true, false, true, false, false, false, false, false, false, false] rfl rfl (by kernel_rfl) (fun _ _ _ h => h) (Or.inl ⟨by rfl, ?_⟩) ?_ ?_
      rotate_left
      · intro w'
        go_simp
        with_reducible rfl
      rotate_left
      · simp only [Act.put, List.setIfInBounds_toArray, List.set_cons_zero, List.set_cons_succ, i64_w, i32_w]
        rfl
      refine pure_ (i := 44) (N := some 111) (v := ?_) (a' := ?_) #[true, true, true, true, true, true, true, true, true, true, true, true, true, true, true, true, true, true, true, true, true, true, true, true, true, true, true, true, true, true, true, true, true, true, true, true, true, true, true, true, true, true, false, true, true, false, false, false, false, false, false] rfl rfl (by kernel_rfl) (fun _ _ _ h => h) (Or.inl ⟨by rfl, ?_⟩) ?_ ?_
      rotate_left
      · intro w'
        go_simp
        with_reducible rfl
      rotate_left
      · simp only [Act.put, List.setIfInBounds_toArray, List.set_cons_zero, List.set_cons_succ, i64_w, i32_w]
        rfl
      refine pure_ (i := 45) (N := some 112) (v := ?_) (a' := ?_) #[true, true, true, true, true, true, true, true, true, true, true, true, true, true, true, true, true, true, true, true, true, true, true, true, true, true, true, true, true, true, true, true, true, true, true, true, true, true, true, true, true, true, false, true, true, true, false, false, false, false, false] rfl rfl (by kernel_rfl) (fun _ _ _ h => h) (Or.inl ⟨by rfl, ?_⟩) ?_ ?_
      rotate_left
      · intro w'
        go_simp
        with_reducible rfl
      rotate_left
      · simp only [Act.put, List.setIfInBounds_toArray, List.set_cons_zero, List.set_cons_succ, i64_w, i32_w]
        rfl
      refine pure_ (i := 46) (N := some 113) (v := ?_) (a' := ?_) #[true, true, true, true, true, true, true, true, true, true, true, true, true, true, true, true, true, true, true, true, true, true, true, true, true, true, true, true, true, true, true, true, true, true, true, true, true, true, true, true, true, true, false, true, true, true, true, false, false, false, false] rfl rfl (by kernel_rfl) (fun _ _ _ h => h) (Or.inl ⟨by rfl, ?_⟩) ?_ ?_
      rotate_left
      · intro w'
        go_simp
        with_reducible rfl
      rotate_left
      · simp only [Act.put, List.setIfInBounds_toArray, List.set_cons_zero, List.set_cons_succ, i64_w, i32_w]
        rfl
      refine take_ (i := 42) (N := some 109) (v := ?_) (a' := ?_) #[true, true, true, true, true, true, true, true, true, true, true, true, true, true, true, true, true, true, true, true, true, true, true, true, true, true, true, true, true, true, true, true, true, true, true, true, true, true, true, true, true, true, true, true, true, true, true, false, false, false, false] rfl rfl (by kernel_rfl) (fun _ _ _ h => h) (Or.inl ⟨by rfl, ?_⟩) hHeld ?_ ?_
      rotate_left
      · rintro w' ⟨s0, s1, s2, s3, s4, s5, s6, s7, s8, s9, s10, s11⟩
        go_simp
        with_reducible rfl
      rotate_left
      · simp only [Act.put, List.setIfInBounds_toArray, List.set_cons_zero, List.set_cons_succ, i64_w, i32_w]
        rfl
      refine take_ (i := 47) (N := some 114) (v := ?_) (a' := ?_) #[true, true, true, true, true, true, true, true, true, true, true, true, true, true, true, true, true, true, true, true, true, true, true, true, true, true, true, true, true, true, true, true, true, true, true, true, true, true, true, true, true, true, true, true, true, true, true, true, false, false, false] rfl rfl (by kernel_rfl) (fun _ _ _ h => h) (Or.inl ⟨by rfl, ?_⟩) hHeld ?_ ?_
      rotate_left
      · rintro w' ⟨s0, s1, s2, s3, s4, s5, s6, s7, s8, s9, s10, s11⟩
        go_simp
        with_reducible rfl
      rotate_left
      · simp only [Act.put, List.setIfInBounds_toArray, List.set_cons_zero, List.set_cons_succ, i64_w, i32_w]
        rfl
      refine last_ (i := 48) (N := some 115) #[true, true, true, true, true, true, true, true, true, true, true, true, true, true, true, true, true, true, true, true, true, true, true, true, true, true, true, true, true, true, true, true, true, true, true, true, true, true, true, true, true, true, true, true, true, true, true, true, true, false, false] rfl rfl (by kernel_rfl) (by decide) (fun K hK => ?_)
      refine goes_ Try.func11 (by kernel_rfl) rfl #[.agg #[.slice AP nd.f0.f0.length cP, .int .i64 nd.f0.f1, .int .i64 nd.f0.f2], .agg #[.slice AR nd.f0.f0.length cR, .int .i64 nd.f0.f1, .int .i64 nd.f0.f2]] (by rfl) rfl rfl (by simp only [List.map_toArray, List.map_cons, List.map_nil]; rfl) ?_
      with_reducible refine (PPatternPlans.postbagref17_SameTest.calls _ AP cP nd.f0.f0 nd.f0.f1 nd.f0.f2 AR cR nd.f0.f0 nd.f0.f1 nd.f0.f2 true _ CPD.out hcP CRD.out hcR HSM.out).mono ?_
      rintro e w7 ⟨rfl, hd⟩
      refine ⟨_, rfl, ?_⟩
      have B7_ := hd
      refine hK.out _ _ ?_
      clear hK K
      refine norm_ (a' := ?_) ?_ ?_
      rotate_left
      · show Act.put _ (some 115) _ = _
        simp only [Act.put, List.setIfInBounds_toArray, List.set_cons_zero, List.set_cons_succ, i64_w, i32_w]
        rfl
      refine pure_ (i := 49) (N := some 116) (v := ?_) (a' := ?_) #[true, true, true, true, true, true, true, true, true, true, true, true, true, true, true, true, true, true, true, true, true, true, true, true, true, true, true, true, true, true, true, true, true, true, true, true, true, true, true, true, true, true, true, true, true, true, true, true, true, true, false] rfl rfl (by kernel_rfl) (fun _ _ _ h => h) (Or.inl ⟨by rfl, ?_⟩) ?_ ?_
      rotate_left
      · intro w'
        go_simp
        with_reducible rfl
      rotate_left
      · simp only [Act.put, List.setIfInBounds_toArray, List.set_cons_zero, List.set_cons_succ, i64_w, i32_w]
        rfl
      refine pure_ (i := 50) (N := some 117) (v := ?_) (a' := ?_) #[true, true, true, true, true, true, true, true, true, true, true, true, true, true, true, true, true, true, true, true, true, true, true, true, true, true, true, true, true, true, true, true, true, true, true, true, true, true, true, true, true, true, true, true, true, true, true, true, true, true, true] rfl rfl (by kernel_rfl) (fun _ _ _ h => h) (Or.inl ⟨by rfl, ?_⟩) ?_ ?_
      rotate_left
      · intro w'
        go_simp
        with_reducible rfl
      rotate_left
      · simp only [Act.put, List.setIfInBounds_toArray, List.set_cons_zero, List.set_cons_succ, i64_w, i32_w]
        rfl
      refine done_ (by kernel_rfl) ?_
      have R7 := Lib.hid (below_step RD.out B7_)
      go_wp2
      go_roundw
      case rel => exact ⟨i + 1, by go_num, hlt, R7⟩
      case measure => simp [intOf]; omega
    · obtain rfl : i = P.length := by omega
      go_wp2
      have BQ := Lib.hid (below_step B6.out HBR.out)
      have XBQ := Lib.hid (blk_below XB6.out HBR.out)
      clear CN6 CM6 HPP XB6 CV6
      go_loopw [121, 16] (fun v121 v16 wr => ∃ i : Nat, v121 = .int .i64 i ∧ i ≤ ns.length ∧ Hid (RowK k44 44 wq wr v16 ((ns.take i).map c44)) ∧ Hid (∀ x, x ∈ ns.take i → x.f0.f0.length ≤ 50) ∧ Hid (Below wq.heap.size wq wr)) (fun v121 _ _ => ns.length - (intOf v121).toNat)
      case atStart => exact ⟨0, by go_num, Nat.zero_le _, Lib.hid (RowK.nil _ _), Lib.hid (fun x hx => by simp at hx), Lib.hid (Below.refl _ _)⟩
      case round =>
        obtain ⟨i, rfl, hil, HR, HPI, HBI⟩ := hrel
        obtain ⟨wi, hwi⟩ : ∃ wi, wi = wr := ⟨_, rfl⟩
        subst hwi
        obtain ⟨Av, cv, hv⟩ := HR.out.slice
        subst hv
        rw [List.length_map, List.length_take, Nat.min_eq_left hil] at HR ⊢
        have BI := Lib.hid (below_step BQ.out HBI.out)
        by_cases hlt : i < ns.length
        · have q1 : (i : Int) < (ns.length : Int) := by omega
          have q0 : (0 : Int) ≤ (i : Int) := by omega
          obtain ⟨ad3, AP, cP, hA3, a0, a1, a2, a3, a4, a5, hcP, hCP⟩ := at_T41 HCN.out (i : Int) q0 q1
          subst hA3
          have hrd : rd_T41 ns (i : Int) = ns[i] := by
            unfold rd_T41
            rw [Int.toNat_natCast, List.getD_eq_getElem?_getD, List.getElem?_eq_getElem hlt]
            rfl
          rw [hrd, Int.toNat_natCast] at a0 a1 a2 a3 a4 a5
          rw [hrd] at hcP hCP
          replace a0 := (BI.out.cell (World.block_lt_of_cell? w _ a0)).trans a0
          replace a1 := (BI.out.cell (World.block_lt_of_cell? w _ a1)).trans a1
          replace a2 := (BI.out.cell (World.block_lt_of_cell? w _ a2)).trans a2
          replace a3 := (BI.out.cell (World.block_lt_of_cell? w _ a3)).trans a3
          replace a4 := (BI.out.cell (World.block_lt_of_cell? w _ a4)).trans a4
          replace a5 := (BI.out.cell (World.block_lt_of_cell? w _ a5)).trans a5
          have HTK := Lib.hid (show (ns.take (i + 1)).map c44 = (ns.take i).map c44 ++ [c44 ns[i]] by rw [List.take_succ_eq_append_getElem hlt, List.map_append]; rfl)
          have HTP := Lib.hid (show ns[i].f0.f0.length ≤ 50 → ∀ x, x ∈ ns.take (i + 1) → x.f0.f0.length ≤ 50 by
            intro h x hx
            rw [List.take_succ_eq_append_getElem hlt] at hx
            rcases List.mem_append.1 hx with hx | hx
            · exact HPI.out x hx
            · rw [List.mem_singleton.1 hx]; exact h)
          have HCP := Lib.hid hCP
          generalize ns[i] = nd at *
          clear hrd hCP
          go_upto_region 17 with fail
          have hal := below_alloc (Below.refl _ wi) (.cells #[.slice AP nd.f0.f0.length cP, .int .i64 nd.f0.f1, .int .i64 nd.f0.f2, .int .i64 nd.f1, .int .i64 nd.f2, .int .i64 nd.f3] 41)
          have XN := Lib.hid (blk_new wi (.cells #[.slice AP nd.f0.f0.length cP, .int .i64 nd.f0.f1, .int .i64 nd.f0.f2, .int .i64 nd.f1, .int .i64 nd.f2, .int .i64 nd.f3] 41))
          have RN := Lib.hid (HR.out.below hal)
          have BN := Lib.hid (below_step BI.out hal)
          have WN := Lib.hid (below_step HBI.out hal)
          clear hal a0 a1 a2 a3 a4 a5
          generalize wi.alloc (.cells #[.slice AP nd.f0.f0.length cP, .int .i64 nd.f0.f1, .int .i64 nd.f0.f2, .int .i64 nd.f1, .int .i64 nd.f2, .int .i64 nd.f3] 41) = wn at *
          generalize wi.heap.size = gn at *
          have y0 := blk_cell XN.out 0
          have y1 := blk_cell XN.out 1
          have y2 := blk_cell XN.out 2
          have y3 := blk_cell XN.out 3
          have y4 := blk_cell XN.out 4
          have y5 := blk_cell XN.out 5
          obtain ⟨cells, own, rep⟩ := RN.out
          rw [List.length_map, List.length_take, Nat.min_eq_left hil] at own
          have hbE : wq.heap.size ≤ wn.heap.size := WN.out.size
          have HCPQ := Lib.hid (Kd.C_below HCP.out BQ.out)
          have hnl : (i + 1) * 64 ≤ 140737488355328 := by omega
          by_cases h50 : (50 : Int) < (nd.f0.f0.length : Int)
          · go_wp2_with (go_at_call 7; refine (lives_true _).mono ?_; rintro e w9 ⟨rfl, hd9⟩; have HD9 := Lib.hid hd9; clear hd9)
            go_ret
            exact ⟨rfl, below_step BN.out HD9.out⟩
          · have h50' : decide ((50 : Int) < (nd.f0.f0.length : Int)) = false := decide_eq_false h50
            have hnd := HTP.out (by omega)
            have HND := Lib.hid hnd
            clear hnd
            go_wp2_with ((with_reducible refine gate_builtin (b := .append) (xs := #[.tmp 131, .tmp 141]) rfl ?_); at_builtin; refine print_append_cells (w0 := wq) wq.heap.size (by rfl) (.tmp 131) (.tmp 141) 34 44 (.agg #[.slice none 0 0, .int .i64 0, .int .i64 0, .int .i64 0, .int .i64 0, .int .i64 0]) 6 64 rfl Try.underlying34 info44' rfl (by decide) (by decide) (.slice Av i cv) i cells [.slice AP nd.f0.f0.length cP, .int .i64 nd.f0.f1, .int .i64 nd.f0.f2, .int .i64 nd.f1, .int .i64 nd.f2, .int .i64 nd.f3] (by go_simp) (by rfl) rfl (by intro u hu; simp only [List.mem_cons, List.not_mem_nil, or_false] at hu; rcases hu with rfl | rfl | rfl | rfl | rfl | rfl <;> rfl) own WN.out hbE hnl ?_; intro v1 w7 ho hb hgr hat; have O7 := Lib.hid ho; have B7 := Lib.hid hb; clear ho hb hgr hat)
            have NN := Lib.hid (RowK.snoc (k := k44) (t := 44) (xs := (ns.take i).map c44) (x := c44 nd) (by rw [List.length_map, List.length_take, Nat.min_eq_left hil]; exact O7.out) rep (k44_mk wq (c44 nd) hcP HCPQ.out) rfl)
            rw [← HTK.out] at NN
            go_roundw
            case rel => exact ⟨i + 1, by go_num, hlt, NN, HND, B7⟩
            case measure => simp [intOf]; omega
        · obtain rfl : i = ns.length := by omega
          have hpth := HPI.out
          rw [List.take_length] at hpth
          have hr2 := HR.out
          rw [List.take_length] at hr2
          obtain ⟨hle, hcO0, hCO⟩ := hr2.reads HBI.out
          clear hle
          rw [List.length_map] at hCO
          obtain ⟨kg, hg⟩ := go_f ns v fr (by omega) (fun x hx => by have := hpth x hx; omega)
          obtain ⟨kr, hg2⟩ := go17_f ns v fr (by omega) (fun x hx => by have := hpth x hx; omega)
          generalize goV ns v (ns.length + 1) fr = rg at *
          have HGO := Lib.hid hg
          have HGR := Lib.hid hg2
          have hcO : ns.length ≤ cv := hcO0
          have XD := Lib.hid (blk_drew (blk_below XBQ.out HBI.out))
          have BD := Lib.hid (below_drew1 BI.out)
          have CND := Lib.hid (Kd.C_drew (Kd.C_below HCN.out BI.out))
          have CVD := Lib.hid (Kd.C_drew (Kd.C_below HCV.out BI.out))
          have COD := Lib.hid (Kd.C_drew hCO)
          clear hg hg2 hr2 hCO hpth hcO0
          go_wp2
          refine start_ (n := 13) (S := fun w' => w'.cell? ⟨gb, 0, none⟩ = some (.int .i64 v.f0) ∧ w'.cell? ⟨gb, 1, none⟩ = some (.int .i64 v.f1) ∧ w'.cell? ⟨gb, 2, none⟩ = some (.slice A2 v.f2.length c2)) (ds := [7, 10]) #[false, false, false, false, false, false, false, false, false, false, false, false, false] (by kernel_rfl) rfl rfl ⟨blk_cell XD.out 0, blk_cell XD.out 1, blk_cell XD.out 2⟩ (fun hHeld => ?_)
          generalize wi.drew = wd at *
          refine pure_ (i := 0) (N := some 144) (v := ?_) (a' := ?_) #[true, false, false, false, false, false, false, false, false, false, false, false, false] rfl rfl (by kernel_rfl) (fun _ _ _ h => h) (Or.inl ⟨by rfl, ?_⟩) ?_ ?_
          rotate_left
          · intro w'
            go_simp
            with_reducible rfl
          rotate_left
          · simp only [Act.put, List.setIfInBounds_toArray, List.set_cons_zero, List.set_cons_succ, i64_w, i32_w]
            rfl
          refine pure_ (i := 1) (N := some 145) (v := ?_) (a' := ?_) #[true, true, false, false, false, false, false, false, false, false, false, false, false] rfl rfl (by kernel_rfl) (fun _ _ _ h => h) (Or.inl ⟨by rfl, ?_⟩) ?_ ?_
          rotate_left
          · intro w'
            go_simp
            with_reducible rfl
          rotate_left
          · simp only [Act.put, List.setIfInBounds_toArray, List.set_cons_zero, List.set_cons_succ, i64_w, i32_w]
            rfl
          refine pure_ (i := 4) (N := some 148) (v := ?_) (a' := ?_) #[true, true, false, false, true, false, false, false, false, false, false, false, false] rfl rfl (by kernel_rfl) (fun _ _ _ h => h) (Or.inl ⟨by rfl, ?_⟩) ?_ ?_
          rotate_left
          · intro w'
            go_simp
            with_reducible rfl
          rotate_left
          · simp only [Act.put, List.setIfInBounds_toArray, List.set_cons_zero, List.set_cons_succ, i64_w, i32_w]
            rfl
          refine pure_ (i := 5) (N := some 149) (v := ?_) (a' := ?_) #[true, true, false, false, true, true, false, false, false, false, false, false, false] rfl rfl (by kernel_rfl) (fun _ _ _ h => h) (Or.inl ⟨by rfl, ?_⟩) ?_ ?_
          rotate_left
          · intro w'
            go_simp
            with_reducible rfl
          rotate_left
          · simp only [Act.put, List.setIfInBounds_toArray, List.set_cons_zero, List.set_cons_succ, i64_w, i32_w]
            rfl
          refine take_ (i := 2) (N := some 146) (v := ?_) (a' := ?_) #[true, true, true, false, true, true, false, false, false, false, false, false, false] rfl rfl (by kernel_rfl) (fun _ _ _ h => h) (Or.inl ⟨by rfl, ?_⟩) hHeld ?_ ?_
          rotate_left
          · rintro w' ⟨s0, s1, s2⟩
            go_simp
            with_reducible rfl
          rotate_left
          · simp only [Act.put, List.setIfInBounds_toArray, List.set_cons_zero, List.set_cons_succ, i64_w, i32_w]
            rfl
          refine take_ (i := 6) (N := some 150) (v := ?_) (a' := ?_) #[true, true, true, false, true, true, true, false, false, false, false, false, false] rfl rfl (by kernel_rfl) (fun _ _ _ h => h) (Or.inl ⟨by rfl, ?_⟩) hHeld ?_ ?_
          rotate_left
          · rintro w' ⟨s0, s1, s2⟩
            go_simp
            with_reducible rfl
          rotate_left
          · simp only [Act.put, List.setIfInBounds_toArray, List.set_cons_zero, List.set_cons_succ, i64_w, i32_w]
            rfl
          refine one_ (i := 3) (N := some 147) #[true, true, true, true, true, true, true, false, false, false, false, false, false] rfl rfl (by kernel_rfl) (by decide) (fun K hK => ?_)
          refine goes_ Try.func12 (by kernel_rfl) rfl #[.slice A3 ns.length c3, .int .i64 fr, .agg #[.int .i64 v.f0, .int .i64 v.f1, .slice A2 v.f2.length c2]] (by rfl) rfl rfl (by simp only [List.map_toArray, List.map_cons, List.map_nil]; rfl) ?_
          with_reducible refine (pattern_Go.calls kg A3 c3 ns fr v.f0 v.f1 A2 c2 v.f2 rg _ CND.out hc3 CVD.out hc2 HGO.out).mono ?_
          rintro e w7 ⟨rfl, hd⟩
          refine ⟨_, rfl, ?_⟩
          have XE := Lib.hid (blk_below XD.out hd)
          have BE := Lib.hid (below_step BD.out hd)
          have CVE := Lib.hid (Kd.C_below CVD.out hd)
          have COE := Lib.hid (Kd.C_below COD.out hd)
          refine hK.out _ _ ⟨blk_cell XE.out 0, blk_cell XE.out 1, blk_cell XE.out 2⟩ (fun hHeld => ?_)
          clear hK K
          refine norm_ (a' := ?_) ?_ ?_
          rotate_left
          · show Act.put _ (some 147) _ = _
            simp only [Act.put, List.setIfInBounds_toArray, List.set_cons_zero, List.set_cons_succ, i64_w, i32_w]
            rfl
          refine last_ (i := 7) (N := some 151) #[true, true, true, true, true, true, true, true, false, false, false, false, false] rfl rfl (by kernel_rfl) (by decide) (fun K hK => ?_)
          refine goes_ Try.func13 (by kernel_rfl) rfl #[.slice Av ns.length cv, .int .i64 fr, .agg #[.int .i64 v.f0, .int .i64 v.f1, .slice A2 v.f2.length c2]] (by rfl) rfl rfl (by simp only [List.map_toArray, List.map_cons, List.map_nil]; rfl) ?_
          with_reducible refine (go17_callsN kr Av cv ns fr v A2 c2 rg _ COE.out hcO CVE.out hc2 HGR.out).mono ?_
          rintro e w8 ⟨rfl, hd8⟩
          refine ⟨_, rfl, ?_⟩
          have BF := Lib.hid (below_step BE.out hd8)
          refine hK.out _ _ ?_
          clear hK K
          refine norm_ (a' := ?_) ?_ ?_
          rotate_left
          · show Act.put _ (some 151) _ = _
            simp only [Act.put, List.setIfInBounds_toArray, List.set_cons_zero, List.set_cons_succ, i64_w, i32_w]
            rfl
          refine pure_ (i := 8) (N := some 152) (v := ?_) (a' := ?_) #[true, true, true, true, true, true, true, true, true, false, false, false, false] rfl rfl (by kernel_rfl) (fun _ _ _ h => h) (Or.inl ⟨by rfl, ?_⟩) ?_ ?_
          rotate_left
          · intro w'
            go_simp
            with_reducible rfl
          rotate_left
          · simp only [Act.put, List.setIfInBounds_toArray, List.set_cons_zero, List.set_cons_succ, i64_w, i32_w]
            rfl
          refine pure_ (i := 9) (N := some 153) (v := ?_) (a' := ?_) #[true, true, true, true, true, true, true, true, true, true, false, false, false] rfl rfl (by kernel_rfl) (fun _ _ _ h => h) (Or.inl ⟨by rfl, ?_⟩) ?_ ?_
          rotate_left
          · intro w'
            go_simp
            with_reducible rfl
          rotate_left
          · simp only [Act.put, List.setIfInBounds_toArray, List.set_cons_zero, List.set_cons_succ, i64_w, i32_w]
            rfl
          refine last_ (i := 10) (N := some 154) #[true, true, true, true, true, true, true, true, true, true, true, false, false] rfl rfl (by kernel_rfl) (by decide) (fun K hK => ?_)
          refine goes_ Try.func7 (by kernel_rfl) rfl #[] (by rfl) rfl rfl (by simp only [List.map_toArray, List.map_nil]) ?_
          with_reducible refine (lives_true _).mono ?_
          rintro e w9 ⟨rfl, hd9⟩
          refine ⟨_, rfl, ?_⟩
          have BG := Lib.hid (below_step BF.out hd9)
          refine hK.out _ _ ?_
          clear hK K
          refine norm_ (a' := ?_) ?_ ?_
          rotate_left
          · show Act.put _ (some 154) _ = _
            simp only [Act.put, List.setIfInBounds_toArray, List.set_cons_zero, List.set_cons_succ, i64_w, i32_w]
            rfl
          refine pure_ (i := 11) (N := some 155) (v := ?_) (a' := ?_) #[true, true, true, true, true, true, true, true, true, true, true, true, false] rfl rfl (by kernel_rfl) (fun _ _ _ h => h) (Or.inl ⟨by rfl, ?_⟩) ?_ ?_
          rotate_left
          · intro w'
            go_simp
            with_reducible rfl
          rotate_left
          · simp only [Act.put, List.setIfInBounds_toArray, List.set_cons_zero, List.set_cons_succ, i64_w, i32_w]
            rfl
          refine pure_ (i := 12) (N := some 10) (v := ?_) (a' := ?_) #[true, true, true, true, true, true, true, true, true, true, true, true, true] rfl rfl (by kernel_rfl) (fun _ _ _ h => h) (Or.inl ⟨by rfl, ?_⟩) ?_ ?_
          rotate_left
          · intro w'
            go_simp
            with_reducible rfl
          rotate_left
          · simp only [Act.put, List.setIfInBounds_toArray, List.set_cons_zero, List.set_cons_succ, i64_w, i32_w]
            rfl
          refine done_ (by kernel_rfl) ?_
          go_wp2
          go_ret
          exact ⟨rfl, BG.out⟩
end Go.Proofs.Ytelheeekbihfcaa.Pt
