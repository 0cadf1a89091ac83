/- The law ObjectFiles, walked (given what is proved of the program's write). -/
import Derived.Test.YtelheeekbihfcabFileO
import Derived.Test.YtelheeekbihfcabLight
set_option linter.unusedVariables false
set_option linter.unusedSimpArgs false
namespace Go.Proofs.Ytelheeekbihfcab.Ob
open Go.RowKit Go.Proofs Go.Proofs.Ytelheeekbihfcab.PObjectReads Go.Proofs.YtelheeekbihfcabW.PrintWords Go.Proofs.YtelheeekbihfcabW.PrintMore Go.Proofs.YtelheeekbihfcabW.PrintLast

theorem light_f (e s : Int) (ws : List Int) (ls : List S47) : ∃ b, (∃ k, postbaglaw30_light.f k e s ws ls = some b) ∧ (b = true → ws.length ≤ 2000 ∧ ls.length ≤ 200 ∧ ∀ x, x ∈ ls → x.f0.size ≤ 300) := by
  by_cases c1 : (ws.length : Int) > 2000
  · refine ⟨false, ⟨1, ?_⟩, fun h => by cases h⟩
    rw [postbaglaw30_light.f, if_pos c1, postbaglaw30_light.j0, if_pos rfl]
  by_cases c2 : (ls.length : Int) > 200
  · refine ⟨false, ⟨1, ?_⟩, fun h => by cases h⟩
    rw [postbaglaw30_light.f, if_neg c1, postbaglaw30_light.j0, if_pos (decide_eq_true c2)]
  have h : ∀ (d i : Nat), ls.length - i = d → i ≤ ls.length → ∃ b, postbaglaw30_light.l0 (d + 1) ls ls.length i = some b ∧ (b = true → ∀ j, i ≤ j → (h : j < ls.length) → ls[j].f0.size ≤ 300) := by
    intro d
    induction d with
    | zero =>
      intro i hd hi
      exact ⟨true, by rw [postbaglaw30_light.l0, if_neg (by omega)], fun _ j h1 h2 => by omega⟩
    | succ d ih =>
      intro i hd hi
      have hlt : i < ls.length := by omega
      rw [postbaglaw30_light.l0, if_pos (by omega), if_pos (by omega), if_pos (by omega), rd47 ls i hlt]
      by_cases c3 : (ls[i].f0.size : Int) > 300
      · exact ⟨false, by rw [if_pos c3], fun h => by cases h⟩
      · obtain ⟨b, h1, h2⟩ := ih (i + 1) (by omega) (by omega)
        refine ⟨b, ?_, fun h j hj hjl => ?_⟩
        · rw [if_neg c3, show wrap64 ((i : Int) + 1) = ((i + 1 : Nat) : Int) by rw [wrap_small _ (by omega) (by omega)]; omega]
          exact h1
        · rcases Nat.lt_or_ge i j with h4 | h4
          · exact h2 h j h4 hjl
          · obtain rfl : i = j := by omega
            omega
  obtain ⟨b, h1, h2⟩ := h ls.length 0 rfl (Nat.zero_le _)
  refine ⟨b, ⟨ls.length + 2, ?_⟩, fun h => ⟨by omega, by omega, fun x hx => ?_⟩⟩
  · rw [postbaglaw30_light.f, if_neg c1, postbaglaw30_light.j0, if_neg (fun h => c2 (of_decide_eq_true h))]
    exact h1
  · obtain ⟨j, hj, rfl⟩ := List.getElem_of_mem hx
    exact h2 h j (Nat.zero_le _) hj

/-- What came in: its numbers are in range. -/
structure InR (e s : Int) (ws : List Int) (ls : List S47) : Prop where
  e : 0 ≤ e ∧ e < 18446744073709551616
  s : 0 ≤ s ∧ s < 18446744073709551616
  w : ∀ x, x ∈ ws → 0 ≤ x ∧ x < 4294967296
  a : ∀ x, x ∈ ls → 0 ≤ x.f1 ∧ x.f1 < 18446744073709551616

set_option maxRecDepth 100000 in
set_option maxHeartbeats 8000000 in
theorem object_files (HWO' : WritesO) (e s : Int) (A2 : Option Addr) (c2 : Nat) (ws : List Int) (A3 : Option Addr) (c3 : Nat) (ls : List S47) (w : World) (hr2 : Kd.C (Kd.int .u32) w A2 ws.length ws) (hc2 : ws.length ≤ c2) (hr3 : Kd.C k47 w A3 ls.length ls) (hc3 : ls.length ≤ c3) (hI : InR e s ws ls) :
    Calls Try.prog 3 #[.agg #[.int .u64 e, .int .u64 s, .slice A2 ws.length c2, .slice A3 ls.length c3]] w fun e' w' => e' = .returned (.bool true) ∧ Below w.heap.size w w' := by
  have HWO := Lib.hid HWO'
  clear HWO'
  obtain ⟨b, ⟨kl, hkl⟩, hlt⟩ := light_f e s ws ls
  have HLI := Lib.hid fun W => fun hW : Below w.heap.size w W => postbaglaw30_light.calls kl e s A2 c2 ws A3 c3 ls b W (Kd.C_below hr2 hW) hc2 (Kd.C_below hr3 hW) hc3 hkl
  have X0 := Lib.hid (blk_new w (.cells #[.int .u64 e, .int .u64 s, .slice A2 ws.length c2, .slice A3 ls.length c3] 26))
  have B0 := Lib.hid (below_alloc (Below.refl _ w) (.cells #[.int .u64 e, .int .u64 s, .slice A2 ws.length c2, .slice A3 ls.length c3] 26))
  cases b with
  | false =>
    clear hr2 hr3 hkl hlt
    go_enter Try.func3, Try.ntmps3
    go_wp2_with (first
      | (go_at_call 7; refine (HLI.out _ B0.out).mono ?_; rintro e' w1 ⟨rfl, hd⟩; have B1 := Lib.hid (below_step B0.out hd); clear hd)
      | (go_at_call 8; refine (lives_any HWO.out _).mono ?_; rintro e' w2 ⟨rfl, hd⟩; have B2 := Lib.hid (below_step B1.out hd); clear hd))
    go_ret
    exact ⟨rfl, B2.out⟩
  | true =>
    obtain ⟨hl1, hl2, hl3⟩ := hlt rfl
    have hF : Fits e s ws ls := ⟨hI.e, hI.s, by omega, by omega, hI.w, hI.a, fun x hx => by have := hl3 x hx; omega⟩
    obtain ⟨gb, ⟨k1, hk1⟩, ⟨k2, hk2⟩, _⟩ := goods e s ws ls hF.wn hF.ln hF.n
    have HFO := Lib.hid fun W => fun hW : Below w.heap.size w W => fileO HWO.out gb k1 e s A2 c2 ws A3 c3 ls W (Kd.C_below hr2 hW) hc2 (Kd.C_below hr3 hW) hc3 hF hk1
    have HFR := Lib.hid fun W => fun hW : Below w.heap.size w W => fileR gb k2 e s A2 c2 ws A3 c3 ls W (Kd.C_below hr2 hW) hc2 (Kd.C_below hr3 hW) hc3 hF hk2
    have HGO := Lib.hid fun W => fun hW : Below w.heap.size w W => object_Good.calls k1 e s A2 c2 ws A3 c3 ls gb W (Kd.C_below hr2 hW) hc2 (Kd.C_below hr3 hW) hc3 hk1
    have HGR := Lib.hid fun W => fun hW : Below w.heap.size w W => postbagref30_Good.calls k2 e s A2 c2 ws A3 c3 ls gb W (Kd.C_below hr2 hW) hc2 (Kd.C_below hr3 hW) hc3 hk2
    generalize fileOr gb e s ws ls = FB at *
    generalize errOf gb = EB at *
    clear hr2 hr3 hkl hlt hk1 hk2 hF hI hl1 hl2 hl3
    go_enter Try.func3, Try.ntmps3
    go_upto_region 5 with (first
      | (go_at_call 7; refine (HLI.out _ B0.out).mono ?_; rintro e' w1 ⟨rfl, hd⟩; have B1 := Lib.hid (below_step B0.out hd); have X1 := Lib.hid (blk_below X0.out hd); have k0 := blk_cell X1.out 0; have k1 := blk_cell X1.out 1; have k2 := blk_cell X1.out 2; have k3 := blk_cell X1.out 3; clear hd)
      | (go_at_call 9; refine (HFO.out _ B1.out).mono ?_; rintro e' w2 ⟨v1, rfl, ho1, hd⟩; clear k0 k1 k2 k3; obtain ⟨A4, c4, rfl⟩ := slice_of ho1; have HO1 := Lib.hid ho1; have B2 := Lib.hid (below_step B1.out hd); have X2 := Lib.hid (blk_below X1.out hd); have k0 := blk_cell X2.out 0; have k1 := blk_cell X2.out 1; have k2 := blk_cell X2.out 2; have k3 := blk_cell X2.out 3; clear hd ho1)
      | (go_at_call 10; refine (HFR.out _ B2.out).mono ?_; rintro e' W1 ⟨v2, rfl, ho2, hd⟩; clear k0 k1 k2 k3; obtain ⟨A5, c5, rfl⟩ := slice_of ho2; have HO3 := Lib.hid (own_move HO1.out (fun k hk => hd.block k (own_lt HO1.out k hk))); have HO2 := Lib.hid ho2; have B3 := Lib.hid (below_step B2.out hd); have X3 := Lib.hid (blk_below X2.out hd); clear hd ho2))
    have HC := Lib.hid (fun (W : World) (h : Below W1.heap.size W1 W) => (show W.cell? ⟨w.heap.size, 0, none⟩ = some (.int .u64 e) ∧ W.cell? ⟨w.heap.size, 1, none⟩ = some (.int .u64 s) ∧ W.cell? ⟨w.heap.size, 2, none⟩ = some (.slice A2 ws.length c2) ∧ W.cell? ⟨w.heap.size, 3, none⟩ = some (.slice A3 ls.length c3) ∧ (convert 29 9 (.slice A4 FB.length c4)).run Try.prog W = .ok (.string (strOfNums FB)) W ∧ (convert 29 9 (.slice A5 FB.length c5)).run Try.prog W = .ok (.string (strOfNums FB)) W from
      ⟨blk_cell (blk_below X3.out h) 0, blk_cell (blk_below X3.out h) 1, blk_cell (blk_below X3.out h) 2, blk_cell (blk_below X3.out h) 3, own_string (src := 29) (dst := 9) Try.underlying29 Try.underlying5 Try.underlying9 (own_move HO3.out (fun k hk => h.block k (own_lt HO3.out k hk))), own_string (src := 29) (dst := 9) Try.underlying29 Try.underlying5 Try.underlying9 (own_move HO2.out (fun k hk => h.block k (own_lt HO2.out k hk)))⟩))
    have HG1 := Lib.hid (fun (W : World) (h : Below W1.heap.size W1 W) => HGO.out W (below_step B3.out h))
    have HG2 := Lib.hid (fun (W : World) (h : Below W1.heap.size W1 W) => HGR.out W (below_step B3.out h))
    have BW0 := Lib.hid (Below.refl W1.heap.size W1).drew
    refine start_ (n := 21) (S := fun w' => w'.cell? ⟨w.heap.size, 0, none⟩ = some (.int .u64 e) ∧ w'.cell? ⟨w.heap.size, 1, none⟩ = some (.int .u64 s) ∧ w'.cell? ⟨w.heap.size, 2, none⟩ = some (.slice A2 ws.length c2) ∧ w'.cell? ⟨w.heap.size, 3, none⟩ = some (.slice A3 ls.length c3) ∧ (convert 29 9 (.slice A4 FB.length c4)).run Try.prog w' = .ok (.string (strOfNums FB)) w' ∧ (convert 29 9 (.slice A5 FB.length c5)).run Try.prog w' = .ok (.string (strOfNums FB)) w') (ds := []) #[false, false, false, false, false, false, false, false, false, false, false, false, false, false, false, false, false, false, false, false, false] (by kernel_rfl) rfl rfl ⟨(HC.out _ BW0.out).1, (HC.out _ BW0.out).2.1, (HC.out _ BW0.out).2.2.1, (HC.out _ BW0.out).2.2.2.1, (HC.out _ BW0.out).2.2.2.2.1, (HC.out _ BW0.out).2.2.2.2.2⟩ (fun hHeld => ?_)
    refine pure_ (i := 0) (N := some 21) (v := ?_) (a' := ?_) #[true, false, false, false, false, false, false, false, false, false, false, false, false, false, false, false, false, false, false, false, false] rfl rfl (by kernel_rfl) (fun _ _ _ h => h) (Or.inl ⟨by rfl, ?_⟩) ?_ ?_
    rotate_left
    · intro w'
      go_simp
      with_reducible rfl
    rotate_left
    · simp only [Act.put, List.setIfInBounds_toArray, List.set_cons_zero, List.set_cons_succ, i64_w, i32_w]
      rfl
    refine pure_ (i := 2) (N := some 23) (v := ?_) (a' := ?_) #[true, false, true, false, false, false, false, false, false, false, false, false, false, false, false, false, false, false, false, false, false] rfl rfl (by kernel_rfl) (fun _ _ _ h => h) (Or.inl ⟨by rfl, ?_⟩) ?_ ?_
    rotate_left
    · intro w'
      go_simp
      with_reducible rfl
    rotate_left
    · simp only [Act.put, List.setIfInBounds_toArray, List.set_cons_zero, List.set_cons_succ, i64_w, i32_w]
      rfl
    refine take_ (i := 1) (N := some 22) (v := ?_) (a' := ?_) #[true, true, true, false, false, false, false, false, false, false, false, false, false, false, false, false, false, false, false, false, false] rfl rfl (by kernel_rfl) (fun _ _ _ h => h) (Or.inl ⟨by rfl, ?_⟩) hHeld ?_ ?_
    rotate_left
    · rintro w' ⟨s0, s1, s2, s3, s4, s5⟩
      go_simp
      with_reducible rfl
    rotate_left
    · simp only [Act.put, List.setIfInBounds_toArray, List.set_cons_zero, List.set_cons_succ, i64_w, i32_w]
      rfl
    refine take_ (i := 3) (N := some 24) (v := ?_) (a' := ?_) #[true, true, true, true, false, false, false, false, false, false, false, false, false, false, false, false, false, false, false, false, false] rfl rfl (by kernel_rfl) (fun _ _ _ h => h) (Or.inl ⟨by rfl, ?_⟩) hHeld ?_ ?_
    rotate_left
    · rintro w' ⟨s0, s1, s2, s3, s4, s5⟩
      go_simp
      with_reducible rfl
    rotate_left
    · simp only [Act.put, List.setIfInBounds_toArray, List.set_cons_zero, List.set_cons_succ, i64_w, i32_w]
      rfl
    refine pure_ (i := 4) (N := some 25) (v := ?_) (a' := ?_) #[true, true, true, true, true, false, false, false, false, false, false, false, false, false, false, false, false, false, false, false, false] rfl rfl (by kernel_rfl) (fun _ _ _ h => h) (Or.inl ⟨by rfl, ?_⟩) ?_ ?_
    rotate_left
    · intro w'
      go_simp
      with_reducible rfl
    rotate_left
    · simp only [Act.put, List.setIfInBounds_toArray, List.set_cons_zero, List.set_cons_succ, i64_w, i32_w]
      rfl
    refine pure_ (i := 5) (N := some 26) (v := ?_) (a' := ?_) #[true, true, true, true, true, true, false, false, false, false, false, false, false, false, false, false, false, false, false, false, false] rfl rfl (by kernel_rfl) (fun _ _ _ h => h) (Or.inl ⟨by rfl, ?_⟩) ?_ ?_
    rotate_left
    · intro w'
      go_simp
      with_reducible rfl
    rotate_left
    · simp only [Act.put, List.setIfInBounds_toArray, List.set_cons_zero, List.set_cons_succ, i64_w, i32_w]
      rfl
    refine pure_ (i := 6) (N := some 27) (v := ?_) (a' := ?_) #[true, true, true, true, true, true, true, false, false, false, false, false, false, false, false, false, false, false, false, false, false] rfl rfl (by kernel_rfl) (fun _ _ _ h => h) (Or.inl ⟨by rfl, ?_⟩) ?_ ?_
    rotate_left
    · intro w'
      go_simp
      with_reducible rfl
    rotate_left
    · simp only [Act.put, List.setIfInBounds_toArray, List.set_cons_zero, List.set_cons_succ, i64_w, i32_w]
      rfl
    refine pure_ (i := 7) (N := some 28) (v := ?_) (a' := ?_) #[true, true, true, true, true, true, true, true, false, false, false, false, false, false, false, false, false, false, false, false, false] rfl rfl (by kernel_rfl) (fun _ _ _ h => h) (Or.inl ⟨by rfl, ?_⟩) ?_ ?_
    rotate_left
    · intro w'
      go_simp
      with_reducible rfl
    rotate_left
    · simp only [Act.put, List.setIfInBounds_toArray, List.set_cons_zero, List.set_cons_succ, i64_w, i32_w]
      rfl
    refine pure_ (i := 8) (N := some 29) (v := ?_) (a' := ?_) #[true, true, true, true, true, true, true, true, true, false, false, false, false, false, false, false, false, false, false, false, false] rfl rfl (by kernel_rfl) (fun _ _ _ h => h) (Or.inl ⟨by rfl, ?_⟩) ?_ ?_
    rotate_left
    · intro w'
      go_simp
      with_reducible rfl
    rotate_left
    · simp only [Act.put, List.setIfInBounds_toArray, List.set_cons_zero, List.set_cons_succ, i64_w, i32_w]
      rfl
    refine pure_ (i := 9) (N := some 30) (v := ?_) (a' := ?_) #[true, true, true, true, true, true, true, true, true, true, false, false, false, false, false, false, false, false, false, false, false] rfl rfl (by kernel_rfl) (fun _ _ _ h => h) (Or.inl ⟨by rfl, ?_⟩) ?_ ?_
    rotate_left
    · intro w'
      go_simp
      with_reducible rfl
    rotate_left
    · simp only [Act.put, List.setIfInBounds_toArray, List.set_cons_zero, List.set_cons_succ, i64_w, i32_w]
      rfl
    refine pure_ (i := 10) (N := some 31) (v := ?_) (a' := ?_) #[true, true, true, true, true, true, true, true, true, true, true, false, false, false, false, false, false, false, false, false, false] rfl rfl (by kernel_rfl) (fun _ _ _ h => h) (Or.inl ⟨by rfl, ?_⟩) ?_ ?_
    rotate_left
    · intro w'
      go_simp
      with_reducible rfl
    rotate_left
    · simp only [Act.put, List.setIfInBounds_toArray, List.set_cons_zero, List.set_cons_succ, i64_w, i32_w]
      rfl
    refine take_ (i := 11) (N := some 32) (v := ?_) (a' := ?_) #[true, true, true, true, true, true, true, true, true, true, true, true, false, false, false, false, false, false, false, false, false] rfl rfl (by kernel_rfl) (fun _ _ _ h => h) (Or.inl ⟨by rfl, ?_⟩) hHeld ?_ ?_
    rotate_left
    · rintro w' ⟨s0, s1, s2, s3, s4, s5⟩
      go_simp
      with_reducible rfl
    rotate_left
    · simp only [Act.put, List.setIfInBounds_toArray, List.set_cons_zero, List.set_cons_succ, i64_w, i32_w]
      rfl
    refine take_ (i := 13) (N := some 34) (v := ?_) (a' := ?_) #[true, true, true, true, true, true, true, true, true, true, true, true, false, true, false, false, false, false, false, false, false] rfl rfl (by kernel_rfl) (fun _ _ _ h => h) (Or.inl ⟨by rfl, ?_⟩) hHeld ?_ ?_
    rotate_left
    · rintro w' ⟨s0, s1, s2, s3, s4, s5⟩
      go_simp
      with_reducible rfl
    rotate_left
    · simp only [Act.put, List.setIfInBounds_toArray, List.set_cons_zero, List.set_cons_succ, i64_w, i32_w]
      rfl
    refine one_ (i := 12) (N := some 33) #[true, true, true, true, true, true, true, true, true, true, true, true, true, true, false, false, false, false, false, false, false] rfl rfl (by kernel_rfl) (by decide) (fun K hK => ?_)
    refine goes_ Try.func11 (by kernel_rfl) rfl #[.agg #[.int .u64 e, .int .u64 s, .slice A2 ws.length c2, .slice A3 ls.length c3]] (by rfl) rfl rfl (by simp only [List.map_toArray, List.map_cons, List.map_nil]; rfl) ?_
    with_reducible refine (HG1.out _ BW0.out).mono ?_
    rintro e' w3 ⟨rfl, hb3⟩
    refine ⟨_, rfl, ?_⟩
    have BW1 := Lib.hid (below_step BW0.out hb3)
    refine hK.out _ _ ⟨(HC.out _ BW1.out).1, (HC.out _ BW1.out).2.1, (HC.out _ BW1.out).2.2.1, (HC.out _ BW1.out).2.2.2.1, (HC.out _ BW1.out).2.2.2.2.1, (HC.out _ BW1.out).2.2.2.2.2⟩ (fun hHeld => ?_)
    clear hK K
    refine norm_ (a' := ?_) ?_ ?_
    rotate_left
    · show Act.put _ (some 33) _ = _
      simp only [Act.put, List.setIfInBounds_toArray, List.set_cons_zero, List.set_cons_succ, i64_w, i32_w]
      rfl
    refine one_ (i := 14) (N := some 35) #[true, true, true, true, true, true, true, true, true, true, true, true, true, true, true, false, false, false, false, false, false] rfl rfl (by kernel_rfl) (by decide) (fun K hK => ?_)
    refine goes_ Try.func12 (by kernel_rfl) rfl #[.agg #[.int .u64 e, .int .u64 s, .slice A2 ws.length c2, .slice A3 ls.length c3]] (by rfl) rfl rfl (by simp only [List.map_toArray, List.map_cons, List.map_nil]; rfl) ?_
    with_reducible refine (HG2.out _ BW1.out).mono ?_
    rintro e' w4 ⟨rfl, hb4⟩
    refine ⟨_, rfl, ?_⟩
    have BW2 := Lib.hid (below_step BW1.out hb4)
    refine hK.out _ _ ⟨(HC.out _ BW2.out).1, (HC.out _ BW2.out).2.1, (HC.out _ BW2.out).2.2.1, (HC.out _ BW2.out).2.2.2.1, (HC.out _ BW2.out).2.2.2.2.1, (HC.out _ BW2.out).2.2.2.2.2⟩ (fun hHeld => ?_)
    clear hK K
    refine norm_ (a' := ?_) ?_ ?_
    rotate_left
    · show Act.put _ (some 35) _ = _
      simp only [Act.put, List.setIfInBounds_toArray, List.set_cons_zero, List.set_cons_succ, i64_w, i32_w]
      rfl
    refine pure_ (i := 15) (N := some 36) (v := ?_) (a' := ?_) #[true, true, true, true, true, true, true, true, true, true, true, true, true, true, true, true, false, false, false, false, false] rfl rfl (by kernel_rfl) (fun _ _ _ h => h) (Or.inl ⟨by rfl, ?_⟩) ?_ ?_
    rotate_left
    · intro w'
      go_simp
      with_reducible rfl
    rotate_left
    · simp only [Act.put, List.setIfInBounds_toArray, List.set_cons_zero, List.set_cons_succ, i64_w, i32_w]
      rfl
    refine pure_ (i := 16) (N := some 37) (v := ?_) (a' := ?_) #[true, true, true, true, true, true, true, true, true, true, true, true, true, true, true, true, true, false, false, false, false] rfl rfl (by kernel_rfl) (fun _ _ _ h => h) (Or.inl ⟨by rfl, ?_⟩) ?_ ?_
    rotate_left
    · intro w'
      go_simp
      with_reducible rfl
    rotate_left
    · simp only [Act.put, List.setIfInBounds_toArray, List.set_cons_zero, List.set_cons_succ, i64_w, i32_w]
      rfl
    refine pure_ (i := 17) (N := some 38) (v := ?_) (a' := ?_) #[true, true, true, true, true, true, true, true, true, true, true, true, true, true, true, true, true, true, false, false, false] rfl rfl (by kernel_rfl) (fun _ _ _ h => h) (Or.inl ⟨by rfl, ?_⟩) ?_ ?_
    rotate_left
    · intro w'
      go_simp
      with_reducible rfl
    rotate_left
    · simp only [Act.put, List.setIfInBounds_toArray, List.set_cons_zero, List.set_cons_succ, i64_w, i32_w]
      rfl
    refine one_ (i := 18) (N := some 39) #[true, true, true, true, true, true, true, true, true, true, true, true, true, true, true, true, true, true, true, false, false] rfl rfl (by kernel_rfl) (by decide) (fun K hK => ?_)
    refine goes_ Try.func8 (by kernel_rfl) rfl #[] (by rfl) rfl rfl (by simp only [List.map_toArray, List.map_cons, List.map_nil]) ?_
    with_reducible refine ((lives_any HWO.out _)).mono ?_
    rintro e' w5 ⟨rfl, hb5⟩
    refine ⟨_, rfl, ?_⟩
    have BW3 := Lib.hid (below_step BW2.out hb5)
    refine hK.out _ _ ⟨(HC.out _ BW3.out).1, (HC.out _ BW3.out).2.1, (HC.out _ BW3.out).2.2.1, (HC.out _ BW3.out).2.2.2.1, (HC.out _ BW3.out).2.2.2.2.1, (HC.out _ BW3.out).2.2.2.2.2⟩ (fun hHeld => ?_)
    clear hK K
    refine norm_ (a' := ?_) ?_ ?_
    rotate_left
    · show Act.put _ (some 39) _ = _
      simp only [Act.put, List.setIfInBounds_toArray, List.set_cons_zero, List.set_cons_succ, i64_w, i32_w]
      rfl
    refine pure_ (i := 19) (N := some 40) (v := ?_) (a' := ?_) #[true, true, true, true, true, true, true, true, true, true, true, true, true, true, true, true, true, true, true, true, false] rfl rfl (by kernel_rfl) (fun _ _ _ h => h) (Or.inl ⟨by rfl, ?_⟩) ?_ ?_
    rotate_left
    · intro w'
      go_simp
      with_reducible rfl
    rotate_left
    · simp only [Act.put, List.setIfInBounds_toArray, List.set_cons_zero, List.set_cons_succ, i64_w, i32_w]
      rfl
    refine pure_ (i := 20) (N := some 2) (v := ?_) (a' := ?_) #[true, true, true, true, true, true, true, true, true, true, true, true, true, true, true, true, true, true, true, true, true] rfl rfl (by kernel_rfl) (fun _ _ _ h => h) (Or.inl ⟨by rfl, ?_⟩) ?_ ?_
    rotate_left
    · intro w'
      go_simp
      with_reducible rfl
    rotate_left
    · simp only [Act.put, List.setIfInBounds_toArray, List.set_cons_zero, List.set_cons_succ, i64_w, i32_w]
      rfl
    refine done_ (by kernel_rfl) ?_
    clear hHeld
    go_wp2
    go_ret
    exact ⟨rfl, below_step B3.out BW3.out⟩
end Go.Proofs.Ytelheeekbihfcab.Ob
