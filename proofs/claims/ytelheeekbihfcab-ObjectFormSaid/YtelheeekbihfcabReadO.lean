/- The program's Read, where a file is one. -/
import Derived.Test.YtelheeekbihfcabFileR
import Derived.Test.YtelheeekbihfcabGuess
import Derived.Test.YtelheeekbihfcabPObjectReadsx1
import Derived.Test.YtelheeekbihfcabAtO
set_option linter.unusedVariables false
set_option linter.unusedSimpArgs false
namespace Go.Proofs.Ytelheeekbihfcab.Ob
open Go.RowKit Go.Proofs Go.Proofs.Ytelheeekbihfcab.PObjectReads Go.Proofs.YtelheeekbihfcabW.PrintWords Go.Proofs.YtelheeekbihfcabW.PrintMore Go.Proofs.YtelheeekbihfcabW.PrintLast

theorem eqA55 (d : Nat) (w : World) (x0 x1 x2 x3 x4 x5 y0 y1 y2 y3 y4 y5 : Int) :
    (Op.equalIn (d + 2) 55 (.agg #[.int .i64 x0, .int .i64 x1, .int .i64 x2, .int .i64 x3, .int .i64 x4, .int .i64 x5]) (.agg #[.int .i64 y0, .int .i64 y1, .int .i64 y2, .int .i64 y3, .int .i64 y4, .int .i64 y5])).run Try.prog w = .ok (x0 == y0 && (x1 == y1 && (x2 == y2 && (x3 == y3 && (x4 == y4 && (x5 == y5)))))) w := by
  refine eqA_of Try.underlying55 (by kernel_rfl) ?_
  refine eqf_cons (by rfl) (by go_simp; rfl) (by go_simp; rfl) (by go_simp) ?_
  refine eqf_cons (by rfl) (by go_simp; rfl) (by go_simp; rfl) (by go_simp) ?_
  refine eqf_cons (by rfl) (by go_simp; rfl) (by go_simp; rfl) (by go_simp) ?_
  refine eqf_cons (by rfl) (by go_simp; rfl) (by go_simp; rfl) (by go_simp) ?_
  refine eqf_cons (by rfl) (by go_simp; rfl) (by go_simp; rfl) (by go_simp) ?_
  exact eqf_last (by rfl) (by go_simp; rfl) (by go_simp; rfl) (by go_simp)

attribute [local go_sem high] eqA55

theorem size26 (v0 v1 v2 v3 : Value) : (Try.prog.info? 26).map (·.size) = some (#[v0, v1, v2, v3] : Array Value).size := by
  have : (Try.prog.info? 26).map (·.size) = some 4 := by kernel_rfl
  exact this
theorem load26 (w : World) (g : Nat) (v0 v1 v2 v3 : Value) (h : w.heap[g]? = some (.cells #[v0, v1, v2, v3] 26 (0, 0))) : (loadVar 26 ⟨g, 0, none⟩).run Try.prog w = .ok (.agg #[v0, v1, v2, v3]) w := by
  refine run_loadVar_row (P := Try.prog) w g 26 26 _ (0, 0) _ h Try.underlying26 ?_ (size26 _ _ _ _)
  rfl
theorem res13 (tmps : Array Value) (w : World) (g : Nat) (v0 v1 v2 v3 u : Value) (hp : tmps.getD 2 undef = .pointer (some ⟨g, 0, none⟩)) (hu : tmps.getD 3 undef = u) (h : w.heap[g]? = some (.cells #[v0, v1, v2, v3] 26 (0, 0))) :
    (results Try.f13 tmps).run Try.prog w = .ok (.tuple #[.agg #[v0, v1, v2, v3], u]) w := by
  have hp' : tmps[2]?.getD undef = .pointer (some ⟨g, 0, none⟩) := by simpa using hp
  have hu' : tmps[3]?.getD undef = u := by simpa using hu
  have hr := load26 w g _ _ _ _ h
  simp [results, Try.results13, asAddr, hp', hu', hr]

set_option maxRecDepth 100000 in
set_option maxHeartbeats 8000000 in
theorem readO (kg kb : Nat) (e s : Int) (ws : List Int) (ls : List S47) (l : List Int) (A : Option Addr) (c : Nat) (w : World) (hr : Kd.C (Kd.int .u8) w A l.length l) (hc : l.length ≤ c) (hg : object_reader_guess.f kg l = some (e, s, ws, ls, true)) (hb : object_Good.f kb e s ws ls = some true) (hF : Fits e s ws ls) (hl : l = fileB e s ws ls)
    (HWRITE : ∀ (A2 : Option Addr) (c2 : Nat) (A3 : Option Addr) (c3 : Nat) (w : World), Kd.C (Kd.int .u32) w A2 ws.length ws → ws.length ≤ c2 → Kd.C k47 w A3 ls.length ls → ls.length ≤ c3 → Calls Try.prog 16 #[.agg #[.int .u64 e, .int .u64 s, .slice A2 ws.length c2, .slice A3 ls.length c3]] w fun e' w' => ∃ v, e' = .returned v ∧ w'.ownsRow w.heap.size 5 1 v (fileB e s ws ls).length (nums .u8 (fileB e s ws ls)) ∧ Below w.heap.size w w') :
    Calls Try.prog 13 #[.slice A l.length c] w fun e' w' => ∃ v2 v3, e' = .returned (.tuple #[.agg #[.int .u64 e, .int .u64 s, v2, v3], .int .i64 0]) ∧ Kd.R (Kd.int .u32) 58 w' w.heap.size (fun _ => True) v2 ws ∧ Kd.R k47 47 w' w.heap.size (fun _ => True) v3 ls ∧ Below w.heap.size w w' := by
  have HGU := Lib.hid fun W => fun hW : Below w.heap.size w W => object_reader_guess.calls kg A c l e s ws ls true W (Kd.C_below hr hW) hc hg
  have HRL := Lib.hid hr
  have HHW := Lib.hid HWRITE
  have HF := Lib.hid hF
  have hu26 := Try.underlying26
  have B0 := Lib.hid (below_alloc (Below.refl _ w) (.cells #[.int .u64 0, .int .u64 0, .slice none 0 0, .slice none 0 0] 26))
  rw [← hl] at HHW
  have HL := Lib.hid hl
  clear hr hg HWRITE hF hl
  go_enter Try.func13, Try.ntmps13
  go_upto_region 2 with (go_at_call 18; refine (HGU.out _ B0.out).mono ?_; rintro e' w1 ⟨v2, v3, rfl, h2, h3, hd⟩; obtain ⟨A2, c2, rfl, hc2, hC2⟩ := Kd.R_reads h2; obtain ⟨A3, c3, rfl, hc3, hC3⟩ := Kd.R_reads h3; have B1 := Lib.hid (below_step B0.out hd); have HR2 := Lib.hid h2; have HR3 := Lib.hid h3; have HC2 := Lib.hid hC2; have HC3 := Lib.hid hC3; have X1 := Lib.hid (blk_below (blk_new w (.cells #[.int .u64 0, .int .u64 0, .slice none 0 0, .slice none 0 0] 26)) hd); clear h2 h3 hC2 hC3 hd HGU)
  have Y1 := blk_new w1 (.cells #[.int .u64 e, .int .u64 s, .slice A2 ws.length c2, .slice A3 ls.length c3] 26)
  have XX := Lib.hid (blk_alloc X1.out (.cells #[.int .u64 e, .int .u64 s, .slice A2 ws.length c2, .slice A3 ls.length c3] 26))
  have hbl := below_alloc (Below.refl _ w1) (.cells #[.int .u64 e, .int .u64 s, .slice A2 ws.length c2, .slice A3 ls.length c3] 26)
  have B2 := Lib.hid (below_step B1.out hbl)
  have D2 := Lib.hid (Kd.C_below HC2.out hbl)
  have D3 := Lib.hid (Kd.C_below HC3.out hbl)
  have RR2 := Lib.hid (Kd.R_below HR2.out hbl)
  have RR3 := Lib.hid (Kd.R_below HR3.out hbl)
  have hg4 : w1.heap.size ≠ w.heap.size := by have := blk_lt X1.out; omega
  have hgw : w.heap.size ≤ w1.heap.size := B1.out.size
  clear HC2 HC3 HR2 HR3 X1 B1 B0 hbl
  generalize w1.alloc (.cells #[.int .u64 e, .int .u64 s, .slice A2 ws.length c2, .slice A3 ls.length c3] 26) = W1 at *
  generalize w1.heap.size = g4 at *
  have HC := Lib.hid (fun (W : World) (h : Below W1.heap.size W1 W) => (show W.cell? ⟨g4, 0, none⟩ = some (.int .u64 e) ∧ W.cell? ⟨g4, 1, none⟩ = some (.int .u64 s) ∧ W.cell? ⟨g4, 2, none⟩ = some (.slice A2 ws.length c2) ∧ W.cell? ⟨g4, 3, none⟩ = some (.slice A3 ls.length c3) ∧ (convert 29 9 (.slice A l.length c)).run Try.prog W = .ok (.string (strOfNums l)) W from
    ⟨blk_cell (blk_below Y1 h) 0, blk_cell (blk_below Y1 h) 1, blk_cell (blk_below Y1 h) 2, blk_cell (blk_below Y1 h) 3, Kd.C_string (P := Try.prog) (A := A) (c := c) Try.underlying29 Try.underlying5 Try.underlying9 (Kd.C_below HRL.out (below_step B2.out h))⟩))
  have HG := Lib.hid (fun (W : World) (h : Below W1.heap.size W1 W) => object_Good.calls kb e s A2 c2 ws A3 c3 ls true W (Kd.C_below D2.out h) hc2 (Kd.C_below D3.out h) hc3 hb)
  have HP := Lib.hid (fun (W : World) (h : Below W1.heap.size W1 W) => placed_call e s A2 c2 ws A3 c3 ls W (Kd.C_below D3.out h) HF.out.wn HF.out.ln HF.out.n)
  have HWr := Lib.hid (fun (W : World) (h : Below W1.heap.size W1 W) => HHW.out A2 c2 A3 c3 W (Kd.C_below D2.out h) hc2 (Kd.C_below D3.out h) hc3)
  have BW0 := Lib.hid (Below.refl W1.heap.size W1).drew
  clear HHW D2 D3 Y1
  refine start_ (n := 21) (S := fun w' => w'.cell? ⟨g4, 0, none⟩ = some (.int .u64 e) ∧ w'.cell? ⟨g4, 1, none⟩ = some (.int .u64 s) ∧ w'.cell? ⟨g4, 2, none⟩ = some (.slice A2 ws.length c2) ∧ w'.cell? ⟨g4, 3, none⟩ = some (.slice A3 ls.length c3) ∧ (convert 29 9 (.slice A l.length c)).run Try.prog w' = .ok (.string (strOfNums l)) w') (ds := []) #[false, false, false, false, false, false, false, false, false, false, false, false, false, false, false, false, false, false, false, false, false] (by kernel_rfl) rfl rfl ⟨(HC.out _ BW0.out).1, (HC.out _ BW0.out).2.1, (HC.out _ BW0.out).2.2.1, (HC.out _ BW0.out).2.2.2.1, (HC.out _ BW0.out).2.2.2.2⟩ (fun hHeld => ?_)
  refine pure_ (i := 0) (N := some 12) (v := ?_) (a' := ?_) #[true, false, false, false, false, false, false, false, false, false, false, false, false, false, false, false, false, false, false, false, false] rfl rfl (by kernel_rfl) (fun _ _ _ h => h) (Or.inl ⟨by rfl, ?_⟩) ?_ ?_
  rotate_left
  · intro w'
    go_simp
    with_reducible rfl
  rotate_left
  · simp only [Act.put, List.setIfInBounds_toArray, List.set_cons_zero, List.set_cons_succ, i64_w, i32_w]
    rfl
  refine pure_ (i := 1) (N := some 13) (v := ?_) (a' := ?_) #[true, true, false, false, false, false, false, false, false, false, false, false, false, false, false, false, false, false, false, false, false] rfl rfl (by kernel_rfl) (fun _ _ _ h => h) (Or.inl ⟨by rfl, ?_⟩) ?_ ?_
  rotate_left
  · intro w'
    go_simp
    with_reducible rfl
  rotate_left
  · simp only [Act.put, List.setIfInBounds_toArray, List.set_cons_zero, List.set_cons_succ, i64_w, i32_w]
    rfl
  refine pure_ (i := 2) (N := some 14) (v := ?_) (a' := ?_) #[true, true, true, false, false, false, false, false, false, false, false, false, false, false, false, false, false, false, false, false, false] rfl rfl (by kernel_rfl) (fun _ _ _ h => h) (Or.inl ⟨by rfl, ?_⟩) ?_ ?_
  rotate_left
  · intro w'
    go_simp
    with_reducible rfl
  rotate_left
  · simp only [Act.put, List.setIfInBounds_toArray, List.set_cons_zero, List.set_cons_succ, i64_w, i32_w]
    rfl
  refine take_ (i := 3) (N := some 15) (v := ?_) (a' := ?_) #[true, true, true, true, false, false, false, false, false, false, false, false, false, false, false, false, false, false, false, false, false] rfl rfl (by kernel_rfl) (fun _ _ _ h => h) (Or.inl ⟨by rfl, ?_⟩) hHeld ?_ ?_
  rotate_left
  · rintro w' ⟨s0, s1, s2, s3, s4⟩
    go_simp
    with_reducible rfl
  rotate_left
  · simp only [Act.put, List.setIfInBounds_toArray, List.set_cons_zero, List.set_cons_succ, i64_w, i32_w]
    rfl
  refine one_ (i := 4) (N := some 16) #[true, true, true, true, true, false, false, false, false, false, false, false, false, false, false, false, false, false, false, false, false] rfl rfl (by kernel_rfl) (by decide) (fun K hK => ?_)
  refine goes_ Try.func11 (by kernel_rfl) rfl #[.agg #[.int .u64 e, .int .u64 s, .slice A2 ws.length c2, .slice A3 ls.length c3]] (by rfl) rfl rfl (by simp only [List.map_toArray, List.map_cons, List.map_nil]; rfl) ?_
  with_reducible refine (HG.out _ BW0.out).mono ?_
  rintro e' w3 ⟨rfl, hb3⟩
  refine ⟨_, rfl, ?_⟩
  have BW1 := Lib.hid (below_step BW0.out hb3)
  refine hK.out _ _ ⟨(HC.out _ BW1.out).1, (HC.out _ BW1.out).2.1, (HC.out _ BW1.out).2.2.1, (HC.out _ BW1.out).2.2.2.1, (HC.out _ BW1.out).2.2.2.2⟩ (fun hHeld => ?_)
  clear hK K
  refine norm_ (a' := ?_) ?_ ?_
  rotate_left
  · show Act.put _ (some 16) _ = _
    simp only [Act.put, List.setIfInBounds_toArray, List.set_cons_zero, List.set_cons_succ, i64_w, i32_w]
    rfl
  refine pure_ (i := 5) (N := some 17) (v := ?_) (a' := ?_) #[true, true, true, true, true, true, false, false, false, false, false, false, false, false, false, false, false, false, false, false, false] rfl rfl (by kernel_rfl) (fun _ _ _ h => h) (Or.inl ⟨by rfl, ?_⟩) ?_ ?_
  rotate_left
  · intro w'
    go_simp
    with_reducible rfl
  rotate_left
  · simp only [Act.put, List.setIfInBounds_toArray, List.set_cons_zero, List.set_cons_succ, i64_w, i32_w]
    rfl
  refine pure_ (i := 6) (N := some 18) (v := ?_) (a' := ?_) #[true, true, true, true, true, true, true, false, false, false, false, false, false, false, false, false, false, false, false, false, false] rfl rfl (by kernel_rfl) (fun _ _ _ h => h) (Or.inl ⟨by rfl, ?_⟩) ?_ ?_
  rotate_left
  · intro w'
    go_simp
    with_reducible rfl
  rotate_left
  · simp only [Act.put, List.setIfInBounds_toArray, List.set_cons_zero, List.set_cons_succ, i64_w, i32_w]
    rfl
  refine pure_ (i := 7) (N := some 19) (v := ?_) (a' := ?_) #[true, true, true, true, true, true, true, true, false, false, false, false, false, false, false, false, false, false, false, false, false] rfl rfl (by kernel_rfl) (fun _ _ _ h => h) (Or.inl ⟨by rfl, ?_⟩) ?_ ?_
  rotate_left
  · intro w'
    go_simp
    with_reducible rfl
  rotate_left
  · simp only [Act.put, List.setIfInBounds_toArray, List.set_cons_zero, List.set_cons_succ, i64_w, i32_w]
    rfl
  refine pure_ (i := 10) (N := some 22) (v := ?_) (a' := ?_) #[true, true, true, true, true, true, true, true, false, false, true, false, false, false, false, false, false, false, false, false, false] rfl rfl (by kernel_rfl) (fun _ _ _ h => h) (Or.inl ⟨by rfl, ?_⟩) ?_ ?_
  rotate_left
  · intro w'
    go_simp
    with_reducible rfl
  rotate_left
  · simp only [Act.put, List.setIfInBounds_toArray, List.set_cons_zero, List.set_cons_succ, i64_w, i32_w]
    rfl
  refine take_ (i := 8) (N := some 20) (v := ?_) (a' := ?_) #[true, true, true, true, true, true, true, true, true, false, true, false, false, false, false, false, false, false, false, false, false] rfl rfl (by kernel_rfl) (fun _ _ _ h => h) (Or.inl ⟨by rfl, ?_⟩) hHeld ?_ ?_
  rotate_left
  · rintro w' ⟨s0, s1, s2, s3, s4⟩
    go_simp
    with_reducible rfl
  rotate_left
  · simp only [Act.put, List.setIfInBounds_toArray, List.set_cons_zero, List.set_cons_succ, i64_w, i32_w]
    rfl
  refine one_ (i := 9) (N := some 21) #[true, true, true, true, true, true, true, true, true, true, true, false, false, false, false, false, false, false, false, false, false] rfl rfl (by kernel_rfl) (by decide) (fun K hK => ?_)
  refine goes_ Try.func19 (by kernel_rfl) rfl #[.agg #[.int .u64 e, .int .u64 s, .slice A2 ws.length c2, .slice A3 ls.length c3]] (by rfl) rfl rfl (by simp only [List.map_toArray, List.map_cons, List.map_nil]; rfl) ?_
  with_reducible refine (HP.out _ BW1.out).mono ?_
  rintro e' w4 ⟨rfl, hb4⟩
  refine ⟨_, rfl, ?_⟩
  have BW2 := Lib.hid (below_step BW1.out hb4)
  refine hK.out _ _ ⟨(HC.out _ BW2.out).1, (HC.out _ BW2.out).2.1, (HC.out _ BW2.out).2.2.1, (HC.out _ BW2.out).2.2.2.1, (HC.out _ BW2.out).2.2.2.2⟩ (fun hHeld => ?_)
  clear hK K
  refine norm_ (a' := ?_) ?_ ?_
  rotate_left
  · show Act.put _ (some 21) _ = _
    simp only [Act.put, List.setIfInBounds_toArray, List.set_cons_zero, List.set_cons_succ, i64_w, i32_w]
    rfl
  refine pure_ (i := 11) (N := some 23) (v := ?_) (a' := ?_) #[true, true, true, true, true, true, true, true, true, true, true, true, false, false, false, false, false, false, false, false, false] rfl rfl (by kernel_rfl) (fun _ _ _ h => h) (Or.inl ⟨by rfl, ?_⟩) ?_ ?_
  rotate_left
  · intro w'
    go_simp
    with_reducible rfl
  rotate_left
  · simp only [Act.put, List.setIfInBounds_toArray, List.set_cons_zero, List.set_cons_succ, i64_w, i32_w]
    rfl
  refine pure_ (i := 12) (N := some 24) (v := ?_) (a' := ?_) #[true, true, true, true, true, true, true, true, true, true, true, true, true, false, false, false, false, false, false, false, false] rfl rfl (by kernel_rfl) (fun _ _ _ h => h) (Or.inl ⟨by rfl, ?_⟩) ?_ ?_
  rotate_left
  · intro w'
    go_simp
    with_reducible rfl
  rotate_left
  · simp only [Act.put, List.setIfInBounds_toArray, List.set_cons_zero, List.set_cons_succ, i64_w, i32_w]
    rfl
  refine pure_ (i := 13) (N := some 25) (v := ?_) (a' := ?_) #[true, true, true, true, true, true, true, true, true, true, true, true, true, true, false, false, false, false, false, false, false] rfl rfl (by kernel_rfl) (fun _ _ _ h => h) (Or.inl ⟨by rfl, ?_⟩) ?_ ?_
  rotate_left
  · intro w'
    go_simp
    with_reducible rfl
  rotate_left
  · simp only [Act.put, List.setIfInBounds_toArray, List.set_cons_zero, List.set_cons_succ, i64_w, i32_w]
    rfl
  refine pure_ (i := 17) (N := some 29) (v := ?_) (a' := ?_) #[true, true, true, true, true, true, true, true, true, true, true, true, true, true, false, false, false, true, false, false, false] rfl rfl (by kernel_rfl) (fun _ _ _ h => h) (Or.inl ⟨by rfl, ?_⟩) ?_ ?_
  rotate_left
  · intro w'
    go_simp
    with_reducible rfl
  rotate_left
  · simp only [Act.put, List.setIfInBounds_toArray, List.set_cons_zero, List.set_cons_succ, i64_w, i32_w]
    rfl
  refine take_ (i := 14) (N := some 26) (v := ?_) (a' := ?_) #[true, true, true, true, true, true, true, true, true, true, true, true, true, true, true, false, false, true, false, false, false] rfl rfl (by kernel_rfl) (fun _ _ _ h => h) (Or.inl ⟨by rfl, ?_⟩) hHeld ?_ ?_
  rotate_left
  · rintro w' ⟨s0, s1, s2, s3, s4⟩
    go_simp
    with_reducible rfl
  rotate_left
  · simp only [Act.put, List.setIfInBounds_toArray, List.set_cons_zero, List.set_cons_succ, i64_w, i32_w]
    rfl
  refine take_ (i := 18) (N := some 30) (v := ?_) (a' := ?_) #[true, true, true, true, true, true, true, true, true, true, true, true, true, true, true, false, false, true, true, false, false] rfl rfl (by kernel_rfl) (fun _ _ _ h => h) (Or.inl ⟨by rfl, ?_⟩) hHeld ?_ ?_
  rotate_left
  · rintro w' ⟨s0, s1, s2, s3, s4⟩
    go_simp
    with_reducible rfl
  rotate_left
  · simp only [Act.put, List.setIfInBounds_toArray, List.set_cons_zero, List.set_cons_succ, i64_w, i32_w]
    rfl
  refine one_ (i := 15) (N := some 27) #[true, true, true, true, true, true, true, true, true, true, true, true, true, true, true, true, false, true, true, false, false] rfl rfl (by kernel_rfl) (by decide) (fun K hK => ?_)
  refine goes_ Try.func16 (by kernel_rfl) rfl #[.agg #[.int .u64 e, .int .u64 s, .slice A2 ws.length c2, .slice A3 ls.length c3]] (by rfl) rfl rfl (by simp only [List.map_toArray, List.map_cons, List.map_nil]; rfl) ?_
  with_reducible refine (HWr.out _ BW2.out).mono ?_
  rintro e' w5 ⟨v5, rfl, ho5, hb5⟩
  refine ⟨_, rfl, ?_⟩
  obtain ⟨A5, c5, rfl⟩ := slice_of ho5
  have hcv5 := own_string (src := 29) (dst := 9) Try.underlying29 Try.underlying5 Try.underlying9 ho5
  have BW3 := Lib.hid (below_step BW2.out hb5)
  refine hK.out _ _ ⟨(HC.out _ BW3.out).1, (HC.out _ BW3.out).2.1, (HC.out _ BW3.out).2.2.1, (HC.out _ BW3.out).2.2.2.1, (HC.out _ BW3.out).2.2.2.2⟩ (fun hHeld => ?_)
  clear hK K
  refine norm_ (a' := ?_) ?_ ?_
  rotate_left
  · show Act.put _ (some 27) _ = _
    simp only [Act.put, List.setIfInBounds_toArray, List.set_cons_zero, List.set_cons_succ, i64_w, i32_w]
    rfl
  refine one_ (i := 16) (N := some 28) #[true, true, true, true, true, true, true, true, true, true, true, true, true, true, true, true, true, true, true, false, false] rfl rfl (by kernel_rfl) (by decide) (fun K hK => ?_)
  refine value_ (w1 := ?_) (v := ?_) (by rfl) rfl ?_ ?_
  rotate_left 2
  · go_simp
    constructor
    · rfl
    · rfl
  refine hK.out _ _ ⟨(HC.out _ BW3.out).1, (HC.out _ BW3.out).2.1, (HC.out _ BW3.out).2.2.1, (HC.out _ BW3.out).2.2.2.1, (HC.out _ BW3.out).2.2.2.2⟩ (fun hHeld => ?_)
  clear hK K
  refine norm_ (a' := ?_) ?_ ?_
  rotate_left
  · show Act.put _ (some 28) _ = _
    simp only [Act.put, List.setIfInBounds_toArray, List.set_cons_zero, List.set_cons_succ, i64_w, i32_w]
    rfl
  refine pure_ (i := 19) (N := some 31) (v := ?_) (a' := ?_) #[true, true, true, true, true, true, true, true, true, true, true, true, true, true, true, true, true, true, true, true, false] rfl rfl (by kernel_rfl) (fun _ _ _ h => h) (Or.inl ⟨by rfl, ?_⟩) ?_ ?_
  rotate_left
  · intro w'
    go_simp
    with_reducible rfl
  rotate_left
  · simp only [Act.put, List.setIfInBounds_toArray, List.set_cons_zero, List.set_cons_succ, i64_w, i32_w]
    rfl
  refine pure_ (i := 20) (N := some 32) (v := ?_) (a' := ?_) #[true, true, true, true, true, true, true, true, true, true, true, true, true, true, true, true, true, true, true, true, true] rfl rfl (by kernel_rfl) (fun _ _ _ h => h) (Or.inl ⟨by rfl, ?_⟩) ?_ ?_
  rotate_left
  · intro w'
    go_simp
    with_reducible rfl
  rotate_left
  · simp only [Act.put, List.setIfInBounds_toArray, List.set_cons_zero, List.set_cons_succ, i64_w, i32_w]
    rfl
  refine done_ (by kernel_rfl) ?_
  have HX := Lib.hid (blk_below XX.out BW3.out)
  have z0 := blk_frozen HX.out 0
  have z1 := blk_frozen HX.out 1
  have z2 := blk_frozen HX.out 2
  have z3 := blk_frozen HX.out 3
  have y0 := blk_cell HX.out 0
  have y1 := blk_cell HX.out 1
  have y2 := blk_cell HX.out 2
  have y3 := blk_cell HX.out 3
  have k0 := (HC.out _ BW3.out).1
  have k1 := (HC.out _ BW3.out).2.1
  have k2 := (HC.out _ BW3.out).2.2.1
  have k3 := (HC.out _ BW3.out).2.2.2.1
  have hne : ¬ w.heap.size = g4 := fun h => hg4 h.symm
  clear hcv5 ho5 hb3 hb4 hb5 hHeld
  go_wp2
  have h0 := HX.out
  have h1 := blk_set h0 0 (.int .u64 e)
  have h2 := blk_set h1 1 (.int .u64 s)
  have h3 := blk_set h2 2 (.slice A2 ws.length c2)
  have h4 := blk_set h3 3 (.slice A3 ls.length c3)
  simp only [List.setIfInBounds_toArray, List.set_cons_zero, List.set_cons_succ] at h4
  have r2 := Kd.R_lower (Kd.R_set (Kd.R_set (Kd.R_set (Kd.R_set (Kd.R_below RR2.out BW3.out) h0 (by decide) 0 (.int .u64 e)) h1 (by decide) 1 (.int .u64 s)) h2 (by decide) 2 (.slice A2 ws.length c2)) h3 (by decide) 3 (.slice A3 ls.length c3)) (by simp : w.heap.size ≤ _)
  have r3 := Kd.R_lower (Kd.R_set (Kd.R_set (Kd.R_set (Kd.R_set (Kd.R_below RR3.out BW3.out) h0 (by decide) 0 (.int .u64 e)) h1 (by decide) 1 (.int .u64 s)) h2 (by decide) 2 (.slice A2 ws.length c2)) h3 (by decide) 3 (.slice A3 ls.length c3)) (by simp : w.heap.size ≤ _)
  have gb := (((((below_step B2.out BW3.out).setCell (p := ⟨w.heap.size, 0, none⟩) (Nat.le_refl _) (.int .u64 e)).setCell (p := ⟨w.heap.size, 1, none⟩) (Nat.le_refl _) (.int .u64 s)).setCell (p := ⟨w.heap.size, 2, none⟩) (Nat.le_refl _) (.slice A2 ws.length c2)).setCell (p := ⟨w.heap.size, 3, none⟩) (Nat.le_refl _) (.slice A3 ls.length c3))
  refine bodyPost_ret (v := .tuple #[.agg #[.int .u64 e, .int .u64 s, .slice A2 ws.length c2, .slice A3 ls.length c3], .int .i64 0]) ?_ rfl ?_
  · exact res13 _ _ w.heap.size _ _ _ _ _ rfl rfl h4
  · exact ⟨_, _, rfl, r2, r3, gb⟩
end Go.Proofs.Ytelheeekbihfcab.Ob
