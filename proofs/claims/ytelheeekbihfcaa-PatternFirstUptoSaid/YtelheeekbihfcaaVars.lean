/- The pattern's Vars. -/
import Derived.Test.YtelheeekbihfcaaVarsB
set_option linter.unusedVariables false
set_option linter.unusedSimpArgs false
namespace Go.Proofs.Ytelheeekbihfcaa.Pt
open Go.RowKit Go.Proofs Go.Proofs.Ytelheeekbihfcaa.PPatternFirst Go.Proofs.YtelheeekbihfcaaW.PrintWords Go.Proofs.YtelheeekbihfcaaW.PrintMore Go.Proofs.YtelheeekbihfcaaW.PrintLast

theorem load23 (w : World) (g : Nat) (v : Value) (h : w.heap[g]? = some (.cells #[v] 23 (0, 0))) : (loadVar 23 ⟨g, 0, none⟩).run Try.prog w = .ok v w := by
  have k := blk_cell h 0
  go_simp
theorem load71 (w : World) (g : Nat) (v : Value) (h : w.heap[g]? = some (.cells #[v] 71 (0, 0))) : (loadVar 71 ⟨g, 0, none⟩).run Try.prog w = .ok v w := by
  have k := blk_cell h 0
  go_simp
theorem results19 (tmps : Array Value) (w : World) (g1 g2 : Nat) (v1 v2 : Value) (hp1 : tmps.getD 2 undef = .pointer (some ⟨g1, 0, none⟩)) (hp2 : tmps.getD 3 undef = .pointer (some ⟨g2, 0, none⟩)) (h1 : w.heap[g1]? = some (.cells #[v1] 23 (0, 0))) (h2 : w.heap[g2]? = some (.cells #[v2] 71 (0, 0))) : (results Try.f19 tmps).run Try.prog w = .ok (.tuple #[v1, v2]) w := by
  have hp1' : tmps[2]?.getD undef = .pointer (some ⟨g1, 0, none⟩) := by simpa using hp1
  have hp2' : tmps[3]?.getD undef = .pointer (some ⟨g2, 0, none⟩) := by simpa using hp2
  have hr : Try.f19.results = #[.cell 2 23, .cell 3 71] := rfl
  simp [results, hr, hp1', hp2', asAddr, load23 w g1 v1 h1, load71 w g2 v2 h2]

set_option maxRecDepth 100000 in
set_option maxHeartbeats 8000000 in
/-- Vars: what the document says. -/
theorem vars_call (f0 f1 f2 : Int) (f3 : ByteArray) (args : List S53) (A4 : Option Addr) (c4 : Nat) (w : World) (hC : Kd.C k53 w A4 args.length args) (hc4 : args.length ≤ c4) (hn : nodesP ⟨f0, f1, f2, f3, args⟩ ≤ 1000000) (l : List (ByteArray × List Int)) (hl : varsP ⟨f0, f1, f2, f3, args⟩ [] = l) :
    Calls Try.prog 19 #[.agg #[.int .i64 f0, .int .i64 f1, .int .i64 f2, .string f3, .slice A4 args.length c4]] w fun e w' => ∃ A1 c1 A2 c2, e = .returned (.tuple #[.slice A1 l.length c1, .slice A2 l.length c2]) ∧ l.length ≤ c1 ∧ l.length ≤ c2 ∧ Kd.C Kd.string w' A1 l.length (l.map Prod.fst) ∧ Kd.C kPath w' A2 l.length (l.map Prod.snd) ∧ Below w.heap.size w w' := by
  have HC := Lib.hid hC
  clear hC
  go_enter Try.func19, Try.ntmps19
  go_upto_region 1 with fail
  have s1 : (w.alloc (.cells #[.int .i64 f0, .int .i64 f1, .int .i64 f2, .string f3, .slice A4 args.length c4] 53)).heap.size = w.heap.size + 1 := by simp
  have s2 : ((w.alloc (.cells #[.int .i64 f0, .int .i64 f1, .int .i64 f2, .string f3, .slice A4 args.length c4] 53)).alloc (.cells #[.slice none 0 0] 23)).heap.size = w.heap.size + 1 + 1 := by simp
  have X3 := blk_new ((w.alloc (.cells #[.int .i64 f0, .int .i64 f1, .int .i64 f2, .string f3, .slice A4 args.length c4] 53)).alloc (.cells #[.slice none 0 0] 23)) (.cells #[.slice none 0 0] 71)
  have X2 := blk_alloc (blk_new (w.alloc (.cells #[.int .i64 f0, .int .i64 f1, .int .i64 f2, .string f3, .slice A4 args.length c4] 53)) (.cells #[.slice none 0 0] 23)) (.cells #[.slice none 0 0] 71)
  have X1 := blk_alloc (blk_alloc (blk_new w (.cells #[.int .i64 f0, .int .i64 f1, .int .i64 f2, .string f3, .slice A4 args.length c4] 53)) (.cells #[.slice none 0 0] 23)) (.cells #[.slice none 0 0] 71)
  rw [s2] at X3
  rw [s1] at X2
  have hbl := below_alloc (below_alloc (below_alloc (Below.refl _ w) (.cells #[.int .i64 f0, .int .i64 f1, .int .i64 f2, .string f3, .slice A4 args.length c4] 53)) (.cells #[.slice none 0 0] 23)) (.cells #[.slice none 0 0] 71)
  have BL := Lib.hid hbl
  generalize (((w.alloc (.cells #[.int .i64 f0, .int .i64 f1, .int .i64 f2, .string f3, .slice A4 args.length c4] 53)).alloc (.cells #[.slice none 0 0] 23)).alloc (.cells #[.slice none 0 0] 71)) = W3 at *
  have y0 := blk_cell X1 0
  have y1 := blk_cell X1 1
  have y2 := blk_cell X1 2
  have y3 := blk_cell X1 3
  have y4 := blk_cell X1 4
  have HO := Lib.hid (show VarB w.heap.size (w.heap.size + 1) (w.heap.size + 1 + 1) W3 [] from ⟨_, _, X2, X3, Kd.R_nil _ _ _ _ _, Kd.R_nil _ _ _ _ _⟩)
  have hn0 : ([] : List (ByteArray × List Int)).length + nodesP ⟨f0, f1, f2, f3, args⟩ ≤ 1000000 := by simpa using hn
  have hg1 : w.heap.size ≤ w.heap.size + 1 := by omega
  have hg2 : w.heap.size ≤ w.heap.size + 1 + 1 := by omega
  clear s1 s2 hbl X1 X2 X3
  go_upto_region 2 with (go_at_call 25; refine (walkv_call w (w.heap.size + 1) (w.heap.size + 1 + 1) hg1 hg2 f0 f1 f2 f3 args A4 c4 [] _ HO.out BL.out HC.out hc4 hn0).mono ?_; rintro e W5 ⟨rfl, ho, hk⟩; have O5 := Lib.hid ho; have K5 := Lib.hid hk; clear ho hk)
  rw [List.nil_append, hl] at O5
  obtain ⟨v1, v2, z1, z2, r1, r2⟩ := O5.out
  obtain ⟨A1, c1, rfl⟩ := Kd.R_slice r1
  obtain ⟨A2, c2, rfl⟩ := Kd.R_slice r2
  rw [List.length_map] at z1 z2 r1 r2
  have Z1 := Lib.hid z1
  have Z2 := Lib.hid z2
  have n21 : w.heap.size + 1 + 1 ≠ w.heap.size + 1 := by omega
  have ZD1 := Lib.hid (blk_drew z1)
  have ZD2 := Lib.hid (blk_drew z2)
  have R1 := Lib.hid (Kd.R_drew r1)
  have R2 := Lib.hid (Kd.R_drew r2)
  have BW := Lib.hid (below_drew1 (BL.out.trans (K5.out.below BL.out.size)))
  clear z1 z2 r1 r2 O5 y0 y1 y2 y3 y4
  refine start_ (n := 4) (S := fun w' => w'.cell? ⟨w.heap.size + 1, 0, none⟩ = some (.slice A1 l.length c1) ∧ w'.cell? ⟨w.heap.size + 1 + 1, 0, none⟩ = some (.slice A2 l.length c2)) (ds := [3]) #[false, false, false, false] (by kernel_rfl) rfl rfl ⟨blk_cell (blk_drew Z1.out) 0, blk_cell (blk_drew Z2.out) 0⟩ (fun hHeld => ?_)
  generalize W5.drew = WD at *
  have hfr1 := blk_frozen ZD1.out 0
  have hfr3 := blk_frozen ((Below.heap_setCell WD ⟨w.heap.size + 1, 0, none⟩ (.slice A1 l.length c1) (w.heap.size + 1 + 1) n21).trans ZD2.out) 0
  have hcc1 : (WD.setCell ⟨w.heap.size + 1, 0, none⟩ (.slice A1 l.length c1)).cell? ⟨w.heap.size + 1, 0, none⟩ = some (.slice A1 l.length c1) := blk_cell (show (WD.setCell ⟨w.heap.size + 1, 0, none⟩ (.slice A1 l.length c1)).heap[w.heap.size + 1]? = some (.cells #[.slice A1 l.length c1] 23 (0, 0)) from by have := blk_set ZD1.out 0 (.slice A1 l.length c1); simpa only [List.setIfInBounds_toArray, List.set_cons_zero] using this) 0
  have hcc3 := blk_cell ((Below.heap_setCell WD ⟨w.heap.size + 1, 0, none⟩ (.slice A1 l.length c1) (w.heap.size + 1 + 1) n21).trans ZD2.out) 0
  refine take_ (i := 0) (N := some 7) (v := ?_) (a' := ?_) #[true, false, false, false] rfl rfl (by kernel_rfl) (fun _ _ _ h => h) (Or.inl ⟨by rfl, ?_⟩) hHeld ?_ ?_
  rotate_left
  · rintro w' ⟨s0, s1⟩
    go_simp
    with_reducible rfl
  rotate_left
  · simp only [Act.put, List.setIfInBounds_toArray, List.set_cons_zero, List.set_cons_succ, i64_w, i32_w]
    rfl
  refine take_ (i := 1) (N := some 8) (v := ?_) (a' := ?_) #[true, true, false, false] rfl rfl (by kernel_rfl) (fun _ _ _ h => h) (Or.inl ⟨by rfl, ?_⟩) hHeld ?_ ?_
  rotate_left
  · rintro w' ⟨s0, s1⟩
    go_simp
    with_reducible rfl
  rotate_left
  · simp only [Act.put, List.setIfInBounds_toArray, List.set_cons_zero, List.set_cons_succ, i64_w, i32_w]
    rfl
  refine one_ (i := 2) (N := none) #[true, true, true, false] rfl rfl (by kernel_rfl) (by decide) (fun K hK => ?_)
  refine skip_ (w1 := ?_) (by rfl) rfl ?_ ?_
  rotate_left
  · go_simp
    rfl
  refine hK.out _ _ ⟨hcc1, hcc3⟩ (fun hHeld => ?_)
  clear hK K
  refine last_ (i := 3) (N := none) #[true, true, true, true] rfl rfl (by kernel_rfl) (by decide) (fun K hK => ?_)
  refine skip_ (w1 := ?_) (by rfl) rfl ?_ ?_
  rotate_left
  · go_simp
    rfl
  refine hK.out _ _ ?_
  clear hK K
  refine done_ (by kernel_rfl) ?_
  clear hHeld
  have D1 := ZD1.out
  have D2 := ZD2.out
  have E1 : (WD.setCell ⟨w.heap.size + 1, 0, none⟩ (.slice A1 l.length c1)).heap[w.heap.size + 1]? = some (.cells #[.slice A1 l.length c1] 23 (0, 0)) := by have := blk_set D1 0 (.slice A1 l.length c1); simpa only [List.setIfInBounds_toArray, List.set_cons_zero] using this
  have E2 := (Below.heap_setCell WD ⟨w.heap.size + 1, 0, none⟩ (.slice A1 l.length c1) (w.heap.size + 1 + 1) n21).trans D2
  have F1 := Lib.hid ((Below.heap_setCell (WD.setCell ⟨w.heap.size + 1, 0, none⟩ (.slice A1 l.length c1)) ⟨w.heap.size + 1 + 1, 0, none⟩ (.slice A2 l.length c2) (w.heap.size + 1) n21.symm).trans E1)
  have F2 := Lib.hid (show ((WD.setCell ⟨w.heap.size + 1, 0, none⟩ (.slice A1 l.length c1)).setCell ⟨w.heap.size + 1 + 1, 0, none⟩ (.slice A2 l.length c2)).heap[w.heap.size + 1 + 1]? = some (.cells #[.slice A2 l.length c2] 71 (0, 0)) from by have := blk_set E2 0 (.slice A2 l.length c2); simpa only [List.setIfInBounds_toArray, List.set_cons_zero] using this)
  have S1 := Lib.hid (Kd.R_set (Kd.R_set R1.out D1 (by decide) 0 (.slice A1 l.length c1)) E2 (by decide) 0 (.slice A2 l.length c2))
  have S2 := Lib.hid (Kd.R_set (Kd.R_set R2.out D1 (by decide) 0 (.slice A1 l.length c1)) E2 (by decide) 0 (.slice A2 l.length c2))
  have B2 := Lib.hid ((BW.out.setCell (p := ⟨w.heap.size + 1, 0, none⟩) hg1 (.slice A1 l.length c1)).setCell (p := ⟨w.heap.size + 1 + 1, 0, none⟩) hg2 (.slice A2 l.length c2))
  clear D1 D2 E1 E2 hfr1 hfr3 hcc1 hcc3 ZD1 ZD2 Z1 Z2 R1 R2
  generalize (WD.setCell ⟨w.heap.size + 1, 0, none⟩ (.slice A1 l.length c1)).setCell ⟨w.heap.size + 1 + 1, 0, none⟩ (.slice A2 l.length c2) = W6 at *
  obtain ⟨_, q1, q2⟩ := Kd.R_reads' S1.out
  obtain ⟨_, q3, q4⟩ := Kd.R_reads' S2.out
  have q2' := q2
  rw [List.length_map] at q2'
  have q4' := q4
  rw [List.length_map] at q4'
  go_wp2
  refine bodyPost_ret (results19 _ _ _ _ _ _ rfl rfl F1.out F2.out) rfl ⟨A1, c1, A2, c2, rfl, q1, q3, q2', q4', B2.out⟩
end Go.Proofs.Ytelheeekbihfcaa.Pt
