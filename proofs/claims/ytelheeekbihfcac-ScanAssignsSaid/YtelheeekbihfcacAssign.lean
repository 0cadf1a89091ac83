/- The program's Assign, walked: what it answers is what the state comes to, life by life in the stable order. -/
import Derived.Test.YtelheeekbihfcacRun
import Derived.Test.YtelheeekbihfcacTaken
import Derived.Test.YtelheeekbihfcacPScanAssignsx2
import Derived.Sort.CutIn
import Derived.WalkMore
set_option linter.unusedVariables false
set_option linter.unusedSimpArgs false
namespace Go.Proofs.Ytelheeekbihfcac.Srt
open Go.RowKit Go.Proofs Go.Proofs.Ytelheeekbihfcac.PScanAssigns Go.Proofs.YtelheeekbihfcacW.PrintWords Go.Proofs.YtelheeekbihfcacW.PrintMore
attribute [local go_sem] Oper.semAt_some

set_option maxRecDepth 100000 in
set_option maxHeartbeats 2000000 in
theorem assign_bad (k : Nat) (A : Option Addr) (c0 : Nat) (l : List S40) (a1 : Int) (r : Bool) (w : World) (hr0 : Kd.C k40 w A l.length l) (hc0 : l.length ≤ c0) (h : scan_Good.f k l = some r) (hb : r = false ∨ a1 < 0 ∨ 64 < a1) :
    Calls Try.prog 8 #[.slice A l.length c0, .int .i64 a1] w fun e w' => e = .returned (.tuple #[.slice none 0 0, .int .i64 0]) ∧ Below w.heap.size w w' := by
  have HG := Lib.hid fun W => fun hW : Below w.heap.size w W => scan_Good.calls k A c0 l r W (Kd.C_below hr0 hW) hc0 h
  clear hr0 h
  have HB := Lib.hid (below_alloc (below_alloc (below_alloc (Below.refl w.heap.size w) (.cells #[.slice A l.length c0] 22)) (.cells #[.slice none 0 0] 24)) (.cells #[.int .i64 0] 3))
  have hres : ∀ W : World, Below w.heap.size w W → Below w.heap.size w ((W.setCell ⟨w.heap.size + 1, 0, none⟩ (.slice none 0 0)).setCell ⟨w.heap.size + 1 + 1, 0, none⟩ (.int .i64 0)) := fun W hW => (hW.setCell (p := ⟨w.heap.size + 1, 0, none⟩) (by simp) _).setCell (p := ⟨w.heap.size + 1 + 1, 0, none⟩) (by simp; omega) _
  have HRes := Lib.hid hres
  have hcs : ∀ w1 : World, Below (((w.alloc (.cells #[.slice A l.length c0] 22)).alloc (.cells #[.slice none 0 0] 24)).alloc (.cells #[.int .i64 0] 3)).heap.size (((w.alloc (.cells #[.slice A l.length c0] 22)).alloc (.cells #[.slice none 0 0] 24)).alloc (.cells #[.int .i64 0] 3)) w1 →
      w1.cell? ⟨w.heap.size + 1, 0, none⟩ = some (.slice none 0 0) ∧ w1.cell? ⟨w.heap.size + 1 + 1, 0, none⟩ = some (.int .i64 0) ∧ w1.frozen? ⟨w.heap.size + 1, 0, none⟩ = false ∧ w1.frozen? ⟨w.heap.size + 1 + 1, 0, none⟩ = false := fun w1 hb1 => by
    have e1 : w1.heap[w.heap.size + 1]? = some (.cells #[.slice none 0 0] 24 (0, 0)) := by
      refine blk_below (blk_alloc ?_ _) hb1
      have := blk_new (w.alloc (.cells #[.slice A l.length c0] 22)) (.cells #[.slice none 0 0] 24)
      rwa [World.size_alloc] at this
    have e2 : w1.heap[w.heap.size + 1 + 1]? = some (.cells #[.int .i64 0] 3 (0, 0)) := by
      refine blk_below ?_ hb1
      have := blk_new ((w.alloc (.cells #[.slice A l.length c0] 22)).alloc (.cells #[.slice none 0 0] 24)) (.cells #[.int .i64 0] 3)
      rwa [World.size_alloc, World.size_alloc] at this
    exact ⟨blk_cell e1 0, blk_cell e2 0, blk_frozen e1 0, blk_frozen e2 0⟩
  have HCs := Lib.hid hcs
  clear hres hcs
  have fin : ∀ (b : Bool), (b = r) → True := fun _ _ => trivial
  clear fin
  cases r with
  | false =>
    clear hb
    go_enter Try.func8, Try.ntmps8
    go_wp2
    go_step3
    go_wp2_with (go_at_call 12; refine (HG.out _ HB.out).mono ?_; rintro e w1 ⟨rfl, hb1⟩; obtain ⟨q1, q2, q3, q4⟩ := HCs.out _ hb1; have hB1 := Lib.hid (below_step HB.out hb1); clear hb1)
    rw [Exit.noGoto_ret]
    exact bodyPost_ret (v := .tuple #[.slice none 0 0, .int .i64 0]) (by simp [results, Try.results8, go_sem, q1, q2]) rfl ⟨rfl, HRes.out _ hB1.out⟩
  | true =>
    by_cases h1 : a1 < 0
    · go_enter Try.func8, Try.ntmps8
      go_wp2
      go_step3
      go_wp2_with (go_at_call 12; refine (HG.out _ HB.out).mono ?_; rintro e w1 ⟨rfl, hb1⟩; obtain ⟨q1, q2, q3, q4⟩ := HCs.out _ hb1; have hB1 := Lib.hid (below_step HB.out hb1); clear hb1)
      rw [Exit.noGoto_ret]
      exact bodyPost_ret (v := .tuple #[.slice none 0 0, .int .i64 0]) (by simp [results, Try.results8, go_sem, q1, q2]) rfl ⟨rfl, HRes.out _ hB1.out⟩
    · have h2 : 64 < a1 := by
        rcases hb with hb | hb | hb
        · cases hb
        · exact absurd hb h1
        · exact hb
      clear hb
      go_enter Try.func8, Try.ntmps8
      go_wp2
      go_step3
      go_wp2_with (go_at_call 12; refine (HG.out _ HB.out).mono ?_; rintro e w1 ⟨rfl, hb1⟩; obtain ⟨q1, q2, q3, q4⟩ := HCs.out _ hb1; have hB1 := Lib.hid (below_step HB.out hb1); clear hb1)
      rw [Exit.noGoto_ret]
      exact bodyPost_ret (v := .tuple #[.slice none 0 0, .int .i64 0]) (by simp [results, Try.results8, go_sem, q1, q2]) rfl ⟨rfl, HRes.out _ hB1.out⟩
end Go.Proofs.Ytelheeekbihfcac.Srt
