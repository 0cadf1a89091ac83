/- The program's way to give a life the nearest slot. -/
import Derived.Test.YtelheeekbihfcacPScanAssignsx1
import Derived.StillTailTactics
import Derived.Lib.Hide
set_option linter.unusedVariables false
set_option linter.unusedSimpArgs false
namespace Go.Proofs.Ytelheeekbihfcac.Srt
open Go.RowKit Go.Proofs Go.Proofs.Ytelheeekbihfcac.PScanAssigns Go.Proofs.YtelheeekbihfcacW.PrintWords

def meetsB (a b : S40) : Bool := decide (a.f0 < b.f1) && decide (b.f0 < a.f1)

set_option maxHeartbeats 400000 in
theorem meets_any (a b : S40) (w : World) :
    Calls Try.prog 18 #[.agg #[.int .i64 a.f0, .int .i64 a.f1], .agg #[.int .i64 b.f0, .int .i64 b.f1]] w fun e w' => e = .returned (.bool (meetsB a b)) ∧ Below w.heap.size w w' := by
  have hB : ∀ o o', Below w.heap.size w ((w.alloc o).alloc o') := fun o o' => below_alloc (below_alloc (Below.refl _ _) _) _
  have HB := Lib.hid hB
  clear hB
  by_cases h1 : a.f0 < b.f1
  · have h1b : decide (a.f0 < b.f1) = true := by simpa using h1
    have hm : meetsB a b = decide (b.f0 < a.f1) := by unfold meetsB; rw [h1b]; rfl
    rw [hm]
    clear hm
    go_enter Try.func18, Try.ntmps18
    go_wp2
    go_ret
    exact ⟨rfl, HB.out _ _⟩
  · have h1b : decide (a.f0 < b.f1) = false := by simpa using h1
    have hm : meetsB a b = false := by unfold meetsB; rw [h1b]; rfl
    rw [hm]
    clear hm
    go_enter Try.func18, Try.ntmps18
    go_wp2
    go_ret
    exact ⟨rfl, HB.out _ _⟩

theorem nodup_inj {α : Type} {l : List α} (h : l.Nodup) {i j : Nat} (hi : i < l.length) (hj : j < l.length) (e : l[i] = l[j]) : i = j := by
  have hp := List.pairwise_iff_getElem.1 h
  rcases Nat.lt_trichotomy i j with h1 | h1 | h1
  · exact absurd e (hp i j hi hj h1)
  · exact h1
  · exact absurd e.symm (hp j i hj hi h1)

/-! ### Known blocks -/
/-- The blocks of L hold what L says, and no block stands twice. -/
structure HC (L : List (Nat × Obj)) (W : World) : Prop where
  get : ∀ p, p ∈ L → W.heap[p.1]? = some p.2
  nd : (L.map (·.1)).Nodup
theorem HC.at {L : List (Nat × Obj)} {W : World} (h : HC L W) (i : Nat) {b : Nat} {o : Obj} (hi : L[i]? = some (b, o)) : W.heap[b]? = some o := h.get _ (List.mem_of_getElem? hi)
theorem HC.grown {L : List (Nat × Obj)} {W W' : World} {row : Option Nat} (h : HC L W) (hg : W.grownBy W' row) (hr : ∀ p, p ∈ L → some p.1 ≠ row) : HC L W' :=
  ⟨fun p hp => (hg.block p.1 (Array.getElem?_eq_some_iff.1 (h.get p hp)).1 (hr p hp)).trans (h.get p hp), h.nd⟩
theorem HC.below {L : List (Nat × Obj)} {W W' : World} (h : HC L W) (hb : Below W.heap.size W W') : HC L W' :=
  ⟨fun p hp => (hb.block p.1 (Array.getElem?_eq_some_iff.1 (h.get p hp)).1).trans (h.get p hp), h.nd⟩
theorem HC.set {L : List (Nat × Obj)} {W : World} (h : HC L W) (i : Nat) {b : Nat} {cs : Array Value} {t : TypeId} (hi : L[i]? = some (b, .cells cs t (0, 0))) (j : Nat) (v : Value) : HC (L.set i (b, .cells (cs.setIfInBounds j v) t (0, 0))) (W.setCell ⟨b, j, none⟩ v) := by
  have hb := h.at i hi
  obtain ⟨hil, hie⟩ := List.getElem?_eq_some_iff.1 hi
  have hmap : (L.set i (b, Obj.cells (cs.setIfInBounds j v) t (0, 0))).map (·.1) = L.map (·.1) := by
    rw [List.map_set]
    have : (L.map (·.1))[i]'(by simpa using hil) = b := by simp [hie]
    rw [← this, List.set_getElem_self]
  refine ⟨fun p hp => ?_, by rw [hmap]; exact h.nd⟩
  rcases List.mem_or_eq_of_mem_set hp with hp' | rfl
  · -- another block, or the same pair elsewhere
    by_cases hpb : p.1 = b
    · obtain ⟨k, hk, hke⟩ := List.getElem_of_mem hp
      have hk' : k < L.length := by simpa using hk
      have hnd := h.nd
      have hki : k = i := by
        have e1 : ((L.set i (b, Obj.cells (cs.setIfInBounds j v) t (0, 0))).map (·.1))[k]'(by simpa using hk) = b := by rw [List.getElem_map, hke, hpb]
        have e2 : (L.map (·.1))[k]'(by simpa using hk') = b := by simp only [hmap] at e1; exact e1
        have e3 : (L.map (·.1))[i]'(by simpa using hil) = b := by simp [hie]
        exact nodup_inj hnd _ _ (e2.trans e3.symm)
      subst hki
      have : p = (b, Obj.cells (cs.setIfInBounds j v) t (0, 0)) := by rw [← hke, List.getElem_set_self]
      rw [this]
      exact blk_set hb j v
    · exact (Below.heap_setCell W ⟨b, j, none⟩ v p.1 hpb).trans (h.get p hp')
  · exact blk_set hb j v
theorem HC.alloc {L : List (Nat × Obj)} {W : World} (h : HC L W) (o : Obj) : HC ((W.heap.size, o) :: L) (W.alloc o) := by
  refine ⟨fun p hp => ?_, ?_⟩
  · rcases List.mem_cons.1 hp with rfl | hp'
    · exact blk_new W o
    · exact blk_alloc (h.get p hp') o
  · simp only [List.map_cons, List.nodup_cons]
    refine ⟨fun hm => ?_, h.nd⟩
    obtain ⟨p, hp, he⟩ := List.mem_map.1 hm
    have := (Array.getElem?_eq_some_iff.1 (h.get p hp)).1
    omega
theorem HC.sub {L L' : List (Nat × Obj)} {W : World} (h : HC L W) (hs : List.Sublist L' L) : HC L' W := ⟨fun p hp => h.get p (hs.subset hp), h.nd.sublist (hs.map _)⟩
theorem HC.nil (W : World) : HC [] W := ⟨(fun p hp => by cases hp), List.nodup_nil⟩
theorem HC.ne {L : List (Nat × Obj)} {W : World} (h : HC L W) (i j : Nat) {b b' : Nat} {o o' : Obj} (hi : L[i]? = some (b, o)) (hj : L[j]? = some (b', o')) (hij : i ≠ j) : b ≠ b' := by
  intro e
  obtain ⟨hil, hie⟩ := List.getElem?_eq_some_iff.1 hi
  obtain ⟨hjl, hje⟩ := List.getElem?_eq_some_iff.1 hj
  have e1 : (L.map (·.1))[i]'(by simpa using hil) = b := by simp [hie]
  have e2 : (L.map (·.1))[j]'(by simpa using hjl) = b' := by simp [hje]
  exact hij (nodup_inj h.nd _ _ (e1.trans (e.trans e2.symm)))
end Go.Proofs.Ytelheeekbihfcac.Srt
