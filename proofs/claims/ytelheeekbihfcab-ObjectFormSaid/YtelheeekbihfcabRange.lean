/- A range over a function whose body never leaves early: one law, with a ghost that the iterator names and a word on what is handed next. -/
import Derived.RangeFuncNested
import Derived.RangeFuncBound
import Derived.RangeFuncCalls
import Derived.RangeFuncLeaves
import Derived.WalkKit
import Derived.OwnWalkIn
import Derived.TacticsInMore
import Derived.LoopNIn
import Derived.LoopIn
set_option linter.unusedVariables false
set_option linter.unusedSimpArgs false
namespace Go.Proofs.Ytelheeekbihfcab.Rng
open Go.RowKit
variable {F : Fence} {n : Nat} {P : Program}

/-- How the body of a round is left: it goes on. -/
def goesOn (W : World) (K : World → Prop) : Exit → Act → World → Prop
  | .normal, _, W' => KeepsOthers W W' ∧ K W'
  | _, _, _ => False

/-- Blocks of cells of type T stay. -/
def KeepT (T : TypeId) (W W' : World) : Prop := ∀ (k : Nat) (cs : Array Value), W.heap[k]? = some (.cells cs T (0, 0)) → W'.heap[k]? = some (.cells cs T (0, 0))
theorem KeepT.trans {T : TypeId} {A B C : World} (h : KeepT T A B) (k : KeepT T B C) : KeepT T A C := fun i cs hi => k i cs (h i cs hi)
theorem KeepT.putObj {T : TypeId} {A : World} {n : Nat} {L : Loop} (h : A.heap[n]? = some (.loop L)) (o : Obj) : KeepT T A (A.putObj n o) := fun i cs hi => by
  have : i ≠ n := by rintro rfl; rw [h] at hi; injection hi with hi; cases hi
  exact (World.putObj_heap_other this).trans hi
theorem range_law {T : TypeId} {γ α : Type} {g : Operand} {ps : Array Tmp} {assign body : Code} {Q : Exit → Act → World → Prop} {a : Act} {w : World}
    (hro : F.round = none) (h1 : 1 ≤ n) {gf : Nat} {lb : Array Value} (hg : a.eval g = .func (.func gf) #[] lb) (hFg : F.fn gf) (eg : ∀ args w, (callFunc gf args).run P w = .ok (.enter gf args) w)
    {encs : α → Array Value} (hps : ∀ x, (encs x).size = ps.size)
    (Vd : γ → List α → α → Prop) (All : γ → List α → Prop) (It : γ → World → Prop) (St : γ → World → World → Prop) (I : γ → List α → World → Prop)
    (hI : ∀ c pre W (L L' : Loop), W.heap[w.heap.size + 1]? = some (.loop L) → I c pre W → I c pre (W.putObj (w.heap.size + 1) (.loop L'))) (hIt : ∀ c pre W, I c pre W → It c W)
    (hIb : ∀ c pre W W', I c pre W → Below W.heap.size W W' → I c pre W')
    (hseq : ∀ (W : World) (J : γ → List α → World → Prop), Below w.heap.size w W → (∀ c pre W', J c pre W' → It c W') → (∀ c pre W1 W2, J c pre W1 → Below W1.heap.size W1 W2 → J c pre W2) → (∀ c W', Below W.heap.size W W' → St c W W' → J c [] W') →
      (∀ c pre x W1, Vd c pre x → J c pre W1 → YieldAt F (n - 1 - 1) P (w.heap.size + 1) (encs x) W1 fun e W' => e = .returned (.bool true) ∧ J c (pre ++ [x]) W' ∧ KeepT T W1 W') →
      CallsIn F (n - 1) P gf (#[.func (.yield (w.heap.size + 1)) #[] #[]] ++ lb) W fun e W' => (∃ v, e = .returned v) ∧ ∃ c xs, All c xs ∧ J c xs W')
    (hstart : ∀ c W W', Below w.heap.size w W → w.heap.size + 2 = W.heap.size → Below W.heap.size W W' → St c W W' → I c [] W')
    (hround : ∀ c pre x W (L : Loop), W.heap[w.heap.size + 1]? = some (.loop L) → Vd c pre x → I c pre W →
      assign.wpIn (F.inRound (w.heap.size + 1)) (n - 1 - 1) P (Exit.then (fun a₁ W₁ => KeepsOthers W W₁ ∧ KeepT T W W₁ ∧ ∀ L' : Loop, body.wpIn (F.inRound (w.heap.size + 1)) (n - 1 - 1) P (goesOn (W₁.putObj (w.heap.size + 1) (.loop L')) (fun W' => I c (pre ++ [x]) W' ∧ KeepT T (W₁.putObj (w.heap.size + 1) (.loop L')) W')) a₁ (W₁.putObj (w.heap.size + 1) (.loop L'))) (fun _ _ _ => False))
        { tmps := (ps.zip (encs x)).foldl (fun t (p, v) => t.setIfInBounds p v) a.tmps, defers := [] } W)
    (hdone : ∀ c xs W, All c xs → I c xs W → W.heap[w.heap.size]? = some (.deferred (some [])) → Q .normal { a with defers := { target := .collected w.heap.size, args := #[] } :: a.defers } W) :
    (Code.rangeFunc g ps assign body).wpIn F n P Q a w := by
  refine wpIn_rangeFunc ?_
  intro fn hfn
  rw [hro]
  obtain ⟨rec, hrec⟩ : ∃ rec : LoopState → Option Code → Loop, rec = fun st pe => { state := st, pending := pe, fn, tmps := a.tmps, params := ps, assign, body, defers := w.heap.size } := ⟨_, rfl⟩
  obtain ⟨W1, hW1⟩ : ∃ W1, (w.alloc (.deferred (some []))).alloc (.loop (rec .ready none)) = W1 := ⟨_, rfl⟩
  have hs1 : w.heap.size + 2 = W1.heap.size := by rw [← hW1]; simp
  have hL1 : W1.heap[w.heap.size + 1]? = some (.loop (rec .ready none)) := by
    rw [← hW1]; have := World.alloc_heap_new (w.alloc (.deferred (some []))) (.loop (rec .ready none)); rwa [World.size_alloc] at this
  have hK1 : W1.heap[w.heap.size]? = some (.deferred (some [])) := by
    rw [← hW1]; exact (Below.heap_alloc _ _ _ (by simp)).trans (World.alloc_heap_new w _)
  have hb1 : Below w.heap.size w W1 := by rw [← hW1]; exact ((Below.refl _ w).alloc (Nat.le_refl _) _).alloc (by simp) _
  refine ⟨w.heap.size + 1, [{ target := .collected w.heap.size, args := #[] }], W1, { target := .fn (.func gf) lb, args := #[.func (.yield (w.heap.size + 1)) #[] #[]] }, W1, gf,
    #[.func (.yield (w.heap.size + 1)) #[] #[]] ++ lb, W1, ?_, ?_, ?_, ?_, fun _ => h1, ?_⟩
  · rw [← hW1, hrec]; exact run_enterLoop_outer _ _ _ _ _
  · simp only [resolve, hg]
    simp [go_sem]
  · intro f' hf'; simp [Target.leads] at hf'; subst hf'; exact hFg
  · simp [invoke, go_sem, eg]
  · refine (hseq W1 (fun c pre W => I c pre W ∧ W.heap[w.heap.size + 1]? = some (.loop (rec .ready none)) ∧ W.heap[w.heap.size]? = some (.deferred (some []))) hb1 (fun c pre W h => hIt c pre W h.1) (fun c pre V V' h hb => ⟨hIb c pre V V' h.1 hb, (hb.block _ (Array.getElem?_eq_some_iff.1 h.2.1).1).trans h.2.1, (hb.block _ (Array.getElem?_eq_some_iff.1 h.2.2).1).trans h.2.2⟩) ?_ ?_).mono ?_
    · intro c W' hb hst
      exact ⟨hstart c W1 W' hb1 hs1 hb hst, (hb.block _ (by omega)).trans hL1, (hb.block _ (by omega)).trans hK1⟩
    · rintro c pre x W hv ⟨hi, hl, hk⟩
      have hy := run_yield (P := P) (args := encs x) hl (by rw [hrec]; exact hps x)
      rw [hrec] at hy
      refine ⟨fn, _, assign, body, hy, roundIn_of_wpIn hfn (wpIn_mono (hround c pre x W _ hl hv hi) ?_)⟩
      rintro e₁ a₁ W₁ hp₁
      cases e₁ with
      | exit id => exact hp₁.elim
      | goto l => exact hp₁.elim
      | ret => exact hp₁.elim
      | panic ch => exact hp₁.elim
      | outgrown => exact hp₁.elim
      | normal => ?_
      obtain ⟨hk₁, ht₁, hbody⟩ := hp₁
      have hl₁ : W₁.heap[w.heap.size + 1]? = some (.loop (rec .ready none)) := hk₁.same _ _ hl rfl
      have hk₁' : W₁.heap[w.heap.size]? = some (.deferred (some [])) := hk₁.same _ _ hk rfl
      have hlt : w.heap.size + 1 < W₁.heap.size := (Array.getElem?_eq_some_iff.1 hl₁).1
      refine ⟨_, run_beginRound hl₁ (by rw [hrec]), ?_⟩
      have hl2 : (W₁.putObj (w.heap.size + 1) (.loop { rec .ready none with state := .busy })).heap[w.heap.size + 1]? = some (.loop { rec .ready none with state := .busy }) := World.putObj_heap_same hlt
      have hk2 : (W₁.putObj (w.heap.size + 1) (.loop { rec .ready none with state := .busy })).heap[w.heap.size]? = some (.deferred (some [])) := (World.putObj_heap_other (by omega)).trans hk₁'
      refine wpIn_mono (hbody _) ?_
      rintro e a3 W3 hp
      cases e with
      | normal =>
        obtain ⟨hk3, hi3, ht3⟩ := hp
        have hl3 := hk3.same _ _ hl2 rfl
        have hlt3 : w.heap.size + 1 < W3.heap.size := (Array.getElem?_eq_some_iff.1 hl3).1
        have hr := run_endRound (P := P) none hl3
        rw [hrec] at hr
        refine ⟨_, _, hr, rfl, ⟨hI c _ _ _ _ hl3 hi3, ?_, (World.putObj_heap_other (by omega)).trans (hk3.same _ _ hk2 rfl)⟩, (((ht₁.trans (KeepT.putObj hl₁ _)).trans ht3).trans (KeepT.putObj hl3 _))⟩
        rw [World.putObj_heap_same hlt3, hrec]
        rfl
      | ret => exact hp.elim
      | exit id => exact hp.elim
      | goto t => exact hp.elim
      | panic ch => exact hp.elim
      | outgrown => exact hp.elim
    · rintro e W2 ⟨⟨v, rfl⟩, c, xs, hA, hi, hl, hk⟩
      exact ⟨none, _, by have := run_endLoop (P := P) hl (by rw [hrec]; simp); rw [hrec] at this; exact this, hdone c xs _ hA (hI c xs _ _ _ hl hi) ((World.putObj_heap_other (by omega)).trans hk)⟩
#print axioms range_law
end Go.Proofs.Ytelheeekbihfcab.Rng
