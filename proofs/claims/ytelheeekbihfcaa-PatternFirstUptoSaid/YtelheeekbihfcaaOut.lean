/- The pattern's tests: what a pattern has; the function that is called at each part. -/
import Derived.Test.YtelheeekbihfcaaLonger
set_option linter.unusedVariables false
set_option linter.unusedSimpArgs false
namespace Go.Proofs.Ytelheeekbihfcaa.Pt
open Go.RowKit Go.Proofs Go.Proofs.Ytelheeekbihfcaa.PPatternFirst Go.Proofs.YtelheeekbihfcaaW.PrintWords Go.Proofs.YtelheeekbihfcaaW.PrintMore Go.Proofs.YtelheeekbihfcaaW.PrintLast

/-- The last place of a text. -/
def lastOf : List ByteArray → ByteArray → Int
  | [], _ => -1
  | x :: r, s => if lastOf r s = -1 then (if x.toList = s.toList then 0 else -1) else lastOf r s + 1
/-- The test that a pattern has itself. -/
def ownT (at_ : List ByteArray) (p : S53) (path : List Int) : List S39 :=
  if p.f0 = 2 then [⟨path, 2, p.f2⟩] else if p.f0 = 3 then [⟨path, 3, lastOf at_ p.f3⟩] else if p.f0 = 5 then [⟨path, 5, (p.f4.length : Int)⟩] else []
mutual
/-- A pattern's tests. -/
def testsP (at_ : List ByteArray) : S53 → List Int → List S39
  | ⟨k, a, n, nm, args⟩, path => ownT at_ ⟨k, a, n, nm, args⟩ path ++ (if k = 5 then testsL at_ args path 0 else [])
def testsL (at_ : List ByteArray) : List S53 → List Int → Nat → List S39
  | [], _, _ => []
  | x :: r, path, i => testsP at_ x (path ++ [(i : Int)]) ++ testsL at_ r path (i + 1)
end
mutual
/-- How many parts. -/
def nodesP : S53 → Nat
  | ⟨_, _, _, _, args⟩ => 1 + nodesL args
def nodesL : List S53 → Nat
  | [] => 0
  | x :: r => nodesP x + nodesL r
end

/-- The box go has a row of the call's own: the tests l. -/
def OutB (base go : Nat) (W : World) (l : List S39) : Prop := ∃ v, W.heap[go]? = some (.cells #[v] 50 (0, 0)) ∧ Kd.R k39 39 W base (fun _ => True) v l
/-- What may change: the box, and rows of tests of the call's own. -/
def ST (base g : Nat) (W : World) (k : Nat) : Prop := base ≤ k ∧ (k = g ∨ ∃ cells fr, W.heap[k]? = some (.cells cells 39 fr))
structure KT (base g : Nat) (W W' : World) : Prop where
  os : W'.os = W.os
  tape : W'.tape = W.tape
  output : W'.output = W.output
  size : W.heap.size ≤ W'.heap.size
  block : ∀ k, k < W.heap.size → ¬ ST base g W k → W'.heap[k]? = W.heap[k]?
theorem KT.refl (base g : Nat) (W : World) : KT base g W W := ⟨rfl, rfl, rfl, Nat.le_refl _, fun _ _ _ => rfl⟩
theorem KT.trans {base g : Nat} {A B C : World} (h : KT base g A B) (k : KT base g B C) : KT base g A C :=
  ⟨k.os.trans h.os, k.tape.trans h.tape, k.output.trans h.output, Nat.le_trans h.size k.size, fun i hi hs => by
    have h1 := h.block i hi hs
    refine (k.block i (Nat.lt_of_lt_of_le hi h.size) (fun ⟨h2, h3⟩ => hs ⟨h2, ?_⟩)).trans h1
    rw [h1] at h3
    exact h3⟩
theorem KT.of_below {base g : Nat} {W W' : World} (h : Below W.heap.size W W') : KT base g W W' := ⟨h.os, h.tape, h.output, h.size, fun k hk _ => h.block k hk⟩
theorem KT.alloc {base g : Nat} {W W' : World} (h : KT base g W W') (o : Obj) : KT base g W (W'.alloc o) := h.trans (KT.of_below (below_alloc (Below.refl _ _) o))
theorem KT.drew {base g : Nat} {W W' : World} (h : KT base g W W') : KT base g W W'.drew := ⟨h.os, h.tape, h.output, h.size, h.block⟩
theorem KT.grown {base g n : Nat} {W W1 : World} {v : Value} {xs : List Value} (hg : W.grownBy W1 v.ownBlock) (ho : W.ownsRow base 39 3 v n xs) : KT base g W W1 :=
  ⟨hg.os, hg.tape, hg.output, hg.size, fun k hk hs => hg.block k hk (fun e => by
    obtain ⟨cells, hc⟩ := own_typed ho k e.symm
    exact hs ⟨own_base ho k e.symm, Or.inr ⟨cells, _, hc⟩⟩)⟩
theorem KT.set {base g : Nat} (W : World) (hb : base ≤ g) (j : Nat) (v : Value) : KT base g W (W.setCell ⟨g, j, none⟩ v) :=
  ⟨rfl, rfl, rfl, by simp, fun k _ hs => Below.heap_setCell W ⟨g, j, none⟩ v k (fun e => hs ⟨by rw [e]; exact hb, Or.inl e⟩)⟩
theorem KT.below {base g : Nat} {W W' : World} (h : KT base g W W') (hb : base ≤ W.heap.size) : Below base W W' :=
  ⟨h.os, h.tape, h.output, h.size, fun k hk => h.block k (by omega) (fun e => by have := e.1; omega)⟩
/-- A block of another type stays. -/
theorem KT.blk {base g t : Nat} {W W' : World} {cs : Array Value} (h : KT base g W W') {b : Nat} (hb : W.heap[b]? = some (.cells cs t (0, 0))) (ht : t ≠ 39) (hg : b ≠ g) : W'.heap[b]? = some (.cells cs t (0, 0)) :=
  (h.block b (blk_lt hb) (fun ⟨_, e⟩ => by
    rcases e with e | ⟨cells, fr, e⟩
    · exact hg e
    · rw [hb] at e
      injection e with e
      injection e with _ e
      exact ht e)).trans hb
theorem OutB.lt {base g : Nat} {W : World} {l : List S39} (h : OutB base g W l) : g < W.heap.size := by obtain ⟨v, h1, _⟩ := h; exact blk_lt h1
theorem OutB.below {base g : Nat} {W W' : World} {l : List S39} (h : OutB base g W l) (hb : Below W.heap.size W W') : OutB base g W' l := by
  obtain ⟨v, h1, h2⟩ := h
  exact ⟨v, blk_below h1 hb, Kd.R_below h2 hb⟩
/-- Behind an append and its store. -/
theorem OutB.store {base g : Nat} {W W1 : World} {v v1 : Value} {l l1 : List S39} (hg0 : W.heap[g]? = some (.cells #[v] 50 (0, 0))) (hv : Kd.R k39 39 W base (fun _ => True) v l) (hg : W.grownBy W1 v.ownBlock)
    (ho : Kd.R k39 39 W1 base (fun _ => True) v1 l1) : OutB base g (W1.setCell ⟨g, 0, none⟩ v1) l1 := by
  have hne : some g ≠ v.ownBlock := Kd.R_ne hv hg0 (by decide)
  have h1 := blk_grown hg0 hg hne
  exact ⟨v1, by have := blk_set h1 0 v1; simpa using this, Kd.R_set ho h1 (by decide) 0 v1⟩
theorem KT.store {base g : Nat} {W W1 : World} {v v1 : Value} {l : List S39} (hb : base ≤ g) (hv : Kd.R k39 39 W base (fun _ => True) v l) (hg : W.grownBy W1 v.ownBlock) : KT base g W (W1.setCell ⟨g, 0, none⟩ v1) := by
  obtain ⟨inner, ho⟩ := Kd.R_own hv
  exact (KT.grown hg ho).trans (KT.set W1 hb 0 v1)
theorem info39' : (Try.prog.info? 39).map (fun i => (i.zero, i.size, i.bytes)) = some (some (.agg #[.slice none 0 0, .int .i64 0, .int .i64 0]), 3, 40) := by kernel_rfl
/-- A path beside a row of tests. -/
theorem path_ok {W : World} {base b' : Nat} {vp v : Value} {path : List Int} {l : List S39} (hp : Kd.R (Kd.int .i64) 3 W b' (fun _ => True) vp path) (hb : base ≤ b') (hv : Kd.R k39 39 W base (fun _ => True) v l) :
    Kd.R (Kd.int .i64) 3 W base (fun k => some k ≠ v.ownBlock) vp path := by
  refine Kd.R_lower (Kd.R_of_own (h1 := fun _ => rfl) (Kd.own_of_R (h1 := fun _ => rfl) hp) (fun k hk he => ?_)) hb
  obtain ⟨c1, e1⟩ := own_typed (Kd.own_of_R (h1 := fun _ => rfl) hp) k hk
  obtain ⟨inner, ho⟩ := Kd.R_own hv
  obtain ⟨c2, e2⟩ := own_typed ho k he.symm
  rw [e1] at e2
  injection e2 with e2
  injection e2 with _ e2
  exact absurd e2 (by decide)
end Go.Proofs.Ytelheeekbihfcaa.Pt
