/- The pattern's walk through a pattern: each part's tests are told. -/
import Derived.Test.YtelheeekbihfcaaAtC
set_option linter.unusedVariables false
set_option linter.unusedSimpArgs false
namespace Go.Proofs.Ytelheeekbihfcaa.Pt
open Go.RowKit Go.Proofs Go.Proofs.Ytelheeekbihfcaa.PPatternFirst Go.Proofs.YtelheeekbihfcaaW.PrintWords Go.Proofs.YtelheeekbihfcaaW.PrintMore Go.Proofs.YtelheeekbihfcaaW.PrintLast

/-- What the walk's functions hold. -/
structure Boxes (go ga b2 b3 : Nat) (Aa : Option Addr) (na ca : Nat) (W : World) : Prop where
  a : W.heap[ga]? = some (.cells #[.slice Aa na ca] 23 (0, 0))
  b : W.heap[b2]? = some (.cells #[.func (.func 26) #[] #[.pointer (some ⟨go, 0, none⟩), .pointer (some ⟨ga, 0, none⟩)]] 84 (0, 0))
  c : W.heap[b3]? = some (.cells #[.func (.func 34) #[] #[.pointer (some ⟨b2, 0, none⟩), .pointer (some ⟨b3, 0, none⟩)]] 84 (0, 0))
theorem ne_blk {W : World} {g h : Nat} {cs ds : Array Value} {t u : TypeId} (hg : W.heap[g]? = some (.cells cs t (0, 0))) (hh : W.heap[h]? = some (.cells ds u (0, 0))) (hne : t ≠ u) : g ≠ h := fun e => by
  subst e
  rw [hg] at hh
  injection hh with hh
  injection hh with _ hh
  exact hne hh
theorem Boxes.keep {go ga b2 b3 : Nat} {Aa : Option Addr} {na ca base : Nat} {W W' : World} {l : List S39} (h : Boxes go ga b2 b3 Aa na ca W) (hO : OutB base go W l) (hK : KT base go W W') : Boxes go ga b2 b3 Aa na ca W' := by
  obtain ⟨v, hv, _⟩ := hO
  exact ⟨hK.blk h.a (by decide) (ne_blk h.a hv (by decide)), hK.blk h.b (by decide) (ne_blk h.b hv (by decide)), hK.blk h.c (by decide) (ne_blk h.c hv (by decide))⟩
theorem Boxes.below {go ga b2 b3 : Nat} {Aa : Option Addr} {na ca : Nat} {W W' : World} (h : Boxes go ga b2 b3 Aa na ca W) (hb : Below W.heap.size W W') : Boxes go ga b2 b3 Aa na ca W' := ⟨blk_below h.a hb, blk_below h.b hb, blk_below h.c hb⟩

/-- What is to be shown of a pattern. -/
def GoOk (W0 : World) (go ga b2 b3 : Nat) (at_ : List ByteArray) (Aa : Option Addr) (ca : Nat) (p : S53) : Prop :=
  ∀ (b' : Nat) (A4 : Option Addr) (c4 : Nat) (vp : Value) (path : List Int) (l : List S39) (W : World), OutB W0.heap.size go W l → Below W0.heap.size W0 W → Boxes go ga b2 b3 Aa at_.length ca W → Kd.C k53 W0 A4 p.f4.length p.f4 → p.f4.length ≤ c4 →
    Kd.R (Kd.int .i64) 3 W b' (fun _ => True) vp path → W0.heap.size ≤ b' → l.length + nodesP p ≤ 1000000 → path.length + nodesP p ≤ 1000000 →
    Calls Try.prog 34 #[.agg #[.int .i64 p.f0, .int .i64 p.f1, .int .i64 p.f2, .string p.f3, .slice A4 p.f4.length c4], vp, .pointer (some ⟨b2, 0, none⟩), .pointer (some ⟨b3, 0, none⟩)] W fun e W' => e = .returned (.tuple #[]) ∧ OutB W0.heap.size go W' (l ++ testsP at_ p path) ∧ KT W0.heap.size go W W'

theorem nodesL_le : ∀ (l : List S53), l.length ≤ nodesL l
  | [] => Nat.zero_le _
  | ⟨_, _, _, _, args⟩ :: r => by
    have := nodesL_le r
    simp only [nodesL, nodesP, List.length_cons]
    omega
theorem testsL_snoc (at_ : List ByteArray) : ∀ (l : List S53) (x : S53) (path : List Int) (i : Nat), testsL at_ (l ++ [x]) path i = testsL at_ l path i ++ testsP at_ x (path ++ [((i + l.length : Nat) : Int)])
  | [], x, path, i => by simp [testsL]
  | y :: l, x, path, i => by
    have ih := testsL_snoc at_ l x path (i + 1)
    rw [List.cons_append, testsL, ih, testsL, List.append_assoc, List.length_cons, show i + 1 + l.length = i + (l.length + 1) by omega]
mutual
theorem testsP_len (at_ : List ByteArray) : ∀ (p : S53) (path : List Int), (testsP at_ p path).length ≤ nodesP p
  | ⟨k, a, n, nm, args⟩, path => by
    have h := testsL_len at_ args path 0
    have h1 : (ownT at_ ⟨k, a, n, nm, args⟩ path).length ≤ 1 := by
      unfold ownT
      repeat' split
      all_goals simp
    unfold testsP nodesP
    rw [List.length_append]
    split
    · omega
    · simp; omega
theorem testsL_len (at_ : List ByteArray) : ∀ (l : List S53) (path : List Int) (i : Nat), (testsL at_ l path i).length ≤ nodesL l
  | [], _, _ => by simp [testsL, nodesL]
  | x :: r, path, i => by
    have h1 := testsP_len at_ x (path ++ [(i : Int)])
    have h2 := testsL_len at_ r path (i + 1)
    simp only [testsL, nodesL, List.length_append]
    omega
end
theorem nodesL_app : ∀ a b : List S53, nodesL (a ++ b) = nodesL a + nodesL b
  | [], b => by simp [nodesL]
  | x :: a, b => by simp [nodesL, nodesL_app a b]; omega
theorem nodesL_get {l : List S53} {i : Nat} (h : i < l.length) : nodesL (l.take i) + nodesP l[i] ≤ nodesL l := by
  have e : l = l.take i ++ (l[i] :: l.drop (i + 1)) := by rw [← List.drop_eq_getElem_cons h, List.take_append_drop]
  have h2 := congrArg nodesL e
  rw [nodesL_app, nodesL] at h2
  omega
end Go.Proofs.Ytelheeekbihfcaa.Pt
