/- A list of lives that came in, read. -/
import Derived.Test.YtelheeekbihfcacLivesW
import Derived.Deep.SlicePairs
import Derived.ProofKit
set_option linter.unusedVariables false
namespace Go.Proofs.Ytelheeekbihfcac.Srt
open Go.RowKit Go.ChangeShapes Go.WideShapes Go.ChangeAt Go.Proofs Go.Proofs.Ytelheeekbihfcac.PScanAssigns Go.Proofs.YtelheeekbihfcacW.PrintWords

theorem cell_int {H : Type} {enc : TypeId × Value → H} {w : World} {base : Nat} {spare : Nat → Bool} {held : Bool} {n t : Nat} {v : Value} {d : DataW H} {p : List MemPlace} (ht : Try.prog.underlying t = some (.int .i64)) (h : DataW.trod enc Try.prog w base spare held n t [v] = some (d, p)) : ∃ x : Int, v = .int .i64 x := by
  obtain ⟨n', h1, _, _⟩ := DataW.trod_int ht h
  injection h1 with h1
  exact ⟨n', h1⟩

theorem pick_list {P : Nat → S40 → Prop} : ∀ n, (∀ i, i < n → ∃ q, P i q) → ∃ l : List S40, l.length = n ∧ ∀ i q, l[i]? = some q → P i q
  | 0, _ => ⟨[], rfl, fun i q hi => by simp at hi⟩
  | n + 1, h => by
    obtain ⟨l, h1, h2⟩ := pick_list n (fun i hi => h i (by omega))
    obtain ⟨q, hq⟩ := h n (by omega)
    refine ⟨l ++ [q], by simp [h1], fun i q' hi => ?_⟩
    rcases Nat.lt_or_ge i l.length with h3 | h3
    · rw [List.getElem?_append_left h3] at hi
      exact h2 i q' hi
    · have hlt := (List.getElem?_eq_some_iff.1 hi).1
      simp at hlt
      obtain rfl : i = n := by omega
      rw [List.getElem?_append_right h3, show i - l.length = 0 by omega] at hi
      injection hi with hi
      subst hi
      exact hq

theorem open_lives {H : Type} {enc : TypeId × Value → H} {W : World} {base : Nat} {spare : Nat → Bool} {held : Bool} {fuel : Nat} {a : Option Addr} {len cap : Nat} {x : DataW H × List MemPlace}
    (h : DataW.trod enc Try.prog W base spare held fuel 22 (Value.slice a len cap).cells.toList = some x) : ∃ l : List S40, l.length = len ∧ len ≤ cap ∧ Kd.C k40 W a len l := by
  rcases _root_.Go.Deep.open_slice_pairs Try.underlying22 Try.underlying40 (by kernel_rfl) rfl rfl (by kernel_rfl) (by kernel_rfl) h with ⟨hcs, _⟩ | ⟨ad, len', cap', m, n, V0, V1, D0, D1, P0, P1, hcs, _, hl, hm, hmm, _, hx⟩
  · simp [Value.cells] at hcs
    obtain ⟨rfl, rfl, rfl⟩ := hcs
    exact ⟨[], rfl, Nat.le_refl _, rfl, by omega, fun h => absurd h (by omega)⟩
  · simp [Value.cells] at hcs
    obtain ⟨rfl, rfl, rfl⟩ := hcs
    have hlm : len ≤ m := by rw [hmm]; split <;> omega
    have hv : ∀ i, i < len → ∃ q : S40, V0 i = .int .i64 q.f0 ∧ V1 i = .int .i64 q.f1 := fun i hi => by
      obtain ⟨h1, h2, h3, h4⟩ := hx i (by omega)
      obtain ⟨x0, e0⟩ := cell_int Try.underlying3 h3
      obtain ⟨x1, e1⟩ := cell_int Try.underlying3 h4
      exact ⟨⟨x0, x1⟩, e0, e1⟩
    obtain ⟨l, hll, hlq⟩ := pick_list len hv
    refine ⟨l, hll, hl, hll, by have := hm; simp only [maxLen] at this; omega, fun _ => ⟨ad, rfl, fun j p hj => ⟨[.int .i64 p.f0, .int .i64 p.f1], rfl, k40_mk W p, fun i u hu => ?_⟩⟩⟩
    have hj' := (List.getElem?_eq_some_iff.1 hj).1
    obtain ⟨h1, h2, _⟩ := hx j (by omega)
    obtain ⟨e0, e1⟩ := hlq j p hj
    show W.cell? (ad.add (j * 2 + i)) = some u
    rcases i with _ | _ | i
    · simp at hu; subst hu; rw [← e0]; exact h1
    · simp at hu; subst hu; rw [← e1]; exact h2
    · simp at hu
end Go.Proofs.Ytelheeekbihfcac.Srt
