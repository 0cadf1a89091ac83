/- FirstW, 2 declarations cut -/
import Derived.Test.YtelheeekbihfcaaLightB
import Derived.Test.YtelheeekbihfcaaLivesB
import Derived.Test.YtelheeekbihfcaaGoB
/- The law PatternFirst, walked. -/
set_option linter.unusedVariables false
set_option linter.unusedSimpArgs false
namespace Go.Proofs.Ytelheeekbihfcaa.Pt
open Go.RowKit Go.Proofs Go.Proofs.Ytelheeekbihfcaa.PPatternFirst Go.Proofs.YtelheeekbihfcaaW.PrintWords Go.Proofs.YtelheeekbihfcaaW.PrintMore Go.Proofs.YtelheeekbihfcaaW.PrintLast
theorem blockOf_path (allT : List (List S39)) (firsts : List Int) (e : Int) (n k : Nat) : ∀ (ts : List S39) (pos : Nat) (x : S41), x ∈ blockOf allT firsts e n k ts pos → ∃ t, t ∈ ts ∧ x.f0 = t
  | [], _, _, h => by simp [blockOf] at h
  | t :: r, pos, x, h => by
    rw [blockOf] at h
    rcases List.mem_cons.1 h with rfl | h
    · exact ⟨t, List.mem_cons_self, rfl⟩
    · obtain ⟨u, hu, e⟩ := blockOf_path allT firsts e n k r (pos + 1) x h
      exact ⟨u, List.mem_cons_of_mem _ hu, e⟩
theorem nodesOf_path (allT : List (List S39)) (firsts : List Int) (e : Int) (n : Nat) : ∀ (l : List (List S39)) (k pos : Nat) (x : S41), x ∈ nodesOf allT firsts e n l k pos → x.f0.f0 = [] ∨ ∃ ts t, ts ∈ l ∧ t ∈ ts ∧ x.f0 = t
  | [], _, _, _, h => by simp [nodesOf] at h
  | ts :: r, k, pos, x, h => by
    rw [nodesOf] at h
    rcases List.mem_append.1 h with h | h
    · obtain ⟨t, ht, e⟩ := blockOf_path allT firsts e n k ts pos x h
      exact Or.inr ⟨ts, t, List.mem_cons_self, ht, e⟩
    · rcases List.mem_cons.1 h with rfl | h
      · exact Or.inl rfl
      · rcases nodesOf_path allT firsts e n r (k + 1) _ x h with h | ⟨us, t, h1, h2, h3⟩
        · exact Or.inl h
        · exact Or.inr ⟨us, t, List.mem_cons_of_mem _ h1, h2, h3⟩
theorem nodesL_mem : ∀ (l : List S53) (x : S53), x ∈ l → nodesP x ≤ nodesL l
  | y :: r, x, h => by
    rw [nodesL]
    rcases List.mem_cons.1 h with rfl | h
    · omega
    · have := nodesL_mem r x h; omega
theorem planN_path (at_ : List ByteArray) (l : List S53) (hn : nodesL l ≤ 1000000) : ∀ x, x ∈ planN at_ l → x.f0.f0.length ≤ 1000000 := by
  intro x hx
  unfold planN at hx
  rcases List.mem_append.1 hx with hx | hx
  · rcases nodesOf_path _ _ _ _ _ _ _ x hx with h | ⟨ts, t, h1, h2, h3⟩
    · rw [h]; simp
    · unfold allOf at h1
      obtain ⟨p, hp, rfl⟩ := List.mem_map.1 h1
      have h4 := testsP_path at_ p [] t h2
      have h5 := nodesL_mem l p hp
      rw [h3]
      simp only [List.length_nil] at h4
      omega
  · rw [List.mem_singleton.1 hx]
    simp [leafOf]
end Go.Proofs.Ytelheeekbihfcaa.Pt
