/- The law's look at a value comes back. -/
import Derived.Test.YtelheeekbihfcaaGoP
set_option linter.unusedVariables false
set_option linter.unusedSimpArgs false
namespace Go.Proofs.Ytelheeekbihfcaa.Pt
open Go.RowKit Go.Proofs Go.Proofs.Ytelheeekbihfcaa.PPatternFirst Go.Proofs.YtelheeekbihfcaaW.PrintWords Go.Proofs.YtelheeekbihfcaaW.PrintMore Go.Proofs.YtelheeekbihfcaaW.PrintLast

mutual
/-- How many parts a value has. -/
def nodesV : S27 → Nat
  | ⟨_, _, args⟩ => 1 + nodesVL args
def nodesVL : List S27 → Nat
  | [] => 0
  | x :: r => nodesV x + nodesVL r
end
theorem nodesVL_len : ∀ (l : List S27), l.length ≤ nodesVL l
  | [] => Nat.zero_le _
  | ⟨_, _, args⟩ :: r => by
    have := nodesVL_len r
    simp only [nodesVL, nodesV, List.length_cons]
    omega
theorem nodesVL_mem : ∀ (l : List S27) (x : S27), x ∈ l → nodesV x ≤ nodesVL l
  | y :: r, x, h => by
    rw [nodesVL]
    rcases List.mem_cons.1 h with rfl | h
    · omega
    · have := nodesVL_mem r x h; omega
theorem rd27 (l : List S27) (i : Nat) (h : i < l.length) : rd_T27 l (i : Int) = l[i] := by
  unfold rd_T27
  rw [Int.toNat_natCast, List.getD_eq_getElem?_getD, List.getElem?_eq_getElem h]
  rfl
theorem nodesV_args (x : S27) : nodesVL x.f2 + 1 = nodesV x := by
  cases x
  simp only [nodesV]
  omega

theorem many_tot (N : Nat) (hN : N ≤ 1000000) : ∀ (M : Nat) (args : List S27), nodesVL args ≤ M → M ≤ N → ∀ a b a1, ∃ k r, postbaglaw15_many.f k a b args a1 = some r := by
  intro M
  induction M with
  | zero =>
    intro args h hM a b a1
    have hl := nodesVL_len args
    obtain rfl : args = [] := List.eq_nil_of_length_eq_zero (by omega)
    exact ⟨2, 1, by rw [postbaglaw15_many.f, postbaglaw15_many.l0, if_neg (by simp)]⟩
  | succ M ih =>
    intro args h hM a b a1
    have hl := nodesVL_len args
    have hloop : ∀ (d i : Nat) (x1 x5 : Int), args.length - i = d → i ≤ args.length → ∃ k r, postbaglaw15_many.l0 k x1 x5 args args.length i = some r := by
      intro d
      induction d with
      | zero =>
        intro i x1 x5 hd hi
        obtain rfl : i = args.length := by omega
        exact ⟨1, x5, by rw [postbaglaw15_many.l0, if_neg (by omega)]⟩
      | succ d ih2 =>
        intro i x1 x5 hd hi
        have hlt : i < args.length := by omega
        by_cases h5 : x5 > x1
        · exact ⟨1, x5, by rw [postbaglaw15_many.l0, if_pos (by omega), if_pos (by omega), if_pos (by omega), if_pos h5]⟩
        · have hmem := nodesVL_mem args args[i] (List.getElem_mem hlt)
          have hna := nodesV_args args[i]
          obtain ⟨k1, r1, e1⟩ := ih args[i].f2 (by omega) (by omega) args[i].f0 args[i].f1 (wrap64 (x1 - x5))
          obtain ⟨k2, r2, e2⟩ := ih2 (i + 1) x1 (wrap64 (x5 + r1)) (by omega) (by omega)
          refine ⟨k1 + k2 + 1, r2, ?_⟩
          rw [postbaglaw15_many.l0, if_pos (by omega), if_pos (by omega), if_pos (by omega), if_neg h5, rd27 args i hlt, leo_up (fun k => (postbaglaw15_many.mono_l k).1 _ _ _ _) e1 k2, Option.bind_some, w_inc i (by omega), show k1 + k2 = k2 + k1 by omega]
          exact leo_up (fun k => (postbaglaw15_many.mono_l k).2 _ _ _ _ _) e2 k1
    obtain ⟨k, r, e⟩ := hloop args.length 0 a1 1 (by omega) (by omega)
    exact ⟨k + 1, r, by rw [postbaglaw15_many.f]; exact e⟩
theorem deep_tot (N : Nat) (hN : N ≤ 1000000) : ∀ (M : Nat) (args : List S27), nodesVL args ≤ M → M ≤ N → ∀ a b a1, ∃ k r, postbaglaw15_deep.f k a b args a1 = some r := by
  intro M
  induction M with
  | zero =>
    intro args h hM a b a1
    have hl := nodesVL_len args
    obtain rfl : args = [] := List.eq_nil_of_length_eq_zero (by omega)
    by_cases h0 : a1 = 0
    · exact ⟨2, 0, by rw [postbaglaw15_deep.f, if_pos h0]⟩
    · exact ⟨2, _, by rw [postbaglaw15_deep.f, if_neg h0, postbaglaw15_deep.l0, if_neg (by simp)]⟩
  | succ M ih =>
    intro args h hM a b a1
    have hl := nodesVL_len args
    have hloop : ∀ (d i : Nat) (x1 x5 : Int), args.length - i = d → i ≤ args.length → ∃ k r, postbaglaw15_deep.l0 k x1 x5 args args.length i = some r := by
      intro d
      induction d with
      | zero =>
        intro i x1 x5 hd hi
        obtain rfl : i = args.length := by omega
        exact ⟨1, _, by rw [postbaglaw15_deep.l0, if_neg (by omega)]⟩
      | succ d ih2 =>
        intro i x1 x5 hd hi
        have hlt : i < args.length := by omega
        have hmem := nodesVL_mem args args[i] (List.getElem_mem hlt)
        have hna := nodesV_args args[i]
        obtain ⟨k1, r1, e1⟩ := ih args[i].f2 (by omega) (by omega) args[i].f0 args[i].f1 (wrap64 (x1 - 1))
        obtain ⟨k2, r2, e2⟩ := ih2 (i + 1) x1 (mx x5 r1) (by omega) (by omega)
        refine ⟨k1 + k2 + 1, r2, ?_⟩
        rw [postbaglaw15_deep.l0, if_pos (by omega), if_pos (by omega), if_pos (by omega), rd27 args i hlt, leo_up (fun k => (postbaglaw15_deep.mono_l k).1 _ _ _ _) e1 k2, Option.bind_some, w_inc i (by omega), show k1 + k2 = k2 + k1 by omega]
        exact leo_up (fun k => (postbaglaw15_deep.mono_l k).2 _ _ _ _ _) e2 k1
    by_cases h0 : a1 = 0
    · exact ⟨1, 0, by rw [postbaglaw15_deep.f, if_pos h0]⟩
    · obtain ⟨k, r, e⟩ := hloop args.length 0 a1 0 (by omega) (by omega)
      exact ⟨k + 1, r, by rw [postbaglaw15_deep.f, if_neg h0]; exact e⟩
theorem light15_tot (v : S27) (hv : nodesV v ≤ 1000000) : ∃ k r, postbaglaw15_Light.f k [v] = some r := by
  have hna := nodesV_args v
  obtain ⟨k1, r1, e1⟩ := many_tot 1000000 (by omega) (nodesVL v.f2) v.f2 (Nat.le_refl _) (by omega) v.f0 v.f1 500
  obtain ⟨k2, r2, e2⟩ := deep_tot 1000000 (by omega) (nodesVL v.f2) v.f2 (Nat.le_refl _) (by omega) v.f0 v.f1 100
  have h0 : rd_T27 [v] 0 = v := rfl
  have f1 := leo_up (fun k => (postbaglaw15_many.mono_l k).1 _ _ _ _) e1 (k2 + 1)
  have f2 := leo_up (fun k => (postbaglaw15_deep.mono_l k).1 _ _ _ _) e2 (k1 + 1)
  rw [show k2 + (k1 + 1) = k1 + (k2 + 1) by omega] at f2
  have hfin : ∀ k, postbaglaw15_Light.l0 (k + 1) [v] 1 (wrap64 (0 + 1)) = some true := fun k => by rw [postbaglaw15_Light.l0, if_neg (by rw [w_small _ (by omega) (by omega)]; omega)]
  have hl : ∀ k, postbaglaw15_Light.f (k + 1) [v] = (postbaglaw15_many.f k v.f0 v.f1 v.f2 500).bind fun t148 => (if t148 > 500 then (some false) else ((postbaglaw15_deep.f k v.f0 v.f1 v.f2 100).bind fun t149 => (if t149 ≥ 100 then (some false) else (postbaglaw15_Light.l0 k [v] 1 (wrap64 (0 + 1)))))) := fun k => by
    unfold postbaglaw15_Light.f
    rw [postbaglaw15_Light.l0, h0]
    rfl
  refine ⟨k1 + (k2 + 1) + 1, (if r1 > 500 then false else if r2 ≥ 100 then false else true), ?_⟩
  rw [hl, f1, Option.bind_some, f2, Option.bind_some, show k1 + (k2 + 1) = (k1 + k2) + 1 by omega, hfin]
  repeat' split
  all_goals rfl
end Go.Proofs.Ytelheeekbihfcaa.Pt
