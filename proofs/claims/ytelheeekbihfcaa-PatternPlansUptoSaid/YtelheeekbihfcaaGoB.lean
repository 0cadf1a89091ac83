/- GoP, 12 declarations cut; ManyP -/
import Derived.Test.YtelheeekbihfcaaPlanB
section
/- The plan's answer: from a pattern's first node on the first pattern all of whose tests fit. -/
set_option linter.unusedVariables false
set_option linter.unusedSimpArgs false
namespace Go.Proofs.Ytelheeekbihfcaa.Pt
open Go.RowKit Go.Proofs Go.Proofs.Ytelheeekbihfcaa.PPatternFirst Go.Proofs.YtelheeekbihfcaaW.PrintWords Go.Proofs.YtelheeekbihfcaaW.PrintMore Go.Proofs.YtelheeekbihfcaaW.PrintLast
theorem leo_up {α : Type} {f : Nat → Option α} (h : ∀ k, LeO (f k) (f (k + 1))) {k : Nat} {r : α} (hr : f k = some r) : ∀ m, f (k + m) = some r
  | 0 => hr
  | m + 1 => h (k + m) r (leo_up h hr m)
theorem leo_le {α : Type} {f : Nat → Option α} (h : ∀ k, LeO (f k) (f (k + 1))) {k m : Nat} {r : α} (hr : f k = some r) (hm : k ≤ m) : f m = some r := by
  obtain ⟨d, rfl⟩ := Nat.exists_eq_add_of_le hm
  exact leo_up h hr d
/-- A part of a value. -/
def atV : S27 → List Int → Option S27
  | v, [] => some v
  | v, n :: r => if n < 0 then none else if n ≥ (v.f2.length : Int) then none else atV (rd_T27 v.f2 n) r
/-- Whether a test fits. -/
def fitsV (v : S27) (t : S39) : Bool :=
  match atV v t.f0 with
  | none => false
  | some x => if t.f1 = 2 then (x.f0 == 1 && (x.f1 == t.f2)) else if t.f1 = 3 then (x.f0 == 2 && (x.f1 == t.f2)) else if t.f1 = 5 then (x.f0 == 4 && ((x.f2.length : Int) == t.f2)) else false
def atR : Option S27 → Int × Int × List S27 × Bool
  | none => (0, 0, [], false)
  | some x => (x.f0, x.f1, x.f2, true)
theorem at_l0 (path : List Int) (hn : path.length ≤ 1000000) : ∀ (d i : Nat) (x : S27), path.length - i = d → i ≤ path.length → pattern_At.l0 (d + 1) path path.length i x.f0 x.f1 x.f2 = some (atR (atV x (path.drop i))) := by
  intro d
  induction d with
  | zero =>
    intro i x hd hi
    obtain rfl : i = path.length := by omega
    rw [pattern_At.l0, if_neg (by omega), List.drop_length]
    rfl
  | succ d ih =>
    intro i x hd hi
    have hlt : i < path.length := by omega
    rw [pattern_At.l0, if_pos (by omega), if_pos (by omega), if_pos (by omega), rd_get path i hlt, List.drop_eq_getElem_cons hlt, atV]
    by_cases h1 : path[i] < 0
    · rw [if_pos h1, if_pos h1]; rfl
    · rw [if_neg h1, if_neg h1]
      by_cases h2 : path[i] ≥ (x.f2.length : Int)
      · rw [if_pos h2, if_pos h2]; rfl
      · rw [if_neg h2, if_neg h2, if_pos (by omega), if_pos (by omega), w_inc i (by omega)]
        exact ih (i + 1) _ (by omega) (by omega)
theorem fits_f (v : S27) (t : S39) (hn : t.f0.length ≤ 1000000) : pattern_Fits.f (t.f0.length + 1) t.f0 t.f1 t.f2 v.f0 v.f1 v.f2 = some (fitsV v t) := by
  have h := at_l0 t.f0 hn t.f0.length 0 v (by omega) (Nat.zero_le _)
  rw [List.drop_zero] at h
  unfold pattern_Fits.f pattern_At.f
  rw [show (((0 : Nat) : Int)) = 0 from rfl] at h
  rw [h]
  unfold fitsV
  cases atV v t.f0 with
  | none => rfl
  | some x =>
    simp only [atR, Option.bind_some, if_true]
    repeat' split
    all_goals rfl
/-- Where nodes go, in so many steps. -/
def goV (nodes : List S41) (v : S27) : Nat → Int → Int
  | 0, _ => -2
  | n + 1, i => if i < 0 ∨ i ≥ (nodes.length : Int) then -2 else if (rd_T41 nodes i).f3 = -1 then goV nodes v n (if fitsV v (rd_T41 nodes i).f0 = true then (rd_T41 nodes i).f1 else (rd_T41 nodes i).f2) else (rd_T41 nodes i).f3
theorem rd41_mem (nodes : List S41) (i : Int) (h0 : 0 ≤ i) (h1 : i < nodes.length) : rd_T41 nodes i ∈ nodes := by
  unfold rd_T41
  rw [List.getD_eq_getElem?_getD, List.getElem?_eq_getElem (by omega)]
  exact List.getElem_mem _
theorem go_l0 (nodes : List S41) (v : S27) (K : Nat) (hn : nodes.length ≤ 1000000) (hp : ∀ x, x ∈ nodes → x.f0.f0.length + 1 ≤ K) (hp2 : ∀ x, x ∈ nodes → x.f0.f0.length ≤ 1000000) : ∀ (d s : Nat) (i : Int), nodes.length + 1 - s = d → s ≤ nodes.length + 1 → pattern_Go.l0 (K + 2 * d + 1) nodes i ((nodes.length : Int) + 1) s v.f0 v.f1 v.f2 = some (goV nodes v d i) := by
  intro d
  induction d with
  | zero =>
    intro s i hd hs
    rw [pattern_Go.l0, if_neg (by omega)]
    rfl
  | succ d ih =>
    intro s i hd hs
    rw [show K + 2 * (d + 1) + 1 = (K + 2 * d + 1 + 1) + 1 by omega, pattern_Go.l0, if_pos (by omega), goV]
    have hj : ∀ q : Bool, pattern_Go.j1 (K + 2 * d + 1 + 1) nodes i ((nodes.length : Int) + 1) s q v.f0 v.f1 v.f2 = if q = true then some (-2) else (if 0 ≤ i then (if i < (nodes.length : Int) then (if ((rd_T41 nodes i).f3) = (-1) then ((pattern_Fits.f (K + 2 * d + 1) ((rd_T41 nodes i).f0.f0) ((rd_T41 nodes i).f0.f1) ((rd_T41 nodes i).f0.f2) v.f0 v.f1 v.f2).bind fun t175 => (if t175 = true then (pattern_Go.l0 (K + 2 * d + 1) nodes ((rd_T41 nodes i).f1) ((nodes.length : Int) + 1) (wrap64 (s + 1)) v.f0 v.f1 v.f2) else (pattern_Go.l0 (K + 2 * d + 1) nodes ((rd_T41 nodes i).f2) ((nodes.length : Int) + 1) (wrap64 (s + 1)) v.f0 v.f1 v.f2))) else (some ((rd_T41 nodes i).f3))) else (none)) else (none)) := fun q => by rw [pattern_Go.j1]
    rw [hj, hj]
    by_cases h0 : i < 0
    · rw [if_pos h0, if_pos rfl, if_pos (Or.inl h0)]
    · rw [if_neg h0]
      by_cases h1 : i ≥ (nodes.length : Int)
      · rw [if_pos (by simpa using h1), if_pos (Or.inr h1)]
      · rw [if_neg (show ¬ (decide (i ≥ (nodes.length : Int)) = true) by simpa using h1), if_pos (show 0 ≤ i by omega), if_pos (show i < (nodes.length : Int) by omega), if_neg (show ¬ (i < 0 ∨ i ≥ (nodes.length : Int)) by omega)]
        have hm := rd41_mem nodes i (by omega) (by omega)
        by_cases h3 : (rd_T41 nodes i).f3 = -1
        · have hf := leo_le (fun k => pattern_Fits.mono _ _ _ _ _ _ k) (fits_f v (rd_T41 nodes i).f0 (hp2 _ hm)) (show _ ≤ K + 2 * d + 1 by have := hp _ hm; omega)
          rw [if_pos h3, if_pos h3, hf, Option.bind_some]
          have h6 := fun q => ih (s + 1) q (by omega) (by omega)
          rw [w_inc s (by omega)]
          cases hfv : fitsV v (rd_T41 nodes i).f0 with
          | true => rw [if_pos rfl, if_pos rfl]; exact h6 _
          | false => rw [if_neg (by simp), if_neg (by simp)]; exact h6 _
        · rw [if_neg h3, if_neg h3]
theorem go_f (nodes : List S41) (v : S27) (i : Int) (hn : nodes.length ≤ 1000000) (hp2 : ∀ x, x ∈ nodes → x.f0.f0.length ≤ 1000000) : ∃ k, pattern_Go.f k nodes i v.f0 v.f1 v.f2 = some (goV nodes v (nodes.length + 1) i) := by
  refine ⟨1000001 + 2 * (nodes.length + 1) + 1, ?_⟩
  unfold pattern_Go.f
  rw [w_small _ (by omega) (by omega)]
  exact go_l0 nodes v 1000001 hn (fun x hx => by have := hp2 x hx; omega) hp2 (nodes.length + 1) 0 i (by omega) (by omega)
section
variable (all : List (List S39)) (firsts : List Int) (e : Int) (n : Nat) (tail : List S41)
end
theorem endOf_take_succ (all : List (List S39)) (j : Nat) (h : j < all.length) : endOf (all.take (j + 1)) = endOf (all.take j) + all[j].length + 1 := by
  rw [List.take_succ_eq_append_getElem h, endOf_app]
  simp [endOf]
  omega
section
variable (all : List (List S39)) (v : S27)
theorem nn_len : (nodesOf all (firstsOf all 0) ((endOf all : Nat) : Int) all.length all 0 0 ++ [leafOf (-2)]).length = endOf all + 1 := by
  rw [List.length_append, nodesOf_len]; rfl
end
end Go.Proofs.Ytelheeekbihfcaa.Pt
end
section
/- The law's look at a value comes back. -/
set_option linter.unusedVariables false
set_option linter.unusedSimpArgs false
namespace Go.Proofs.Ytelheeekbihfcaa.Pt
open Go.RowKit Go.Proofs Go.Proofs.Ytelheeekbihfcaa.PPatternFirst Go.Proofs.YtelheeekbihfcaaW.PrintWords Go.Proofs.YtelheeekbihfcaaW.PrintMore Go.Proofs.YtelheeekbihfcaaW.PrintLast
mutual
/-- How many parts a value has. -/
def nodesV : S27 → Nat
  | ⟨_, _, args⟩ => 1 + nodesVL args
def nodesVL : List S27 → Nat
  | [] => 0
  | x :: r => nodesV x + nodesVL r
end
theorem nodesVL_len : ∀ (l : List S27), l.length ≤ nodesVL l
  | [] => Nat.zero_le _
  | ⟨_, _, args⟩ :: r => by
    have := nodesVL_len r
    simp only [nodesVL, nodesV, List.length_cons]
    omega
theorem nodesVL_mem : ∀ (l : List S27) (x : S27), x ∈ l → nodesV x ≤ nodesVL l
  | y :: r, x, h => by
    rw [nodesVL]
    rcases List.mem_cons.1 h with rfl | h
    · omega
    · have := nodesVL_mem r x h; omega
theorem rd27 (l : List S27) (i : Nat) (h : i < l.length) : rd_T27 l (i : Int) = l[i] := by
  unfold rd_T27
  rw [Int.toNat_natCast, List.getD_eq_getElem?_getD, List.getElem?_eq_getElem h]
  rfl
theorem nodesV_args (x : S27) : nodesVL x.f2 + 1 = nodesV x := by
  cases x
  simp only [nodesV]
  omega
theorem many_tot (N : Nat) (hN : N ≤ 1000000) : ∀ (M : Nat) (args : List S27), nodesVL args ≤ M → M ≤ N → ∀ a b a1, ∃ k r, postbaglaw15_many.f k a b args a1 = some r := by
  intro M
  induction M with
  | zero =>
    intro args h hM a b a1
    have hl := nodesVL_len args
    obtain rfl : args = [] := List.eq_nil_of_length_eq_zero (by omega)
    exact ⟨2, 1, by rw [postbaglaw15_many.f, postbaglaw15_many.l0, if_neg (by simp)]⟩
  | succ M ih =>
    intro args h hM a b a1
    have hl := nodesVL_len args
    have hloop : ∀ (d i : Nat) (x1 x5 : Int), args.length - i = d → i ≤ args.length → ∃ k r, postbaglaw15_many.l0 k x1 x5 args args.length i = some r := by
      intro d
      induction d with
      | zero =>
        intro i x1 x5 hd hi
        obtain rfl : i = args.length := by omega
        exact ⟨1, x5, by rw [postbaglaw15_many.l0, if_neg (by omega)]⟩
      | succ d ih2 =>
        intro i x1 x5 hd hi
        have hlt : i < args.length := by omega
        by_cases h5 : x5 > x1
        · exact ⟨1, x5, by rw [postbaglaw15_many.l0, if_pos (by omega), if_pos (by omega), if_pos (by omega), if_pos h5]⟩
        · have hmem := nodesVL_mem args args[i] (List.getElem_mem hlt)
          have hna := nodesV_args args[i]
          obtain ⟨k1, r1, e1⟩ := ih args[i].f2 (by omega) (by omega) args[i].f0 args[i].f1 (wrap64 (x1 - x5))
          obtain ⟨k2, r2, e2⟩ := ih2 (i + 1) x1 (wrap64 (x5 + r1)) (by omega) (by omega)
          refine ⟨k1 + k2 + 1, r2, ?_⟩
          rw [postbaglaw15_many.l0, if_pos (by omega), if_pos (by omega), if_pos (by omega), if_neg h5, rd27 args i hlt, leo_up (fun k => (postbaglaw15_many.mono_l k).1 _ _ _ _) e1 k2, Option.bind_some, w_inc i (by omega), show k1 + k2 = k2 + k1 by omega]
          exact leo_up (fun k => (postbaglaw15_many.mono_l k).2 _ _ _ _ _) e2 k1
    obtain ⟨k, r, e⟩ := hloop args.length 0 a1 1 (by omega) (by omega)
    exact ⟨k + 1, r, by rw [postbaglaw15_many.f]; exact e⟩
theorem deep_tot (N : Nat) (hN : N ≤ 1000000) : ∀ (M : Nat) (args : List S27), nodesVL args ≤ M → M ≤ N → ∀ a b a1, ∃ k r, postbaglaw15_deep.f k a b args a1 = some r := by
  intro M
  induction M with
  | zero =>
    intro args h hM a b a1
    have hl := nodesVL_len args
    obtain rfl : args = [] := List.eq_nil_of_length_eq_zero (by omega)
    by_cases h0 : a1 = 0
    · exact ⟨2, 0, by rw [postbaglaw15_deep.f, if_pos h0]⟩
    · exact ⟨2, _, by rw [postbaglaw15_deep.f, if_neg h0, postbaglaw15_deep.l0, if_neg (by simp)]⟩
  | succ M ih =>
    intro args h hM a b a1
    have hl := nodesVL_len args
    have hloop : ∀ (d i : Nat) (x1 x5 : Int), args.length - i = d → i ≤ args.length → ∃ k r, postbaglaw15_deep.l0 k x1 x5 args args.length i = some r := by
      intro d
      induction d with
      | zero =>
        intro i x1 x5 hd hi
        obtain rfl : i = args.length := by omega
        exact ⟨1, _, by rw [postbaglaw15_deep.l0, if_neg (by omega)]⟩
      | succ d ih2 =>
        intro i x1 x5 hd hi
        have hlt : i < args.length := by omega
        have hmem := nodesVL_mem args args[i] (List.getElem_mem hlt)
        have hna := nodesV_args args[i]
        obtain ⟨k1, r1, e1⟩ := ih args[i].f2 (by omega) (by omega) args[i].f0 args[i].f1 (wrap64 (x1 - 1))
        obtain ⟨k2, r2, e2⟩ := ih2 (i + 1) x1 (mx x5 r1) (by omega) (by omega)
        refine ⟨k1 + k2 + 1, r2, ?_⟩
        rw [postbaglaw15_deep.l0, if_pos (by omega), if_pos (by omega), if_pos (by omega), rd27 args i hlt, leo_up (fun k => (postbaglaw15_deep.mono_l k).1 _ _ _ _) e1 k2, Option.bind_some, w_inc i (by omega), show k1 + k2 = k2 + k1 by omega]
        exact leo_up (fun k => (postbaglaw15_deep.mono_l k).2 _ _ _ _ _) e2 k1
    by_cases h0 : a1 = 0
    · exact ⟨1, 0, by rw [postbaglaw15_deep.f, if_pos h0]⟩
    · obtain ⟨k, r, e⟩ := hloop args.length 0 a1 0 (by omega) (by omega)
      exact ⟨k + 1, r, by rw [postbaglaw15_deep.f, if_neg h0]; exact e⟩
theorem light15_tot (v : S27) (hv : nodesV v ≤ 1000000) : ∃ k r, postbaglaw15_Light.f k [v] = some r := by
  have hna := nodesV_args v
  obtain ⟨k1, r1, e1⟩ := many_tot 1000000 (by omega) (nodesVL v.f2) v.f2 (Nat.le_refl _) (by omega) v.f0 v.f1 500
  obtain ⟨k2, r2, e2⟩ := deep_tot 1000000 (by omega) (nodesVL v.f2) v.f2 (Nat.le_refl _) (by omega) v.f0 v.f1 100
  have h0 : rd_T27 [v] 0 = v := rfl
  have f1 := leo_up (fun k => (postbaglaw15_many.mono_l k).1 _ _ _ _) e1 (k2 + 1)
  have f2 := leo_up (fun k => (postbaglaw15_deep.mono_l k).1 _ _ _ _) e2 (k1 + 1)
  rw [show k2 + (k1 + 1) = k1 + (k2 + 1) by omega] at f2
  have hfin : ∀ k, postbaglaw15_Light.l0 (k + 1) [v] 1 (wrap64 (0 + 1)) = some true := fun k => by rw [postbaglaw15_Light.l0, if_neg (by rw [w_small _ (by omega) (by omega)]; omega)]
  have hl : ∀ k, postbaglaw15_Light.f (k + 1) [v] = (postbaglaw15_many.f k v.f0 v.f1 v.f2 500).bind fun t148 => (if t148 > 500 then (some false) else ((postbaglaw15_deep.f k v.f0 v.f1 v.f2 100).bind fun t149 => (if t149 ≥ 100 then (some false) else (postbaglaw15_Light.l0 k [v] 1 (wrap64 (0 + 1)))))) := fun k => by
    unfold postbaglaw15_Light.f
    rw [postbaglaw15_Light.l0, h0]
    rfl
  refine ⟨k1 + (k2 + 1) + 1, (if r1 > 500 then false else if r2 ≥ 100 then false else true), ?_⟩
  rw [hl, f1, Option.bind_some, f2, Option.bind_some, show k1 + (k2 + 1) = (k1 + k2) + 1 by omega, hfin]
  repeat' split
  all_goals rfl
end Go.Proofs.Ytelheeekbihfcaa.Pt
end
