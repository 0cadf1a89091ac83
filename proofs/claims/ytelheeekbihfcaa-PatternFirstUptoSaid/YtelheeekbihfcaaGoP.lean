/- The plan's answer: from a pattern's first node on the first pattern all of whose tests fit. -/
import Derived.Test.YtelheeekbihfcaaPlanA
set_option linter.unusedVariables false
set_option linter.unusedSimpArgs false
namespace Go.Proofs.Ytelheeekbihfcaa.Pt
open Go.RowKit Go.Proofs Go.Proofs.Ytelheeekbihfcaa.PPatternFirst Go.Proofs.YtelheeekbihfcaaW.PrintWords Go.Proofs.YtelheeekbihfcaaW.PrintMore Go.Proofs.YtelheeekbihfcaaW.PrintLast

theorem leo_up {α : Type} {f : Nat → Option α} (h : ∀ k, LeO (f k) (f (k + 1))) {k : Nat} {r : α} (hr : f k = some r) : ∀ m, f (k + m) = some r
  | 0 => hr
  | m + 1 => h (k + m) r (leo_up h hr m)
theorem leo_le {α : Type} {f : Nat → Option α} (h : ∀ k, LeO (f k) (f (k + 1))) {k m : Nat} {r : α} (hr : f k = some r) (hm : k ≤ m) : f m = some r := by
  obtain ⟨d, rfl⟩ := Nat.exists_eq_add_of_le hm
  exact leo_up h hr d

/-- A part of a value. -/
def atV : S27 → List Int → Option S27
  | v, [] => some v
  | v, n :: r => if n < 0 then none else if n ≥ (v.f2.length : Int) then none else atV (rd_T27 v.f2 n) r
/-- Whether a test fits. -/
def fitsV (v : S27) (t : S39) : Bool :=
  match atV v t.f0 with
  | none => false
  | some x => if t.f1 = 2 then (x.f0 == 1 && (x.f1 == t.f2)) else if t.f1 = 3 then (x.f0 == 2 && (x.f1 == t.f2)) else if t.f1 = 5 then (x.f0 == 4 && ((x.f2.length : Int) == t.f2)) else false
def atR : Option S27 → Int × Int × List S27 × Bool
  | none => (0, 0, [], false)
  | some x => (x.f0, x.f1, x.f2, true)
theorem at_l0 (path : List Int) (hn : path.length ≤ 1000000) : ∀ (d i : Nat) (x : S27), path.length - i = d → i ≤ path.length → pattern_At.l0 (d + 1) path path.length i x.f0 x.f1 x.f2 = some (atR (atV x (path.drop i))) := by
  intro d
  induction d with
  | zero =>
    intro i x hd hi
    obtain rfl : i = path.length := by omega
    rw [pattern_At.l0, if_neg (by omega), List.drop_length]
    rfl
  | succ d ih =>
    intro i x hd hi
    have hlt : i < path.length := by omega
    rw [pattern_At.l0, if_pos (by omega), if_pos (by omega), if_pos (by omega), rd_get path i hlt, List.drop_eq_getElem_cons hlt, atV]
    by_cases h1 : path[i] < 0
    · rw [if_pos h1, if_pos h1]; rfl
    · rw [if_neg h1, if_neg h1]
      by_cases h2 : path[i] ≥ (x.f2.length : Int)
      · rw [if_pos h2, if_pos h2]; rfl
      · rw [if_neg h2, if_neg h2, if_pos (by omega), if_pos (by omega), w_inc i (by omega)]
        exact ih (i + 1) _ (by omega) (by omega)
theorem fits_f (v : S27) (t : S39) (hn : t.f0.length ≤ 1000000) : pattern_Fits.f (t.f0.length + 1) t.f0 t.f1 t.f2 v.f0 v.f1 v.f2 = some (fitsV v t) := by
  have h := at_l0 t.f0 hn t.f0.length 0 v (by omega) (Nat.zero_le _)
  rw [List.drop_zero] at h
  unfold pattern_Fits.f pattern_At.f
  rw [show (((0 : Nat) : Int)) = 0 from rfl] at h
  rw [h]
  unfold fitsV
  cases atV v t.f0 with
  | none => rfl
  | some x =>
    simp only [atR, Option.bind_some, if_true]
    repeat' split
    all_goals rfl
/-- Where nodes go, in so many steps. -/
def goV (nodes : List S41) (v : S27) : Nat → Int → Int
  | 0, _ => -2
  | n + 1, i => if i < 0 ∨ i ≥ (nodes.length : Int) then -2 else if (rd_T41 nodes i).f3 = -1 then goV nodes v n (if fitsV v (rd_T41 nodes i).f0 = true then (rd_T41 nodes i).f1 else (rd_T41 nodes i).f2) else (rd_T41 nodes i).f3
theorem rd41_mem (nodes : List S41) (i : Int) (h0 : 0 ≤ i) (h1 : i < nodes.length) : rd_T41 nodes i ∈ nodes := by
  unfold rd_T41
  rw [List.getD_eq_getElem?_getD, List.getElem?_eq_getElem (by omega)]
  exact List.getElem_mem _
theorem go_l0 (nodes : List S41) (v : S27) (K : Nat) (hn : nodes.length ≤ 1000000) (hp : ∀ x, x ∈ nodes → x.f0.f0.length + 1 ≤ K) (hp2 : ∀ x, x ∈ nodes → x.f0.f0.length ≤ 1000000) : ∀ (d s : Nat) (i : Int), nodes.length + 1 - s = d → s ≤ nodes.length + 1 → pattern_Go.l0 (K + 2 * d + 1) nodes i ((nodes.length : Int) + 1) s v.f0 v.f1 v.f2 = some (goV nodes v d i) := by
  intro d
  induction d with
  | zero =>
    intro s i hd hs
    rw [pattern_Go.l0, if_neg (by omega)]
    rfl
  | succ d ih =>
    intro s i hd hs
    rw [show K + 2 * (d + 1) + 1 = (K + 2 * d + 1 + 1) + 1 by omega, pattern_Go.l0, if_pos (by omega), goV]
    have hj : ∀ q : Bool, pattern_Go.j1 (K + 2 * d + 1 + 1) nodes i ((nodes.length : Int) + 1) s q v.f0 v.f1 v.f2 = if q = true then some (-2) else (if 0 ≤ i then (if i < (nodes.length : Int) then (if ((rd_T41 nodes i).f3) = (-1) then ((pattern_Fits.f (K + 2 * d + 1) ((rd_T41 nodes i).f0.f0) ((rd_T41 nodes i).f0.f1) ((rd_T41 nodes i).f0.f2) v.f0 v.f1 v.f2).bind fun t175 => (if t175 = true then (pattern_Go.l0 (K + 2 * d + 1) nodes ((rd_T41 nodes i).f1) ((nodes.length : Int) + 1) (wrap64 (s + 1)) v.f0 v.f1 v.f2) else (pattern_Go.l0 (K + 2 * d + 1) nodes ((rd_T41 nodes i).f2) ((nodes.length : Int) + 1) (wrap64 (s + 1)) v.f0 v.f1 v.f2))) else (some ((rd_T41 nodes i).f3))) else (none)) else (none)) := fun q => by rw [pattern_Go.j1]
    rw [hj, hj]
    by_cases h0 : i < 0
    · rw [if_pos h0, if_pos rfl, if_pos (Or.inl h0)]
    · rw [if_neg h0]
      by_cases h1 : i ≥ (nodes.length : Int)
      · rw [if_pos (by simpa using h1), if_pos (Or.inr h1)]
      · rw [if_neg (show ¬ (decide (i ≥ (nodes.length : Int)) = true) by simpa using h1), if_pos (show 0 ≤ i by omega), if_pos (show i < (nodes.length : Int) by omega), if_neg (show ¬ (i < 0 ∨ i ≥ (nodes.length : Int)) by omega)]
        have hm := rd41_mem nodes i (by omega) (by omega)
        by_cases h3 : (rd_T41 nodes i).f3 = -1
        · have hf := leo_le (fun k => pattern_Fits.mono _ _ _ _ _ _ k) (fits_f v (rd_T41 nodes i).f0 (hp2 _ hm)) (show _ ≤ K + 2 * d + 1 by have := hp _ hm; omega)
          rw [if_pos h3, if_pos h3, hf, Option.bind_some]
          have h6 := fun q => ih (s + 1) q (by omega) (by omega)
          rw [w_inc s (by omega)]
          cases hfv : fitsV v (rd_T41 nodes i).f0 with
          | true => rw [if_pos rfl, if_pos rfl]; exact h6 _
          | false => rw [if_neg (by simp), if_neg (by simp)]; exact h6 _
        · rw [if_neg h3, if_neg h3]
theorem go_f (nodes : List S41) (v : S27) (i : Int) (hn : nodes.length ≤ 1000000) (hp2 : ∀ x, x ∈ nodes → x.f0.f0.length ≤ 1000000) : ∃ k, pattern_Go.f k nodes i v.f0 v.f1 v.f2 = some (goV nodes v (nodes.length + 1) i) := by
  refine ⟨1000001 + 2 * (nodes.length + 1) + 1, ?_⟩
  unfold pattern_Go.f
  rw [w_small _ (by omega) (by omega)]
  exact go_l0 nodes v 1000001 hn (fun x hx => by have := hp2 x hx; omega) hp2 (nodes.length + 1) 0 i (by omega) (by omega)

/-- The first of the patterns from the j-th on all of whose tests fit. -/
def wantL (v : S27) : List (List S39) → Nat → Int
  | [], _ => -2
  | ts :: r, j => if ts.all (fitsV v) = true then (j : Int) else wantL v r (j + 1)
theorem wantL_drop (v : S27) (all : List (List S39)) (j : Nat) (h : j < all.length) : wantL v (all.drop j) j = if all[j].all (fitsV v) = true then (j : Int) else wantL v (all.drop (j + 1)) (j + 1) := by
  rw [List.drop_eq_getElem_cons h, wantL]
theorem nodesOf_app (allT : List (List S39)) (firsts : List Int) (e : Int) (n : Nat) : ∀ (a b : List (List S39)) (k pos : Nat), nodesOf allT firsts e n (a ++ b) k pos = nodesOf allT firsts e n a k pos ++ nodesOf allT firsts e n b (k + a.length) (pos + endOf a)
  | [], b, k, pos => by simp [nodesOf, endOf]
  | x :: a, b, k, pos => by
    have ih := nodesOf_app allT firsts e n a b (k + 1) (pos + (x.length + 1))
    rw [List.cons_append, nodesOf, ih, nodesOf, endOf, List.length_cons, show k + 1 + a.length = k + (a.length + 1) by omega, show pos + (x.length + 1) + endOf a = pos + (x.length + 1 + endOf a) by omega]
    simp only [List.append_assoc, List.cons_append]
theorem blockOf_get (allT : List (List S39)) (firsts : List Int) (e : Int) (n k : Nat) : ∀ (ts : List S39) (pos i : Nat) (h : i < ts.length), (blockOf allT firsts e n k ts pos)[i]? = some (nodeOf allT firsts e n k (pos + i) ts[i])
  | t :: r, pos, 0, h => rfl
  | t :: r, pos, i + 1, h => by
    rw [blockOf, List.getElem?_cons_succ, blockOf_get allT firsts e n k r (pos + 1) i (by simpa using h), List.getElem_cons_succ, show pos + 1 + i = pos + (i + 1) by omega]
section
variable (all : List (List S39)) (firsts : List Int) (e : Int) (n : Nat) (tail : List S41)
theorem plan_split (j : Nat) (h : j < all.length) : nodesOf all firsts e n all 0 0 ++ tail = nodesOf all firsts e n (all.take j) 0 0 ++ (blockOf all firsts e n j all[j] (endOf (all.take j)) ++ (leafOf (j : Nat) :: (nodesOf all firsts e n (all.drop (j + 1)) (j + 1) (endOf (all.take j) + (all[j].length + 1)) ++ tail))) := by
  have e1 : nodesOf all firsts e n all 0 0 = nodesOf all firsts e n (all.take j ++ (all[j] :: all.drop (j + 1))) 0 0 := by rw [← List.drop_eq_getElem_cons h, List.take_append_drop]
  rw [e1, nodesOf_app, List.length_take, Nat.min_eq_left (Nat.le_of_lt h), Nat.zero_add, Nat.zero_add, nodesOf]
  simp only [List.append_assoc, List.cons_append]
theorem plan_node (j i : Nat) (h : j < all.length) (hi : i < all[j].length) : rd_T41 (nodesOf all firsts e n all 0 0 ++ tail) ((endOf (all.take j) + i : Nat) : Int) = nodeOf all firsts e n j (endOf (all.take j) + i) all[j][i] := by
  unfold rd_T41
  rw [Int.toNat_natCast, List.getD_eq_getElem?_getD, plan_split all firsts e n tail j h, List.getElem?_append_right (by rw [nodesOf_len]; omega), nodesOf_len, Nat.add_sub_cancel_left, List.getElem?_append_left (by rw [blockOf_len]; exact hi), blockOf_get all firsts e n j all[j] _ i hi]
  rfl
theorem plan_leaf (j : Nat) (h : j < all.length) : rd_T41 (nodesOf all firsts e n all 0 0 ++ tail) ((endOf (all.take j) + all[j].length : Nat) : Int) = leafOf (j : Nat) := by
  unfold rd_T41
  rw [Int.toNat_natCast, List.getD_eq_getElem?_getD, plan_split all firsts e n tail j h, List.getElem?_append_right (by rw [nodesOf_len]; omega), nodesOf_len, Nat.add_sub_cancel_left, List.getElem?_append_right (by rw [blockOf_len]; omega), blockOf_len, Nat.sub_self]
  rfl
end
theorem firstsOf_get : ∀ (all : List (List S39)) (n j : Nat), j < all.length → (firstsOf all n).getD j 0 = ((n + endOf (all.take j) : Nat) : Int)
  | x :: r, n, 0, h => by simp [firstsOf, endOf]
  | x :: r, n, j + 1, h => by
    have ih := firstsOf_get r (n + (x.length + 1)) j (by simpa using h)
    rw [firstsOf, List.getD_cons_succ, ih, List.take_succ_cons, endOf, show n + (x.length + 1) + endOf (r.take j) = n + (x.length + 1 + endOf (r.take j)) by omega]
theorem endOf_take_succ (all : List (List S39)) (j : Nat) (h : j < all.length) : endOf (all.take (j + 1)) = endOf (all.take j) + all[j].length + 1 := by
  rw [List.take_succ_eq_append_getElem h, endOf_app]
  simp [endOf]
  omega
theorem endOf_take_le (all : List (List S39)) (j k : Nat) (h : j ≤ k) : endOf (all.take j) ≤ endOf (all.take k) := by
  have h1 := endOf_take (all.take k) j
  rw [List.take_take, Nat.min_eq_left h] at h1
  exact h1

section
variable (all : List (List S39)) (v : S27)
theorem nn_len : (nodesOf all (firstsOf all 0) ((endOf all : Nat) : Int) all.length all 0 0 ++ [leafOf (-2)]).length = endOf all + 1 := by
  rw [List.length_append, nodesOf_len]; rfl
theorem go_end (d : Nat) : goV (nodesOf all (firstsOf all 0) ((endOf all : Nat) : Int) all.length all 0 0 ++ [leafOf (-2)]) v (d + 1) ((endOf all : Nat) : Int) = -2 := by
  have hr : rd_T41 (nodesOf all (firstsOf all 0) ((endOf all : Nat) : Int) all.length all 0 0 ++ [leafOf (-2)]) ((endOf all : Nat) : Int) = leafOf (-2) := by
    unfold rd_T41
    rw [Int.toNat_natCast, List.getD_eq_getElem?_getD, List.getElem?_append_right (by rw [nodesOf_len]; omega), nodesOf_len, Nat.sub_self]
    rfl
  rw [goV, nn_len, if_neg (by omega), hr]
  rfl
theorem go_pos : ∀ (d j i : Nat) (h : j < all.length), i ≤ all[j].length → endOf all + 1 ≤ d + (endOf (all.take j) + i) →
    goV (nodesOf all (firstsOf all 0) ((endOf all : Nat) : Int) all.length all 0 0 ++ [leafOf (-2)]) v d ((endOf (all.take j) + i : Nat) : Int) = if (all[j].drop i).all (fitsV v) = true then (j : Int) else wantL v (all.drop (j + 1)) (j + 1) := by
  intro d
  induction d with
  | zero =>
    intro j i h hi hd
    have h1 := endOf_take_succ all j h
    have h2 := endOf_take all (j + 1)
    omega
  | succ d ih =>
    intro j i h hi hd
    have h1 := endOf_take_succ all j h
    have h2 := endOf_take all (j + 1)
    rw [goV, nn_len, if_neg (by omega)]
    rcases Nat.lt_or_ge i all[j].length with hlt | hge
    · rw [plan_node all _ _ _ _ j i h hlt]
      rw [if_pos (show (nodeOf all (firstsOf all 0) ((endOf all : Nat) : Int) all.length j (endOf (all.take j) + i) all[j][i]).f3 = -1 from rfl)]
      rw [List.drop_eq_getElem_cons hlt, List.all_cons]
      show goV _ v d (if fitsV v all[j][i] = true then _ else _) = _
      cases hf : fitsV v all[j][i] with
      | true =>
        rw [if_pos rfl, Bool.true_and]
        have h3 := ih j (i + 1) h hlt (by omega)
        rw [← h3]
        congr 1
      | false =>
        rw [if_neg (by simp), Bool.false_and, if_neg (by simp)]
        show goV _ v d (nextG all (firstsOf all 0) ((endOf all : Nat) : Int) all[j][i] (all.length - (j + 1)) (j + 1)) = _
        have key : ∀ (m q : Nat), all.length - q = m → j + 1 ≤ q → q ≤ all.length → goV (nodesOf all (firstsOf all 0) ((endOf all : Nat) : Int) all.length all 0 0 ++ [leafOf (-2)]) v d (nextG all (firstsOf all 0) ((endOf all : Nat) : Int) all[j][i] m q) = wantL v (all.drop q) q := by
          intro m
          induction m with
          | zero =>
            intro q hq h4 h5
            obtain rfl : q = all.length := by omega
            obtain ⟨d', rfl⟩ : ∃ d', d = d' + 1 := ⟨d - 1, by omega⟩
            rw [nextG, go_end, List.drop_length]
            rfl
          | succ m ih2 =>
            intro q hq h4 h5
            have hql : q < all.length := by omega
            have h6 := endOf_take_le all (j + 1) q h4
            rw [nextG, List.getD_eq_getElem?_getD, List.getElem?_eq_getElem hql]
            by_cases hh : hasT all[q] all[j][i] = true
            · rw [show (some all[q]).getD [] = all[q] from rfl, if_pos hh, ih2 (q + 1) (by omega) (by omega) (by omega), wantL_drop v all q hql, if_neg]
              intro hall
              unfold hasT at hh
              rw [List.any_eq_true] at hh
              obtain ⟨u, hu, hs⟩ := hh
              rw [sameT_iff] at hs
              subst hs
              have := List.all_eq_true.1 hall _ hu
              rw [hf] at this
              exact absurd this (by simp)
            · rw [show (some all[q]).getD [] = all[q] from rfl, if_neg hh, firstsOf_get all 0 q hql, Nat.zero_add]
              have h7 := ih q 0 hql (Nat.zero_le _) (by omega)
              rw [Nat.add_zero, List.drop_zero] at h7
              rw [h7, wantL_drop v all q hql]
        exact key _ (j + 1) rfl (Nat.le_refl _) h
    · obtain rfl : i = all[j].length := by omega
      rw [plan_leaf all _ _ _ _ j h, List.drop_length]
      rw [if_neg (show ¬ (leafOf (j : Nat)).f3 = -1 by show ¬ ((j : Nat) : Int) = -1; omega), List.all_nil, if_pos rfl]
      rfl
theorem go_first (j : Nat) (h : j < all.length) : goV (nodesOf all (firstsOf all 0) ((endOf all : Nat) : Int) all.length all 0 0 ++ [leafOf (-2)]) v (endOf all + 1 + 1) ((firstsOf all 0).getD j 0) = wantL v (all.drop j) j := by
  have h1 := go_pos all v (endOf all + 1 + 1) j 0 h (Nat.zero_le _) (by omega)
  rw [firstsOf_get all 0 j h, Nat.zero_add]
  simp only [Nat.add_zero, List.drop_zero] at h1
  exact h1.trans (wantL_drop v all j h).symm
end
end Go.Proofs.Ytelheeekbihfcaa.Pt
