/- The plain law of the stable merge: what a rotation at the right place and two smaller merges make. -/
import Derived.Test.YtelheeekbihfcacSortB
set_option linter.unusedVariables false
set_option linter.unusedSimpArgs false
namespace Go.Proofs.Ytelheeekbihfcac.Srt
open Go.RowKit Go.Sort Go.Proofs
variable {α : Type} [Inhabited α]

/-- In the order R on a ≤ i < b. -/
def Srt (R : α → α → Prop) (a b : Nat) (d : Array α) : Prop := ∀ i j, a ≤ i → i < j → j < b → R d[i]! d[j]!
/-- What does not lie behind by 'less' lies ahead in the order R. -/
def Cross (R : α → α → Prop) (lt : α → α → Bool) (a m b : Nat) (d : Array α) : Prop := ∀ i j, a ≤ i → i < m → m ≤ j → j < b → lt d[j]! d[i]! = false → R d[i]! d[j]!

structure Ord (R : α → α → Prop) (lt : α → α → Bool) : Prop where
  swo : SWO lt
  of_lt : ∀ x y, lt x y = true → R x y
  not_lt : ∀ x y, R x y → lt y x = false

theorem Srt.congr {R : α → α → Prop} {a b : Nat} {d d' : Array α} (h : Srt R a b d) (he : ∀ k, a ≤ k → k < b → d'[k]! = d[k]!) : Srt R a b d' := fun i j hi hij hj => by
  rw [he i hi (by omega), he j (by omega) hj]; exact h i j hi hij hj
theorem Srt.sub {R : α → α → Prop} {a b a' b' : Nat} {d : Array α} (h : Srt R a b d) (ha : a ≤ a') (hb : b' ≤ b) : Srt R a' b' d := fun i j hi hij hj => h i j (by omega) hij (by omega)
theorem Srt.one (R : α → α → Prop) (a b : Nat) (d : Array α) (h : b ≤ a + 1) : Srt R a b d := fun i j _ _ _ => by omega
theorem Srt.join {R : α → α → Prop} {a m b : Nat} {d : Array α} (h1 : Srt R a m d) (h2 : Srt R m b d) (hx : ∀ i j, a ≤ i → i < m → m ≤ j → j < b → R d[i]! d[j]!) : Srt R a b d := fun i j hi hij hj => by
  by_cases h : j < m
  · exact h1 i j hi hij h
  · by_cases h' : m ≤ i
    · exact h2 i j h' hij hj
    · exact hx i j hi (by omega) (by omega) hj
theorem Ord.le {R : α → α → Prop} {lt : α → α → Bool} (O : Ord R lt) {a b : Nat} {d : Array α} (h : Srt R a b d) {i j : Nat} (hi : a ≤ i) (hij : i ≤ j) (hj : j < b) : lt d[j]! d[i]! = false := by
  rcases Nat.lt_or_ge i j with h1 | h1
  · exact O.not_lt _ _ (h i j hi h1 hj)
  · obtain rfl : i = j := by omega
    exact O.swo.irrefl _

/-- Rising alone: one way in which the pairs across are told. -/
theorem permIn_pairs {d d' : Array α} {a m b : Nat} {p : α → α → Prop} (hm : a ≤ m) (hmb : m ≤ b) (hb : b ≤ d.size) {d1 : Array α} (h1 : PermIn a m d d1) (h2 : PermIn m b d1 d') (hx : ∀ i j, a ≤ i → i < m → m ≤ j → j < b → p d[i]! d[j]!) : ∀ i j, a ≤ i → i < m → m ≤ j → j < b → p d'[i]! d'[j]! := by
  have hb1 : b ≤ d1.size := by rw [h1.1]; exact hb
  have q1 : ∀ i j, a ≤ i → i < m → m ≤ j → j < b → p d1[i]! d1[j]! := fun i j hi hi' hj hj' => by
    rw [h1.2.1 j (Or.inr hj)]
    exact permIn_all d d1 a m (fun x => p x d[j]!) (by omega) h1 (fun i hi hi' => hx i j hi hi' hj hj') i hi hi'
  intro i j hi hi' hj hj'
  rw [h2.2.1 i (Or.inl hi')]
  exact permIn_all d1 d' m b (fun y => p d1[i]! y) hb1 h2 (fun j hj hj' => q1 i j hi hi' hj hj') j hj hj'

theorem rot_permIn {d d' : Array α} {a m b : Nat} (h : RotOk d d' a m b) (ha : a ≤ m) (hm : m ≤ b) (hb : b ≤ d.size) : PermIn a b d d' := by
  refine ⟨h.size, fun k hk => ?_, ?_⟩
  · rw [h.get]; unfold rotR; rw [if_neg (by omega), if_neg (by omega)]
  · rw [extract_toList d' a b (by rw [h.size]; exact hb), extract_toList d a b hb]
    have e1 : (List.range' a (b - a)).map (fun i => d'[i]!) = (List.range' m (b - m)).map (fun i => d[i]!) ++ (List.range' a (m - a)).map (fun i => d[i]!) := by
      have : List.range' a (b - a) = List.range' a (b - m) ++ List.range' (a + (b - m)) (m - a) := by
        rw [List.range'_append_1]; congr 1; omega
      rw [this, List.map_append]
      congr 1
      · apply List.ext_getElem
        · simp
        · intro n h1 h2
          simp at h1
          simp only [List.getElem_map, List.getElem_range', Nat.one_mul]
          rw [h.get]; unfold rotR; rw [if_pos (by omega)]; congr 1; omega
      · apply List.ext_getElem
        · simp
        · intro n h1 h2
          simp at h1
          simp only [List.getElem_map, List.getElem_range', Nat.one_mul]
          rw [h.get]; unfold rotR; rw [if_neg (by omega), if_pos (by omega)]; congr 1; omega
    have e2 : (List.range' a (b - a)).map (fun i => d[i]!) = (List.range' a (m - a)).map (fun i => d[i]!) ++ (List.range' m (b - m)).map (fun i => d[i]!) := by
      have hh := @List.range'_append_1 a (m - a) (b - m)
      rw [show a + (m - a) = m by omega, show m - a + (b - m) = b - a by omega] at hh
      rw [← List.map_append, hh]
    rw [e1, e2]
    exact List.perm_append_comm

/-- What stands when two parts in order are to be made one. -/
structure Task (R : α → α → Prop) (lt : α → α → Bool) (a m b : Nat) (d : Array α) : Prop where
  ha : a ≤ m
  hm : m ≤ b
  hb : b ≤ d.size
  left : Srt R a m d
  right : Srt R m b d
  cross : Cross R lt a m b d
structure Done (R : α → α → Prop) (a b : Nat) (d d' : Array α) : Prop where
  perm : PermIn a b d d'
  srt : Srt R a b d'

theorem Done.none_left {R : α → α → Prop} {lt : α → α → Bool} {m b : Nat} {d : Array α} (T : Task R lt m m b d) : Done R m b d d := ⟨permIn_refl d m b, T.right⟩
theorem Done.none_right {R : α → α → Prop} {lt : α → α → Bool} {a m : Nat} {d : Array α} (T : Task R lt a m m d) : Done R a m d d := ⟨permIn_refl d a m, T.left⟩

/-- The rotation's place: what is asked of it. -/
structure Place (lt : α → α → Bool) (a m b s e : Nat) (d : Array α) : Prop where
  hs : a ≤ s
  hs' : s ≤ m
  he : m ≤ e
  he' : e ≤ b
  low : a < s → e < b → lt d[e]! d[s - 1]! = false
  high : s < m → m < e → lt d[e - 1]! d[s]! = true

theorem merge_tasks {R : α → α → Prop} {lt : α → α → Bool} (O : Ord R lt) {a m b s e c : Nat} {d d1 : Array α} (T : Task R lt a m b d) (P : Place lt a m b s e d) (hc : c = s + (e - m)) (hr : RotOk d d1 s m e) :
    Task R lt a s c d1 ∧ Task R lt c e b d1 ∧ (∀ i j, a ≤ i → i < c → c ≤ j → j < b → R d1[i]! d1[j]!) := by
  have hs := P.hs; have hs' := P.hs'; have he := P.he; have he' := P.he'; have hb := T.hb
  have g1 : ∀ k, k < s → d1[k]! = d[k]! := fun k hk => by rw [hr.get]; unfold rotR; rw [if_neg (by omega), if_neg (by omega)]
  have g2 : ∀ k, s ≤ k → k < c → d1[k]! = d[k - s + m]! := fun k h1 h2 => by rw [hr.get]; unfold rotR; rw [if_pos (by omega)]
  have g3 : ∀ k, c ≤ k → k < e → d1[k]! = d[k - (e - m)]! := fun k h1 h2 => by rw [hr.get]; unfold rotR; rw [if_neg (by omega), if_pos (by omega)]
  have g4 : ∀ k, e ≤ k → d1[k]! = d[k]! := fun k hk => by rw [hr.get]; unfold rotR; rw [if_neg (by omega), if_neg (by omega)]
  -- the old left part's low end against the old right part's high end
  have lowR : ∀ i j, a ≤ i → i < s → e ≤ j → j < b → R d[i]! d[j]! := fun i j hi hi' hj hj' => by
    refine T.cross i j hi (by omega) (by omega) hj' ?_
    have h1 := P.low (by omega) (by omega)
    have h2 : lt d[j]! d[e]! = false := O.le T.right (by omega) hj hj'
    have h3 : lt d[s - 1]! d[i]! = false := O.le T.left hi (by omega) (by omega)
    exact O.swo.ntrans _ _ _ (O.swo.ntrans _ _ _ h2 h1) h3
  have highR : ∀ i j, s ≤ i → i < m → m ≤ j → j < e → R d[j]! d[i]! := fun i j hi hi' hj hj' => by
    refine O.of_lt _ _ ?_
    have h1 := P.high (by omega) (by omega)
    cases hx : lt d[j]! d[i]! with
    | true => rfl
    | false =>
      have h2 : lt d[e - 1]! d[j]! = false := O.le T.right (by omega) (by omega) (by omega)
      have h3 : lt d[i]! d[s]! = false := O.le T.left (by omega) hi hi'
      have := O.swo.ntrans _ _ _ (O.swo.ntrans _ _ _ h2 hx) h3
      rw [h1] at this
      cases this
  have hsz : d1.size = d.size := hr.size
  refine ⟨⟨hs, by omega, by omega, ?_, ?_, ?_⟩, ⟨by omega, he', by omega, ?_, ?_, ?_⟩, ?_⟩
  · exact (T.left.sub (Nat.le_refl _) hs').congr fun k _ hk => g1 k hk
  · intro i j hi hij hj
    rw [g2 i hi (by omega), g2 j (by omega) hj]
    exact T.right _ _ (by omega) (by omega) (by omega)
  · intro i j hi hi' hj hj' hx
    rw [g1 i hi', g2 j hj hj'] at hx ⊢
    exact T.cross _ _ hi (by omega) (by omega) (by omega) hx
  · intro i j hi hij hj
    rw [g3 i hi (by omega), g3 j (by omega) hj]
    exact T.left _ _ (by omega) (by omega) (by omega)
  · exact (T.right.sub he (Nat.le_refl _)).congr fun k hk _ => g4 k hk
  · intro i j hi hi' hj hj' hx
    rw [g3 i hi hi', g4 j hj] at hx ⊢
    exact T.cross _ _ (by omega) (by omega) (by omega) hj' hx
  · intro i j hi hi' hj hj'
    by_cases h1 : i < s <;> by_cases h2 : j < e
    · rw [g1 i h1, g3 j hj h2]
      exact T.left _ _ hi (by omega) (by omega)
    · rw [g1 i h1, g4 j (by omega)]
      exact lowR i j hi h1 (by omega) hj'
    · rw [g2 i (by omega) hi', g3 j hj h2]
      exact highR _ _ (by omega) (by omega) (by omega) (by omega)
    · rw [g2 i (by omega) hi', g4 j (by omega)]
      exact T.right _ _ (by omega) (by omega) hj'

theorem merge_done {R : α → α → Prop} {lt : α → α → Bool} {a m b s e c : Nat} {d d1 d2 d3 : Array α} (T : Task R lt a m b d) (hr : RotOk d d1 s m e) (hs : a ≤ s) (hs' : s ≤ m) (he : m ≤ e) (he' : e ≤ b) (hc : c = s + (e - m))
    (hx : ∀ i j, a ≤ i → i < c → c ≤ j → j < b → R d1[i]! d1[j]!) (h1 : Done R a c d1 d2) (h2 : Done R c b d2 d3) : Done R a b d d3 := by
  have hb := T.hb
  have hsz := hr.size
  have p1 : PermIn a b d d1 := permIn_mono d d1 s e a b hs he' hb (rot_permIn hr hs' he (by omega))
  have p2 : PermIn a b d1 d2 := permIn_mono d1 d2 a c a b (Nat.le_refl _) (by omega) (by omega) h1.perm
  have p3 : PermIn a b d2 d3 := permIn_mono d2 d3 c b a b (by omega) (Nat.le_refl _) (by rw [h1.perm.1]; omega) h2.perm
  refine ⟨permIn_trans _ _ _ _ _ (permIn_trans _ _ _ _ _ p1 p2) p3, ?_⟩
  refine Srt.join (m := c) (h1.srt.congr fun k _ hk => h2.perm.2.1 k (Or.inl hk)) h2.srt ?_
  exact permIn_pairs (by omega) (by omega) (by omega) h1.perm h2.perm hx

/-- The first element of [a, b) has been brought to the place i - 1. -/
structure UpOk (d d' : Array α) (a i b : Nat) : Prop where
  perm : PermIn a b d d'
  get : ∀ k, d'[k]! = if a ≤ k ∧ k + 1 < i then d[k + 1]! else if k + 1 = i then d[a]! else d[k]!
theorem UpOk.zero (d : Array α) (a b : Nat) : UpOk d d a (a + 1) b := ⟨permIn_refl d a b, fun k => by (repeat' split) <;> first | rfl | (exfalso; omega) | (congr 1; omega)⟩
theorem UpOk.step {d d' : Array α} {a i b : Nat} (h : UpOk d d' a i b) (hi : a + 1 ≤ i) (hib : i < b) (hb : b ≤ d.size) : UpOk d (swp d' (i - 1) i) a (i + 1) b := by
  have hsz := h.perm.1
  refine ⟨permIn_trans _ _ _ _ _ h.perm (swp_permIn d' a b (i - 1) i (by omega) (by omega) (by omega) hib (by omega)), fun k => ?_⟩
  rw [get_swp _ _ _ _ (by omega) (by omega), h.get, h.get, h.get]
  (repeat' split) <;> first | rfl | (exfalso; omega) | (congr 1; omega)

/-- The last element of [a, b) has been brought to the place i. -/
structure DownOk (d d' : Array α) (a i b : Nat) : Prop where
  perm : PermIn a (b + 1) d d'
  get : ∀ k, d'[k]! = if i < k ∧ k ≤ b then d[k - 1]! else if k = i then d[b]! else d[k]!
theorem DownOk.zero (d : Array α) (a b : Nat) : DownOk d d a b b := ⟨permIn_refl d a (b + 1), fun k => by (repeat' split) <;> first | rfl | (exfalso; omega) | (congr 1 <;> omega)⟩
theorem DownOk.step {d d' : Array α} {a i b : Nat} (h : DownOk d d' a i b) (hi : a < i) (hib : i ≤ b) (hb : b < d.size) : DownOk d (swp d' i (i - 1)) a (i - 1) b := by
  have hsz := h.perm.1
  refine ⟨permIn_trans _ _ _ _ _ h.perm (swp_permIn d' a (b + 1) i (i - 1) (by omega) (by omega) (by omega) (by omega) (by omega)), fun k => ?_⟩
  rw [get_swp _ _ _ _ (by omega) (by omega), h.get, h.get, h.get]
  (repeat' split) <;> first | rfl | (exfalso; omega) | (congr 1; omega)

theorem up_done {R : α → α → Prop} {lt : α → α → Bool} (O : Ord R lt) {a i b : Nat} {d d' : Array α} (T : Task R lt a (a + 1) b d) (hi : a + 1 ≤ i) (hib : i ≤ b) (h : UpOk d d' a i b) (hlow : a + 1 < i → lt d[i - 1]! d[a]! = true) (hhigh : i < b → lt d[i]! d[a]! = false) : Done R a b d d' := by
  refine ⟨h.perm, fun p q hp hpq hq => ?_⟩
  have low : ∀ k, a + 1 ≤ k → k < i → R d[k]! d[a]! := fun k h1 h2 => O.of_lt _ _ (by
    have h3 := hlow (by omega)
    have h4 : lt d[i - 1]! d[k]! = false := O.le T.right h1 (by omega) (by omega)
    cases hx : lt d[k]! d[a]! with
    | true => rfl
    | false =>
      have := O.swo.ntrans _ _ _ h4 hx
      rw [h3] at this
      cases this)
  have high : ∀ k, i ≤ k → k < b → R d[a]! d[k]! := fun k h1 h2 => T.cross a k (Nat.le_refl _) (by omega) (by omega) h2 (by
    have h3 := hhigh (by omega)
    have h4 : lt d[k]! d[i]! = false := O.le T.right (by omega) h1 h2
    exact O.swo.ntrans _ _ _ h4 h3)
  rw [h.get p, h.get q]
  by_cases p1 : p + 1 < i
  · rw [if_pos ⟨hp, p1⟩]
    by_cases q1 : q + 1 < i
    · rw [if_pos (by omega)]; exact T.right _ _ (by omega) (by omega) (by omega)
    · rw [if_neg (by omega)]
      by_cases q2 : q + 1 = i
      · rw [if_pos q2]; exact low _ (by omega) (by omega)
      · rw [if_neg q2]; exact T.right _ _ (by omega) (by omega) (by omega)
  · rw [if_neg (by omega)]
    rw [if_neg (show ¬ (a ≤ q ∧ q + 1 < i) by omega), if_neg (show ¬ q + 1 = i by omega)]
    by_cases p2 : p + 1 = i
    · rw [if_pos p2]; exact high _ (by omega) (by omega)
    · rw [if_neg p2]; exact T.right _ _ (by omega) (by omega) (by omega)

theorem down_done {R : α → α → Prop} {lt : α → α → Bool} (O : Ord R lt) {a i m : Nat} {d d' : Array α} (T : Task R lt a m (m + 1) d) (hi : a ≤ i) (him : i ≤ m) (h : DownOk d d' a i m) (hlow : a < i → lt d[m]! d[i - 1]! = false) (hhigh : i < m → lt d[m]! d[i]! = true) : Done R a (m + 1) d d' := by
  refine ⟨h.perm, fun p q hp hpq hq => ?_⟩
  have low : ∀ k, a ≤ k → k < i → R d[k]! d[m]! := fun k h1 h2 => T.cross k m h1 (by omega) (Nat.le_refl _) (by omega) (by
    have h3 := hlow (by omega)
    have h4 : lt d[i - 1]! d[k]! = false := O.le T.left h1 (by omega) (by omega)
    exact O.swo.ntrans _ _ _ h3 h4)
  have high : ∀ k, i ≤ k → k < m → R d[m]! d[k]! := fun k h1 h2 => O.of_lt _ _ (by
    have h3 := hhigh (by omega)
    have h4 : lt d[k]! d[i]! = false := O.le T.left hi h1 h2
    cases hx : lt d[m]! d[k]! with
    | true => rfl
    | false =>
      have := O.swo.ntrans _ _ _ hx h4
      rw [h3] at this
      cases this)
  rw [h.get p, h.get q]
  by_cases p1 : p < i
  · rw [if_neg (by omega), if_neg (by omega)]
    by_cases q1 : i < q
    · rw [if_pos (by omega)]; exact T.left _ _ (by omega) (by omega) (by omega)
    · rw [if_neg (by omega)]
      by_cases q2 : q = i
      · rw [if_pos q2]; exact low _ (by omega) (by omega)
      · rw [if_neg q2]; exact T.left _ _ (by omega) (by omega) (by omega)
  · rw [if_pos (show i < q ∧ q ≤ m by omega)]
    by_cases p2 : p = i
    · rw [if_neg (by omega), if_pos p2]; exact high _ (by omega) (by omega)
    · rw [if_pos (by omega)]; exact T.left _ _ (by omega) (by omega) (by omega)
end Go.Proofs.Ytelheeekbihfcac.Srt
