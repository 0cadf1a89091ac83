/- The reference's Assign, Good and Peak come to what the program's come to. -/
import Derived.Test.YtelheeekbihfcacLaws
import Derived.Test.YtelheeekbihfcacPScanAssignsx5
import Derived.Test.YtelheeekbihfcacLives
import Derived.Test.YtelheeekbihfcacOf
import Derived.Test.YtelheeekbihfcacLivesW
set_option linter.unusedVariables false
set_option linter.unusedSimpArgs false
namespace Go.Proofs.Ytelheeekbihfcac.Srt
open Go.RowKit Go.Proofs Go.Proofs.Ytelheeekbihfcac.PScanAssigns Go.Proofs.YtelheeekbihfcacW.PrintWords Go.Proofs.YtelheeekbihfcacW.PrintMore

/-- The lives, as the reference has them. -/
def twin (l : List S40) : List S39 := l.map fun x => ⟨x.f0, x.f1⟩
theorem twin_len (l : List S40) : (twin l).length = l.length := by simp [twin]
theorem twin_f0 (l : List S40) (i : Int) : (rd_T39 (twin l) i).f0 = (rd_T40 l i).f0 := by
  unfold rd_T39 rd_T40 twin
  simp only [List.getD_eq_getElem?_getD, List.getElem?_map]
  cases l[i.toNat]? <;> rfl
theorem twin_f1 (l : List S40) (i : Int) : (rd_T39 (twin l) i).f1 = (rd_T40 l i).f1 := by
  unfold rd_T39 rd_T40 twin
  simp only [List.getD_eq_getElem?_getD, List.getElem?_map]
  cases l[i.toNat]? <;> rfl

theorem holder_none (l : List S40) (rooms : List Int) (r now : Int) (hrl : rooms.length = l.length) (hn : l.length ≤ 10000) : ∀ (d i : Nat), l.length - i = d → i ≤ l.length → (∀ j, i ≤ j → j < l.length → ¬ (rd rooms (j : Int) = r ∧ now < To l j)) →
    postbagref18_holder.l0 (d + 1) (twin l) rooms r now i = some (-1) := by
  intro d
  induction d with
  | zero =>
    intro i hd hi h
    rw [postbagref18_holder.l0, if_neg (by rw [twin_len]; omega)]
  | succ d ih =>
    intro i hd hi h
    have h1 := ih (i + 1) (by omega) (by omega) (fun j hj hl => h j (by omega) hl)
    have h2 := h i (Nat.le_refl _) (by omega)
    unfold To at h2
    rw [postbagref18_holder.l0]
    simp only [twin_len, twin_f1]
    rw [wrap_small _ (by omega) (by omega), show (i : Int) + 1 = ((i + 1 : Nat) : Int) by omega, h1]
    rw [if_pos (by omega), if_pos (by omega), if_pos (by omega)]
    by_cases e : rd rooms (i : Int) = r
    · rw [if_pos e]
      have h3 : ¬ (rd_T40 l (i : Int)).f1 > now := fun hh => h2 ⟨e, hh⟩
      first | rw [if_neg h3] | simp [h3]
      try (split <;> rfl)
    · rw [if_neg e]

theorem holder_some (l : List S40) (rooms : List Int) (r now : Int) (hrl : rooms.length = l.length) (hn : l.length ≤ 10000) (h : Nat) (hh : h < l.length) (hr : rd rooms (h : Int) = r) (ht : now < To l h) : ∀ (d i : Nat), h - i = d → i ≤ h → (∀ j, i ≤ j → j < h → ¬ (rd rooms (j : Int) = r ∧ now < To l j)) →
    postbagref18_holder.l0 (d + 1) (twin l) rooms r now i = some (h : Int) := by
  intro d
  induction d with
  | zero =>
    intro i hd hi hj
    obtain rfl : i = h := by omega
    rw [postbagref18_holder.l0]
    simp only [twin_len, twin_f1]
    unfold To at ht
    rw [if_pos (by omega), if_pos (by omega), if_pos (by omega), if_pos hr, if_pos (by omega)]
  | succ d ih =>
    intro i hd hi hj
    have h1 := ih (i + 1) (by omega) (by omega) (fun j h2 hl => hj j (by omega) hl)
    have h2 := hj i (Nat.le_refl _) (by omega)
    unfold To at h2
    rw [postbagref18_holder.l0]
    simp only [twin_len, twin_f1]
    rw [wrap_small _ (by omega) (by omega), show (i : Int) + 1 = ((i + 1 : Nat) : Int) by omega, h1]
    rw [if_pos (by omega), if_pos (by omega), if_pos (by omega)]
    by_cases e : rd rooms (i : Int) = r
    · rw [if_pos e]
      have h3 : ¬ (rd_T40 l (i : Int)).f1 > now := fun hh => h2 ⟨e, hh⟩
      rw [if_neg h3]
    · rw [if_neg e]

def okAt (l : List S40) (rooms : List Int) (i : Nat) (s : Int) (j : Nat) : Bool := decide (j = i) || !(decide (rd rooms (j : Int) = s)) || !(meetsB (rd_T40 l j) (rd_T40 l i))
def okR (l : List S40) (rooms : List Int) (i : Nat) (s : Int) : Nat → Nat → Bool
  | 0, _ => true
  | d + 1, j => okAt l rooms i s j && okR l rooms i s d (j + 1)

theorem meet_f9 (l : List S40) (i j : Int) : postbagref18_Meet.f (rd_T39 (twin l) j).f0 (rd_T39 (twin l) j).f1 (rd_T39 (twin l) i).f0 (rd_T39 (twin l) i).f1 = some (meetsB (rd_T40 l j) (rd_T40 l i)) := by
  simp only [twin_f0, twin_f1]
  unfold postbagref18_Meet.f meetsB
  split <;> simp [*]

theorem slot_in (l : List S40) (rooms : List Int) (i : Nat) (s : Int) (k : Nat) (hrl : rooms.length = l.length) (hn : l.length ≤ 10000) (hi : i < l.length) : ∀ (d j : Nat) (b : Bool), l.length - j = d → j ≤ l.length →
    postbagref18_slot.l1 (k + d + 1) (twin l) rooms i s b j = if (b && okR l rooms i s d j) = true then some s else postbagref18_slot.l0 k (twin l) rooms i (wrap64 (s - 1)) := by
  intro d
  induction d with
  | zero =>
    intro j b hd hj
    rw [postbagref18_slot.l1, if_neg (by rw [twin_len]; omega)]
    simp [okR]
  | succ d ih =>
    intro j b hd hj
    have h1 := fun b => ih (j + 1) b (by omega) (by omega)
    rw [show k + (d + 1) + 1 = (k + d + 1) + 1 by omega, postbagref18_slot.l1]
    simp only [twin_len, okR, okAt]
    rw [wrap_small _ (by omega) (by omega), show (j : Int) + 1 = ((j + 1 : Nat) : Int) by omega, if_pos (by omega)]
    by_cases e : j = i
    · subst e
      rw [if_pos rfl, h1]
      simp
    · rw [if_neg (by omega), if_pos (by omega), if_pos (by omega)]
      by_cases e2 : rd rooms (j : Int) = s
      · rw [if_pos e2, if_pos (by omega), if_pos (by omega), meet_f9]
        have hb : ∀ m : Bool, ((some m).bind fun t134 => if t134 = true then postbagref18_slot.l1 (k + d + 1) (twin l) rooms (i : Int) s false ((j + 1 : Nat) : Int) else postbagref18_slot.l1 (k + d + 1) (twin l) rooms (i : Int) s b ((j + 1 : Nat) : Int)) =
            if (b && ((decide (j = i) || !decide (rd rooms (j : Int) = s) || !m) && okR l rooms i s d (j + 1))) = true then some s else postbagref18_slot.l0 k (twin l) rooms i (wrap64 (s - 1)) := fun m => by
          have h1' : ∀ b : Bool, postbagref18_slot.l1 (k + d + 1) (twin l) rooms (i : Int) s b ((j : Int) + 1) = if (b && okR l rooms i s d (j + 1)) = true then some s else postbagref18_slot.l0 k (twin l) rooms i (wrap64 (s - 1)) := h1
          cases m <;> simp [h1', e, e2]
        exact hb _
      · rw [if_neg e2, h1]
        simp [e, e2]

theorem slot_out (l : List S40) (rooms : List Int) (i : Nat) (hrl : rooms.length = l.length) (hn : l.length ≤ 10000) (hi : i < l.length) (s : Nat) (hs : s ≤ 20000) (hok : okR l rooms i (-(s : Int)) l.length 0 = true) : ∀ (d t : Nat), s - t = d → t ≤ s → (∀ u : Nat, t ≤ u → u < s → okR l rooms i (-(u : Int)) l.length 0 = false) →
    postbagref18_slot.l0 ((d + 1) * (l.length + 2)) (twin l) rooms i (-(t : Int)) = some (-(s : Int)) := by
  intro d
  induction d with
  | zero =>
    intro t hd ht h
    obtain rfl : t = s := by omega
    rw [show (0 + 1) * (l.length + 2) = (0 + l.length + 1) + 1 by omega, postbagref18_slot.l0]
    have h1 := slot_in l rooms i (-(t : Int)) 0 hrl hn hi l.length 0 true rfl (Nat.zero_le _)
    rw [hok] at h1
    exact h1
  | succ d ih =>
    intro t hd ht h
    have h2 := ih (t + 1) (by omega) (by omega) (fun u h3 h4 => h u (by omega) h4)
    rw [show (d + 1 + 1) * (l.length + 2) = ((d + 1) * (l.length + 2) + l.length + 1) + 1 by rw [Nat.succ_mul (d + 1)]; omega, postbagref18_slot.l0]
    have h1 := slot_in l rooms i (-(t : Int)) ((d + 1) * (l.length + 2)) hrl hn hi l.length 0 true rfl (Nat.zero_le _)
    rw [h t (Nat.le_refl _) (by omega), show wrap64 (-(t : Int) - 1) = -((t + 1 : Nat) : Int) by unfold wrap64; omega, h2] at h1
    exact h1

theorem rd_app_left (a b : List Int) (i : Nat) (h : i < a.length) : rd (a ++ b) (i : Int) = rd a (i : Int) := by
  simp [rd, List.getD_eq_getElem?_getD, List.getElem?_append_left h]

theorem order_shift (l : List S40) (a : List Int) (i : Int) (c k : Nat) (hc : c ≤ a.length) (ha : a.length ≤ 10000) : ∀ (d j : Nat) (z : Int), j - c = d → c ≤ j → j ≤ a.length →
    postbagref18_order.l2 (k + d + 1) (twin l) (a.take j ++ [z] ++ a.drop j) i c j = postbagref18_order.l0 k (twin l) (a.take c ++ [i] ++ a.drop c) (wrap64 (i + 1)) := by
  intro d
  induction d with
  | zero =>
    intro j z hd hj hl
    obtain rfl : c = j := by omega
    have hlen : (a.take c ++ [z] ++ a.drop c).length = a.length + 1 := by simp; omega
    rw [postbagref18_order.l2, if_neg (by omega), if_pos (by omega), if_pos (by rw [hlen]; omega)]
    congr 1
    rw [Int.toNat_natCast, List.append_assoc, List.set_append_right (h := by simp; omega)]
    simp [Nat.min_eq_left hc]
  | succ d ih =>
    intro j z hd hj hl
    obtain ⟨j, rfl⟩ : ∃ j', j = j' + 1 := ⟨j - 1, by omega⟩
    have hlen : (a.take (j + 1) ++ [z] ++ a.drop (j + 1)).length = a.length + 1 := by simp; omega
    have hx : rd (a.take (j + 1) ++ [z] ++ a.drop (j + 1)) (j : Int) = a[j]'(by omega) := by
      rw [List.append_assoc, rd_app_left _ _ _ (by simp; omega)]
      simp [rd, List.getD_eq_getElem?_getD, show j < a.length by omega]
    have h1 := ih j (a[j]'(by omega)) (by omega) (by omega) (by omega)
    rw [show k + (d + 1) + 1 = (k + d + 1) + 1 by omega, postbagref18_order.l2]
    rw [show wrap64 (((j + 1 : Nat) : Int) - 1) = (j : Int) by unfold wrap64; omega, hx]
    rw [if_pos (by omega), if_pos (by omega), if_pos (by rw [hlen]; omega), if_pos (by omega), if_pos (by rw [hlen]; omega), ← h1]
    congr 1
    rw [Int.toNat_natCast, List.append_assoc, List.set_append_right (h := by simp; omega), List.take_succ_eq_append_getElem (by omega : j < a.length)]
    have e : a.drop j = a[j]'(by omega) :: a.drop (j + 1) := List.drop_eq_getElem_cons (by omega)
    rw [e]
    simp [Nat.min_eq_left (show j + 1 ≤ a.length by omega), Nat.min_eq_left (show j ≤ a.length by omega)]

theorem order_find (l : List S40) (o : List Nat) (i : Nat) (hi : i < l.length) (ho : ∀ x, x ∈ o → x < l.length) (hl : o.length ≤ 10000) : ∀ (t : Nat), t ≤ o.length →
    ∃ c, c ≤ t ∧ (∀ p (h : p < o.length), c ≤ p → p < t → From l i < From l o[p]) ∧ (∀ (h : c - 1 < o.length), 0 < c → From l o[c - 1] ≤ From l i) ∧
      ∀ k, postbagref18_order.l1 (k + t + 1) (twin l) (o.map fun x : Nat => (x : Int)) i t = postbagref18_order.j2 (k + c) (twin l) (o.map fun x : Nat => (x : Int)) i c := by
  intro t
  induction t with
  | zero =>
    intro _
    refine ⟨0, Nat.le_refl _, fun p h h1 h2 => by omega, fun h h1 => by omega, fun k => ?_⟩
    rw [postbagref18_order.l1, if_neg (by omega)]
    rfl
  | succ t ih =>
    intro ht
    have hlt : t < o.length := by omega
    have hx : rd (o.map fun x : Nat => (x : Int)) (t : Int) = (o[t] : Int) := by simp [rd, List.getD_eq_getElem?_getD, hlt]
    have hm := ho o[t] (List.getElem_mem hlt)
    have e : ∀ k, postbagref18_order.l1 (k + (t + 1) + 1) (twin l) (o.map fun x : Nat => (x : Int)) i ((t + 1 : Nat) : Int) = if From l o[t] > From l i then postbagref18_order.l1 (k + t + 1) (twin l) (o.map fun x : Nat => (x : Int)) i t else postbagref18_order.j2 (k + (t + 1)) (twin l) (o.map fun x : Nat => (x : Int)) i ((t + 1 : Nat) : Int) := fun k => by
      rw [postbagref18_order.l1]
      rw [show wrap64 (((t + 1 : Nat) : Int) - 1) = (t : Int) by unfold wrap64; omega, hx]
      simp only [twin_len, twin_f0, List.length_map]
      rw [if_pos (by omega), if_pos (by omega), if_pos (by omega), if_pos (by omega), if_pos (by omega), if_pos (by omega), if_pos (by omega)]
      rfl
    by_cases hc : From l o[t] > From l i
    · obtain ⟨c, h1, h2, h3, h4⟩ := ih (by omega)
      refine ⟨c, by omega, fun p h h5 h6 => ?_, h3, fun k => ?_⟩
      · rcases Nat.lt_or_ge p t with h7 | h7
        · exact h2 p h h5 h7
        · obtain rfl : p = t := by omega
          exact hc
      · rw [e, if_pos hc, h4]
    · refine ⟨t + 1, Nat.le_refl _, fun p h h1 h2 => by omega, fun h h1 => ?_, fun k => ?_⟩
      · simp only [Nat.add_sub_cancel]; omega
      · rw [e, if_neg hc]

theorem order_up (L : List S39) (a : List Int) (i : Int) (v : List Int) (K : Nat) (h : postbagref18_order.l0 K L a i = some v) : ∀ m, postbagref18_order.l0 (K + m) L a i = some v
  | 0 => h
  | m + 1 => (postbagref18_order.mono_l (K + m)).1 _ _ _ _ (order_up L a i v K h m)

theorem order_round (l : List S40) (o : List Nat) (i : Nat) (hi : i < l.length) (hn : l.length ≤ 10000) (ho : ∀ x, x ∈ o → x < l.length) (hl : o.length ≤ 10000) :
    ∃ c, c ≤ o.length ∧ (∀ p (h : p < o.length), c ≤ p → From l i < From l o[p]) ∧ (∀ (h : c - 1 < o.length), 0 < c → From l o[c - 1] ≤ From l i) ∧
      ∀ v : List Int, (∃ K, postbagref18_order.l0 K (twin l) ((o.take c ++ [i] ++ o.drop c).map fun x : Nat => (x : Int)) ((i + 1 : Nat) : Int) = some v) → ∃ K, postbagref18_order.l0 K (twin l) (o.map fun x : Nat => (x : Int)) i = some v := by
  obtain ⟨c, h1, h2, h3, h4⟩ := order_find l o i hi ho hl o.length (Nat.le_refl _)
  refine ⟨c, h1, fun p h h5 => h2 p h h5 h, h3, fun v ⟨K, hK⟩ => ⟨(K + o.length + 2 + o.length + 1) + 1, ?_⟩⟩
  rw [postbagref18_order.l0, if_pos (by rw [twin_len]; omega), List.length_map, h4]
  rw [show K + o.length + 2 + c = (K + o.length + 1 + c) + 1 by omega, postbagref18_order.j2, if_pos (by simp; omega)]
  simp only [Option.bind]
  have h6 := order_shift l (o.map fun x : Nat => (x : Int)) i c (K + 2 * c) (by simpa using h1) (by simpa using hl) (o.length - c) o.length 0 rfl h1 (by simp)
  rw [show K + 2 * c + (o.length - c) + 1 = K + o.length + 1 + c by omega] at h6
  have e1 : List.take o.length (o.map fun x : Nat => (x : Int)) ++ [0] ++ List.drop o.length (o.map fun x : Nat => (x : Int)) = (o.map fun x : Nat => (x : Int)) ++ [0] := by
    rw [List.take_of_length_le (by simp), List.drop_eq_nil_of_le (by simp), List.append_nil]
  rw [e1] at h6
  simp only [List.length_append, List.length_map, List.length_cons, List.length_nil, Nat.zero_add]
  rw [show wrap64 (((o.length + 1 : Nat) : Int) - 1) = (o.length : Int) by unfold wrap64; omega]
  rw [h6, wrap_small _ (by omega) (by omega)]
  have h7 := order_up _ _ _ _ _ hK (2 * c)
  simpa [List.map_take, List.map_drop] using h7

theorem order_all (l : List S40) (hn : l.length ≤ 10000) : ∀ (d i : Nat) (o : List Nat), l.length - i = d → i ≤ l.length → o.Perm (List.range i) → o.Pairwise (Ahead l) →
    ∃ o', Order l o' ∧ ∃ K, postbagref18_order.l0 K (twin l) (o.map fun x : Nat => (x : Int)) i = some (o'.map fun x : Nat => (x : Int)) := by
  intro d
  induction d with
  | zero =>
    intro i o hd hi hp ho
    obtain rfl : i = l.length := by omega
    refine ⟨o, ⟨hp, ho⟩, 1, ?_⟩
    rw [postbagref18_order.l0, if_neg (by rw [twin_len]; omega)]
  | succ d ih =>
    intro i o hd hi hp ho
    have hlt : i < l.length := by omega
    have hlen : o.length = i := by rw [hp.length_eq, List.length_range]
    have hmem : ∀ x, x ∈ o → x < i := fun x hx => List.mem_range.1 (hp.mem_iff.1 hx)
    obtain ⟨c, hc, h1, h2, h3⟩ := order_round l o i hlt hn (fun x hx => by have := hmem x hx; omega) (by omega)
    have hperm : (o.take c ++ [i] ++ o.drop c).Perm (List.range (i + 1)) := by
      rw [List.range_succ]
      refine List.Perm.trans ?_ (hp.append_right [i])
      rw [List.append_assoc]
      refine List.Perm.trans (List.Perm.append_left _ List.perm_append_comm) ?_
      rw [← List.append_assoc, List.take_append_drop]
    have hall := ho
    rw [← List.take_append_drop c o] at hall
    obtain ⟨p1, p2, p3⟩ := List.pairwise_append.1 hall
    have hgt : ∀ b, b ∈ o.drop c → Ahead l i b := fun b hb => by
      obtain ⟨q, hq, rfl⟩ := List.getElem_of_mem hb
      rw [List.length_drop] at hq
      rw [List.getElem_drop]
      exact Or.inl (h1 (c + q) (by omega) (by omega))
    have hle : ∀ a, a ∈ o.take c → Ahead l a i := fun a ha => by
      have hai := hmem a (List.mem_of_mem_take ha)
      obtain ⟨p, hpl, rfl⟩ := List.getElem_of_mem ha
      have hpl' : p < c := by rw [List.length_take] at hpl; omega
      rw [List.getElem_take] at hai ⊢
      have h4 := h2 (by omega) (by omega)
      have h5 : From l o[p] ≤ From l o[c - 1] := by
        rcases Nat.lt_or_ge p (c - 1) with h6 | h6
        · have := (List.pairwise_iff_getElem.1 ho) p (c - 1) (by omega) (by omega) h6
          unfold Ahead at this
          unfold From
          omega
        · obtain rfl : p = c - 1 := by omega
          exact Int.le_refl _
      unfold Ahead
      unfold From at h4 h5
      omega
    have hsrt : (o.take c ++ [i] ++ o.drop c).Pairwise (Ahead l) := by
      refine List.pairwise_append.2 ⟨List.pairwise_append.2 ⟨p1, List.pairwise_singleton _ _, fun a ha b hb => ?_⟩, p2, fun a ha b hb => ?_⟩
      · obtain rfl := List.mem_singleton.1 hb
        exact hle a ha
      · rcases List.mem_append.1 ha with ha | ha
        · exact p3 a ha b hb
        · obtain rfl := List.mem_singleton.1 ha
          exact hgt b hb
    obtain ⟨o', hO, hK⟩ := ih (i + 1) _ (by omega) (by omega) hperm hsrt
    exact ⟨o', hO, h3 _ hK⟩

/-- The reference's order is the one that there is. -/
theorem order_f (l : List S40) (hn : l.length ≤ 10000) : ∃ o, Order l o ∧ ∃ K, postbagref18_order.f K (twin l) = some (o.map fun x : Nat => (x : Int)) := by
  obtain ⟨o, h1, K, h2⟩ := order_all l hn l.length 0 [] rfl (Nat.zero_le _) (by simp) List.Pairwise.nil
  refine ⟨o, h1, K, ?_⟩
  simpa [postbagref18_order.f] using h2

theorem raise {α : Type} {f : Nat → Option α} (hf : ∀ k, LeO (f k) (f (k + 1))) {K : Nat} {v : α} (h : f K = some v) : ∀ m, f (K + m) = some v
  | 0 => h
  | m + 1 => hf (K + m) _ (raise hf h m)

structure Sim (l : List S40) (pre : List Nat) (st : St) (rooms wn : List Int) : Prop where
  rl : rooms.length = l.length
  wl : wn.length = l.length
  old : ∀ k, k ∈ pre → rd rooms (k : Int) = rd st.rooms (k : Int)
  new : ∀ k, k < l.length → k ∉ pre → rd rooms (k : Int) = -1000000
  wh : ∀ k, k ∈ pre → rd wn (k : Int) + 1 = rd st.wh (k : Int)

structure Tell (pre : List Nat) (st : St) : Prop where
  le : ∀ k, k ∈ pre → rd st.wh (k : Int) ≤ st.now
  inj : ∀ k j, k ∈ pre → j ∈ pre → rd st.wh (k : Int) = rd st.wh (j : Int) → k = j
  max : st.slots = 0 ∨ ∃ k, k ∈ pre ∧ rd st.rooms (k : Int) = -st.slots

theorem worse_iff (l : List S40) (wh : List Int) (h k : Nat) : worse l wh h k = true ↔ To l h > To l k ∨ (To l h = To l k ∧ rd wh (h : Int) > rd wh (k : Int)) := by
  simp [worse]

theorem worse_t1 {l : List S40} {wh : List Int} {h W W' : Nat} (a : worse l wh h W = true) (b : ¬ worse l wh h W' = true) : ¬ worse l wh W W' = true := by
  rw [worse_iff] at *; omega
theorem worse_t2 {l : List S40} {wh : List Int} {h W W' : Nat} (a : ¬ worse l wh h W = true) (b : ¬ worse l wh W W' = true) : ¬ worse l wh h W' = true := by
  rw [worse_iff] at *; omega

/-- Is register q free for life i? -/
def Idle (l : List S40) (st : St) (i q : Nat) : Prop := rd st.held (q : Int) < 0 ∨ To l (rd st.held (q : Int)).toNat ≤ From l i

theorem hold_free {l : List S40} {regs : Nat} {pre : List Nat} {st : St} {rooms wn : List Int} {i r : Nat} (F : Fin l regs pre st) (S : Sim l pre st rooms wn) (hn : l.length ≤ 10000) (hs : ∀ k, k ∈ pre → From l k ≤ From l i) (hf : Idle l st i r) :
    ∃ K, postbagref18_holder.f K (twin l) rooms r (From l i) = some (-1) := by
  refine ⟨l.length + 1, holder_none l rooms r (From l i) S.rl hn l.length 0 rfl (Nat.zero_le _) (fun j _ hj ⟨h1, h2⟩ => ?_)⟩
  by_cases hm : j ∈ pre
  · rw [S.old j hm] at h1
    obtain ⟨h, h3, h4, h5⟩ := F.reg j hm r h1
    have h6 := hs h h4
    rcases hf with h7 | h7
    · omega
    · rw [h3, Int.toNat_natCast] at h7
      rcases h5 with rfl | h5 <;> omega
  · rw [S.new j hj hm] at h1
    omega

theorem hold_busy {l : List S40} {regs : Nat} {pre : List Nat} {st : St} {rooms wn : List Int} {i r : Nat} (I : Inv l regs pre st) (F : Fin l regs pre st) (S : Sim l pre st rooms wn) (hn : l.length ≤ 10000) (hp : ∀ k, k ∈ pre → k < l.length) (hs : ∀ k, k ∈ pre → From l k ≤ From l i) (hr : r < regs) (hf : ¬ Idle l st i r) :
    ∃ h : Nat, rd st.held (r : Int) = h ∧ h ∈ pre ∧ rd st.rooms (h : Int) = r ∧ ∃ K, postbagref18_holder.f K (twin l) rooms r (From l i) = some (h : Int) := by
  unfold Idle at hf
  rcases I.held r hr with h1 | ⟨h, h1, h2, h3⟩
  · omega
  · refine ⟨h, h1, h2, h3, h + 1, ?_⟩
    rw [h1, Int.toNat_natCast] at hf
    refine holder_some l rooms r (From l i) S.rl hn h (hp h h2) (by rw [S.old h h2]; exact h3) (by omega) h 0 rfl (Nat.zero_le _) (fun j _ hj ⟨h4, h5⟩ => ?_)
    by_cases hm : j ∈ pre
    · rw [S.old j hm] at h4
      obtain ⟨h', h6, h7, h8⟩ := F.reg j hm r h4
      have h9 := hs h' h7
      rcases h8 with rfl | h8 <;> omega
    · rw [S.new j (by have := hp h h2; omega) hm] at h4
      omega

theorem down {l : List S40} {regs : Nat} {pre : List Nat} {st : St} {rooms wn wh : List Int} {i : Nat} {o : List Int} {n : Nat} (I : Inv l regs pre st) (F : Fin l regs pre st) (S : Sim l pre st rooms wn) (hn : l.length ≤ 10000) (hp : ∀ k, k ∈ pre → k < l.length) (hs : ∀ k, k ∈ pre → From l k ≤ From l i)
    (hi : i < l.length) (wn2 : List Int) (hwl : wn2.length = l.length) (hreg : regs ≤ 64) (hw : ∀ k, k ∈ pre ∨ k = i → rd wn2 (k : Int) + 1 = rd wh (k : Int)) : ∀ (t : Nat), t ≤ regs → ∀ (W : Nat) (fr : Int), W ∈ pre ∨ W = i →
    ∃ (W' : Nat) (fr' : Int), ((fr' = fr ∧ ∀ q, q < t → ¬ Idle l st i q) ∨ ∃ q : Nat, q < t ∧ fr' = q ∧ Idle l st i q ∧ ∀ q', q' < q → ¬ Idle l st i q') ∧ (W' ∈ pre ∨ W' = i) ∧
      ¬ worse l wh W W' = true ∧ (W' = W ∨ ∃ q, q < t ∧ ¬ Idle l st i q ∧ rd st.held (q : Int) = W') ∧ (∀ q, q < t → ¬ Idle l st i q → ¬ worse l wh (rd st.held (q : Int)).toNat W' = true) ∧
      ∀ v, (∃ K, postbagref18_Assign.l2 K (twin l) regs rooms wn2 o n i W' fr' (-1) = some v) → ∃ K, postbagref18_Assign.l2 K (twin l) regs rooms wn2 o n i W fr ((t : Int) - 1) = some v := by
  intro t
  induction t with
  | zero =>
    intro ht W fr hW
    exact ⟨W, fr, Or.inl ⟨rfl, fun q h => absurd h (Nat.not_lt_zero _)⟩, hW, by rw [worse_iff]; omega, Or.inl rfl, fun q h => absurd h (Nat.not_lt_zero _), fun v h => h⟩
  | succ t ih =>
    intro ht W fr hW
    have hWl : W < l.length := by
      rcases hW with h | h
      · exact hp W h
      · omega
    have e1 : ((t + 1 : Nat) : Int) - 1 = (t : Int) := by omega
    have e2 : wrap64 ((t : Int) - 1) = (t : Int) - 1 := by unfold wrap64; omega
    by_cases hf : Idle l st i t
    · obtain ⟨W', fr', h1, h2, h3, h4, h5, h6⟩ := ih (by omega) W t hW
      obtain ⟨K1, hK1⟩ := hold_free F S hn hs hf
      refine ⟨W', fr', Or.inr ?_, h2, h3, ?_, ?_, fun v hv => ?_⟩
      · rcases h1 with ⟨h7, h8⟩ | ⟨q, h7, h8, h9, h10⟩
        · exact ⟨t, by omega, h7, hf, h8⟩
        · exact ⟨q, by omega, h8, h9, h10⟩
      · rcases h4 with h7 | ⟨q, h7, h8, h9⟩
        · exact Or.inl h7
        · exact Or.inr ⟨q, by omega, h8, h9⟩
      · intro q hq hq2
        rcases Nat.lt_or_ge q t with h7 | h7
        · exact h5 q h7 hq2
        · obtain rfl : q = t := by omega
          exact absurd hf hq2
      · obtain ⟨K2, hK2⟩ := h6 v hv
        refine ⟨K1 + K2 + 1, ?_⟩
        have r1 : postbagref18_holder.f (K1 + K2) (twin l) rooms t (From l i) = _ := raise (f := fun k => postbagref18_holder.f k (twin l) rooms t (From l i)) (fun k => postbagref18_holder.mono _ _ _ _ k) hK1 K2
        have r2 : postbagref18_Assign.l2 (K2 + K1) (twin l) regs rooms wn2 o n i W t ((t : Int) - 1) = _ := raise (f := fun k => postbagref18_Assign.l2 k (twin l) regs rooms wn2 o n i W t ((t : Int) - 1)) (fun k => (postbagref18_Assign.mono_l k).2.2.2.1 _ _ _ _ _ _ _ _ _ _) hK2 K1
        rw [Nat.add_comm K2 K1] at r2
        unfold From at r1
        rw [postbagref18_Assign.l2, e1, if_pos (by omega), if_pos (by omega), if_pos (by rw [twin_len]; omega), twin_f0, r1]
        simp only [Option.bind]
        rw [if_pos (by omega), e2, r2]
    · obtain ⟨h, g1, g2, g3, K1, hK1⟩ := hold_busy I F S hn hp hs (by omega) hf
      have hhl := hp h g2
      have hwh := hw h (Or.inl g2)
      have hwW := hw W hW
      have key : ∀ (W1 : Nat), (W1 = if worse l wh h W = true then h else W) → ∀ v, (∃ K, postbagref18_Assign.l2 K (twin l) regs rooms wn2 o n i W1 fr ((t : Int) - 1) = some v) → ∃ K, postbagref18_Assign.l2 K (twin l) regs rooms wn2 o n i W fr (((t + 1 : Nat) : Int) - 1) = some v := fun W1 e v ⟨K2, hK2⟩ => by
        refine ⟨K1 + K2 + 1, ?_⟩
        have r1 : postbagref18_holder.f (K1 + K2) (twin l) rooms t (From l i) = _ := raise (f := fun k => postbagref18_holder.f k (twin l) rooms t (From l i)) (fun k => postbagref18_holder.mono _ _ _ _ k) hK1 K2
        have r2 : postbagref18_Assign.l2 (K2 + K1) (twin l) regs rooms wn2 o n i W1 fr ((t : Int) - 1) = _ := raise (f := fun k => postbagref18_Assign.l2 k (twin l) regs rooms wn2 o n i W1 fr ((t : Int) - 1)) (fun k => (postbagref18_Assign.mono_l k).2.2.2.1 _ _ _ _ _ _ _ _ _ _) hK2 K1
        rw [Nat.add_comm K2 K1] at r2
        unfold From at r1
        rw [postbagref18_Assign.l2, e1, if_pos (by omega), if_pos (by omega), if_pos (by rw [twin_len]; omega), twin_f0, r1]
        simp only [Option.bind, twin_len, twin_f1]
        rw [if_neg (by omega), if_pos (by omega), if_pos (by omega), if_pos (by omega), if_pos (by omega), e2]
        have hwi := worse_iff l wh h W
        unfold To at hwi
        by_cases c1 : (rd_T40 l (h : Int)).f1 > (rd_T40 l (W : Int)).f1
        · rw [if_pos c1]
          rw [if_pos (hwi.2 (Or.inl c1))] at e
          rw [← e]; exact r2
        · rw [if_neg c1]
          by_cases c2 : (rd_T40 l (h : Int)).f1 = (rd_T40 l (W : Int)).f1
          · rw [if_pos c2, if_pos (by omega), if_pos (by omega)]
            by_cases c3 : rd wn2 (h : Int) > rd wn2 (W : Int)
            · rw [if_pos c3]
              rw [if_pos (hwi.2 (Or.inr ⟨c2, by omega⟩))] at e
              rw [← e]; exact r2
            · rw [if_neg c3]
              rw [if_neg (fun hh => by have := hwi.1 hh; omega)] at e
              rw [← e]; exact r2
          · rw [if_neg c2]
            rw [if_neg (fun hh => by have := hwi.1 hh; omega)] at e
            rw [← e]; exact r2
      obtain ⟨W', fr', h1, h2, h3, h4, h5, h6⟩ := ih (by omega) (if worse l wh h W = true then h else W) fr (by split; exact Or.inl g2; exact hW)
      have hfst : (fr' = fr ∧ ∀ q, q < t + 1 → ¬ Idle l st i q) ∨ ∃ q : Nat, q < t + 1 ∧ fr' = q ∧ Idle l st i q ∧ ∀ q', q' < q → ¬ Idle l st i q' := by
        rcases h1 with ⟨h7, h8⟩ | ⟨q, h7, h8, h9, h10⟩
        · refine Or.inl ⟨h7, fun q hq => ?_⟩
          rcases Nat.lt_or_ge q t with h9 | h9
          · exact h8 q h9
          · obtain rfl : q = t := by omega
            exact hf
        · exact Or.inr ⟨q, by omega, h8, h9, h10⟩
      have hh : ¬ worse l wh h W' = true ∧ ¬ worse l wh W W' = true := by
        by_cases c : worse l wh h W = true
        · rw [if_pos c] at h3
          exact ⟨h3, worse_t1 c h3⟩
        · rw [if_neg c] at h3
          exact ⟨worse_t2 c h3, h3⟩
      refine ⟨W', fr', hfst, h2, hh.2, ?_, fun q hq hq2 => ?_, fun v hv => key _ rfl v (h6 v hv)⟩
      · rcases h4 with h7 | ⟨q, h7, h8, h9⟩
        · by_cases c : worse l wh h W = true
          · rw [if_pos c] at h7
            exact Or.inr ⟨t, by omega, hf, by rw [g1, h7]⟩
          · rw [if_neg c] at h7
            exact Or.inl h7
        · exact Or.inr ⟨q, by omega, h8, h9⟩
      · rcases Nat.lt_or_ge q t with h7 | h7
        · exact h5 q h7 hq2
        · obtain rfl : q = t := by omega
          rw [g1, Int.toNat_natCast]
          exact hh.1

theorem look_max (l : List S40) (wh : List Int) (i : Nat) (held : List Int) : ∀ (d r : Nat) (W : Nat) (at_ : Int), held.length - r = d → r ≤ held.length →
    ∀ (w' : Nat) (a' : Int), look l wh i (held.drop r) r W at_ = (none, w', a') → ¬ worse l wh W w' = true ∧ ∀ q, r ≤ q → q < held.length → ¬ worse l wh (rd held (q : Int)).toNat w' = true := by
  intro d
  induction d with
  | zero =>
    intro r W at_ hd hr w' a' h
    rw [List.drop_eq_nil_of_le (by omega)] at h
    simp only [look, Prod.mk.injEq] at h
    obtain ⟨_, rfl, rfl⟩ := h
    exact ⟨by rw [worse_iff]; omega, fun q h1 h2 => by omega⟩
  | succ d ih =>
    intro r W at_ hd hr w' a' h
    have hlt : r < held.length := by omega
    rw [rd_drop held r hlt] at h
    simp only [look] at h
    by_cases hc : rd held (r : Int) < 0 ∨ To l (rd held (r : Int)).toNat ≤ From l i
    · rw [if_pos hc] at h; cases h
    · rw [if_neg hc] at h
      by_cases h2 : worse l wh (rd held (r : Int)).toNat W = true
      · rw [if_pos h2] at h
        obtain ⟨h3, h4⟩ := ih (r + 1) _ _ (by omega) hlt w' a' h
        refine ⟨worse_t1 h2 h3, fun q h5 h6 => ?_⟩
        rcases Nat.lt_or_ge r q with h7 | h7
        · exact h4 q h7 h6
        · obtain rfl : r = q := by omega
          exact h3
      · rw [if_neg h2] at h
        obtain ⟨h3, h4⟩ := ih (r + 1) _ _ (by omega) hlt w' a' h
        refine ⟨h3, fun q h5 h6 => ?_⟩
        rcases Nat.lt_or_ge r q with h7 | h7
        · exact h4 q h7 h6
        · obtain rfl : r = q := by omega
          exact worse_t2 h2 h3

theorem look_least (l : List S40) (wh : List Int) (i : Nat) (held : List Int) : ∀ (d r : Nat) (W : Nat) (at_ : Int), held.length - r = d → r ≤ held.length →
    ∀ (r' : Nat) (w' : Nat) (a' : Int), look l wh i (held.drop r) r W at_ = (some r', w', a') → ∀ q, r ≤ q → q < r' → ¬ (rd held (q : Int) < 0 ∨ To l (rd held (q : Int)).toNat ≤ From l i) := by
  intro d
  induction d with
  | zero =>
    intro r W at_ hd hr r' w' a' h
    rw [List.drop_eq_nil_of_le (by omega)] at h
    simp [look] at h
  | succ d ih =>
    intro r W at_ hd hr r' w' a' h q h1 h2
    have hlt : r < held.length := by omega
    rw [rd_drop held r hlt] at h
    simp only [look] at h
    by_cases hc : rd held (r : Int) < 0 ∨ To l (rd held (r : Int)).toNat ≤ From l i
    · rw [if_pos hc] at h
      simp only [Prod.mk.injEq, Option.some.injEq] at h
      omega
    · rw [if_neg hc] at h
      rcases Nat.lt_or_ge r q with h7 | h7
      · split at h
        · exact ih (r + 1) _ _ (by omega) hlt r' w' a' h q h7 h2
        · exact ih (r + 1) _ _ (by omega) hlt r' w' a' h q h7 h2
      · obtain rfl : r = q := by omega
        exact hc

theorem okR_true (l : List S40) (rooms : List Int) (i : Nat) (s : Int) : ∀ d j, (∀ k, j ≤ k → k < j + d → okAt l rooms i s k = true) → okR l rooms i s d j = true
  | 0, _, _ => rfl
  | d + 1, j, h => by
    rw [okR, h j (Nat.le_refl _) (by omega), okR_true l rooms i s d (j + 1) (fun k h1 h2 => h k (by omega) (by omega))]
    rfl
theorem okR_false (l : List S40) (rooms : List Int) (i : Nat) (s : Int) (k : Nat) (hk : okAt l rooms i s k = false) : ∀ d j, j ≤ k → k < j + d → okR l rooms i s d j = false
  | 0, _, _, _ => by omega
  | d + 1, j, h1, h2 => by
    rw [okR]
    rcases Nat.lt_or_ge j k with h3 | h3
    · rw [okR_false l rooms i s k hk d (j + 1) h3 (by omega), Bool.and_false]
    · obtain rfl : j = k := by omega
      rw [hk, Bool.false_and]

theorem slot_f (l : List S40) (rooms : List Int) (i s : Nat) (hrl : rooms.length = l.length) (hn : l.length ≤ 10000) (hi : i < l.length) (h1 : 1 ≤ s) (hs : s ≤ 20000)
    (hfree : ∀ k, k < l.length → k ≠ i → meetsB (rd_T40 l k) (rd_T40 l i) = true → rd rooms (k : Int) ≠ -(s : Int))
    (hleast : ∀ t, 1 ≤ t → t < s → ∃ k, k < l.length ∧ k ≠ i ∧ meetsB (rd_T40 l k) (rd_T40 l i) = true ∧ rd rooms (k : Int) = -(t : Int)) :
    ∃ K, postbagref18_slot.f K (twin l) rooms i = some (-(s : Int)) := by
  have hok : okR l rooms i (-(s : Int)) l.length 0 = true := okR_true _ _ _ _ _ _ (fun k _ hk => by
    unfold okAt
    by_cases e : k = i
    · simp [e]
    · by_cases e2 : rd rooms (k : Int) = -(s : Int)
      · by_cases e3 : meetsB (rd_T40 l k) (rd_T40 l i) = true
        · exact absurd e2 (hfree k (by omega) e e3)
        · simp [e3]
      · simp [e2])
  have h2 := slot_out l rooms i hrl hn hi s hs hok (s - 1) 1 rfl h1 (fun u h3 h4 => by
    obtain ⟨k, h5, h6, h7, h8⟩ := hleast u h3 h4
    refine okR_false _ _ _ _ k ?_ _ _ (Nat.zero_le _) (by omega)
    simp [okAt, h6, h7, h8])
  exact ⟨_, h2⟩

theorem Tell.inj2 {l : List S40} {regs : Nat} {pre : List Nat} {st : St} {i : Nat} (I : Inv l regs pre st) (T : Tell pre st) (hi : i < l.length) (hni : i ∉ pre) (k j : Nat) (hk : k ∈ pre ∨ k = i) (hj : j ∈ pre ∨ j = i)
    (e : rd (st.wh.set i ((st.now : Int) + 1)) (k : Int) = rd (st.wh.set i ((st.now : Int) + 1)) (j : Int)) : k = j := by
  rw [rd_set _ _ _ _ (by rw [I.wl]; exact hi), rd_set _ _ _ _ (by rw [I.wl]; exact hi)] at e
  by_cases h1 : k = i
  · by_cases h2 : j = i
    · omega
    · rw [if_pos h1, if_neg h2] at e
      have := T.le j (hj.resolve_right h2)
      omega
  · by_cases h2 : j = i
    · rw [if_neg h1, if_pos h2] at e
      have := T.le k (hk.resolve_right h1)
      omega
    · rw [if_neg h1, if_neg h2] at e
      exact T.inj k j (hk.resolve_right h1) (hj.resolve_right h2) e

theorem Tell.step {l : List S40} {regs : Nat} {pre : List Nat} {st st' : St} {i : Nat} (I : Inv l regs pre st) (F : Fin l regs pre st) (T : Tell pre st) (hi : i < l.length) (hni : i ∉ pre) (hp : ∀ k, k ∈ pre → k < l.length) (S : Step l st i st') : Tell (pre ++ [i]) st' := by
  have mem : ∀ k, k ∈ pre ++ [i] → k ∈ pre ∨ k = i := fun k hk => by
    rcases List.mem_append.1 hk with h | h
    · exact Or.inl h
    · exact Or.inr (List.mem_singleton.1 h)
  have hle : ∀ k, k ∈ pre ++ [i] → rd (st.wh.set i ((st.now : Int) + 1)) (k : Int) ≤ ((st.now + 1 : Nat) : Int) := fun k hk => by
    rw [rd_set _ _ _ _ (by rw [I.wl]; exact hi)]
    split
    · omega
    · rename_i h
      have := T.le k ((mem k hk).resolve_right h)
      omega
  have hinj : ∀ k j, k ∈ pre ++ [i] → j ∈ pre ++ [i] → rd (st.wh.set i ((st.now : Int) + 1)) (k : Int) = rd (st.wh.set i ((st.now : Int) + 1)) (j : Int) → k = j := fun k j hk hj e => T.inj2 I hi hni k j (mem k hk) (mem j hj) e
  have hne : ∀ k, k ∈ pre → k ≠ i := fun k hk e => hni (e ▸ hk)
  have hro : ∀ (v : Int) k, k ∈ pre → rd (st.rooms.set i v) (k : Int) = rd st.rooms k := fun v k hk => rooms_other I hi v (hne k hk)
  have hri : ∀ v : Int, rd (st.rooms.set i v) (i : Int) = v := fun v => by rw [rd_set _ _ _ _ (by rw [I.rl]; exact hi), if_pos rfl]
  have hm := T.max
  cases S with
  | free r worst at_ h =>
    refine ⟨hle, hinj, ?_⟩
    rcases hm with h1 | ⟨k, h1, h2⟩
    · exact Or.inl h1
    · exact Or.inr ⟨k, List.mem_append_left _ h1, by simp only; rw [hro _ _ h1]; exact h2⟩
  | self at_ s h hs =>
    refine ⟨hle, hinj, ?_⟩
    have hx := mx_cases st.slots s
    have h0 := F.sl0
    rcases hx.2.2 with h3 | h3
    · rcases hm with h1 | ⟨k, h1, h2⟩
      · exact Or.inl (by simp only; omega)
      · exact Or.inr ⟨k, List.mem_append_left _ h1, by simp only; rw [hro _ _ h1, h3]; exact h2⟩
    · exact Or.inr ⟨i, by simp, by simp only; rw [hri, h3]⟩
  | other worst at_ s h hw hs =>
    refine ⟨hle, hinj, ?_⟩
    obtain ⟨_, ha⟩ := look_spec l _ i st.held _ 0 i (-1) rfl (Nat.zero_le _) (Or.inl rfl) _ _ _ h
    obtain ⟨q0, hq, haq, hrq⟩ := ha.resolve_left hw
    obtain rfl : at_ = q0 := by omega
    have hqr : at_ < regs := by rw [← I.hl]; exact hq
    have hwp : worst ∈ pre ∧ rd st.rooms worst = at_ := by
      rcases I.held at_ hqr with h1 | ⟨h', h2, h3, h4⟩
      · omega
      · obtain rfl : worst = h' := by omega
        exact ⟨h3, h4⟩
    have hwl : worst < l.length := hp worst hwp.1
    have hx := mx_cases st.slots s
    have h0 := F.sl0
    have hset : ∀ k : Nat, rd ((st.rooms.set i (at_ : Int)).set worst (-(s : Int))) (k : Int) = if k = worst then -(s : Int) else if k = i then (at_ : Int) else rd st.rooms (k : Int) := fun k => by
      rw [rd_set _ _ _ _ (by simp [I.rl]; exact hwl), rd_set _ _ _ _ (by rw [I.rl]; exact hi)]
    rcases hx.2.2 with h3 | h3
    · rcases hm with h1 | ⟨k, h1, h2⟩
      · exact Or.inl (by simp only; omega)
      · by_cases e : k = worst
        · subst e
          have := hwp.2
          exact Or.inl (by simp only; omega)
        · exact Or.inr ⟨k, List.mem_append_left _ h1, by simp only; rw [hset, if_neg e, if_neg (hne k h1), h3]; exact h2⟩
    · exact Or.inr ⟨worst, List.mem_append_left _ hwp.1, by simp only; rw [hset, if_pos rfl, h3]⟩

theorem Tell.start (l : List S40) (regs : Nat) : Tell [] (start l.length regs) :=
  ⟨(fun k hk => by cases hk), (fun k j hk => by cases hk), Or.inl rfl⟩

theorem worse_eq {l : List S40} {wh : List Int} {h W : Nat} (a : ¬ worse l wh h W = true) (b : ¬ worse l wh W h = true) : rd wh (h : Int) = rd wh (W : Int) := by
  rw [worse_iff] at *; omega

theorem Sim.mk2 {l : List S40} {regs : Nat} {pre : List Nat} {st st' : St} {i : Nat} {rooms wn rooms' : List Int} (I : Inv l regs pre st) (T : Tell pre st) (S : Sim l pre st rooms wn) (hi : i < l.length) (hni : i ∉ pre)
    (hl : rooms'.length = l.length) (hw : st'.wh = st.wh.set i ((st.now : Int) + 1)) (ho : ∀ k, k ∈ pre ∨ k = i → rd rooms' (k : Int) = rd st'.rooms (k : Int)) (hnw : ∀ k, k < l.length → k ∉ pre → k ≠ i → rd rooms' (k : Int) = -1000000) :
    Sim l (pre ++ [i]) st' rooms' (wn.set i (pre.length : Int)) := by
  have mem : ∀ k, k ∈ pre ++ [i] → k ∈ pre ∨ k = i := fun k hk => by
    rcases List.mem_append.1 hk with h | h
    · exact Or.inl h
    · exact Or.inr (List.mem_singleton.1 h)
  refine ⟨hl, by simp [S.wl], fun k hk => ho k (mem k hk), fun k h1 h2 => hnw k h1 (fun h => h2 (List.mem_append_left _ h)) (fun h => h2 (by simp [h])), fun k hk => ?_⟩
  rw [hw, rd_set _ _ _ _ (by rw [S.wl]; exact hi), rd_set _ _ _ _ (by rw [I.wl]; exact hi)]
  split
  · have := I.now
    omega
  · rename_i h
    exact S.wh k ((mem k hk).resolve_right h)

theorem sim_step {l : List S40} {regs : Nat} {pre : List Nat} {st st' : St} {i : Nat} {rooms wn : List Int} (I : Inv l regs pre st) (F : Fin l regs pre st) (T : Tell pre st) (S : Sim l pre st rooms wn) (hn : l.length ≤ 10000) (hi : i < l.length) (hni : i ∉ pre) (hp : ∀ k, k ∈ pre → k < l.length) (hs : ∀ k, k ∈ pre → From l k ≤ From l i)
    (hreg : regs ≤ 64) (o : List Int) (hoi : rd o (pre.length : Int) = i) (hol : pre.length < o.length) (hol2 : o.length ≤ 10000) (St : Step l st i st') :
    ∃ rooms' wn', Sim l (pre ++ [i]) st' rooms' wn' ∧ ∀ v, (∃ K, postbagref18_Assign.l1 K (twin l) regs rooms' wn' o ((pre.length + 1 : Nat) : Int) = some v) → ∃ K, postbagref18_Assign.l1 K (twin l) regs rooms wn o (pre.length : Int) = some v := by
  have hspl := I.spl
  have hrl := S.rl
  have hwl := S.wl
  obtain ⟨W', fr', h1, h2, h3, h4, h5, h6⟩ := down (n := pre.length) (o := o) I F S hn hp hs hi (wn.set i (pre.length : Int)) (by simp [S.wl]) hreg (wh := st.wh.set i ((st.now : Int) + 1)) (fun k hk => by
    rw [rd_set _ _ _ _ (by rw [S.wl]; exact hi), rd_set _ _ _ _ (by rw [I.wl]; exact hi)]
    split
    · have := I.now
      omega
    · rename_i h
      exact S.wh k (hk.resolve_right h)) regs (Nat.le_refl _) i (-1) (Or.inr rfl)
  have up : ∀ v, (∃ K, postbagref18_Assign.l2 K (twin l) regs rooms (wn.set i (pre.length : Int)) o pre.length i W' fr' (-1) = some v) → ∃ K, postbagref18_Assign.l1 K (twin l) regs rooms wn o (pre.length : Int) = some v := fun v hv => by
    obtain ⟨K, hK⟩ := h6 v hv
    refine ⟨K + 1, ?_⟩
    rw [postbagref18_Assign.l1, hoi, if_pos (by omega), if_pos (by omega), if_pos (by omega), if_pos (by omega), show wrap64 ((regs : Int) - 1) = (regs : Int) - 1 by unfold wrap64; omega, Int.toNat_natCast]
    exact hK
  have e3 : wrap64 ((pre.length : Int) + 1) = ((pre.length + 1 : Nat) : Int) := by rw [wrap_small _ (by omega) (by omega)]; omega
  have hne : ∀ k, k ∈ pre → k ≠ i := fun k hk e => hni (e ▸ hk)
  -- where no register is free
  have noFree : (∀ q, q < regs → ¬ Idle l st i q) → fr' = -1 := fun hno => by
    rcases h1 with ⟨h7, _⟩ | ⟨q, h7, h8, h9, _⟩
    · exact h7
    · exact absurd h9 (hno q h7)
  have same : ∀ (w' : Nat) (a' : Int), look l (st.wh.set i ((st.now : Int) + 1)) i st.held 0 i (-1) = (none, w', a') → fr' = -1 ∧ W' = w' := fun w' a' h => by
    have hno : ∀ q, q < regs → ¬ Idle l st i q := fun q hq => look_none l _ i st.held _ 0 i (-1) rfl (Nat.zero_le _) w' a' (by rw [List.drop_zero]; exact h) q (Nat.zero_le _) (by rw [I.hl]; exact hq)
    refine ⟨noFree hno, ?_⟩
    obtain ⟨m1, m2⟩ := look_max l _ i st.held _ 0 i (-1) rfl (Nat.zero_le _) w' a' (by rw [List.drop_zero]; exact h)
    obtain ⟨_, ha⟩ := look_spec l _ i st.held _ 0 i (-1) rfl (Nat.zero_le _) (Or.inl rfl) _ _ _ h
    have n1 : ¬ worse l (st.wh.set i ((st.now : Int) + 1)) W' w' = true := by
      rcases h4 with h7 | ⟨q, h7, h8, h9⟩
      · rw [h7]; exact m1
      · have := m2 q (Nat.zero_le _) (by rw [I.hl]; exact h7)
        rwa [h9, Int.toNat_natCast] at this
    have n2 : ¬ worse l (st.wh.set i ((st.now : Int) + 1)) w' W' = true := by
      rcases ha with h7 | ⟨q, h7, h8, h9⟩
      · rw [h7]; exact h3
      · have := h5 q (by rw [← I.hl]; exact h7) (hno q (by rw [← I.hl]; exact h7))
        rwa [h9, Int.toNat_natCast] at this
    have hw' : w' ∈ pre ∨ w' = i := by
      rcases ha with h7 | ⟨q, h7, h8, h9⟩
      · exact Or.inr h7
      · rcases I.held q (by rw [← I.hl]; exact h7) with h10 | ⟨h', h10, h11, _⟩
        · omega
        · obtain rfl : w' = h' := by omega
          exact Or.inl h11
    refine T.inj2 I hi hni W' w' h2 hw' ?_
    exact worse_eq n1 n2
  cases St with
  | free r worst at_ h =>
    obtain ⟨hf, _⟩ := look_spec l _ i st.held _ 0 i (-1) rfl (Nat.zero_le _) (Or.inl rfl) _ _ _ h
    obtain ⟨_, hr, hfr⟩ := hf r rfl
    rw [I.hl] at hr
    have hfr' : Idle l st i r := hfr
    have hleast : ∀ q, q < r → ¬ Idle l st i q := fun q hq => look_least l _ i st.held _ 0 i (-1) rfl (Nat.zero_le _) r _ _ (by rw [List.drop_zero]; exact h) q (Nat.zero_le _) hq
    have hfe : fr' = r := by
      rcases h1 with ⟨_, h7⟩ | ⟨q, h7, h8, h9, h10⟩
      · exact absurd hfr' (h7 r hr)
      · rcases Nat.lt_trichotomy q r with h11 | h11 | h11
        · exact absurd h9 (hleast q h11)
        · rw [h8, h11]
        · exact absurd hfr' (h10 r h11)
    refine ⟨rooms.set i (r : Int), wn.set i (pre.length : Int), Sim.mk2 I T S hi hni (by simp [S.rl]) rfl (fun k hk => ?_) (fun k k1 k2 k3 => ?_), fun v ⟨K, hK⟩ => up v ⟨K + 1, ?_⟩⟩
    · rw [rd_set _ _ _ _ (by rw [S.rl]; exact hi)]
      simp only
      rw [rd_set _ _ _ _ (by rw [I.rl]; exact hi)]
      split
      · rfl
      · rename_i hh
        exact S.old k (hk.resolve_right hh)
    · rw [rd_set _ _ _ _ (by rw [S.rl]; exact hi), if_neg k3]
      exact S.new k k1 k2
    · rw [postbagref18_Assign.l2, if_neg (by omega), if_pos (by omega), if_pos (by omega), if_pos (by omega), Int.toNat_natCast, e3, hfe]
      exact hK
  | self at_ s h hsl =>
    obtain ⟨hfe, hW⟩ := same _ _ h
    subst hW
    have hone := hsl.one
    have htop := hsl.top
    have hpl : pre.length < 10000 := by omega
    obtain ⟨K1, hK1⟩ := slot_f l rooms W' s S.rl hn hi hone (by omega) (fun k k1 k2 k3 e => by
      by_cases hm : k ∈ pre
      · rw [S.old k hm] at e
        exact hsl.free k (F.neg k hm (by omega)) k3 e
      · rw [S.new k k1 hm] at e
        omega) (fun t t1 t2 => by
      obtain ⟨k, k1, k2, k3⟩ := hsl.least t t1 t2
      have hm := (I.sp k k1).1
      exact ⟨k, hp k hm, hne k hm, k2, by rw [S.old k hm]; exact k3⟩)
    refine ⟨rooms.set W' (-(s : Int)), wn.set W' (pre.length : Int), Sim.mk2 I T S hi hni (by simp [S.rl]) rfl (fun k hk => ?_) (fun k k1 k2 k3 => ?_), fun v ⟨K, hK⟩ => up v ⟨K1 + K + 1, ?_⟩⟩
    · rw [rd_set _ _ _ _ (by rw [S.rl]; exact hi)]
      simp only
      rw [rd_set _ _ _ _ (by rw [I.rl]; exact hi)]
      split
      · rfl
      · rename_i hh
        exact S.old k (hk.resolve_right hh)
    · rw [rd_set _ _ _ _ (by rw [S.rl]; exact hi), if_neg k3]
      exact S.new k k1 k2
    · have r1 : postbagref18_slot.f (K1 + K) (twin l) rooms W' = _ := raise (f := fun k => postbagref18_slot.f k (twin l) rooms W') (fun k => postbagref18_slot.mono _ _ _ k) hK1 K
      have r2 : postbagref18_Assign.l1 (K + K1) (twin l) regs (rooms.set W' (-(s : Int))) (wn.set W' (pre.length : Int)) o ((pre.length + 1 : Nat) : Int) = _ := raise (f := fun k => postbagref18_Assign.l1 k (twin l) regs (rooms.set W' (-(s : Int))) (wn.set W' (pre.length : Int)) o ((pre.length + 1 : Nat) : Int)) (fun k => (postbagref18_Assign.mono_l k).2.2.1 _ _ _ _ _ _) hK K1
      rw [Nat.add_comm K K1] at r2
      rw [postbagref18_Assign.l2, if_neg (by omega), if_neg (by omega), if_pos (by omega), if_pos (by omega), r1]
      simp only [Option.bind]
      rw [if_pos trivial, Int.toNat_natCast, e3]
      exact r2
  | other worst at_ s h hw hsl =>
    obtain ⟨hfe, hW⟩ := same _ _ h
    subst hW
    have hone := hsl.one
    have htop := hsl.top
    have hpl : pre.length < 10000 := by omega
    obtain ⟨_, ha⟩ := look_spec l _ i st.held _ 0 i (-1) rfl (Nat.zero_le _) (Or.inl rfl) _ _ _ h
    obtain ⟨q0, hq, haq, hrq⟩ := ha.resolve_left hw
    obtain rfl : at_ = q0 := by omega
    have hqr : at_ < regs := by rw [← I.hl]; exact hq
    have hwp : W' ∈ pre ∧ rd st.rooms W' = at_ := by
      rcases I.held at_ hqr with h1 | ⟨h', h2, h3, h4⟩
      · omega
      · obtain rfl : W' = h' := by omega
        exact ⟨h3, h4⟩
    have hwl' : W' < l.length := hp W' hwp.1
    have hro : ∀ (v : Int) k, k ∈ pre → rd (st.rooms.set i v) (k : Int) = rd st.rooms k := fun v k hk => rooms_other I hi v (hne k hk)
    obtain ⟨K1, hK1⟩ := slot_f l rooms W' s S.rl hn hwl' hone (by omega) (fun k k1 k2 k3 e => by
      by_cases hm : k ∈ pre
      · rw [S.old k hm] at e
        exact hsl.free k (F.neg k hm (by omega)) k3 (by rw [hro _ _ hm]; exact e)
      · rw [S.new k k1 hm] at e
        omega) (fun t t1 t2 => by
      obtain ⟨k, k1, k2, k3⟩ := hsl.least t t1 t2
      have hm := (I.sp k k1).1
      rw [hro _ _ hm] at k3
      refine ⟨k, hp k hm, fun e => ?_, k2, by rw [S.old k hm]; exact k3⟩
      rw [e, hwp.2] at k3
      omega)
    refine ⟨(rooms.set W' (-(s : Int))).set i (at_ : Int), wn.set i (pre.length : Int), Sim.mk2 I T S hi hni (by simp [S.rl]) rfl (fun k hk => ?_) (fun k k1 k2 k3 => ?_), fun v ⟨K, hK⟩ => up v ⟨K1 + K + 1, ?_⟩⟩
    · rw [rd_set _ _ _ _ (by simp [S.rl]; exact hi), rd_set _ _ _ _ (by rw [S.rl]; exact hwl')]
      simp only
      rw [rd_set _ _ _ _ (by simp [I.rl]; exact hwl'), rd_set _ _ _ _ (by rw [I.rl]; exact hi)]
      by_cases c1 : k = i
      · rw [if_pos c1, if_neg (by omega), if_pos c1]
      · rw [if_neg c1, if_neg c1, S.old k (hk.resolve_right c1)]
    · rw [rd_set _ _ _ _ (by simp [S.rl]; exact hi), rd_set _ _ _ _ (by rw [S.rl]; exact hwl'), if_neg k3, if_neg (fun e => k2 (by rw [e]; exact hwp.1))]
      exact S.new k k1 k2
    · have r1 : postbagref18_slot.f (K1 + K) (twin l) rooms W' = _ := raise (f := fun k => postbagref18_slot.f k (twin l) rooms W') (fun k => postbagref18_slot.mono _ _ _ k) hK1 K
      have r2 : postbagref18_Assign.l1 (K + K1) (twin l) regs ((rooms.set W' (-(s : Int))).set i (at_ : Int)) (wn.set i (pre.length : Int)) o ((pre.length + 1 : Nat) : Int) = _ := raise (f := fun k => postbagref18_Assign.l1 k (twin l) regs ((rooms.set W' (-(s : Int))).set i (at_ : Int)) (wn.set i (pre.length : Int)) o ((pre.length + 1 : Nat) : Int)) (fun k => (postbagref18_Assign.mono_l k).2.2.1 _ _ _ _ _ _) hK K1
      rw [Nat.add_comm K K1] at r2
      have hra : rd rooms (W' : Int) = at_ := by rw [S.old W' hwp.1, hwp.2]
      rw [postbagref18_Assign.l2, if_neg (by omega), if_neg (by omega), if_pos (by omega), if_pos (by omega), r1]
      simp only [Option.bind]
      rw [if_neg (by omega), if_pos (by omega), if_pos (by omega), Int.toNat_natCast, Int.toNat_natCast, e3, hra]
      exact r2

theorem rd_replicate (n : Nat) (v : Int) (k : Nat) (h : k < n) : rd (List.replicate n v) (k : Int) = v := by
  simp [rd, List.getD_eq_getElem?_getD, h]

theorem ref_run {l : List S40} {regs : Nat} (hg : ∀ j, j < l.length → From l j < To l j) (hn : l.length ≤ 10000) (hreg : regs ≤ 64) {o : List Nat} (hO : Order l o) {pre : List Nat} {st : St} (h : Run l regs pre st) : (∃ rest, o = pre ++ rest) →
    Inv l regs pre st ∧ Fin l regs pre st ∧ Tell pre st ∧ ∃ rooms wn, Sim l pre st rooms wn ∧ ∀ v, (∃ K, postbagref18_Assign.l1 K (twin l) regs rooms wn (o.map fun x : Nat => (x : Int)) pre.length = some v) →
      ∃ K, postbagref18_Assign.l1 K (twin l) regs (List.replicate l.length (-1000000)) (List.replicate l.length 0) (o.map fun x : Nat => (x : Int)) 0 = some v := by
  have hnd := hO.perm.nodup_iff.2 List.nodup_range
  have hm : ∀ k, k ∈ o → k < l.length := fun k hk => by rw [hO.perm.mem_iff, List.mem_range] at hk; exact hk
  induction h with
  | nil =>
    intro _
    refine ⟨Inv.start l regs, Fin.start l regs, Tell.start l regs, _, _, ⟨by simp, by simp, (fun k hk => by cases hk), fun k hk _ => rd_replicate _ _ _ hk, (fun k hk => by cases hk)⟩, fun v h => h⟩
  | @snoc pre st st' i hr hs ih =>
    rintro ⟨rest, e⟩
    obtain ⟨I, F, T, rooms, wn, S, hk⟩ := ih ⟨i :: rest, by rw [e, List.append_assoc]; rfl⟩
    have hsub : ∀ k, k ∈ pre → k ∈ o := fun k hk => by rw [e]; simp [hk]
    have hio : i ∈ o := by rw [e]; simp
    have hnd2 : (pre ++ [i]).Nodup := by rw [e] at hnd; exact (List.nodup_append.1 hnd).1
    have hni : i ∉ pre := fun hx => (List.nodup_append.1 hnd2).2.2 i hx i (by simp) rfl
    have hsrt := hO.srt
    rw [e] at hsrt
    have hsrt2 := (List.pairwise_append.1 (List.pairwise_append.1 hsrt).1).2.2
    have hfr : ∀ k, k ∈ pre → From l k ≤ From l i := fun k hk => by
      have := hsrt2 k hk i (by simp)
      unfold Ahead at this
      unfold From
      omega
    have hlen := hO.length
    have holen : (o.map fun x : Nat => (x : Int)).length = l.length := by simp [hlen]
    have hpl : pre.length < o.length := by rw [e]; simp
    have hp : ∀ k, k ∈ pre → k < l.length := fun k hk => hm k (hsub k hk)
    have hoi : rd (o.map fun x : Nat => (x : Int)) (pre.length : Int) = i := by
      simp [rd, List.getD_eq_getElem?_getD, e]
    obtain ⟨rooms', wn', S', hk'⟩ := sim_step I F T S hn (hm i hio) hni hp hfr hreg (o.map fun x : Nat => (x : Int)) hoi (by omega) (by omega) hs
    refine ⟨I.step (hm i hio) hni hp hs, F.step I (hm i hio) hni hp hfr (hg i (hm i hio)) hs, T.step I F (hm i hio) hni hp hs, rooms', wn', S', fun v hv => hk v (hk' v ?_)⟩
    simpa using hv

theorem ref_end (l : List S40) (rooms : List Int) (slots : Int) (regs : Nat) (hrl : rooms.length = l.length) (hn : l.length ≤ 10000) (hreg : regs ≤ 64) (hs0 : 0 ≤ slots) (hs1 : slots ≤ l.length) (hle : ∀ k, k < l.length → -slots ≤ rd rooms (k : Int) ∧ rd rooms (k : Int) < regs) : ∀ (d i : Nat) (m : Int), l.length - i = d → i ≤ l.length → 0 ≤ m → m ≤ slots →
    (m = slots ∨ ∃ k, i ≤ k ∧ k < l.length ∧ rd rooms (k : Int) = -slots) → postbagref18_Assign.l3 (d + 1) (twin l) rooms m i = some (rooms, slots) := by
  intro d
  induction d with
  | zero =>
    intro i m hd hi h0 h1 h2
    rw [postbagref18_Assign.l3, if_neg (by rw [twin_len]; omega)]
    rcases h2 with rfl | ⟨k, k1, k2, _⟩
    · rfl
    · omega
  | succ d ih =>
    intro i m hd hi h0 h1
    have hb := hle i (by omega)
    have hx := mx_cases m (-rd rooms (i : Int))
    rw [postbagref18_Assign.l3, if_pos (by rw [twin_len]; omega), if_pos (by omega), if_pos (by omega)]
    rw [show wrap64 (-rd rooms (i : Int)) = -rd rooms (i : Int) by unfold wrap64; omega, wrap_small _ (by omega) (by omega), show (i : Int) + 1 = ((i + 1 : Nat) : Int) by omega]
    have a1 : l.length - (i + 1) = d := by omega
    have a2 : i + 1 ≤ l.length := by omega
    have a3 : 0 ≤ mx m (-rd rooms (i : Int)) := by omega
    have a4 : mx m (-rd rooms (i : Int)) ≤ slots := by omega
    intro h2
    refine ih (i + 1) _ a1 a2 a3 a4 ?_
    rcases h2 with h2 | ⟨k, k1, k2, k3⟩
    · exact Or.inl (by omega)
    · rcases Nat.lt_or_ge i k with h3 | h3
      · exact Or.inr ⟨k, h3, k2, k3⟩
      · obtain rfl : i = k := by omega
        exact Or.inl (by omega)

theorem ref_clear (l : List S40) (regs : Int) (wn : List Int) (hn : l.length ≤ 10000) : ∀ (d i : Nat), l.length - i = d → i ≤ l.length → ∀ v K o,
    postbagref18_order.f K (twin l) = some o → postbagref18_Assign.l1 K (twin l) regs (List.replicate l.length (-1000000)) wn o 0 = some v →
    postbagref18_Assign.l0 (K + d + 1) (twin l) regs (List.replicate i (-1000000) ++ List.replicate d 0) wn i = some v := by
  intro d
  induction d with
  | zero =>
    intro i hd hi v K o h1 h2
    obtain rfl : i = l.length := by omega
    rw [postbagref18_Assign.l0, if_neg (by rw [twin_len]; omega)]
    simp only [Nat.add_zero, h1, Option.bind, List.replicate_zero, List.append_nil]
    exact h2
  | succ d ih =>
    intro i hd hi v K o h1 h2
    have h3 := ih (i + 1) (by omega) (by omega) v K o h1 h2
    rw [show K + (d + 1) + 1 = (K + d + 1) + 1 by omega, postbagref18_Assign.l0, if_pos (by rw [twin_len]; omega), if_pos (by omega), if_pos (by simp; omega), wrap_small _ (by omega) (by omega), show (i : Int) + 1 = ((i + 1 : Nat) : Int) by omega, Int.toNat_natCast]
    rw [← h3]
    congr 1
    rw [List.set_append_right (h := by simp), List.replicate_succ, List.replicate_succ' (n := i), List.append_assoc]
    simp

theorem ref_good (l : List S40) (hn : l.length ≤ 10000) : ∀ (d i : Nat) (b : Bool), l.length - i = d → i ≤ l.length → scan_Good.l0 (d + 1) l l.length i = some b → postbagref18_Good.l0 (d + 1) (twin l) i = some b := by
  intro d
  induction d with
  | zero =>
    intro i b hd hi h
    rw [scan_Good.l0, if_neg (by omega)] at h
    rw [postbagref18_Good.l0, if_neg (by rw [twin_len]; omega), ← h, twin_len]
    simp; omega
  | succ d ih =>
    intro i b hd hi h
    rw [scan_Good.l0, if_pos (by omega), if_pos (by omega), if_pos (by omega)] at h
    rw [postbagref18_Good.l0, twin_len, if_pos (by omega), if_pos (by omega)]
    simp only [twin_f0, twin_f1]
    rw [wrap_small _ (by omega) (by omega), show (i : Int) + 1 = ((i + 1 : Nat) : Int) by omega] at h ⊢
    by_cases c0 : (((rd_T40 l i).f0) == 0 && (((rd_T40 l i).f1) == 0)) = true
    · rw [if_pos c0] at h
      simp only [Bool.and_eq_true, beq_iff_eq] at c0
      rw [c0.1, c0.2, ← h]
      simp
    · rw [if_neg c0] at h
      by_cases c1 : (rd_T40 l i).f0 < 0
      · rw [if_pos c1] at h ⊢; exact h
      · rw [if_neg c1] at h ⊢
        by_cases c2 : (rd_T40 l i).f0 > 1048576
        · rw [if_pos c2] at h ⊢; exact h
        · rw [if_neg c2] at h ⊢
          by_cases c3 : (rd_T40 l i).f1 ≤ (rd_T40 l i).f0
          · rw [if_pos c3] at h ⊢; exact h
          · rw [if_neg c3] at h ⊢
            by_cases c4 : (rd_T40 l i).f1 > 1048577
            · rw [if_pos c4] at h ⊢; exact h
            · rw [if_neg c4] at h ⊢
              exact ih (i + 1) b (by omega) (by omega) h

theorem ref_good_f (l : List S40) (hn : l.length ≤ 10000) (b : Bool) (h : ∃ k, scan_Good.f k l = some b) : ∃ K, postbagref18_Good.f K (twin l) = some b := by
  obtain ⟨k, hk⟩ := h
  obtain ⟨b', hb, _⟩ := Good_f l hn
  have e1 := hb (l.length + 1 + k) (by omega)
  have e2 : scan_Good.f (k + (l.length + 1)) l = some b := raise (f := fun k => scan_Good.f k l) (fun k => scan_Good.mono _ k) hk (l.length + 1)
  rw [Nat.add_comm k, e1] at e2
  cases e2
  have e3 := hb (l.length + 1) (Nat.le_refl _)
  unfold scan_Good.f at e3
  rw [if_neg (by omega)] at e3
  exact ⟨_, ref_good l hn l.length 0 b rfl (Nat.zero_le _) e3⟩

/-- Where lives are good, and registers as many as may be: the reference's answer is the one that the program has. -/
theorem ref_assign {l : List S40} {regs : Nat} (hn : l.length ≤ 10000) (hreg : regs ≤ 64) (hgood : ∃ k, scan_Good.f k l = some true) {o : List Nat} {st : St} (hO : Order l o) (h : Run l regs o st) :
    ∃ K, postbagref18_Assign.f K (twin l) regs = some (st.rooms, st.slots) := by
  obtain ⟨b', hb, hg⟩ := Good_f l hn
  have hg' : ∀ j, j < l.length → From l j < To l j := by
    obtain ⟨k, hk⟩ := hgood
    have e1 := hb (l.length + 1 + k) (by omega)
    have e2 : scan_Good.f (k + (l.length + 1)) l = some true := raise (f := fun k => scan_Good.f k l) (fun k => scan_Good.mono _ k) hk (l.length + 1)
    rw [Nat.add_comm k, e1] at e2
    cases e2
    exact hg rfl
  obtain ⟨Kg, hKg⟩ := ref_good_f l hn true hgood
  obtain ⟨o', hO', Ko, hKo⟩ := order_f l hn
  obtain rfl : o' = o := hO'.unique hO
  obtain ⟨I, F, T, rooms, wn, S, hk⟩ := ref_run hg' hn hreg hO' h ⟨[], by simp⟩
  have fin := final hg' hO' h
  have hlen := hO'.length
  have hmem : ∀ k, k < l.length → k ∈ o' := fun k hk => by rw [hO'.perm.mem_iff, List.mem_range]; exact hk
  have hrooms : rooms = st.rooms := by
    refine List.ext_getElem (by rw [S.rl, I.rl]) (fun k h1 h2 => ?_)
    have := S.old k (hmem k (by rw [← S.rl]; exact h1))
    simpa [rd, List.getD_eq_getElem?_getD, h1, h2] using this
  have hend : ∃ K, postbagref18_Assign.l1 K (twin l) regs rooms wn (o'.map fun x : Nat => (x : Int)) o'.length = some (st.rooms, st.slots) := by
    refine ⟨(l.length + 1) + 1, ?_⟩
    rw [postbagref18_Assign.l1, if_neg (by simp), hrooms]
    have := ref_end l st.rooms st.slots regs fin.rl hn hreg fin.sl0 fin.sl1 fin.rng l.length 0 0 rfl (Nat.zero_le _) (Int.le_refl _) fin.sl0 (by
      rcases T.max with h1 | ⟨k, h1, h2⟩
      · exact Or.inl h1.symm
      · exact Or.inr ⟨k, Nat.zero_le _, by rw [← List.mem_range, ← hO'.perm.mem_iff]; exact h1, h2⟩)
    exact this
  obtain ⟨K1, hK1⟩ := hk _ hend
  have r1 : postbagref18_order.f (Ko + K1) (twin l) = _ := raise (f := fun k => postbagref18_order.f k (twin l)) (fun k => postbagref18_order.mono _ k) hKo K1
  have r2 : postbagref18_Assign.l1 (K1 + Ko) (twin l) regs (List.replicate l.length (-1000000)) (List.replicate l.length 0) (o'.map fun x : Nat => (x : Int)) 0 = _ := raise (f := fun k => postbagref18_Assign.l1 k (twin l) regs (List.replicate l.length (-1000000)) (List.replicate l.length 0) (o'.map fun x : Nat => (x : Int)) 0) (fun k => (postbagref18_Assign.mono_l k).2.2.1 _ _ _ _ _ _) hK1 Ko
  rw [Nat.add_comm K1 Ko] at r2
  have r3 := ref_clear l regs (List.replicate l.length 0) hn l.length 0 rfl (Nat.zero_le _) _ _ _ r1 r2
  simp only [List.replicate_zero, List.nil_append] at r3
  have r4 : postbagref18_Assign.l0 ((Ko + K1 + l.length + 1) + Kg) (twin l) regs (List.replicate l.length 0) (List.replicate l.length 0) ((0 : Nat) : Int) = _ := raise (f := fun k => postbagref18_Assign.l0 k (twin l) regs (List.replicate l.length 0) (List.replicate l.length 0) ((0 : Nat) : Int)) (fun k => (postbagref18_Assign.mono_l k).2.1 _ _ _ _ _) r3 Kg
  have r5 : postbagref18_Good.f (Kg + ((Ko + K1 + l.length + 1) + 1)) (twin l) = _ := raise (f := fun k => postbagref18_Good.f k (twin l)) (fun k => postbagref18_Good.mono _ k) hKg _
  refine ⟨(Ko + K1 + l.length + 1) + Kg + 1, ?_⟩
  rw [show Kg + ((Ko + K1 + l.length + 1) + 1) = (Ko + K1 + l.length + 1) + Kg + 1 by omega] at r5
  unfold postbagref18_Assign.f
  rw [r5]
  simp only [Option.bind]
  rw [if_pos trivial, if_neg (by omega), postbagref18_Assign.j0, if_neg (by intro hx; rw [decide_eq_true_eq] at hx; omega), twin_len, if_pos (by omega), Int.toNat_natCast, if_pos (by omega)]
  exact r4

/-- Where lives are not good, or registers not as many as may be: none. -/
theorem ref_refuses (l : List S40) (regs : Int) (hn : l.length ≤ 10000) (b : Bool) (hgood : ∃ k, scan_Good.f k l = some b) (hb : b = false ∨ regs < 0 ∨ 64 < regs) :
    ∃ K, postbagref18_Assign.f K (twin l) regs = some ([], 0) := by
  obtain ⟨Kg, hKg⟩ := ref_good_f l hn b hgood
  refine ⟨Kg + 1, ?_⟩
  have r5 : postbagref18_Good.f (Kg + 1) (twin l) = _ := raise (f := fun k => postbagref18_Good.f k (twin l)) (fun k => postbagref18_Good.mono _ k) hKg 1
  unfold postbagref18_Assign.f
  rw [r5]
  simp only [Option.bind]
  cases b with
  | false => simp [postbagref18_Assign.j0]
  | true =>
    rw [if_pos rfl]
    by_cases c : regs < 0
    · rw [if_pos c]; simp [postbagref18_Assign.j0]
    · have hb' : regs > 64 := by
        rcases hb with h | h | h
        · cases h
        · exact absurd h c
        · exact h
      rw [if_neg c, postbagref18_Assign.j0, if_pos (decide_eq_true hb')]

theorem of_f (l : List S40) (hn : l.length ≤ 10000) : ∃ k, postbaglaw18_of.f k l = some (twin l) := by
  have h : ∀ (d i : Nat), l.length - i = d → i ≤ l.length → postbaglaw18_of.l0 (d + 1) (twin (l.take i)) l l.length i = some (twin l) := by
    intro d
    induction d with
    | zero =>
      intro i hd hi
      obtain rfl : i = l.length := by omega
      rw [postbaglaw18_of.l0, if_neg (by omega), List.take_length]
    | succ d ih =>
      intro i hd hi
      have h1 := ih (i + 1) (by omega) (by omega)
      have hlt : i < l.length := by omega
      rw [postbaglaw18_of.l0, if_pos (by omega), if_pos (by omega), if_pos (by omega), if_pos (by rw [twin_len, List.length_take]; omega), wrap_small _ (by omega) (by omega), show (i : Int) + 1 = ((i + 1 : Nat) : Int) by omega, ← h1]
      congr 1
      rw [List.take_succ_eq_append_getElem hlt]
      unfold twin
      rw [List.map_append]
      congr 1
      simp [rd_T40, List.getD_eq_getElem?_getD, hlt]
  exact ⟨l.length + 1, h l.length 0 rfl (Nat.zero_le _)⟩

theorem ints_f (a : List Int) (hn : a.length ≤ 10000) : ∃ k, postbagref02_Ints.f k a a = some true := by
  have h : ∀ (d i : Nat), a.length - i = d → i ≤ a.length → postbagref02_Ints.l0 (d + 1) a a i = some true := by
    intro d
    induction d with
    | zero =>
      intro i hd hi
      rw [postbagref02_Ints.l0, if_neg (by omega)]
    | succ d ih =>
      intro i hd hi
      have h1 := ih (i + 1) (by omega) (by omega)
      rw [postbagref02_Ints.l0, if_pos (by omega), if_pos (by omega), if_pos (by omega), if_pos rfl, wrap_small _ (by omega) (by omega), show (i : Int) + 1 = ((i + 1 : Nat) : Int) by omega, ← h1]
  refine ⟨a.length + 1, ?_⟩
  unfold postbagref02_Ints.f
  rw [if_pos rfl]
  exact h a.length 0 rfl (Nat.zero_le _)

theorem RPeak_in (l : List S40) (hn : l.length ≤ 10000) (i p k : Nat) (hi : i < l.length) : ∀ (d j : Nat), l.length - j = d → j ≤ l.length →
    postbagref18_Peak.l1 (k + d + 1) (twin l) p i (cnt l (From l i) j : Nat) j = postbagref18_Peak.l0 k (twin l) ((max p (cnt l (From l i) l.length) : Nat) : Int) (wrap64 ((i : Int) + 1)) := by
  intro d
  induction d with
  | zero =>
    intro j hd hj
    obtain rfl : j = l.length := by omega
    rw [postbagref18_Peak.l1, if_neg (by rw [twin_len]; omega)]
    congr 1
    unfold mx
    split <;> omega
  | succ d ih =>
    intro j hd hj
    have h1 := ih (j + 1) (by omega) (by omega)
    have hc := cnt_le l (From l i) j
    rw [cnt_succ] at h1
    rw [show k + (d + 1) + 1 = (k + d + 1) + 1 by omega, postbagref18_Peak.l1]
    simp only [twin_len, twin_f0, twin_f1]
    rw [if_pos (by omega), if_pos (by omega), if_pos (by omega), if_pos (by omega)]
    rw [wrap_small ((j : Int) + 1) (by omega) (by omega), wrap_small _ (by omega) (by omega), show (j : Int) + 1 = ((j + 1 : Nat) : Int) by omega, ← h1]
    unfold alive From To
    by_cases a1 : (rd_T40 l j).f0 ≤ (rd_T40 l i).f0
    · by_cases a2 : (rd_T40 l i).f0 < (rd_T40 l j).f1
      · simp [a1, a2]
      · simp [a1, a2]
    · simp [a1]

theorem RPeak_out (l : List S40) (hn : l.length ≤ 10000) : ∀ (d i : Nat), l.length - i = d → i ≤ l.length → postbagref18_Peak.l0 (d * (l.length + 2) + 1) (twin l) (best l i : Nat) i = some ((best l l.length : Nat) : Int) := by
  intro d
  induction d with
  | zero =>
    intro i hd hi
    obtain rfl : i = l.length := by omega
    rw [postbagref18_Peak.l0, if_neg (by rw [twin_len]; omega)]
  | succ d ih =>
    intro i hd hi
    have h1 := ih (i + 1) (by omega) (by omega)
    rw [show (d + 1) * (l.length + 2) + 1 = ((d * (l.length + 2) + 1) + l.length + 1) + 1 by rw [Nat.succ_mul]; omega, postbagref18_Peak.l0, if_pos (by rw [twin_len]; omega)]
    have h2 := RPeak_in l hn i (best l i) (d * (l.length + 2) + 1) (by omega) l.length 0 rfl (Nat.zero_le _)
    rw [show cnt l (From l i) 0 = 0 from rfl, wrap_small _ (by omega) (by omega), show (i : Int) + 1 = ((i + 1 : Nat) : Int) by omega] at h2
    exact h2.trans h1

/-- Both tell the same peak. -/
theorem peaks (l : List S40) (hn : l.length ≤ 10000) : ∃ p, (∃ k, scan_Peak.f k l = some p) ∧ ∃ k, postbagref18_Peak.f k (twin l) = some p := by
  obtain ⟨b, hb, _⟩ := Good_f l hn
  have hb1 := hb (l.length + 1) (Nat.le_refl _)
  obtain ⟨Kg, hKg⟩ := ref_good_f l hn b ⟨_, hb1⟩
  cases b with
  | false =>
    refine ⟨0, ⟨l.length + 1, ?_⟩, Kg, ?_⟩
    · simp [scan_Peak.f, hb1]
    · simp [postbagref18_Peak.f, hKg]
  | true =>
    refine ⟨_, Peak_f l hn hb1, Kg + (l.length * (l.length + 2) + 1), ?_⟩
    have r1 : postbagref18_Good.f (Kg + (l.length * (l.length + 2) + 1)) (twin l) = _ := raise (f := fun k => postbagref18_Good.f k (twin l)) (fun k => postbagref18_Good.mono _ k) hKg _
    have r2 : postbagref18_Peak.l0 ((l.length * (l.length + 2) + 1) + Kg) (twin l) ((best l 0 : Nat) : Int) ((0 : Nat) : Int) = _ := raise (f := fun k => postbagref18_Peak.l0 k (twin l) ((best l 0 : Nat) : Int) ((0 : Nat) : Int)) (fun k => (postbagref18_Peak.mono_l k).1 _ _ _) (RPeak_out l hn l.length 0 rfl (Nat.zero_le _)) Kg
    rw [Nat.add_comm _ Kg] at r2
    unfold postbagref18_Peak.f
    rw [r1]
    simp only [Option.bind]
    rw [if_pos trivial]
    exact r2

/-- The program's Assign answers what the reference's answers, whatever it is asked. -/
theorem assign_any (A : Option Addr) (c0 : Nat) (l : List S40) (a1 : Int) (w : World) (hr0 : Kd.C k40 w A l.length l) (hc0 : l.length ≤ c0) (hlen : l.length ≤ 10000) :
    Calls Try.prog 8 #[.slice A l.length c0, .int .i64 a1] w fun e w' => ∃ (v : Value) (rooms : List Int) (slots : Int), e = .returned (.tuple #[v, .int .i64 slots]) ∧ Kd.R (Kd.int .i64) 3 w' w.heap.size (fun _ => True) v rooms ∧ Below w.heap.size w w' ∧ rooms.length ≤ 10000 ∧ ∃ K, postbagref18_Assign.f K (twin l) a1 = some (rooms, slots) := by
  obtain ⟨b, hb, hg⟩ := Good_f l hlen
  have hb1 := hb (l.length + 1) (Nat.le_refl _)
  by_cases hbad : b = false ∨ a1 < 0 ∨ 64 < a1
  · refine (assign_bad (l.length + 1) A c0 l a1 b w hr0 hc0 hb1 hbad).mono ?_
    rintro e w1 ⟨rfl, h1⟩
    exact ⟨_, [], 0, rfl, Kd.R_nil _ _ _ _ _, h1, by simp, ref_refuses l a1 hlen b ⟨_, hb1⟩ hbad⟩
  · have hb2 : b = true := by cases b <;> simp_all
    subst hb2
    obtain ⟨regs, rfl⟩ : ∃ r : Nat, a1 = r := ⟨a1.toNat, by omega⟩
    have hreg : regs ≤ 64 := by omega
    refine (assign_good (l.length + 1) A c0 l regs w hr0 hc0 hb1 hlen hreg).mono ?_
    rintro e w1 ⟨o, st, v, h1, h2, rfl, h3, h4⟩
    exact ⟨v, st.rooms, st.slots, rfl, h3, h4, by rw [(final (hg rfl) h1 h2).rl]; exact hlen, ref_assign hlen hreg ⟨_, hb1⟩ h1 h2⟩
end Go.Proofs.Ytelheeekbihfcac.Srt
