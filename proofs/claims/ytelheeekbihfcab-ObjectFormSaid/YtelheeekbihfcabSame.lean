/- Same is equality; the names of a good object have no zero. -/
import Derived.Test.YtelheeekbihfcabGoodEq
import Derived.Test.YtelheeekbihfcabPObjectReadsx7
set_option linter.unusedVariables false
set_option linter.unusedSimpArgs false
namespace Go.Proofs.Ytelheeekbihfcab.Ob
open Go.RowKit Go.Proofs Go.Proofs.Ytelheeekbihfcab.PObjectReads Go.Proofs.YtelheeekbihfcabW.PrintWords Go.Proofs.YtelheeekbihfcabW.PrintMore

theorem rd_get (l : List Int) (i : Nat) (h : i < l.length) : rd l (i : Int) = l[i] := by
  unfold rd
  rw [Int.toNat_natCast, List.getD_eq_getElem?_getD, List.getElem?_eq_getElem h]
  rfl
theorem bytes_eq {a b : ByteArray} (h : a.toList = b.toList) : a = b := by
  rw [ByteArray.toList_eq, ByteArray.toList_eq] at h
  exact _root_.Go.WideShapes.bytes_inj h

theorem same_l1 (e s : Int) (ws : List Int) (ls : List S47) (e' s' : Int) (ws' : List Int) (ls' : List S47) (hn : ls.length ≤ 5000) (hl : ls.length = ls'.length) : ∀ (d i : Nat), ls.length - i = d → i ≤ ls.length →
    ∃ b, (∃ k, postbagref30_Same.l1 k i e s ws ls e' s' ws' ls' = some b) ∧ (b = true ↔ ls.drop i = ls'.drop i) := by
  intro d
  induction d with
  | zero =>
    intro i hd hi
    refine ⟨true, ⟨1, by rw [postbagref30_Same.l1, if_neg (by omega)]⟩, ?_⟩
    simp [List.drop_of_length_le (show ls.length ≤ i by omega), List.drop_of_length_le (show ls'.length ≤ i by omega)]
  | succ d ih =>
    intro i hd hi
    have hlt : i < ls.length := by omega
    have hlt' : i < ls'.length := by omega
    obtain ⟨b, ⟨k, hk⟩, hb⟩ := ih (i + 1) (by omega) (by omega)
    have e1 : wrap64 ((i : Int) + 1) = ((i + 1 : Nat) : Int) := by rw [wrap_small _ (by omega) (by omega)]; omega
    have hd1 := List.drop_eq_getElem_cons hlt
    have hd2 := List.drop_eq_getElem_cons hlt'
    by_cases hx : ls[i] = ls'[i]
    · refine ⟨b, ⟨k + 1, ?_⟩, ?_⟩
      · rw [postbagref30_Same.l1, if_pos (by omega), if_pos (by omega), if_pos (by omega), rd47 ls i hlt, rd47 ls' i hlt', hx, if_neg (by simp), e1]
        exact hk
      · rw [hd1, hd2, hb, hx, List.cons.injEq]; exact ⟨fun h => ⟨rfl, h⟩, fun h => h.2⟩
    · refine ⟨false, ⟨1, ?_⟩, ?_⟩
      · rw [postbagref30_Same.l1, if_pos (by omega), if_pos (by omega), if_pos (by omega), rd47 ls i hlt, rd47 ls' i hlt', if_pos]
        by_cases h1 : ls[i].f0.toList = ls'[i].f0.toList
        · by_cases h2 : ls[i].f1 = ls'[i].f1
          · exfalso
            apply hx
            have h0 := bytes_eq h1
            generalize ls[i] = p at *
            generalize ls'[i] = q at *
            cases p; cases q
            simp at h0 h2
            rw [h0, h2]
          · simp [h2]
        · simp [h1]
      · rw [hd1, hd2, List.cons.injEq]; exact ⟨fun h => (by cases h), fun h => absurd h.1 hx⟩

theorem same_l0 (e s : Int) (ws : List Int) (ls : List S47) (e' s' : Int) (ws' : List Int) (ls' : List S47) (hn : ls.length ≤ 5000) (hl : ls.length = ls'.length) (hwn : ws.length ≤ 20000) (hwl : ws.length = ws'.length) : ∀ (d i : Nat), ws.length - i = d → i ≤ ws.length →
    ∃ b, (∃ k, postbagref30_Same.l0 k i e s ws ls e' s' ws' ls' = some b) ∧ (b = true ↔ ws.drop i = ws'.drop i ∧ ls = ls') := by
  intro d
  induction d with
  | zero =>
    intro i hd hi
    obtain ⟨b, ⟨k, hk⟩, hb⟩ := same_l1 e s ws ls e' s' ws' ls' hn hl ls.length 0 rfl (Nat.zero_le _)
    refine ⟨b, ⟨k + 1, by rw [postbagref30_Same.l0, if_neg (by omega)]; exact hk⟩, ?_⟩
    rw [hb]
    simp [List.drop_of_length_le (show ws.length ≤ i by omega), List.drop_of_length_le (show ws'.length ≤ i by omega)]
  | succ d ih =>
    intro i hd hi
    have hlt : i < ws.length := by omega
    have hlt' : i < ws'.length := by omega
    obtain ⟨b, ⟨k, hk⟩, hb⟩ := ih (i + 1) (by omega) (by omega)
    have e1 : wrap64 ((i : Int) + 1) = ((i + 1 : Nat) : Int) := by rw [wrap_small _ (by omega) (by omega)]; omega
    have hd1 := List.drop_eq_getElem_cons hlt
    have hd2 := List.drop_eq_getElem_cons hlt'
    by_cases hx : ws[i] = ws'[i]
    · refine ⟨b, ⟨k + 1, ?_⟩, ?_⟩
      · rw [postbagref30_Same.l0, if_pos (by omega), if_pos (by omega), if_pos (by omega), rd_get ws i hlt, rd_get ws' i hlt', if_pos hx, e1]
        exact hk
      · rw [hd1, hd2, hb, hx, List.cons.injEq]; exact ⟨fun h => ⟨⟨rfl, h.1⟩, h.2⟩, fun h => ⟨h.1.2, h.2⟩⟩
    · refine ⟨false, ⟨1, ?_⟩, ?_⟩
      · rw [postbagref30_Same.l0, if_pos (by omega), if_pos (by omega), if_pos (by omega), rd_get ws i hlt, rd_get ws' i hlt', if_neg hx]
      · rw [hd1, hd2, List.cons.injEq]; exact ⟨fun h => (by cases h), fun h => absurd h.1.1 hx⟩

theorem same_f (e s : Int) (ws : List Int) (ls : List S47) (e' s' : Int) (ws' : List Int) (ls' : List S47) (hn : ls.length ≤ 5000) (hwn : ws.length ≤ 20000) :
    ∃ b, (∃ k, postbagref30_Same.f k e s ws ls e' s' ws' ls' = some b) ∧ (b = true ↔ e = e' ∧ s = s' ∧ ws = ws' ∧ ls = ls') := by
  have hf : ∀ b, (b = true ↔ False) → b = false := fun b h => by cases b <;> simp at h ⊢
  have hno : (∃ k, postbagref30_Same.j0 k true e s ws ls e' s' ws' ls' = some false) := ⟨1, by rw [postbagref30_Same.j0, if_pos rfl]⟩
  by_cases h1 : e = e'
  · by_cases h2 : s = s'
    · by_cases h3 : (ws.length : Int) = (ws'.length : Int)
      · by_cases h4 : ls.length = ls'.length
        · obtain ⟨b, ⟨k, hk⟩, hb⟩ := same_l0 e s ws ls e' s' ws' ls' hn h4 hwn (by omega) ws.length 0 rfl (Nat.zero_le _)
          refine ⟨b, ⟨k + 1, ?_⟩, ?_⟩
          · rw [postbagref30_Same.f, if_pos h1, if_pos h2, if_pos h3, postbagref30_Same.j0, if_neg (by simp [h4])]
            exact hk
          · rw [hb]; simp [h1, h2]
        · refine ⟨false, ⟨1, ?_⟩, ?_⟩
          · rw [postbagref30_Same.f, if_pos h1, if_pos h2, if_pos h3, postbagref30_Same.j0, if_pos (by simp; omega)]
          · constructor
            · intro h; cases h
            · rintro ⟨_, _, _, rfl⟩; exact absurd rfl h4
      · obtain ⟨k, hk⟩ := hno
        refine ⟨false, ⟨k, ?_⟩, ?_⟩
        · rw [postbagref30_Same.f, if_pos h1, if_pos h2, if_neg h3]; exact hk
        · constructor
          · intro h; cases h
          · rintro ⟨_, _, rfl, _⟩; exact absurd rfl h3
    · obtain ⟨k, hk⟩ := hno
      refine ⟨false, ⟨k, ?_⟩, ?_⟩
      · rw [postbagref30_Same.f, if_pos h1, if_neg h2]; exact hk
      · constructor
        · intro h; cases h
        · rintro ⟨_, rfl, _, _⟩; exact absurd rfl h2
  · obtain ⟨k, hk⟩ := hno
    refine ⟨false, ⟨k, ?_⟩, ?_⟩
    · rw [postbagref30_Same.f, if_neg h1]; exact hk
    · constructor
      · intro h; cases h
      · rintro ⟨rfl, _⟩; exact absurd rfl h1

/-! ### Names -/
def NZ (y : ByteArray) : Prop := ∀ i : Nat, i < y.size → bt y (i : Int) ≠ 0
theorem good_nz (ls : List S47) (hn : ls.length ≤ 70000) (n : Int) (hnn : n = (ls.length : Int)) : ∀ k : Nat,
    (∀ i : Nat, i ≤ ls.length → object_Good.l0 k ls n i = some true → ∀ j, i ≤ j → (h : j < ls.length) → NZ ls[j].f0 ∧ ls[j].f0.size ≤ 255) ∧
    (∀ (i : Nat) (q : Bool) (y : ByteArray) (f1 : Int), i < ls.length → object_Good.j2 k ls n i q y f1 = some true → q = false ∧ (y.size ≤ 255 → NZ y) ∧ ((y.size : Int) ≤ 255 → ∀ j, i + 1 ≤ j → (h : j < ls.length) → NZ ls[j].f0 ∧ ls[j].f0.size ≤ 255)) ∧
    (∀ (i t : Nat) (y : ByteArray) (f1 : Int), i < ls.length → y.size ≤ 255 → t ≤ y.size → object_Good.l1 k ls n i (y.size : Int) t y f1 = some true → (∀ u : Nat, t ≤ u → u < y.size → bt y (u : Int) ≠ 0) ∧ ∀ j, i + 1 ≤ j → (h : j < ls.length) → NZ ls[j].f0 ∧ ls[j].f0.size ≤ 255) := by
  subst hnn
  intro k
  induction k with
  | zero => exact ⟨fun i _ h => by simp [object_Good.l0] at h, fun i q y f1 _ h => by simp [object_Good.j2] at h, fun i t y f1 _ _ _ h => by simp [object_Good.l1] at h⟩
  | succ k ih =>
    obtain ⟨ih0, ih1, ih2⟩ := ih
    refine ⟨fun i hi h => ?_, fun i q y f1 hi h => ?_, fun i t y f1 hi hy ht h => ?_⟩
    · intro j hj hjl
      have hlt : i < ls.length := by omega
      rw [object_Good.l0, if_pos (by omega), if_pos (by omega), if_pos (by omega), rd47 ls i hlt] at h
      have key : ∀ q : Bool, object_Good.j2 k ls (ls.length : Int) i q ls[i].f0 ls[i].f1 = some true → (q = false → (ls[i].f0.size : Int) ≤ 255) → NZ ls[j].f0 ∧ ls[j].f0.size ≤ 255 := fun q h hq => by
        obtain ⟨h1, h2, h3⟩ := ih1 i q _ _ hlt h
        have hsz := hq h1
        rcases Nat.lt_or_ge i j with h4 | h4
        · exact h3 hsz j h4 hjl
        · obtain rfl : i = j := by omega
          exact ⟨h2 (by omega), by omega⟩
      by_cases c : ls[i].f0.toList = []
      · rw [if_pos c] at h
        exact key _ h (fun h => by cases h)
      · rw [if_neg c] at h
        exact key _ h (fun h => by have := of_decide_eq_false h; omega)
    · cases q with
      | true => rw [object_Good.j2, if_pos rfl] at h; cases h
      | false =>
        rw [object_Good.j2, if_neg (by decide)] at h
        refine ⟨rfl, fun hy => ?_, fun hy => ?_⟩
        · have := (ih2 i 0 y f1 hi hy (Nat.zero_le _) h).1
          exact fun u hu => this u (Nat.zero_le _) hu
        · exact (ih2 i 0 y f1 hi (by omega) (Nat.zero_le _) h).2
    · rcases Nat.lt_or_ge t y.size with h1 | h1
      · rw [object_Good.l1, if_pos (by omega), if_pos (by omega), if_pos (by omega)] at h
        by_cases hz : bt y (t : Int) = 0
        · rw [if_pos hz] at h; cases h
        · rw [if_neg hz, show wrap64 ((t : Int) + 1) = ((t + 1 : Nat) : Int) by rw [wrap_small _ (by omega) (by omega)]; omega] at h
          obtain ⟨h2, h3⟩ := ih2 i (t + 1) y f1 hi hy (by omega) h
          refine ⟨fun u hu hl => ?_, h3⟩
          rcases Nat.lt_or_ge t u with h4 | h4
          · exact h2 u h4 hl
          · obtain rfl : t = u := by omega
            exact hz
      · rw [object_Good.l1, if_neg (by omega), show wrap64 ((i : Int) + 1) = ((i + 1 : Nat) : Int) by rw [wrap_small _ (by omega) (by omega)]; omega] at h
        exact ⟨fun u hu hl => by omega, ih0 (i + 1) (by omega) h⟩
theorem good_names {k : Nat} {e s : Int} {ws : List Int} {ls : List S47} (h : object_Good.f k e s ws ls = some true) : ws.length ≤ 65536 ∧ s ≤ 1099511627776 ∧ ls.length ≤ 65535 ∧ ∀ x, x ∈ ls → NZ x.f0 ∧ x.f0.size ≤ 255 := by
  have hj : ∀ k, object_Good.j0 k true e s ws ls ≠ some true := fun k => by cases k <;> simp [object_Good.j0]
  by_cases c1 : (ws.length : Int) > 65536
  · rw [object_Good.f, if_pos c1] at h; exact absurd h (hj _)
  by_cases c2 : s < IntKind.u64.wrap (wrap64 (4 * (ws.length : Int)))
  · rw [object_Good.f, if_neg c1, if_pos c2] at h; exact absurd h (hj _)
  by_cases c3 : s > 1099511627776
  · rw [object_Good.f, if_neg c1, if_neg c2, if_pos c3] at h; exact absurd h (hj _)
  by_cases c4 : (ls.length : Int) > 65535
  · rw [object_Good.f, if_neg c1, if_neg c2, if_neg c3, decide_eq_true c4] at h; exact absurd h (hj _)
  rw [object_Good.f, if_neg c1, if_neg c2, if_neg c3, decide_eq_false c4] at h
  cases k with
  | zero => simp [object_Good.j0] at h
  | succ k =>
    rw [object_Good.j0, if_neg (by decide)] at h
    have := (good_nz ls (by omega) _ rfl k).1 0 (Nat.zero_le _) h
    refine ⟨by omega, by omega, by omega, fun x hx => ?_⟩
    obtain ⟨j, hj, rfl⟩ := List.getElem_of_mem hx
    exact this j (Nat.zero_le _) hj
end Go.Proofs.Ytelheeekbihfcab.Ob
