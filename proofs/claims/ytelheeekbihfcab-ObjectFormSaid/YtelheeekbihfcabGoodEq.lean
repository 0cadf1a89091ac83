/- Good is Good. -/
import Derived.Test.YtelheeekbihfcabPlaced
import Derived.Test.YtelheeekbihfcabPObjectReadsx5
import Derived.Test.YtelheeekbihfcabWriteR
set_option linter.unusedVariables false
set_option linter.unusedSimpArgs false
namespace Go.Proofs.Ytelheeekbihfcab.Ob
open Go.RowKit Go.Proofs Go.Proofs.Ytelheeekbihfcab.PObjectReads Go.Proofs.YtelheeekbihfcabW.PrintWords Go.Proofs.YtelheeekbihfcabW.PrintMore

theorem wrap_small (x : Int) (h0 : 0 ≤ x) (h1 : x ≤ 1000000) : wrap64 x = x := by unfold wrap64; omega

theorem good_in (e s : Int) (ws : List Int) (ls : List S47) (i : Int) (y : ByteArray) (f1 : Int) (b0 : Bool) (hy : y.size ≤ 100000)
    (h1 : ∃ k, object_Good.l0 k ls ls.length (wrap64 (i + 1)) = some b0) (h2 : ∃ k, postbagref30_Good.l0 k (wrap64 (i + 1)) e s ws ls = some b0) : ∀ (d j : Nat), y.size - j = d → j ≤ y.size →
    ∃ b, (∃ k, object_Good.l1 k ls ls.length i y.size j y f1 = some b) ∧ (∃ k, postbagref30_Good.l1 k i y j e s ws ls = some b) ∧ (b = true → b0 = true) := by
  intro d
  induction d with
  | zero =>
    intro j hd hj
    obtain ⟨k1, hk1⟩ := h1
    obtain ⟨k2, hk2⟩ := h2
    refine ⟨b0, ⟨k1 + 1, ?_⟩, ⟨k2 + 1, ?_⟩, id⟩
    · rw [object_Good.l1, if_neg (by omega)]; exact hk1
    · rw [postbagref30_Good.l1, if_neg (by omega)]; exact hk2
  | succ d ih =>
    intro j hd hj
    by_cases hz : bt y (j : Int) = 0
    · refine ⟨false, ⟨1, ?_⟩, ⟨1, ?_⟩, fun h => by cases h⟩
      · rw [object_Good.l1, if_pos (by omega), if_pos (by omega), if_pos (by omega), if_pos hz]
      · rw [postbagref30_Good.l1, if_pos (by omega), if_pos (by omega), if_pos hz]
    · obtain ⟨b, ⟨k1, hk1⟩, ⟨k2, hk2⟩, hb⟩ := ih (j + 1) (by omega) (by omega)
      have e1 : wrap64 ((j : Int) + 1) = ((j + 1 : Nat) : Int) := by rw [wrap_small _ (by omega) (by omega)]; omega
      refine ⟨b, ⟨k1 + 1, ?_⟩, ⟨k2 + 1, ?_⟩, hb⟩
      · rw [object_Good.l1, if_pos (by omega), if_pos (by omega), if_pos (by omega), if_neg hz, e1]; exact hk1
      · rw [postbagref30_Good.l1, if_pos (by omega), if_pos (by omega), if_neg hz, e1]; exact hk2

theorem good_out (e s : Int) (ws : List Int) (ls : List S47) (hn : ls.length ≤ 5000) (hs : ∀ x, x ∈ ls → x.f0.size ≤ 100000) : ∀ (d i : Nat), ls.length - i = d → i ≤ ls.length →
    ∃ b, (∃ k, object_Good.l0 k ls ls.length i = some b) ∧ (∃ k, postbagref30_Good.l0 k i e s ws ls = some b) ∧ (b = true → ∀ j, i ≤ j → (h : j < ls.length) → ls[j].f0.size ≤ 255) := by
  intro d
  induction d with
  | zero =>
    intro i hd hi
    refine ⟨true, ⟨1, ?_⟩, ⟨1, ?_⟩, fun _ j h1 h2 => by omega⟩
    · rw [object_Good.l0, if_neg (by omega)]
    · rw [postbagref30_Good.l0, if_neg (by omega)]
  | succ d ih =>
    intro i hd hi
    have hlt : i < ls.length := by omega
    obtain ⟨b0, h1, h2, h3⟩ := ih (i + 1) (by omega) (by omega)
    have e1 : wrap64 ((i : Int) + 1) = ((i + 1 : Nat) : Int) := by rw [wrap_small _ (by omega) (by omega)]; omega
    have hsz := hs ls[i] (List.getElem_mem hlt)
    have hx := rd47 ls i hlt
    have key : ∀ q : Bool, q = (decide ((ls[i].f0.toList = []) ∨ ((ls[i].f0.size : Int) > 255))) → ∃ b, (∃ k, object_Good.j2 k ls ls.length i q ls[i].f0 ls[i].f1 = some b) ∧ (∃ k, postbagref30_Good.j2 k i ls[i].f0 q e s ws ls = some b) ∧ (b = true → ∀ j, i ≤ j → (h : j < ls.length) → ls[j].f0.size ≤ 255) := by
      intro q hq
      cases q with
      | true =>
        refine ⟨false, ⟨1, ?_⟩, ⟨1, ?_⟩, fun h => by cases h⟩
        · rw [object_Good.j2, if_pos rfl]
        · rw [postbagref30_Good.j2, if_pos rfl]
      | false =>
        have hq' := of_decide_eq_false hq.symm
        obtain ⟨b, ⟨k1, hk1⟩, ⟨k2, hk2⟩, hb⟩ := good_in e s ws ls i ls[i].f0 ls[i].f1 b0 hsz (by rw [e1]; exact h1) (by rw [e1]; exact h2) ls[i].f0.size 0 rfl (Nat.zero_le _)
        refine ⟨b, ⟨k1 + 1, ?_⟩, ⟨k2 + 1, ?_⟩, fun h j hj hjl => ?_⟩
        · rw [object_Good.j2, if_neg (by decide)]; exact hk1
        · rw [postbagref30_Good.j2, if_neg (by decide)]; exact hk2
        · rcases Nat.lt_or_ge i j with h4 | h4
          · exact h3 (hb h) j h4 hjl
          · obtain rfl : i = j := by omega
            have : ¬ ((ls[i].f0.size : Int) > 255) := fun hh => hq' (Or.inr hh)
            omega
    obtain ⟨b, ⟨k1, hk1⟩, ⟨k2, hk2⟩, hb⟩ := key _ rfl
    refine ⟨b, ⟨k1 + 1, ?_⟩, ⟨k2 + 1, ?_⟩, hb⟩
    · rw [object_Good.l0, if_pos (by omega), if_pos (by omega), if_pos (by omega), hx]
      by_cases c : ls[i].f0.toList = []
      · rw [if_pos c]; simpa [c] using hk1
      · rw [if_neg c]; simpa [c] using hk1
    · rw [postbagref30_Good.l0, if_pos (by omega), if_pos (by omega), hx]
      by_cases c : ls[i].f0.toList = []
      · rw [if_pos c]; simpa [c] using hk2
      · rw [if_neg c]; simpa [c] using hk2

theorem goodsB (e s : Int) (ws : List Int) (ls : List S47) (hw : ws.length ≤ 20000) (hn : ls.length ≤ 5000) (hs : ∀ x, x ∈ ls → x.f0.size ≤ 100000) :
    ∃ b, (∃ k, object_Good.f k e s ws ls = some b) ∧ (∃ k, postbagref30_Good.f k e s ws ls = some b) ∧ (b = true → ∀ x, x ∈ ls → x.f0.size ≤ 255) := by
  obtain ⟨b, ⟨k1, hk1⟩, ⟨k2, hk2⟩, hb⟩ := good_out e s ws ls hn hs ls.length 0 rfl (Nat.zero_le _)
  have c1 : ¬ (ws.length : Int) > 65536 := by omega
  have c4 : ¬ (ls.length : Int) > 65535 := by omega
  by_cases c2 : s < IntKind.u64.wrap (wrap64 (4 * (ws.length : Int)))
  · refine ⟨false, ⟨1, ?_⟩, ⟨1, ?_⟩, fun h => by cases h⟩
    · rw [object_Good.f, if_neg c1, if_pos c2, object_Good.j0, if_pos rfl]
    · rw [postbagref30_Good.f, if_neg c1, if_pos c2, postbagref30_Good.j0, if_pos rfl]
  · by_cases c3 : s > 1099511627776
    · refine ⟨false, ⟨1, ?_⟩, ⟨1, ?_⟩, fun h => by cases h⟩
      · rw [object_Good.f, if_neg c1, if_neg c2, if_pos c3, object_Good.j0, if_pos rfl]
      · rw [postbagref30_Good.f, if_neg c1, if_neg c2, if_pos c3, postbagref30_Good.j0, if_pos rfl]
    · refine ⟨b, ⟨k1 + 1, ?_⟩, ⟨k2 + 1, ?_⟩, fun h x hx => ?_⟩
      · rw [object_Good.f, if_neg c1, if_neg c2, if_neg c3, object_Good.j0, if_neg (by simp; omega)]; exact hk1
      · rw [postbagref30_Good.f, if_neg c1, if_neg c2, if_neg c3, postbagref30_Good.j0, if_neg (by simp; omega)]; exact hk2
      · obtain ⟨j, hj, rfl⟩ := List.getElem_of_mem hx
        exact hb h j (Nat.zero_le _) hj
theorem goods (e s : Int) (ws : List Int) (ls : List S47) (hw : ws.length ≤ 20000) (hn : ls.length ≤ 5000) (hs : ∀ x, x ∈ ls → x.f0.size ≤ 1000) :
    ∃ b, (∃ k, object_Good.f k e s ws ls = some b) ∧ (∃ k, postbagref30_Good.f k e s ws ls = some b) ∧ (b = true → ∀ x, x ∈ ls → x.f0.size ≤ 255) :=
  goodsB e s ws ls hw hn (fun x hx => Nat.le_trans (hs x hx) (by decide))
end Go.Proofs.Ytelheeekbihfcab.Ob
