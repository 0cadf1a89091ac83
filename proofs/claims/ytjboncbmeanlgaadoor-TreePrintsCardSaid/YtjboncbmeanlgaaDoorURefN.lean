/- RefN -/
import Derived.Test.YtjboncbmeanlgaaDoorUNameP
/- The document's look at a name: the program's. -/
set_option linter.unusedVariables false
set_option linter.unusedSimpArgs false
namespace Go.Proofs.YtjboncbmeanlgaaDoor.Tr
open Go.RowKit Go.Proofs Go.Proofs.YtjboncbmeanlgaaDoor.PTreePrints Go.Proofs.YtjboncbmeanlgaaDoorW.PrintWords Go.Proofs.YtjboncbmeanlgaaDoorW.PrintMore Go.Proofs.YtjboncbmeanlgaaDoorW.PrintLast
theorem letter_r (c : Int) : postbagref11_letter.f c = some (letterB c) := by
  unfold postbagref11_letter.f letterB
  repeat' split
  all_goals (congr 1; rw [Bool.eq_iff_iff]; simp_all)
  all_goals omega
theorem digit_r (c : Int) : postbagref11_digit.f c = some (digitB c) := by
  unfold postbagref11_digit.f digitB
  split <;> simp [*]
def wordAt (s : ByteArray) (j : Nat) : Bool := letterB (bt s j) || (decide (j ≠ 0) && digitB (bt s j))
theorem word_l0 (s : ByteArray) (hs : s.size ≤ 1000) : ∀ (d i : Nat), s.size - i = d → i ≤ s.size → postbagref11_word.l0 (d + 1) s i = some ((List.range' i d).all (wordAt s) && (s.toList != ([] : List UInt8))) := by
  intro d
  induction d with
  | zero =>
    intro i hd hi
    rw [postbagref11_word.l0, if_neg (by omega)]
    simp
  | succ d ih =>
    intro i hd hi
    rw [postbagref11_word.l0, if_pos (by omega), if_pos (by omega), letter_r, Option.bind_some, w_inc i (by omega), ih (i + 1) (by omega) (by omega), List.range'_succ, List.all_cons, wordAt]
    cases hl : letterB (bt s (i : Int)) with
    | true => simp
    | false =>
      rw [if_neg (by simp)]
      by_cases h0 : i = 0
      · subst h0
        simp
      · rw [if_neg (by omega), digit_r, Option.bind_some]
        cases hd2 : digitB (bt s (i : Int)) <;> simp [h0]
theorem kw_l0 (s : ByteArray) (l : List ByteArray) (hl : l.length ≤ 1000) : ∀ (d i : Nat), l.length - i = d → i ≤ l.length → postbagref11_Keyword.l0 (d + 1) s l i = some ((l.drop i).any (fun x => x.toList == s.toList)) := by
  intro d
  induction d with
  | zero =>
    intro i hd hi
    rw [postbagref11_Keyword.l0, if_neg (by omega), List.drop_eq_nil_of_le (by omega)]
    rfl
  | succ d ih =>
    intro i hd hi
    have hlt : i < l.length := by omega
    have hr : rdOf ByteArray.empty l (i : Int) = l[i] := by
      unfold rdOf
      rw [Int.toNat_natCast, List.getD_eq_getElem?_getD, List.getElem?_eq_getElem hlt]
      rfl
    rw [postbagref11_Keyword.l0, if_pos (by omega), if_pos (by omega), w_inc i (by omega), ih (i + 1) (by omega) (by omega), hr, List.drop_eq_getElem_cons hlt, List.any_cons]
    split
    · rename_i h; simp [h]
    · rename_i h; simp [h]
def kwl : List ByteArray := [(⟨#[97, 99, 116, 111, 114]⟩ : ByteArray), ⟨#[109, 97, 105, 110]⟩, ⟨#[108, 101, 116]⟩, ⟨#[115, 112, 97, 119, 110]⟩, ⟨#[115, 101, 110, 100]⟩, ⟨#[111, 117, 116]⟩, ⟨#[98, 101, 99, 111, 109, 101]⟩, ⟨#[115, 116, 111, 112]⟩, ⟨#[105, 102]⟩, ⟨#[101, 108, 115, 101]⟩, ⟨#[114, 101, 99, 101, 105, 118, 101]⟩, ⟨#[119, 104, 101, 110]⟩, ⟨#[97, 102, 116, 101, 114]⟩, ⟨#[115, 101, 108, 102]⟩, ⟨#[95]⟩]
theorem kw_map : kwl.map (fun x => x.toList) = keywords := by simp [kwl, keywords, ByteArray.toList_eq]
theorem kw_r (s : ByteArray) : postbagref11_Keyword.f 40 s = some (keywords.contains s.toList) := by
  unfold postbagref11_Keyword.f
  refine (leo_le (f := fun k => postbagref11_Keyword.l0 k s _ 0) (fun k => (postbagref11_Keyword.mono_l k) _ _ _) (kw_l0 s _ (by decide) 15 0 (by decide) (by decide)) (show 16 ≤ 40 by omega)).trans ?_
  congr 1
  rw [List.drop_zero, ← kw_map, ← List.any_beq', List.any_map]
  rfl
theorem let_dig (c : Int) (h : letterB c = true) : digitB c = false := by
  unfold letterB at h
  unfold digitB
  simp only [Bool.or_eq_true, Bool.and_eq_true, decide_eq_true_eq, beq_iff_eq] at h
  rw [Bool.and_eq_false_iff]
  simp only [decide_eq_false_iff_not]
  omega
theorem word_all (s : ByteArray) (n : Nat) (h : 0 < n) : (List.range' 0 n).all (wordAt s) = (!(digitB (bt s 0)) && (List.range n).all (fun i => partB (bt s i))) := by
  rw [List.range_eq_range', Bool.eq_iff_iff]
  simp only [Bool.and_eq_true, Bool.not_eq_true', List.all_eq_true, List.mem_range'_1]
  constructor
  · intro h1
    refine ⟨?_, fun i hi => ?_⟩
    · have h2 := h1 0 (by omega)
      simp only [wordAt, ne_eq, not_true_eq_false, decide_false, Bool.false_and, Bool.or_false] at h2
      exact let_dig _ h2
    · have h2 := h1 i hi
      unfold wordAt at h2
      unfold partB
      simp only [Bool.or_eq_true, Bool.and_eq_true] at h2 ⊢
      rcases h2 with h2 | h2
      · exact .inr h2
      · exact .inl h2.2
  · rintro ⟨h0, h1⟩ i hi
    have h2 := h1 i hi
    unfold partB at h2
    unfold wordAt
    simp only [Bool.or_eq_true, Bool.and_eq_true, decide_eq_true_eq] at h2 ⊢
    rcases h2 with h2 | h2
    · by_cases hz : i = 0
      · subst hz
        have h3 : digitB (bt s 0) = true := h2
        rw [h0] at h3
        cases h3
      · exact .inr ⟨hz, h2⟩
    · exact .inl h2
theorem atom_f (s : ByteArray) : postbagref12_atom.f 40 s = some (nameOk s) := by
  unfold postbagref12_atom.f postbagref11_Name.f nameOk
  by_cases h1 : (s.size : Int) ≤ 32
  · have h2 : s.size ≤ 32 := by omega
    have hw := leo_le (f := fun k => postbagref11_word.l0 k s 0) (fun k => (postbagref11_word.mono_l k) _ _) (word_l0 s (by omega) s.size 0 (by omega) (Nat.zero_le _)) (show s.size + 1 ≤ 40 by omega)
    have hw2 : postbagref11_word.f 40 s = _ := hw
    rw [if_pos h1, hw2, Option.bind_some, kw_r, Option.bind_some]
    by_cases h0 : s.size = 0
    · have e := (empty_iff s).2 h0
      rw [h0, e]
      simp
    · have e : (s.toList != ([] : List UInt8)) = true := by
        rw [bne_iff_ne]
        exact fun h => h0 ((empty_iff s).1 h)
      rw [e, Bool.and_true, word_all s s.size (by omega)]
      have hp : 0 < s.size := by omega
      cases keywords.contains s.toList <;> cases (!(digitB (bt s 0)) && (List.range s.size).all (fun i => partB (bt s i))) <;> simp [hp, h2]
  · have h2 : ¬ s.size ≤ 32 := by omega
    rw [if_neg h1]
    simp [h2]
/-- The document's look at a name. -/
theorem atom_call (s : ByteArray) (w : World) : Calls Tryd.prog 21 #[.string s] w fun e w' => e = .returned (.bool (nameOk s)) ∧ Below w.heap.size w w' :=
  (postbagref12_atom.calls 40 s (nameOk s) w (atom_f s)).mono fun e w' h => ⟨h.1, h.2⟩
end Go.Proofs.YtjboncbmeanlgaaDoor.Tr
