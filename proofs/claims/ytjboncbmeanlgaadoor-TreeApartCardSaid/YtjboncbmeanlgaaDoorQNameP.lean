/- NameP, 1 declarations cut -/
import Derived.Test.YtjboncbmeanlgaaDoorQKinds
import Derived.Test.YtjboncbmeanlgaaDoorQPTreePrintsx1
import Derived.Test.YtjboncbmeanlgaaDoorQPTreePrintsx3
/- Names: both sides' look at a name, plain. -/
set_option linter.unusedVariables false
set_option linter.unusedSimpArgs false
namespace Go.Proofs.YtjboncbmeanlgaaDoor.Tr
open Go.RowKit Go.Proofs Go.Proofs.YtjboncbmeanlgaaDoor.PTreePrints Go.Proofs.YtjboncbmeanlgaaDoorW.PrintWords Go.Proofs.YtjboncbmeanlgaaDoorW.PrintMore Go.Proofs.YtjboncbmeanlgaaDoorW.PrintLast
theorem leo_up {α : Type} {f : Nat → Option α} (h : ∀ k, LeO (f k) (f (k + 1))) {k : Nat} {r : α} (hr : f k = some r) : ∀ m, f (k + m) = some r
  | 0 => hr
  | m + 1 => h (k + m) r (leo_up h hr m)
theorem leo_le {α : Type} {f : Nat → Option α} (h : ∀ k, LeO (f k) (f (k + 1))) {k m : Nat} {r : α} (hr : f k = some r) (hm : k ≤ m) : f m = some r := by
  obtain ⟨d, rfl⟩ := Nat.exists_eq_add_of_le hm
  exact leo_up h hr d
theorem w_small (x : Int) (h0 : 0 ≤ x) (h1 : x ≤ 1000000000000000000) : wrap64 x = x := by unfold wrap64; omega
theorem w_inc (i : Nat) (h : i ≤ 200000000000000) : wrap64 ((i : Int) + 1) = ((i + 1 : Nat) : Int) := by rw [w_small _ (by omega) (by omega)]; omega
def letterB (c : Int) : Bool := (decide (c ≥ 97) && decide (c ≤ 122)) || ((decide (c ≥ 65) && decide (c ≤ 90)) || c == 95)
def digitB (c : Int) : Bool := decide (c ≥ 48) && decide (c ≤ 57)
def keywords : List (List UInt8) := [[97, 99, 116, 111, 114], [109, 97, 105, 110], [108, 101, 116], [115, 112, 97, 119, 110], [115, 101, 110, 100], [111, 117, 116], [98, 101, 99, 111, 109, 101], [115, 116, 111, 112], [105, 102], [101, 108, 115, 101], [114, 101, 99, 101, 105, 118, 101], [119, 104, 101, 110], [97, 102, 116, 101, 114], [115, 101, 108, 102], [95]]
def partB (c : Int) : Bool := digitB c || letterB c
/-- May a text be a name? -/
def nameOk (s : ByteArray) : Bool := decide (0 < s.size) && (decide (s.size ≤ 32) && (!(keywords.contains s.toList) && (!(digitB (bt s 0)) && (List.range s.size).all (fun i => partB (bt s i)))))
theorem empty_iff (s : ByteArray) : s.toList = ([] : List UInt8) ↔ s.size = 0 := by
  rw [ByteArray.toList_eq]
  constructor
  · intro h
    have := data_length s
    rw [h] at this
    exact this.symm
  · intro h
    have := data_length s
    rw [h] at this
    exact List.eq_nil_of_length_eq_zero this
theorem digit_f (c : Int) : lex_digit.f c = some (digitB c) := by
  unfold lex_digit.f digitB
  split <;> simp [*]
theorem letter_f (c : Int) : lex_letter.f c = some (letterB c) := by
  unfold lex_letter.f letterB
  repeat' split
  all_goals simp [*]
theorem part_f (c : Int) : lex_part.f c = some (partB c) := by
  unfold lex_part.f partB
  rw [digit_f, Option.bind_some, letter_f, Option.bind_some]
  cases digitB c <;> simp
theorem keyword_f (s : ByteArray) (k : Nat) : lex_Keyword.f (k + 1) s = some (keywords.contains s.toList) := by
  have hj : ∀ b, lex_Keyword.j0 (k + 1) s b = some (b || ([[115, 116, 111, 112], [105, 102], [101, 108, 115, 101], [114, 101, 99, 101, 105, 118, 101], [119, 104, 101, 110], [97, 102, 116, 101, 114], [115, 101, 108, 102], [95]] : List (List UInt8)).contains s.toList) := by
    intro b
    rw [lex_Keyword.j0]
    cases b
    · simp only [Bool.false_eq_true, if_false, Bool.false_or]
      repeat' split
      all_goals simp_all
    · simp
  unfold lex_Keyword.f
  rw [hj, hj, hj, hj, hj, hj, hj]
  unfold keywords
  repeat' split
  all_goals first
    | (simp_all; done)
    | (have e : (s.toList == ([98, 101, 99, 111, 109, 101] : List UInt8)) = decide (s.toList = [98, 101, 99, 111, 109, 101]) := by rw [Bool.eq_iff_iff]; simp
       simp_all)
theorem name_l0 (s : ByteArray) (hs : s.size ≤ 1000) : ∀ (d i : Nat), s.size - i = d → i ≤ s.size → lex_Name.l0 (d + 1) s s.size i = some ((List.range' i d).all (fun j => partB (bt s j))) := by
  intro d
  induction d with
  | zero =>
    intro i hd hi
    rw [lex_Name.l0, if_neg (by omega)]
    rfl
  | succ d ih =>
    intro i hd hi
    rw [lex_Name.l0, if_pos (by omega), if_pos (by omega), if_pos (by omega), part_f, Option.bind_some, w_inc i (by omega), ih (i + 1) (by omega) (by omega), List.range'_succ, List.all_cons]
    cases partB (bt s (i : Int)) <;> simp
theorem name_f (s : ByteArray) : lex_Name.f 40 s = some (nameOk s) := by
  unfold lex_Name.f nameOk
  have hj : ∀ k, lex_Name.j0 (k + 1) s true = some false := fun k => by rw [lex_Name.j0, if_pos rfl]
  by_cases h0 : s.toList = []
  · rw [if_pos h0, hj]
    have := (empty_iff s).1 h0
    simp [this]
  · have hp : 0 < s.size := Nat.pos_of_ne_zero (fun h => h0 ((empty_iff s).2 h))
    rw [if_neg h0]
    by_cases h1 : (s.size : Int) > 32
    · rw [if_pos h1, hj]
      have h2 : ¬ s.size ≤ 32 := by omega
      simp [h2]
    · have h2 : s.size ≤ 32 := by omega
      rw [if_neg h1, keyword_f s 39, Option.bind_some]
      cases hk : keywords.contains s.toList with
      | true => rw [if_pos rfl, hj]; simp
      | false =>
        rw [if_neg (by simp), if_pos (by omega), digit_f, Option.bind_some, lex_Name.j0]
        cases hd : digitB (bt s 0) with
        | true => rw [if_pos rfl]; simp
        | false =>
          have h3 := leo_le (f := fun k => lex_Name.l0 k s s.size 0) (fun k => (lex_Name.mono_l k).2 _ _ _) (name_l0 s (by omega) s.size 0 (by omega) (Nat.zero_le _)) (show s.size + 1 ≤ 39 by omega)
          rw [if_neg (by simp)]
          refine h3.trans ?_
          simp [hp, h2, List.range_eq_range']
theorem name_call (s : ByteArray) (w : World) : Calls Tryd.prog 18 #[.string s] w fun e w' => e = .returned (.bool (nameOk s)) ∧ Below w.heap.size w w' :=
  (lex_Name.calls 40 s (nameOk s) w (name_f s)).mono fun e w' h => ⟨h.1, h.2.below⟩
def withinB (a b c : Int) : Bool := decide (a ≥ b) && decide (a ≤ c)
theorem within_f (a b c : Int) : tree_within.f a b c = some (withinB a b c) := by
  unfold tree_within.f withinB
  split <;> simp [*]
theorem within_call (a b c : Int) (w : World) : Calls Tryd.prog 16 #[.int .i64 a, .int .i64 b, .int .i64 c] w fun e w' => e = .returned (.bool (withinB a b c)) ∧ Below w.heap.size w w' :=
  (tree_within.calls a b c _ w (within_f a b c)).mono fun e w' h => ⟨h.1, h.2.below⟩
end Go.Proofs.YtjboncbmeanlgaaDoor.Tr
