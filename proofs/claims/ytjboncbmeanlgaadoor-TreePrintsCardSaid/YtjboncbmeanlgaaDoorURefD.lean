/- RefD -/
import Derived.Test.YtjboncbmeanlgaaDoorUDigN
import Derived.Test.YtjboncbmeanlgaaDoorUTextS
import Derived.Lib.ItoaLen
/- The document's Number: strconv.Itoa's text. -/
set_option linter.unusedVariables false
set_option linter.unusedSimpArgs false
namespace Go.Proofs.YtjboncbmeanlgaaDoor.Tr
open Go.RowKit Go.Proofs Go.Proofs.YtjboncbmeanlgaaDoor.PTreePrints Go.Proofs.YtjboncbmeanlgaaDoorW.PrintWords Go.Proofs.YtjboncbmeanlgaaDoorW.PrintMore Go.Proofs.YtjboncbmeanlgaaDoorW.PrintLast
theorem str_of {a : ByteArray} {l : List UInt8} (h : bl a = l) : a = ⟨l.toArray⟩ := by
  obtain ⟨d⟩ := a
  have h2 : d.toList = l := h
  rw [← h2, Array.toArray_toList]
theorem one_digit (r : Nat) (h : r < 10) : strOfNums [wrap64 (48 + (r : Int)) % 256] = ⟨#[UInt8.ofNat (48 + r)]⟩ := by
  have e : wrap64 (48 + (r : Int)) % 256 = ((48 + r : Nat) : Int) := by unfold wrap64; omega
  rw [e]
  have : r = 0 ∨ r = 1 ∨ r = 2 ∨ r = 3 ∨ r = 4 ∨ r = 5 ∨ r = 6 ∨ r = 7 ∨ r = 8 ∨ r = 9 := by omega
  rcases this with rfl | rfl | rfl | rfl | rfl | rfl | rfl | rfl | rfl | rfl <;> rfl
theorem dec_split (u : Nat) : Lib.decDigits u = if u < 10 then [UInt8.ofNat (48 + u)] else Lib.decDigits (u / 10) ++ [UInt8.ofNat (48 + u % 10)] := by
  rw [Lib.decDigits]
  split <;> rfl
theorem tq (u : Nat) : Int.tdiv (u : Int) 10 = ((u / 10 : Nat) : Int) := by
  have h := Int.tdiv_eq_ediv_of_nonneg (a := (u : Int)) (b := 10) (by omega)
  omega
theorem tr (u : Nat) : Int.tmod (u : Int) 10 = ((u % 10 : Nat) : Int) := by
  have h := Int.tmod_eq_emod_of_nonneg (a := (u : Int)) (b := 10) (by omega)
  omega
/-- One round: the digit, and what is left. -/
theorem round_of (u : Nat) (x : Int) (hx : x = u ∨ x = -(u : Int)) (hu : u < 9223372036854775808) :
    (Int.tmod x 10 < 0 → wrap64 (48 + wrap64 (-(Int.tmod x 10))) = wrap64 (48 + ((u % 10 : Nat) : Int))) ∧ (¬ Int.tmod x 10 < 0 → Int.tmod x 10 = ((u % 10 : Nat) : Int)) ∧ (wrap64 (Int.tdiv x 10) = ((u / 10 : Nat) : Int) ∨ wrap64 (Int.tdiv x 10) = -((u / 10 : Nat) : Int)) := by
  have h1 := tq u
  have h2 := tr u
  rcases hx with rfl | rfl
  · rw [h1, h2]
    refine ⟨fun h => absurd h (by omega), fun _ => rfl, .inl (by unfold wrap64; omega)⟩
  · rw [Int.neg_tdiv, Int.neg_tmod, h1, h2]
    refine ⟨fun _ => ?_, fun h => by omega, .inr (by unfold wrap64; omega)⟩
    congr 1
    unfold wrap64
    omega
theorem digits_l0 : ∀ (K u : Nat) (x : Int) (acc : ByteArray), u < 10 ^ (K + 1) → u < 9223372036854775808 → (x = u ∨ x = -(u : Int)) → acc.size + K ≤ 1000 → postbagref03_digits.l0 (K + 1) x acc = some ⟨(Lib.decDigits u ++ bl acc).toArray⟩ := by
  intro K
  induction K with
  | zero =>
    intro u x acc hu hu2 hx ha
    have hu' : u < 10 := by simpa using hu
    have hm : u % 10 = u := Nat.mod_eq_of_lt hu'
    have hd : u / 10 = 0 := Nat.div_eq_of_lt hu'
    obtain ⟨r1, r2, r3⟩ := round_of u x hx hu2
    have e0 : wrap64 (Int.tdiv x 10) = 0 := by rw [hd] at r3; rcases r3 with r3 | r3 <;> rw [r3] <;> rfl
    rw [hm] at r1 r2
    have fin : (⟨#[UInt8.ofNat (48 + u)]⟩ : ByteArray) ++ acc = ⟨(Lib.decDigits u ++ bl acc).toArray⟩ := str_of (by rw [bl_app, dec_split, if_pos hu'])
    have hz : (⟨#[UInt8.ofNat (48 + u)]⟩ : ByteArray).size = 1 := rfl
    rw [postbagref03_digits.l0]
    by_cases hn : Int.tmod x 10 < 0
    · rw [if_pos hn, r1 hn, Option.bind_some, one_digit u hu', if_pos (by rw [hz]; omega), if_pos e0, fin]
    · rw [if_neg hn, r2 hn, Option.bind_some, one_digit u hu', if_pos (by rw [hz]; omega), if_pos e0, fin]
  | succ K ih =>
    intro u x acc hu hu2 hx ha
    have hp : (10 : Nat) ^ (K + 1 + 1) = 10 * 10 ^ (K + 1) := by rw [Nat.pow_succ, Nat.mul_comm]
    have hd : u % 10 < 10 := Nat.mod_lt _ (by omega)
    have hz : (⟨#[UInt8.ofNat (48 + u % 10)]⟩ : ByteArray).size = 1 := rfl
    obtain ⟨r1, r2, r3⟩ := round_of u x hx hu2
    have hacc : bl ((⟨#[UInt8.ofNat (48 + u % 10)]⟩ : ByteArray) ++ acc) = UInt8.ofNat (48 + u % 10) :: bl acc := by rw [bl_app]; rfl
    have hsz : ((⟨#[UInt8.ofNat (48 + u % 10)]⟩ : ByteArray) ++ acc).size = acc.size + 1 := by rw [size_bl, hacc, List.length_cons, size_bl acc]
    have fin : (if wrap64 (Int.tdiv x 10) = 0 then some ((⟨#[UInt8.ofNat (48 + u % 10)]⟩ : ByteArray) ++ acc) else postbagref03_digits.l0 (K + 1) (wrap64 (Int.tdiv x 10)) ((⟨#[UInt8.ofNat (48 + u % 10)]⟩ : ByteArray) ++ acc)) = some ⟨(Lib.decDigits u ++ bl acc).toArray⟩ := by
      by_cases h10 : u < 10
      · have hd0 : u / 10 = 0 := Nat.div_eq_of_lt h10
        have hm0 : u % 10 = u := Nat.mod_eq_of_lt h10
        rw [hd0] at r3
        rw [if_pos (by rcases r3 with r3 | r3 <;> rw [r3] <;> rfl)]
        congr 1
        exact str_of (by rw [hacc, dec_split, if_pos h10, hm0]; rfl)
      · rw [if_neg (by rcases r3 with r3 | r3 <;> rw [r3] <;> omega), ih (u / 10) _ _ (by omega) (by omega) r3 (by rw [hsz]; omega), hacc, dec_split u, if_neg h10]
        simp
    rw [postbagref03_digits.l0]
    by_cases hn : Int.tmod x 10 < 0
    · rw [if_pos hn, r1 hn, Option.bind_some, one_digit _ hd, if_pos (by rw [hz]; omega), fin]
    · rw [if_neg hn, r2 hn, Option.bind_some, one_digit _ hd, if_pos (by rw [hz]; omega), fin]
theorem number_f (n : Int) (h0 : -2305843009213693951 ≤ n) (h1 : n ≤ 2305843009213693951) : postbagref03_Number.f 20 n = some ⟨(Lib.itoa n).toArray⟩ := by
  have hp : (10 : Nat) ^ 20 = 100000000000000000000 := by decide
  have hd : postbagref03_digits.f 20 n = some ⟨(Lib.decDigits n.natAbs).toArray⟩ := by
    have h := digits_l0 19 n.natAbs n ⟨#[]⟩ (by rw [hp]; omega) (by omega) (by omega) (by decide)
    have e : bl (⟨#[]⟩ : ByteArray) = [] := rfl
    rw [e, List.append_nil] at h
    exact h
  unfold postbagref03_Number.f Lib.itoa
  by_cases hn : n < 0
  · have hlen := Lib.itoa_length_le n (by omega) (by omega)
    rw [if_pos hn, if_pos hn, hd, Option.bind_some, if_pos]
    · exact congrArg some (str_of (by rw [bl_app]; rfl))
    · unfold Lib.itoa at hlen
      rw [if_pos hn, List.length_cons] at hlen
      rw [size_of]
      omega
  · have e : n.natAbs = n.toNat := by omega
    rw [if_neg hn, if_neg hn, hd, Option.bind_some, e]
/-- The document's Number. -/
theorem number_call (n : Int) (h0 : -2305843009213693951 ≤ n) (h1 : n ≤ 2305843009213693951) (w : World) : Calls Tryd.prog 76 #[.int .i64 n] w fun e w' => e = .returned (.string ⟨(Lib.itoa n).toArray⟩) ∧ Below w.heap.size w w' :=
  (postbagref03_Number.calls 20 n _ w (number_f n h0 h1)).mono fun e w' h => ⟨h.1, by first | exact h.2 | exact h.2.below⟩
end Go.Proofs.YtjboncbmeanlgaaDoor.Tr
