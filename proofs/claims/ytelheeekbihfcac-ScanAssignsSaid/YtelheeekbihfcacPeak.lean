/- What Good and Peak tell of a list of lives. -/
import Derived.Test.YtelheeekbihfcacRun
import Derived.Test.YtelheeekbihfcacPScanAssignsx2
set_option linter.unusedVariables false
set_option linter.unusedSimpArgs false
namespace Go.Proofs.Ytelheeekbihfcac.Srt
open Go.RowKit Go.Proofs Go.Proofs.Ytelheeekbihfcac.PScanAssigns Go.Proofs.YtelheeekbihfcacW.PrintWords Go.Proofs.YtelheeekbihfcacW.PrintMore

theorem wrap_small (x : Int) (h0 : 0 ≤ x) (h1 : x ≤ 1000000) : wrap64 x = x := by
  unfold wrap64; omega

theorem Good_total (l : List S40) (hn : l.length ≤ 10000) : ∀ (d i : Nat), l.length - i = d → i ≤ l.length → ∃ b, scan_Good.l0 (d + 1) l l.length i = some b ∧ (b = true → ∀ j, i ≤ j → j < l.length → From l j < To l j) := by
  intro d
  induction d with
  | zero =>
    intro i hd hi
    refine ⟨true, ?_, fun _ j h1 h2 => by omega⟩
    simp only [scan_Good.l0]
    rw [if_neg (by omega)]
  | succ d ih =>
    intro i hd hi
    obtain ⟨b, hb, hg⟩ := ih (i + 1) (by omega) (by omega)
    rw [scan_Good.l0]
    rw [if_pos (by omega), if_pos (by omega), if_pos (by omega)]
    split
    · exact ⟨false, rfl, fun h => by cases h⟩
    · split
      · exact ⟨false, rfl, fun h => by cases h⟩
      · split
        · exact ⟨false, rfl, fun h => by cases h⟩
        · split
          · exact ⟨false, rfl, fun h => by cases h⟩
          · rename_i hlt
            split
            · exact ⟨false, rfl, fun h => by cases h⟩
            · rw [wrap_small _ (by omega) (by omega), show (i : Int) + 1 = ((i + 1 : Nat) : Int) by omega]
              refine ⟨b, hb, fun h j h1 h2 => ?_⟩
              rcases Nat.lt_or_ge i j with h3 | h3
              · exact hg h j h3 h2
              · obtain rfl : i = j := by omega
                unfold From To
                omega

theorem Good_f (l : List S40) (hn : l.length ≤ 10000) : ∃ b, (∀ k, l.length + 1 ≤ k → scan_Good.f k l = some b) ∧ (b = true → ∀ j, j < l.length → From l j < To l j) := by
  obtain ⟨b, hb, hg⟩ := Good_total l hn l.length 0 rfl (Nat.zero_le _)
  have hf : scan_Good.f (l.length + 1) l = some b := by
    unfold scan_Good.f
    rw [if_neg (by omega)]
    exact hb
  refine ⟨b, fun k hk => ?_, fun h j hj => hg h j (Nat.zero_le _) hj⟩
  obtain ⟨m, rfl⟩ : ∃ m, k = l.length + 1 + m := ⟨k - (l.length + 1), by omega⟩
  clear hk
  induction m with
  | zero => exact hf
  | succ m ih => exact scan_Good.mono l _ _ ih

/-- Is life j alive at x? -/
def alive (l : List S40) (x : Int) (j : Nat) : Bool := decide (From l j ≤ x) && decide (x < To l j)
/-- How many of the lives below n are alive at x. -/
def cnt (l : List S40) (x : Int) (n : Nat) : Nat := ((List.range n).filter (alive l x)).length
theorem cnt_succ (l : List S40) (x : Int) (n : Nat) : cnt l x (n + 1) = cnt l x n + (if alive l x n then 1 else 0) := by
  unfold cnt
  rw [List.range_succ, List.filter_append, List.length_append]
  congr 1
  by_cases h : alive l x n = true
  · simp [h]
  · simp [h]
theorem cnt_le (l : List S40) (x : Int) (n : Nat) : cnt l x n ≤ n := by
  unfold cnt
  have := List.length_filter_le (alive l x) (List.range n)
  rwa [List.length_range] at this
/-- The most lives that are alive at a beginning of the first n. -/
def best (l : List S40) : Nat → Nat
  | 0 => 0
  | n + 1 => max (best l n) (cnt l (From l n) l.length)
theorem best_ge (l : List S40) : ∀ n i, i < n → cnt l (From l i) l.length ≤ best l n
  | 0, _, h => absurd h (Nat.not_lt_zero _)
  | n + 1, i, h => by
    simp only [best]
    rcases Nat.lt_or_ge i n with h1 | h1
    · have := best_ge l n i h1; omega
    · obtain rfl : i = n := by omega
      omega
theorem best_le (l : List S40) (m : Nat) : ∀ n, (∀ i, i < n → cnt l (From l i) l.length ≤ m) → best l n ≤ m
  | 0, _ => Nat.zero_le _
  | n + 1, h => by
    simp only [best]
    have h1 := best_le l m n (fun i hi => h i (by omega))
    have h2 := h n (by omega)
    omega

theorem Peak_in (l : List S40) (hn : l.length ≤ 10000) (i p k : Nat) (y : Int) : ∀ (d j : Nat), l.length - j = d → j ≤ l.length →
    scan_Peak.l1 (k + d + 1) l p (cnt l (From l i) j : Nat) l l.length i l l.length j (From l i) y = scan_Peak.l0 k l ((max p (cnt l (From l i) l.length) : Nat) : Int) l l.length (wrap64 ((i : Int) + 1)) := by
  intro d
  induction d with
  | zero =>
    intro j hd hj
    obtain rfl : j = l.length := by omega
    rw [scan_Peak.l1, if_neg (by omega)]
    congr 1
    unfold mx
    split <;> omega
  | succ d ih =>
    intro j hd hj
    have h1 := ih (j + 1) (by omega) (by omega)
    have hc := cnt_le l (From l i) j
    rw [cnt_succ] at h1
    rw [show k + (d + 1) + 1 = (k + d + 1) + 1 by omega, scan_Peak.l1, if_pos (by omega), if_pos (by omega), if_pos (by omega)]
    rw [wrap_small ((j : Int) + 1) (by omega) (by omega), wrap_small _ (by omega) (by omega), show (j : Int) + 1 = ((j + 1 : Nat) : Int) by omega, ← h1]
    unfold alive From To
    by_cases a1 : (rd_T40 l j).f0 ≤ (rd_T40 l i).f0
    · by_cases a2 : (rd_T40 l i).f0 < (rd_T40 l j).f1
      · simp [a1, a2]
      · simp [a1, a2]
    · simp [a1]

theorem Peak_out (l : List S40) (hn : l.length ≤ 10000) : ∀ (d i : Nat), l.length - i = d → i ≤ l.length → scan_Peak.l0 (d * (l.length + 2) + 1) l (best l i : Nat) l l.length i = some ((best l l.length : Nat) : Int) := by
  intro d
  induction d with
  | zero =>
    intro i hd hi
    obtain rfl : i = l.length := by omega
    rw [scan_Peak.l0, if_neg (by omega)]
  | succ d ih =>
    intro i hd hi
    have h1 := ih (i + 1) (by omega) (by omega)
    rw [show (d + 1) * (l.length + 2) + 1 = ((d * (l.length + 2) + 1) + l.length + 1) + 1 by rw [Nat.succ_mul]; omega, scan_Peak.l0, if_pos (by omega), if_pos (by omega), if_pos (by omega)]
    have h2 := Peak_in l hn i (best l i) (d * (l.length + 2) + 1) (To l i) l.length 0 rfl (Nat.zero_le _)
    rw [show cnt l (From l i) 0 = 0 from rfl, wrap_small _ (by omega) (by omega), show (i : Int) + 1 = ((i + 1 : Nat) : Int) by omega] at h2
    exact h2.trans h1

theorem Peak_f (l : List S40) (hn : l.length ≤ 10000) (hg : scan_Good.f (l.length + 1) l = some true) : ∃ k, scan_Peak.f k l = some ((best l l.length : Nat) : Int) := by
  refine ⟨l.length + 1 + (l.length * (l.length + 2) + 1), ?_⟩
  have m1 : ∀ m, scan_Good.f (l.length + 1 + m) l = some true := fun m => by
    induction m with
    | zero => exact hg
    | succ m ih => exact scan_Good.mono l _ _ ih
  have m2 : ∀ m, scan_Peak.l0 (l.length * (l.length + 2) + 1 + m) l ((0 : Nat) : Int) l l.length 0 = some ((best l l.length : Nat) : Int) := fun m => by
    induction m with
    | zero => exact Peak_out l hn l.length 0 rfl (Nat.zero_le _)
    | succ m ih => exact (scan_Peak.mono_l _).1 _ _ _ _ _ _ ih
  unfold scan_Peak.f
  rw [m1]
  simp only [Option.bind]
  rw [Nat.add_comm (l.length + 1)]
  exact m2 _
end Go.Proofs.Ytelheeekbihfcac.Srt
