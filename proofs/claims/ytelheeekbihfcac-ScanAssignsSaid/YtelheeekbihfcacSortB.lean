/- swapRange_func and rotate_func of the library's stable sort: what they do to the row. -/
import Derived.Test.YtelheeekbihfcacSortA
set_option linter.unusedVariables false
set_option linter.unusedSimpArgs false
namespace Go.Proofs.Ytelheeekbihfcac.Srt
open Go.RowKit Go.Sort Go.Proofs
variable {α : Type} [Inhabited α]

/-- What lies at place k when n places from a on and n places from b on have been exchanged. -/
def swR (d : Array α) (a b n k : Nat) : α := if a ≤ k ∧ k < a + n then d[k - a + b]! else if b ≤ k ∧ k < b + n then d[k - b + a]! else d[k]!

structure SwOk (d d' : Array α) (a b n : Nat) : Prop where
  size : d'.size = d.size
  get : ∀ k, d'[k]! = swR d a b n k

theorem SwOk.zero (d : Array α) (a b : Nat) : SwOk d d a b 0 := ⟨rfl, fun k => by unfold swR; rw [if_neg (by omega), if_neg (by omega)]⟩

theorem SwOk.step {d d' : Array α} {a b n : Nat} (h : SwOk d d' a b n) (hab : a + (n + 1) ≤ b) (hb : b + (n + 1) ≤ d.size) : SwOk d (swp d' (a + n) (b + n)) a b (n + 1) := by
  refine ⟨by rw [size_swp]; exact h.size, fun k => ?_⟩
  rw [get_swp _ _ _ _ (by have := h.size; omega) (by have := h.size; omega), h.get, h.get, h.get]
  unfold swR
  (repeat' split) <;> first | rfl | (exfalso; omega) | (congr 1; omega)

/-- What is known of the two functions, the row, and the place where 'data' is boxed. -/
structure Env0 (enc : α → Value) (lt : α → α → Bool) (g : Nat) (lb : Array Value) (sf : Nat) (sb : Array Value) (blk off n : Nat) (w : World) : Prop where
  eg : ∀ args w, (callFunc g args).run Try.prog w = .ok (.enter g args) w
  less : LessReads Try.prog g lb enc lt blk off n w
  swap : SwapSwaps Try.prog sf sb enc blk off n
  lt : blk < w.heap.size
  small : n < 4611686018427387904
theorem Env0.at {enc : α → Value} {lt : α → α → Bool} {g : Nat} {lb : Array Value} {sf : Nat} {sb : Array Value} {blk off n : Nat} {w W : World} {dk : Array α} (h : Env0 enc lt g lb sf sb blk off n w) (hA : At enc w blk off W dk) (hs : dk.size = n) : Env0 enc lt g lb sf sb blk off n W :=
  ⟨h.eg, hA.lessReads h.lt h.less hs, h.swap, hA.lt h.lt, h.small⟩

set_option maxHeartbeats 1000000 in
set_option maxRecDepth 100000 in
theorem swapRange {enc : α → Value} {lt : α → α → Bool} {g : Nat} {lb : Array Value} {sf : Nat} {sb : Array Value} {blk off : Nat} {d : Array α} {w : World} (E : Env0 enc lt g lb sf sb blk off d.size w) (hH : Holds enc w blk off d) (a b n : Int) (ha : 0 ≤ a) (hn : 0 ≤ n) (hab : a + n ≤ b) (hb : b + n ≤ d.size) :
    Calls Try.prog 42 #[.agg #[.func (.func g) #[] lb, .func (.func sf) #[] sb], .int .i64 a, .int .i64 b, .int .i64 n] w fun e w' => e = .returned (.tuple #[]) ∧ ∃ d', At enc w blk off w' d' ∧ SwOk d d' a.toNat b.toNat n.toNat := by
  obtain ⟨a, rfl⟩ := Int.eq_ofNat_of_zero_le ha
  obtain ⟨n, rfl⟩ := Int.eq_ofNat_of_zero_le hn
  obtain ⟨b, rfl⟩ := Int.eq_ofNat_of_zero_le (show 0 ≤ b by omega)
  simp only [Int.toNat_natCast]
  have hsz := E.small
  have hblk := E.lt
  have HA := Lib.hid ((At.start hH).alloc (.cells #[.func (.func g) #[] lb, .func (.func sf) #[] sb] 62))
  have HE := Lib.hid E
  have HH := Lib.hid hH
  clear E hH
  go_enter Try.func42, Try.ntmps42
  go_wp2
  go_loopw [8] (fun vi wr => ∃ (i : Nat) (dk : Array α), vi = .int .i64 i ∧ i ≤ n ∧ Hid (At enc w blk off wr dk) ∧ Hid (At enc (w.alloc (.cells #[.func (.func g) #[] lb, .func (.func sf) #[] sb] 62)) blk off wr dk) ∧ Hid (SwOk d dk a b i)) (fun vi _ => n - (intOf vi).toNat)
  case atStart =>
    have h1 : Holds enc (w.alloc (.cells #[.func (.func g) #[] lb, .func (.func sf) #[] sb] 62)) blk off d := HA.out.holds hblk HH.out rfl
    exact ⟨0, d, rfl, Nat.zero_le _, HA, Lib.hid (At.start h1), Lib.hid (SwOk.zero d a b)⟩
  case round =>
    obtain ⟨i, dk, rfl, hin, H1, H2, H3⟩ := hrel
    by_cases hlt : i < n
    · have hds := H3.out.size
      have hs := swaps HE.out.swap (W := wr) (dk := dk) (H1.out.holds hblk HH.out hds) hds ((a : Int) + i) ((b : Int) + i) (by omega) (by omega) (by omega) (by omega)
      have c1 : wr.cell? ⟨w.heap.size, 1, none⟩ = some (.func (.func sf) #[] sb) := H2.out.cell (by show w.heap.size ≠ blk; omega) (by simp)
      have A1 := Lib.hid (H1.out.swap hblk HH.out hds (a + i) (b + i) (by omega) (by omega))
      have A2 := Lib.hid (H2.out.swap (by simp; omega) (HA.out.holds hblk HH.out rfl) hds (a + i) (b + i) (by omega) (by omega))
      have A3 := Lib.hid (H3.out.step (by omega) (by omega))
      have e1 : ((a : Int) + i).toNat = a + i := by omega
      have e2 : ((b : Int) + i).toNat = b + i := by omega
      rw [e1, e2] at hs
      clear H1 H2 H3 e1 e2 hds
      go_wp2
      go_roundw
      case rel => exact ⟨i + 1, swp dk (a + i) (b + i), by go_num, by omega, A1, A2, A3⟩
      case measure => simp [intOf]; omega
    · go_wp2
      go_end0
      obtain rfl : i = n := by omega
      exact ⟨rfl, dk, H1.out, H3.out⟩

/-- What lies at place k when the parts from a to m and from m to b have changed places. -/
def rotR (d : Array α) (a m b k : Nat) : α := if a ≤ k ∧ k < a + (b - m) then d[k - a + m]! else if a + (b - m) ≤ k ∧ k < b then d[k - (b - m)]! else d[k]!

structure RotOk (d d' : Array α) (a m b : Nat) : Prop where
  size : d'.size = d.size
  get : ∀ k, d'[k]! = rotR d a m b k

theorem RotOk.left {d d1 d2 : Array α} {m i j : Nat} (h : SwOk d d1 (m - i) m j) (hi : i ≤ m) (hij : j < i) (h2 : RotOk d1 d2 (m - (i - j)) m (m + j)) : RotOk d d2 (m - i) m (m + j) := by
  refine ⟨h2.size.trans h.size, fun k => ?_⟩
  rw [h2.get]
  unfold rotR
  simp only [h.get]
  unfold swR
  (repeat' split) <;> first | rfl | (exfalso; omega) | (congr 1; omega)

theorem RotOk.right {d d1 d2 : Array α} {m i j : Nat} (h : SwOk d d1 (m - i) (m + j - i) i) (hi : i ≤ m) (hij : i < j) (h2 : RotOk d1 d2 (m - i) m (m + (j - i))) : RotOk d d2 (m - i) m (m + j) := by
  refine ⟨h2.size.trans h.size, fun k => ?_⟩
  rw [h2.get]
  unfold rotR
  simp only [h.get]
  unfold swR
  (repeat' split) <;> first | rfl | (exfalso; omega) | (congr 1; omega)

theorem RotOk.last {d d1 : Array α} {m i : Nat} (h : SwOk d d1 (m - i) m i) (hi : i ≤ m) : RotOk d d1 (m - i) m (m + i) := by
  refine ⟨h.size, fun k => ?_⟩
  rw [h.get]
  unfold rotR swR
  (repeat' split) <;> first | rfl | (exfalso; omega) | (congr 1; omega)

set_option maxHeartbeats 1000000 in
set_option maxRecDepth 100000 in
theorem rotate {enc : α → Value} {lt : α → α → Bool} {g : Nat} {lb : Array Value} {sf : Nat} {sb : Array Value} {blk off : Nat} {d : Array α} {w : World} (E : Env0 enc lt g lb sf sb blk off d.size w) (hH : Holds enc w blk off d) (a m b : Int) (ha : 0 ≤ a) (ham : a < m) (hmb : m < b) (hb : b ≤ d.size) :
    Calls Try.prog 41 #[.agg #[.func (.func g) #[] lb, .func (.func sf) #[] sb], .int .i64 a, .int .i64 m, .int .i64 b] w fun e w' => e = .returned (.tuple #[]) ∧ ∃ d', At enc w blk off w' d' ∧ RotOk d d' a.toNat m.toNat b.toNat := by
  obtain ⟨a, rfl⟩ := Int.eq_ofNat_of_zero_le ha
  obtain ⟨m, rfl⟩ := Int.eq_ofNat_of_zero_le (show 0 ≤ m by omega)
  obtain ⟨b, rfl⟩ := Int.eq_ofNat_of_zero_le (show 0 ≤ b by omega)
  simp only [Int.toNat_natCast]
  have hsz := E.small
  have hblk := E.lt
  have HA := Lib.hid ((At.start hH).alloc (.cells #[.func (.func g) #[] lb, .func (.func sf) #[] sb] 62))
  have HE := Lib.hid E
  have HH := Lib.hid hH
  clear E hH
  go_enter Try.func41, Try.ntmps41
  go_wp2
  go_loopw [8, 9] (fun vi vj wr => ∃ (i j : Nat) (dk : Array α), vi = .int .i64 i ∧ vj = .int .i64 j ∧ 0 < i ∧ 0 < j ∧ a + i ≤ m ∧ m + j ≤ b ∧ Hid (At enc w blk off wr dk) ∧ Hid (At enc (w.alloc (.cells #[.func (.func g) #[] lb, .func (.func sf) #[] sb] 62)) blk off wr dk) ∧ Hid (dk.size = d.size) ∧ Hid (∀ d2, RotOk dk d2 (m - i) m (m + j) → RotOk d d2 a m b)) (fun vi vj _ => (intOf vi).toNat + (intOf vj).toNat)
  case atStart =>
    have h1 : Holds enc (w.alloc (.cells #[.func (.func g) #[] lb, .func (.func sf) #[] sb] 62)) blk off d := HA.out.holds hblk HH.out rfl
    refine ⟨m - a, b - m, d, by congr 1; omega, by congr 1; omega, by omega, by omega, by omega, by omega, HA, Lib.hid (At.start h1), Lib.hid rfl, Lib.hid ?_⟩
    intro d2 h
    rwa [show m - (m - a) = a by omega, show m + (b - m) = b by omega] at h
  case round =>
    obtain ⟨i, j, dk, rfl, rfl, hi0, hj0, him, hjb, H1, H2, H3, H4⟩ := hrel
    have E1 := HE.out.at H1.out H3.out
    have hK : Holds enc wr blk off dk := H1.out.holds hblk HH.out H3.out
    have c0 : wr.cell? ⟨w.heap.size, 0, none⟩ = some (.func (.func g) #[] lb) := H2.out.cell (by show w.heap.size ≠ blk; omega) (by simp)
    have c1 : wr.cell? ⟨w.heap.size, 1, none⟩ = some (.func (.func sf) #[] sb) := H2.out.cell (by show w.heap.size ≠ blk; omega) (by simp)
    rw [← H3.out] at E1
    have hs : dk.size = d.size := H3.out
    by_cases hij : i = j
    · subst hij
      have hc := swapRange E1 hK ((m : Int) - i) m i (by omega) (by omega) (by omega) (by omega)
      have HC := Lib.hid hc
      clear hc E1 hK hs
      go_wp2_with (go_at_call 42; refine HC.out.mono ?_; rintro e w' ⟨rfl, d', hA, hS⟩)
      go_end0
      refine ⟨rfl, d', H1.out.trans hblk hA (by rw [hS.size]), H4.out d' ?_⟩
      rw [show ((m : Int) - i).toNat = m - i by omega] at hS
      exact RotOk.last hS (by omega)
    · have hne : ((i : Int) == (j : Int)) = false := by rw [beq_eq_false_iff_ne]; omega
      have hne2 : ((i : Int) != (j : Int)) = true := by rw [bne_iff_ne]; omega
      by_cases hlt : j < i
      · have hc := swapRange E1 hK ((m : Int) - i) m j (by omega) (by omega) (by omega) (by omega)
        have HC := Lib.hid hc
        clear hc E1 hK hs
        go_wp2_with (go_at_call 42; refine HC.out.mono ?_; rintro e w' ⟨rfl, d', hA, hS⟩)
        go_roundw
        case rel =>
          rw [show ((m : Int) - i).toNat = m - i by omega] at hS
          simp only [Int.toNat_natCast] at hS
          refine ⟨i - j, j, d', by congr 1; omega, rfl, by omega, by omega, by omega, by omega, Lib.hid (H1.out.trans hblk hA hS.size), Lib.hid (H2.out.trans (by simp; omega) hA hS.size), Lib.hid (hS.size.trans H3.out), Lib.hid fun d2 h => H4.out d2 (RotOk.left hS (by omega) hlt h)⟩
        case measure => simp [intOf]; omega
      · have hc := swapRange E1 hK ((m : Int) - i) ((m : Int) + j - i) i (by omega) (by omega) (by omega) (by omega)
        have HC := Lib.hid hc
        clear hc E1 hK hs
        go_wp2_with (go_at_call 42; refine HC.out.mono ?_; rintro e w' ⟨rfl, d', hA, hS⟩)
        go_roundw
        case rel =>
          rw [show ((m : Int) - i).toNat = m - i by omega, show ((m : Int) + j - i).toNat = m + j - i by omega] at hS
          simp only [Int.toNat_natCast] at hS
          refine ⟨i, j - i, d', rfl, by congr 1; omega, by omega, by omega, by omega, by omega, Lib.hid (H1.out.trans hblk hA hS.size), Lib.hid (H2.out.trans (by simp; omega) hA hS.size), Lib.hid (hS.size.trans H3.out), Lib.hid fun d2 h => H4.out d2 (RotOk.right hS (by omega) (by omega) h)⟩
        case measure => simp [intOf]; omega
end Go.Proofs.Ytelheeekbihfcac.Srt
