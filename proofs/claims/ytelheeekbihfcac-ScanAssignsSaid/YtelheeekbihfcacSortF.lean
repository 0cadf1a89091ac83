/- insertionSort_func and stable_func of the library's stable sort: the row comes into the stable order. -/
import Derived.Test.YtelheeekbihfcacSortE
set_option linter.unusedVariables false
set_option linter.unusedSimpArgs false
namespace Go.Proofs.Ytelheeekbihfcac.Srt
open Go.RowKit Go.Sort Go.Proofs
variable {α : Type} [Inhabited α]

theorem symMerge {R : α → α → Prop} {enc : α → Value} {lt : α → α → Bool} (O : Ord R lt) (g : Nat) (lb : Array Value) (sf : Nat) (sb : Array Value) (blk off : Nat) : ∀ N, SymSpec R lt enc g lb sf sb blk off N := by
  intro N
  induction N with
  | zero => intro d w E hH a m b h0 h1 h2 h3 T; omega
  | succ N IH =>
    intro d w E hH a m b h0 h1 h2 h3 T
    obtain ⟨a, rfl⟩ := Int.eq_ofNat_of_zero_le h0
    obtain ⟨m, rfl⟩ := Int.eq_ofNat_of_zero_le (show 0 ≤ m by omega)
    obtain ⟨b, rfl⟩ := Int.eq_ofNat_of_zero_le (show 0 ≤ b by omega)
    simp only [Int.toNat_natCast] at T ⊢
    by_cases k1 : m = a + 1
    · subst k1
      have := sym_left O E hH a b (by omega) T
      simpa using this
    · by_cases k2 : b = m + 1
      · subst k2
        have := sym_right O E hH a m (by omega) T
        simpa using this
      · by_cases k3 : ((a : Int) + b) / 2 < m
        · exact sym_hi O E hH a m b (by omega) k3 (by omega) T N (by omega) IH
        · exact sym_lo O E hH a m b (by omega) k3 (by omega) T N (by omega) IH

/-- The order in which the elements lay at first: what isn't less lies ahead. -/
def Init (R : α → α → Prop) (lt : α → α → Bool) (a b : Nat) (d : Array α) : Prop := ∀ i j, a ≤ i → i < j → j < b → lt d[j]! d[i]! = false → R d[i]! d[j]!

theorem Init.sub {R : α → α → Prop} {lt : α → α → Bool} {a b a' b' : Nat} {d : Array α} (h : Init R lt a b d) (ha : a ≤ a') (hb : b' ≤ b) : Init R lt a' b' d := fun i j hi hij hj => h i j (by omega) hij (by omega)
theorem Init.done {R : α → α → Prop} {lt : α → α → Bool} {n a b : Nat} {d d' : Array α} (h : Init R lt 0 n d) (hb : b ≤ n) (hn : n ≤ d.size) (D : Done R a b d d') : Init R lt 0 n d' := by
  intro i j _ hij hj hx
  have out : ∀ k, k < a ∨ b ≤ k → d'[k]! = d[k]! := D.perm.2.1
  by_cases hab : a ≤ b
  · by_cases h1 : a ≤ i ∧ i < b
    · by_cases h2 : j < b
      · exact D.srt i j h1.1 hij h2
      · rw [out j (by omega)] at hx ⊢
        exact permIn_all d d' a b (fun x => lt d[j]! x = false → R x d[j]!) (by omega) D.perm (fun k hk hk' => h k j (Nat.zero_le _) (by omega) hj) i h1.1 h1.2 hx
    · rw [out i (by omega)] at hx ⊢
      by_cases h2 : a ≤ j ∧ j < b
      · exact permIn_all d d' a b (fun y => lt y d[i]! = false → R d[i]! y) (by omega) D.perm (fun k hk hk' => h i k (Nat.zero_le _) (by omega) (by omega)) j h2.1 h2.2 hx
      · rw [out j (by omega)] at hx ⊢
        exact h i j (Nat.zero_le _) hij hj hx
  · rw [out i (by omega), out j (by omega)] at *
    exact h i j (Nat.zero_le _) hij hj hx

theorem ins_task {R : α → α → Prop} {lt : α → α → Bool} {a b i : Nat} {d dk : Array α} (hI : Init R lt a b d) (hai : a ≤ i) (hib : i < b) (hb : b ≤ d.size) (hP : PermIn a i d dk) (hS : Srt R a i dk) : Task R lt a i (i + 1) dk := by
  have hsz := hP.1
  refine ⟨hai, by omega, by omega, hS, Srt.one R i (i + 1) dk (by omega), fun p q hp hp' hq hq' hx => ?_⟩
  obtain rfl : q = i := by omega
  rw [hP.2.1 q (Or.inr (Nat.le_refl _))] at hx ⊢
  exact permIn_all d dk a q (fun x => lt d[q]! x = false → R x d[q]!) (by omega) hP (fun k hk hk' => hI k q hk hk' hib) p hp hp' hx

set_option maxHeartbeats 2000000 in
set_option maxRecDepth 100000 in
theorem insertion {R : α → α → Prop} {enc : α → Value} {lt : α → α → Bool} (O : Ord R lt) {g : Nat} {lb : Array Value} {sf : Nat} {sb : Array Value} {blk off : Nat} {d : Array α} {w : World} (E : Env0 enc lt g lb sf sb blk off d.size w) (hH : Holds enc w blk off d) (a b : Int) (h0 : 0 ≤ a) (hab : a ≤ b) (hb : b ≤ d.size) (hI : Init R lt a.toNat b.toNat d) :
    Calls Try.prog 39 #[.agg #[.func (.func g) #[] lb, .func (.func sf) #[] sb], .int .i64 a, .int .i64 b] w fun e w' => e = .returned (.tuple #[]) ∧ ∃ d', At enc w blk off w' d' ∧ Done R a.toNat b.toNat d d' := by
  obtain ⟨a, rfl⟩ := Int.eq_ofNat_of_zero_le h0
  obtain ⟨b, rfl⟩ := Int.eq_ofNat_of_zero_le (show 0 ≤ b by omega)
  simp only [Int.toNat_natCast] at hI ⊢
  have hsz := E.small
  have hblk := E.lt
  have eg := E.eg
  have HA := Lib.hid ((At.start hH).alloc (.cells #[.func (.func g) #[] lb, .func (.func sf) #[] sb] 62))
  have HE := Lib.hid E
  have HH := Lib.hid hH
  have HI := Lib.hid hI
  have hne : w.heap.size ≠ blk := by omega
  clear E hH hI
  have h1 : Holds enc (w.alloc (.cells #[.func (.func g) #[] lb, .func (.func sf) #[] sb] 62)) blk off d := HA.out.holds hblk HH.out rfl
  have HW0 := Lib.hid h1
  clear h1
  go_enter Try.func39, Try.ntmps39
  go_wp2
  go_loopw [6] (fun vi wr => ∃ (i : Nat) (dk : Array α), vi = .int .i64 i ∧ a < i ∧ (i ≤ b ∨ i = a + 1) ∧ Hid (At enc w blk off wr dk) ∧ Hid (At enc (w.alloc (.cells #[.func (.func g) #[] lb, .func (.func sf) #[] sb] 62)) blk off wr dk) ∧ Hid (PermIn a i d dk) ∧ Hid (Srt R a i dk) ∧ Hid (i = a + 1 → dk = d)) (fun vi _ => b + 1 - (intOf vi).toNat)
  case atStart => exact ⟨a + 1, d, by go_num, by omega, by omega, HA, Lib.hid (At.start HW0.out), Lib.hid (permIn_refl d a (a + 1)), Lib.hid (Srt.one R a (a + 1) d (by omega)), Lib.hid (fun _ => rfl)⟩
  case round =>
    obtain ⟨i, dk, rfl, hai, hib, H1, H2, H3, H4, H5⟩ := hrel
    by_cases hlt : i < b
    · have T := Lib.hid (ins_task HI.out (by omega) hlt (by omega) H3.out H4.out)
      have hsk := Lib.hid H3.out.1
      have hd1 : (i : Int) < b := by omega
      have hdec : decide ((i : Int) < (b : Int)) = true := decide_eq_true hd1
      obtain ⟨wo, rfl⟩ : ∃ wo : World, wo = wr := ⟨_, rfl⟩
      go_wp2
      go_loopw [7] (fun vj wr2 => ∃ (j : Nat) (dj : Array α), vj = .int .i64 j ∧ a ≤ j ∧ j ≤ i ∧ Hid (At enc w blk off wr2 dj) ∧ Hid (At enc (w.alloc (.cells #[.func (.func g) #[] lb, .func (.func sf) #[] sb] 62)) blk off wr2 dj) ∧ Hid (DownOk dk dj a j i) ∧ Hid (j < i → lt dk[i]! dk[j]! = true)) (fun vj _ => (intOf vj).toNat)
      case atStart => exact ⟨i, dk, rfl, by omega, Nat.le_refl _, H1, H2, Lib.hid (DownOk.zero dk a i), Lib.hid (fun h => by omega)⟩
      case round =>
        obtain ⟨j, dj, rfl, haj, hji, K1, K2, K3, K4⟩ := hrel
        have hsj := Lib.hid (K3.out.perm.1.trans hsk.out)
        have c0 : wr.cell? ⟨w.heap.size, 0, none⟩ = some (.func (.func g) #[] lb) := K2.out.cell hne (by simp)
        have c1 : wr.cell? ⟨w.heap.size, 1, none⟩ = some (.func (.func sf) #[] sb) := K2.out.cell hne (by simp)
        by_cases hja : a < j
        · have HL := Lib.hid (K1.out.less HE.out.less hsj.out j ((j : Int) - 1) (by omega) (by omega) (by omega) (by omega))
          have hm : ((j : Int) - 1).toNat = j - 1 := by omega
          rw [hm, Int.toNat_natCast] at HL
          clear hm
          have g1 : dj[j]! = dk[i]! := by rw [K3.out.get, if_neg (by omega), if_pos rfl]
          have g2 : dj[j - 1]! = dk[j - 1]! := by rw [K3.out.get, if_neg (by omega), if_neg (by omega)]
          rw [g1, g2] at HL
          have hds := Lib.hid hsj.out
          have hs := fun q => swaps HE.out.swap (W := wr.drewN q) (dk := dj) ((K1.out.drewN q).holds hblk HH.out hds.out) hds.out (j : Int) ((j : Int) - 1) (by omega) (by omega) (by omega) (by omega)
          have e2 : ((j : Int) - 1).toNat = j - 1 := by omega
          rw [e2, Int.toNat_natCast] at hs
          have A1 := Lib.hid fun q => (K1.out.drewN q).swap hblk HH.out hds.out j (j - 1) (by rw [hds.out]; omega) (by rw [hds.out]; omega)
          have A2 := Lib.hid fun q => (K2.out.drewN q).swap (by simp; omega) HW0.out hds.out j (j - 1) (by rw [hds.out]; omega) (by rw [hds.out]; omega)
          clear e2 g1 g2
          cases hx : lt dk[i]! dk[j - 1]! with
          | true =>
            rw [hx] at HL
            have HX := Lib.hid hx
            clear hx
            go_wp2_with (go_at_fn g; refine HL.out.mono ?_; rintro e w' ⟨rfl, q, rfl⟩)
            go_roundw
            case rel => exact ⟨j - 1, swp dj j (j - 1), by congr 1; omega, by omega, by omega, Lib.hid (A1.out q), Lib.hid (A2.out q), Lib.hid (K3.out.step (by omega) (by omega) (by rw [hsk.out]; omega)), Lib.hid (fun _ => HX.out)⟩
            case measure => simp [intOf]; omega
          | false =>
            rw [hx] at HL
            have HX := Lib.hid hx
            clear hx hs
            go_wp2_with (go_at_fn g; refine HL.out.mono ?_; rintro e w' ⟨rfl, q, rfl⟩)
            have D := down_done O T.out (by omega) (by omega) K3.out (fun _ => HX.out) (fun h => K4.out h)
            go_roundw
            case rel => exact ⟨i + 1, dj, by go_num, by omega, by omega, Lib.hid (K1.out.drewN q), Lib.hid (K2.out.drewN q), Lib.hid (permIn_trans _ _ _ _ _ (permIn_mono d dk a i a (i + 1) (by omega) (by omega) (by omega) H3.out) D.perm), Lib.hid D.srt, Lib.hid (fun h => by omega)⟩
            case measure => simp [intOf]; omega
        · have D := Lib.hid (down_done O T.out (by omega) (by omega) K3.out (fun h => by omega) (fun h => K4.out h))
          go_wp2
          go_roundw
          case rel => exact ⟨i + 1, dj, by go_num, by omega, by omega, K1, K2, Lib.hid (permIn_trans _ _ _ _ _ (permIn_mono d dk a i a (i + 1) (by omega) (by omega) (by omega) H3.out) D.out.perm), Lib.hid D.out.srt, Lib.hid (fun h => by omega)⟩
          case measure => simp [intOf]; omega
    · go_wp2
      go_end0
      refine ⟨rfl, dk, H1.out, ?_, ?_⟩
      · rcases hib with h | h
        · obtain rfl : i = b := by omega
          exact H3.out
        · rcases Nat.lt_or_ge b i with h2 | h2
          · have hd : dk = d := H5.out (by omega)
            rw [hd]
            exact permIn_refl d a b
          · obtain rfl : i = b := by omega
            exact H3.out
      · rcases Nat.lt_or_ge b i with h2 | h2
        · exact Srt.one R a b dk (by omega)
        · obtain rfl : i = b := by omega
          exact H4.out

/-- Blocks of s, from the place a on, are in order. -/
def Blk (R : α → α → Prop) (s a n : Nat) (d : Array α) : Prop := ∀ k, s ∣ k → a ≤ k → Srt R k (min (k + s) n) d
/-- Blocks of s that end at a or ahead of it are in order. -/
def BlkTo (R : α → α → Prop) (s a : Nat) (d : Array α) : Prop := ∀ k, s ∣ k → k + s ≤ a → Srt R k (k + s) d

theorem dvd_step {s a k : Nat} (hs : 0 < s) (ha : s ∣ a) (hk : s ∣ k) (h : k < a) : k + s ≤ a := by
  have h1 : s ∣ a - k := Nat.dvd_sub ha hk
  have h2 := Nat.le_of_dvd (by omega) h1
  omega

theorem BlkTo.next {R : α → α → Prop} {s a : Nat} {d d' : Array α} (hs : 0 < s) (ha : s ∣ a) (h : BlkTo R s a d) (D : Done R a (a + s) d d') : BlkTo R s (a + s) d' := by
  intro k hk hle
  rcases Nat.lt_or_ge k a with h1 | h1
  · have h2 := dvd_step hs ha hk h1
    exact (h k hk h2).congr fun q _ hq => D.perm.2.1 q (Or.inl (by omega))
  · obtain rfl : k = a := by omega
    exact D.srt
theorem Blk.keep {R : α → α → Prop} {s a b n : Nat} {d d' : Array α} (h : Blk R s a n d) (hab : a ≤ b) (hd : ∀ q, b ≤ q → d'[q]! = d[q]!) : Blk R s b n d' := fun k hk hle => (h k hk (by omega)).congr fun q hq _ => hd q (by omega)
/-- What is left over behind the last whole block has been put in order. -/
theorem BlkTo.whole {R : α → α → Prop} {s a n : Nat} {d d' : Array α} (hs : 0 < s) (ha : s ∣ a) (hn : n < a + s) (han : a ≤ n) (h : BlkTo R s a d) (D : Done R a n d d') : Blk R s 0 n d' := by
  intro k hk _
  rcases Nat.lt_or_ge k a with h1 | h1
  · have h2 := dvd_step hs ha hk h1
    have h3 : Srt R k (k + s) d' := (h k hk h2).congr fun q _ hq => D.perm.2.1 q (Or.inl (by omega))
    exact h3.sub (Nat.le_refl _) (Nat.min_le_left _ _)
  · rcases Nat.lt_or_ge a k with h2 | h2
    · have h3 := dvd_step hs hk ha h2
      exact Srt.one R _ _ _ (by omega)
    · obtain rfl : k = a := by omega
      exact D.srt.sub (Nat.le_refl _) (Nat.min_le_right _ _)
theorem Done.refl1 {R : α → α → Prop} {a b : Nat} (d : Array α) (h : Srt R a b d) : Done R a b d d := ⟨permIn_refl d a b, h⟩
end Go.Proofs.Ytelheeekbihfcac.Srt
