/- stable_func of the library's stable sort: the whole row comes into the stable order. -/
import Derived.Test.YtelheeekbihfcacSortF
set_option linter.unusedVariables false
set_option linter.unusedSimpArgs false
namespace Go.Proofs.Ytelheeekbihfcac.Srt
open Go.RowKit Go.Sort Go.Proofs
variable {α : Type} [Inhabited α]

theorem blk_task {R : α → α → Prop} {lt : α → α → Bool} {s a b n : Nat} {d : Array α} (hs : 0 < s) (ha : s ∣ a) (hI : Init R lt 0 n d) (hn : n ≤ d.size) (h : Blk R s a n d) (h1 : a + s ≤ b) (h2 : b ≤ a + s + s) (hb : b ≤ n) : Task R lt a (a + s) b d :=
  ⟨by omega, h1, by omega, (h a ha (Nat.le_refl _)).sub (Nat.le_refl _) (by omega), (h (a + s) (Nat.dvd_add ha (Nat.dvd_refl s)) (by omega)).sub (Nat.le_refl _) (by omega), fun i j hi hi' hj hj' hx => hI i j (Nat.zero_le _) (by omega) (by omega) hx⟩

theorem done_mono {R : α → α → Prop} {a b n : Nat} {d d1 d2 : Array α} (hP : PermIn 0 n d d1) (D : Done R a b d1 d2) (hb : b ≤ n) (hn : n ≤ d.size) : PermIn 0 n d d2 :=
  permIn_trans _ _ _ _ _ hP (permIn_mono d1 d2 a b 0 n (Nat.zero_le _) hb (by rw [hP.1]; exact hn) D.perm)

/-- What is known between two steps of the stable sort. -/
structure Mid (R : α → α → Prop) (lt : α → α → Bool) (enc : α → Value) (w w1 : World) (blk off : Nat) (d : Array α) (W : World) (dk : Array α) : Prop where
  at0 : At enc w blk off W dk
  at1 : At enc w1 blk off W dk
  perm : PermIn 0 d.size d dk
  init : Init R lt 0 d.size dk

theorem Mid.next {R : α → α → Prop} {lt : α → α → Bool} {enc : α → Value} {w w1 W W' : World} {blk off : Nat} {d dk d' : Array α} (M : Mid R lt enc w w1 blk off d W dk) (hblk : blk < w.heap.size) (hblk1 : blk < w1.heap.size) {a b : Nat} (hA : At enc W blk off W' d') (D : Done R a b dk d') (hb : b ≤ d.size) : Mid R lt enc w w1 blk off d W' d' :=
  ⟨M.at0.trans hblk hA D.perm.1, M.at1.trans hblk1 hA D.perm.1, done_mono M.perm D hb (Nat.le_refl _), M.init.done hb (by rw [M.perm.1]; exact Nat.le_refl _) D⟩

set_option maxHeartbeats 4000000 in
set_option maxRecDepth 100000 in
theorem stable {R : α → α → Prop} {enc : α → Value} {lt : α → α → Bool} (O : Ord R lt) {g : Nat} {lb : Array Value} {sf : Nat} {sb : Array Value} {blk off : Nat} {d : Array α} {w : World} (E : Env0 enc lt g lb sf sb blk off d.size w) (hH : Holds enc w blk off d) (hI : Init R lt 0 d.size d) :
    Calls Try.prog 28 #[.agg #[.func (.func g) #[] lb, .func (.func sf) #[] sb], .int .i64 d.size] w fun e w' => e = .returned (.tuple #[]) ∧ ∃ d', At enc w blk off w' d' ∧ Done R 0 d.size d d' := by
  have hsz := E.small
  have hblk := E.lt
  have HA := Lib.hid ((At.start hH).alloc (.cells #[.func (.func g) #[] lb, .func (.func sf) #[] sb] 62))
  have HE := Lib.hid E
  have HH := Lib.hid hH
  have hne : w.heap.size ≠ blk := by omega
  have hblk1 : blk < (w.alloc (.cells #[.func (.func g) #[] lb, .func (.func sf) #[] sb] 62)).heap.size := by simp; omega
  have HB1 := Lib.hid hblk1
  have h1 : Holds enc (w.alloc (.cells #[.func (.func g) #[] lb, .func (.func sf) #[] sb] 62)) blk off d := HA.out.holds hblk HH.out rfl
  have M0 : Hid (Mid R lt enc w (w.alloc (.cells #[.func (.func g) #[] lb, .func (.func sf) #[] sb] 62)) blk off d (w.alloc (.cells #[.func (.func g) #[] lb, .func (.func sf) #[] sb] 62)) d) := Lib.hid ⟨HA.out, At.start h1, permIn_refl d 0 d.size, hI⟩
  clear E hH hI h1 hblk1 HA
  go_enter Try.func28, Try.ntmps28
  go_wp2
  go_loopw [5, 6] (fun va vb wr => ∃ (a : Nat) (dk : Array α), va = .int .i64 a ∧ vb = .int .i64 (a + 20) ∧ a ≤ d.size ∧ Hid (20 ∣ a) ∧ Hid (Mid R lt enc w (w.alloc (.cells #[.func (.func g) #[] lb, .func (.func sf) #[] sb] 62)) blk off d wr dk) ∧ Hid (BlkTo R 20 a dk)) (fun va _ _ => d.size - (intOf va).toNat)
  case atStart => exact ⟨0, d, by go_num, by go_num, Nat.zero_le _, Lib.hid (Nat.dvd_zero 20), M0, Lib.hid (fun k _ hk => by omega)⟩
  case round =>
    obtain ⟨a, dk, rfl, rfl, han, hdv, M, B⟩ := hrel
    have c0 : wr.cell? ⟨w.heap.size, 0, none⟩ = some (.func (.func g) #[] lb) := M.out.at1.cell hne (by simp)
    have c1 : wr.cell? ⟨w.heap.size, 1, none⟩ = some (.func (.func sf) #[] sb) := M.out.at1.cell hne (by simp)
    have hsk := Lib.hid M.out.perm.1
    have E1 := Lib.hid (show Env0 enc lt g lb sf sb blk off dk.size wr by rw [hsk.out]; exact HE.out.at M.out.at0 hsk.out)
    have H1 := Lib.hid (M.out.at0.holds hblk HH.out hsk.out)
    by_cases hlt : (a : Int) + 20 ≤ d.size
    · have HC := Lib.hid (insertion O E1.out H1.out a ((a : Int) + 20) (by omega) (by omega) (by rw [hsk.out]; omega) (by rw [show ((a : Int) + 20).toNat = a + 20 by omega, Int.toNat_natCast]; exact M.out.init.sub (Nat.zero_le _) (by omega)))
      go_wp2_with (go_at_call 39; refine HC.out.mono ?_; clear HC; rintro e w' ⟨rfl, d', hA, hD⟩)
      rw [show ((a : Int) + 20).toNat = a + 20 by omega, Int.toNat_natCast] at hD
      go_roundw
      case rel => exact ⟨a + 20, d', by go_num, by go_num, by omega, Lib.hid (Nat.dvd_add hdv.out (Nat.dvd_refl 20)), Lib.hid (M.out.next hblk HB1.out hA hD (by omega)), Lib.hid (BlkTo.next (by omega) hdv.out B.out hD)⟩
      case measure => simp [intOf]; omega
    · have HC := Lib.hid (insertion O E1.out H1.out a d.size (by omega) (by omega) (by rw [hsk.out]; omega) (by rw [Int.toNat_natCast, Int.toNat_natCast]; exact M.out.init.sub (Nat.zero_le _) (by omega)))
      go_wp2_with (go_at_call 39; refine HC.out.mono ?_; clear HC; rintro e w' ⟨rfl, d', hA, hD⟩)
      rw [Int.toNat_natCast, Int.toNat_natCast] at hD
      have M' := Lib.hid (M.out.next hblk HB1.out hA hD (by omega))
      have B' := Lib.hid (BlkTo.whole (n := d.size) (by omega) hdv.out (by omega) han B.out hD)
      clear M B E1 H1 c0 c1 hD hA hsk hdv
      go_loopw [4] (fun vs w2 => ∃ (s : Nat) (dk : Array α), vs = .int .i64 s ∧ 0 < s ∧ s ≤ 40 + 2 * d.size ∧ Hid (Mid R lt enc w (w.alloc (.cells #[.func (.func g) #[] lb, .func (.func sf) #[] sb] 62)) blk off d w2 dk) ∧ Hid (Blk R s 0 d.size dk)) (fun vs _ => d.size - (intOf vs).toNat)
      case atStart => exact ⟨20, d', by go_num, by omega, by omega, M', B'⟩
      case round =>
        obtain ⟨s, dk, rfl, hs0, hs1, M, B⟩ := hrel
        by_cases hlt2 : s < d.size
        · obtain ⟨wo, rfl⟩ : ∃ wo : World, wo = wr := ⟨_, rfl⟩
          go_wp2
          go_loopw [5, 6] (fun va vb w3 => ∃ (a : Nat) (dj : Array α), va = .int .i64 a ∧ vb = .int .i64 (a + 2 * s) ∧ a ≤ d.size ∧ Hid (2 * s ∣ a) ∧ Hid (Mid R lt enc w (w.alloc (.cells #[.func (.func g) #[] lb, .func (.func sf) #[] sb] 62)) blk off d w3 dj) ∧ Hid (BlkTo R (2 * s) a dj) ∧ Hid (Blk R s a d.size dj)) (fun va _ _ => d.size - (intOf va).toNat)
          case atStart => exact ⟨0, dk, by go_num, by go_num, Nat.zero_le _, Lib.hid (Nat.dvd_zero _), M, Lib.hid (fun k _ hk => by omega), B⟩
          case round =>
            obtain ⟨a, dj, rfl, rfl, han, hdv, N, B1, B2⟩ := hrel
            have c0 : wr.cell? ⟨w.heap.size, 0, none⟩ = some (.func (.func g) #[] lb) := N.out.at1.cell hne (by simp)
            have c1 : wr.cell? ⟨w.heap.size, 1, none⟩ = some (.func (.func sf) #[] sb) := N.out.at1.cell hne (by simp)
            have hsk := Lib.hid N.out.perm.1
            have E1 := Lib.hid (show Env0 enc lt g lb sf sb blk off dj.size wr by rw [hsk.out]; exact HE.out.at N.out.at0 hsk.out)
            have H1 := Lib.hid (N.out.at0.holds hblk HH.out hsk.out)
            have hds := Lib.hid (show s ∣ a from Nat.dvd_trans (Nat.dvd_mul_left s 2) hdv.out)
            by_cases hlt3 : (a : Int) + 2 * s ≤ d.size
            · have T := blk_task (b := a + 2 * s) hs0 hds.out N.out.init (by rw [hsk.out]; exact Nat.le_refl _) B2.out (by omega) (by omega) (by omega)
              have HC := Lib.hid (symMerge O g lb sf sb blk off (2 * s) dj wr E1.out H1.out a ((a : Int) + s) ((a : Int) + 2 * s) (by omega) (by omega) (by omega) (by omega) (by rw [show ((a : Int) + s).toNat = a + s by omega, show ((a : Int) + 2 * s).toNat = a + 2 * s by omega, Int.toNat_natCast]; exact T))
              clear T
              go_wp2_with (go_at_call 40; refine HC.out.mono ?_; clear HC; rintro e w' ⟨rfl, d2, hA, hD⟩)
              rw [show ((a : Int) + 2 * s).toNat = a + 2 * s by omega, Int.toNat_natCast] at hD
              go_roundw
              case rel => exact ⟨a + 2 * s, d2, by go_num, by congr 1, by omega, Lib.hid (Nat.dvd_add hdv.out (Nat.dvd_refl _)), Lib.hid (N.out.next hblk HB1.out hA hD (by omega)), Lib.hid (BlkTo.next (by omega) hdv.out B1.out hD), Lib.hid (B2.out.keep (by omega) fun q hq => hD.perm.2.1 q (Or.inr hq))⟩
              case measure => simp [intOf]; omega
            · by_cases hlt4 : (a : Int) + s < d.size
              · have T := blk_task (b := d.size) hs0 hds.out N.out.init (by rw [hsk.out]; exact Nat.le_refl _) B2.out (by omega) (by omega) (Nat.le_refl _)
                have HC := Lib.hid (symMerge O g lb sf sb blk off (2 * s) dj wr E1.out H1.out a ((a : Int) + s) d.size (by omega) (by omega) (by omega) (by omega) (by rw [show ((a : Int) + s).toNat = a + s by omega, Int.toNat_natCast, Int.toNat_natCast]; exact T))
                clear T
                go_wp2_with (go_at_call 40; refine HC.out.mono ?_; clear HC; rintro e w' ⟨rfl, d2, hA, hD⟩)
                rw [Int.toNat_natCast, Int.toNat_natCast] at hD
                go_roundw
                case rel => exact ⟨s * 2, d2, by congr 1, by omega, by omega, Lib.hid (N.out.next hblk HB1.out hA hD (Nat.le_refl _)), Lib.hid (by rw [Nat.mul_comm]; exact BlkTo.whole (by omega) hdv.out (by omega) han B1.out hD)⟩
                case measure => simp [intOf]; omega
              · have hD := Done.refl1 dj ((B2.out a hds.out (Nat.le_refl _)).sub (Nat.le_refl _) (show d.size ≤ _ by omega))
                have HD := Lib.hid hD
                clear hD
                go_wp2
                go_roundw
                case rel => exact ⟨s * 2, dj, by congr 1, by omega, by omega, N, Lib.hid (by rw [Nat.mul_comm]; exact BlkTo.whole (by omega) hdv.out (by omega) han B1.out HD.out)⟩
                case measure => simp [intOf]; omega
        · go_wp2
          go_end0
          refine ⟨rfl, dk, M.out.at0, M.out.perm, ?_⟩
          exact (B.out 0 (Nat.dvd_zero s) (Nat.le_refl _)).sub (Nat.le_refl _) (by omega)
end Go.Proofs.Ytelheeekbihfcac.Srt
