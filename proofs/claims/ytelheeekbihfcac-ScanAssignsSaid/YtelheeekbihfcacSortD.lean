/- symMerge_func of the library's stable sort. -/
import Derived.Test.YtelheeekbihfcacSortC
set_option linter.unusedVariables false
set_option linter.unusedSimpArgs false
namespace Go.Proofs.Ytelheeekbihfcac.Srt
open Go.RowKit Go.Sort Go.Proofs
variable {α : Type} [Inhabited α]


set_option maxHeartbeats 2000000 in
set_option maxRecDepth 100000 in
theorem sym_left {R : α → α → Prop} {enc : α → Value} {lt : α → α → Bool} (O : Ord R lt) {g : Nat} {lb : Array Value} {sf : Nat} {sb : Array Value} {blk off : Nat} {d : Array α} {w : World} (E : Env0 enc lt g lb sf sb blk off d.size w) (hH : Holds enc w blk off d) (a b : Nat) (hmb : a + 1 < b) (T : Task R lt a (a + 1) b d) :
    Calls Try.prog 40 #[.agg #[.func (.func g) #[] lb, .func (.func sf) #[] sb], .int .i64 a, .int .i64 (a + 1), .int .i64 b] w fun e w' => e = .returned (.tuple #[]) ∧ ∃ d', At enc w blk off w' d' ∧ Done R a b d d' := by
  have hb := T.hb
  have hsz := E.small
  have hblk := E.lt
  have eg := E.eg
  have HA := Lib.hid ((At.start hH).alloc (.cells #[.func (.func g) #[] lb, .func (.func sf) #[] sb] 62))
  have HE := Lib.hid E
  have HH := Lib.hid hH
  have HT := Lib.hid T
  clear E hH T
  have hm1 : ((a : Int) + 1 - a == 1) = true := by rw [beq_iff_eq]; omega
  go_enter Try.func40, Try.ntmps40
  go_wp2
  go_loopw [8, 9] (fun vi vj wr => ∃ (i j q : Nat), vi = .int .i64 i ∧ vj = .int .i64 j ∧ a + 1 ≤ i ∧ i ≤ j ∧ j ≤ b ∧ Hid (wr = (w.alloc (.cells #[.func (.func g) #[] lb, .func (.func sf) #[] sb] 62)).drewN q) ∧ Hid (a + 1 < i → lt d[i - 1]! d[a]! = true) ∧ Hid (j < b → lt d[j]! d[a]! = false)) (fun vi vj _ => (intOf vj).toNat - (intOf vi).toNat)
  case atStart => exact ⟨a + 1, b, 0, by congr 1, rfl, by omega, by omega, by omega, Lib.hid rfl, Lib.hid (fun h => by omega), Lib.hid (fun h => by omega)⟩
  case round =>
    obtain ⟨i, j, q, rfl, rfl, hi, hij, hj, HW, H1, H2⟩ := hrel
    by_cases hlt : i < j
    · have c0 : wr.cell? ⟨w.heap.size, 0, none⟩ = some (.func (.func g) #[] lb) := by rw [HW.out]; simp
      have HL := Lib.hid ((show At enc w blk off wr d by rw [HW.out]; exact HA.out.drewN q).less HE.out.less rfl (((i : Int) + j) / 2) a (by omega) (by omega) (by omega) (by omega))
      have hm : (((i : Int) + j) / 2).toNat = (i + j) / 2 := by omega
      rw [hm, Int.toNat_natCast] at HL
      clear hm
      cases hx : lt d[(i + j) / 2]! d[a]! with
      | true =>
        rw [hx] at HL
        have HX := Lib.hid hx
        clear hx
        go_wp2_with (go_at_fn g; refine HL.out.mono ?_; rintro e w' ⟨rfl, q', rfl⟩)
        go_roundw
        case rel => exact ⟨(i + j) / 2 + 1, j, q + q', by congr 1, rfl, by omega, by omega, by omega, Lib.hid (by rw [HW.out, World.drewN_drewN]), Lib.hid (fun _ => by rw [Nat.add_sub_cancel]; exact HX.out), H2⟩
        case measure => simp [intOf]; omega
      | false =>
        rw [hx] at HL
        have HX := Lib.hid hx
        clear hx
        go_wp2_with (go_at_fn g; refine HL.out.mono ?_; rintro e w' ⟨rfl, q', rfl⟩)
        go_roundw
        case rel => exact ⟨i, (i + j) / 2, q + q', rfl, by congr 1, by omega, by omega, by omega, Lib.hid (by rw [HW.out, World.drewN_drewN]), H1, Lib.hid (fun _ => HX.out)⟩
        case measure => simp [intOf]; omega
    · obtain rfl : i = j := by omega
      obtain ⟨wo, rfl⟩ : ∃ wo : World, wo = wr := ⟨_, rfl⟩
      have HA1 := Lib.hid (show At enc w blk off wo d by rw [HW.out]; exact HA.out.drewN q)
      have hW1 : Holds enc wo blk off d := HA1.out.holds hblk HH.out rfl
      have c1 : wo.cell? ⟨w.heap.size, 1, none⟩ = some (.func (.func sf) #[] sb) := by rw [HW.out]; simp
      have h1 : w.heap.size < wo.heap.size := by rw [HW.out]; simp
      have HHW := Lib.hid hW1
      clear hW1 HW
      go_wp2
      go_loopw [11] (fun vk w2 => ∃ (k : Nat) (dk : Array α), vk = .int .i64 k ∧ a ≤ k ∧ k + 1 ≤ i ∧ Hid (At enc w blk off w2 dk) ∧ Hid (At enc wo blk off w2 dk) ∧ Hid (UpOk d dk a (k + 1) b)) (fun vk _ => i - (intOf vk).toNat)
      case atStart => exact ⟨a, d, rfl, by omega, by omega, HA1, Lib.hid (At.start HHW.out), Lib.hid (UpOk.zero d a b)⟩
      case round =>
        obtain ⟨k, dk, rfl, hk1, hk2, K1, K2, K3⟩ := hrel
        by_cases hk : k + 1 < i
        · have hds := K3.out.perm.1
          have hs := swaps HE.out.swap (W := wr) (dk := dk) (K1.out.holds hblk HH.out hds) hds (k : Int) ((k : Int) + 1) (by omega) (by omega) (by omega) (by omega)
          have c2 : wr.cell? ⟨w.heap.size, 1, none⟩ = some (.func (.func sf) #[] sb) := K2.out.cell (by show w.heap.size ≠ blk; omega) c1
          have A1 := Lib.hid (K1.out.swap hblk HH.out hds k (k + 1) (by omega) (by omega))
          have A2 := Lib.hid (K2.out.swap (by omega) HHW.out hds k (k + 1) (by omega) (by omega))
          have A3 := Lib.hid (K3.out.step (by omega) (by omega) hb)
          rw [show k + 1 - 1 = k by omega] at A3
          have e2 : ((k : Int) + 1).toNat = k + 1 := by omega
          rw [e2, Int.toNat_natCast] at hs
          clear K1 K2 K3 e2 hds
          have hkt : (k : Int) < i - 1 := by omega
          go_wp2
          go_roundw
          case rel => exact ⟨k + 1, swp dk k (k + 1), by go_num, by omega, by omega, A1, A2, A3⟩
          case measure => simp [intOf]; omega
        · have hkt : ¬ (k : Int) < i - 1 := by omega
          obtain rfl : i = k + 1 := by omega
          go_wp2
          refine bodyPost_ret (results_none rfl _ _ _) rfl ?_
          exact ⟨rfl, dk, K1.out, up_done O HT.out (by omega) (by omega) K3.out H1.out H2.out⟩

set_option maxHeartbeats 2000000 in
set_option maxRecDepth 100000 in
theorem sym_right {R : α → α → Prop} {enc : α → Value} {lt : α → α → Bool} (O : Ord R lt) {g : Nat} {lb : Array Value} {sf : Nat} {sb : Array Value} {blk off : Nat} {d : Array α} {w : World} (E : Env0 enc lt g lb sf sb blk off d.size w) (hH : Holds enc w blk off d) (a m : Nat) (ham : a + 1 < m) (T : Task R lt a m (m + 1) d) :
    Calls Try.prog 40 #[.agg #[.func (.func g) #[] lb, .func (.func sf) #[] sb], .int .i64 a, .int .i64 m, .int .i64 (m + 1)] w fun e w' => e = .returned (.tuple #[]) ∧ ∃ d', At enc w blk off w' d' ∧ Done R a (m + 1) d d' := by
  have hb := T.hb
  have hsz := E.small
  have hblk := E.lt
  have eg := E.eg
  have HA := Lib.hid ((At.start hH).alloc (.cells #[.func (.func g) #[] lb, .func (.func sf) #[] sb] 62))
  have HE := Lib.hid E
  have HH := Lib.hid hH
  have HT := Lib.hid T
  clear E hH T
  have hm1 : ((m : Int) - a == 1) = false := by rw [beq_eq_false_iff_ne]; omega
  have hm2 : ((m : Int) + 1 - m == 1) = true := by rw [beq_iff_eq]; omega
  go_enter Try.func40, Try.ntmps40
  go_wp2
  go_loopw [12, 13] (fun vi vj wr => ∃ (i j q : Nat), vi = .int .i64 i ∧ vj = .int .i64 j ∧ a ≤ i ∧ i ≤ j ∧ j ≤ m ∧ Hid (wr = (w.alloc (.cells #[.func (.func g) #[] lb, .func (.func sf) #[] sb] 62)).drewN q) ∧ Hid (a < i → lt d[m]! d[i - 1]! = false) ∧ Hid (j < m → lt d[m]! d[j]! = true)) (fun vi vj _ => (intOf vj).toNat - (intOf vi).toNat)
  case atStart => exact ⟨a, m, 0, rfl, rfl, by omega, by omega, by omega, Lib.hid rfl, Lib.hid (fun h => by omega), Lib.hid (fun h => by omega)⟩
  case round =>
    obtain ⟨i, j, q, rfl, rfl, hi, hij, hj, HW, H1, H2⟩ := hrel
    by_cases hlt : i < j
    · have c0 : wr.cell? ⟨w.heap.size, 0, none⟩ = some (.func (.func g) #[] lb) := by rw [HW.out]; simp
      have HL := Lib.hid ((show At enc w blk off wr d by rw [HW.out]; exact HA.out.drewN q).less HE.out.less rfl m (((i : Int) + j) / 2) (by omega) (by omega) (by omega) (by omega))
      have hm : (((i : Int) + j) / 2).toNat = (i + j) / 2 := by omega
      rw [hm, Int.toNat_natCast] at HL
      clear hm
      cases hx : lt d[m]! d[(i + j) / 2]! with
      | true =>
        rw [hx] at HL
        have HX := Lib.hid hx
        clear hx
        go_wp2_with (go_at_fn g; refine HL.out.mono ?_; rintro e w' ⟨rfl, q', rfl⟩)
        go_roundw
        case rel => exact ⟨i, (i + j) / 2, q + q', rfl, by congr 1, by omega, by omega, by omega, Lib.hid (by rw [HW.out, World.drewN_drewN]), H1, Lib.hid (fun _ => HX.out)⟩
        case measure => simp [intOf]; omega
      | false =>
        rw [hx] at HL
        have HX := Lib.hid hx
        clear hx
        go_wp2_with (go_at_fn g; refine HL.out.mono ?_; rintro e w' ⟨rfl, q', rfl⟩)
        go_roundw
        case rel => exact ⟨(i + j) / 2 + 1, j, q + q', by congr 1, rfl, by omega, by omega, by omega, Lib.hid (by rw [HW.out, World.drewN_drewN]), Lib.hid (fun _ => by rw [Nat.add_sub_cancel]; exact HX.out), H2⟩
        case measure => simp [intOf]; omega
    · obtain rfl : i = j := by omega
      obtain ⟨wo, rfl⟩ : ∃ wo : World, wo = wr := ⟨_, rfl⟩
      have HA1 := Lib.hid (show At enc w blk off wo d by rw [HW.out]; exact HA.out.drewN q)
      have hW1 : Holds enc wo blk off d := HA1.out.holds hblk HH.out rfl
      have c1 : wo.cell? ⟨w.heap.size, 1, none⟩ = some (.func (.func sf) #[] sb) := by rw [HW.out]; simp
      have h1 : w.heap.size < wo.heap.size := by rw [HW.out]; simp
      have HHW := Lib.hid hW1
      clear hW1 HW
      go_wp2
      go_loopw [15] (fun vk w2 => ∃ (k : Nat) (dk : Array α), vk = .int .i64 k ∧ i ≤ k ∧ k ≤ m ∧ Hid (At enc w blk off w2 dk) ∧ Hid (At enc wo blk off w2 dk) ∧ Hid (DownOk d dk a k m)) (fun vk _ => (intOf vk).toNat)
      case atStart => exact ⟨m, d, rfl, by omega, by omega, HA1, Lib.hid (At.start HHW.out), Lib.hid (DownOk.zero d a m)⟩
      case round =>
        obtain ⟨k, dk, rfl, hk1, hk2, K1, K2, K3⟩ := hrel
        by_cases hk : i < k
        · have hds := K3.out.perm.1
          have hs := swaps HE.out.swap (W := wr) (dk := dk) (K1.out.holds hblk HH.out hds) hds (k : Int) ((k : Int) - 1) (by omega) (by omega) (by omega) (by omega)
          have c2 : wr.cell? ⟨w.heap.size, 1, none⟩ = some (.func (.func sf) #[] sb) := K2.out.cell (by show w.heap.size ≠ blk; omega) c1
          have A1 := Lib.hid (K1.out.swap hblk HH.out hds k (k - 1) (by omega) (by omega))
          have A2 := Lib.hid (K2.out.swap (by omega) HHW.out hds k (k - 1) (by omega) (by omega))
          have A3 := Lib.hid (K3.out.step (by omega) (by omega) (by omega))
          have e2 : ((k : Int) - 1).toNat = k - 1 := by omega
          rw [e2, Int.toNat_natCast] at hs
          clear K1 K2 K3 e2 hds
          go_wp2
          go_roundw
          case rel => exact ⟨k - 1, swp dk k (k - 1), by congr 1; omega, by omega, by omega, A1, A2, A3⟩
          case measure => simp [intOf]; omega
        · obtain rfl : i = k := by omega
          go_wp2
          refine bodyPost_ret (results_none rfl _ _ _) rfl ?_
          exact ⟨rfl, dk, K1.out, down_done O HT.out (by omega) (by omega) K3.out H1.out H2.out⟩
end Go.Proofs.Ytelheeekbihfcac.Srt
