/- symMerge_func of the library's stable sort: both parts longer than one. -/
import Derived.Test.YtelheeekbihfcacSortD
import Derived.Deep.DeepCutAuto
import Derived.Deep.CutBlock
set_option linter.unusedVariables false
set_option linter.unusedSimpArgs false
namespace Go.Proofs.Ytelheeekbihfcac.Srt
open Go.RowKit Go.Sort Go.Proofs
variable {α : Type} [Inhabited α]


theorem Task.triv {R : α → α → Prop} {lt : α → α → Bool} {a m b : Nat} {d : Array α} (T : Task R lt a m b d) (h : ¬ (a < m ∧ m < b)) : Done R a b d d := by
  have h1 := T.ha; have h2 := T.hm
  rcases Nat.lt_or_ge a m with h3 | h3
  · obtain rfl : m = b := by omega
    exact Done.none_right T
  · obtain rfl : a = m := by omega
    exact Done.none_left T
theorem Task.congr {R : α → α → Prop} {lt : α → α → Bool} {a m b : Nat} {d d' : Array α} (T : Task R lt a m b d) (hs : d'.size = d.size) (h : ∀ k, a ≤ k → k < b → d'[k]! = d[k]!) : Task R lt a m b d' := by
  have h1 := T.ha; have h2 := T.hm
  exact ⟨T.ha, T.hm, by rw [hs]; exact T.hb, T.left.congr fun k hk hk' => h k hk (by omega), T.right.congr fun k hk hk' => h k (by omega) hk', fun i j hi hi' hj hj' hx => by
    rw [h i hi (by omega), h j (by omega) hj'] at hx ⊢
    exact T.cross i j hi hi' hj hj' hx⟩
theorem RotOk.refl (d : Array α) {s m e : Nat} (h : ¬ (s < m ∧ m < e)) (h1 : s ≤ m) (h2 : m ≤ e) : RotOk d d s m e := by
  refine ⟨rfl, fun k => ?_⟩
  unfold rotR
  (repeat' split) <;> first | rfl | (exfalso; omega) | (congr 1 <;> omega)

/-- What symMerge_func does, for parts of at most N. -/
def SymSpec (R : α → α → Prop) (lt : α → α → Bool) (enc : α → Value) (g : Nat) (lb : Array Value) (sf : Nat) (sb : Array Value) (blk off : Nat) (N : Nat) : Prop :=
  ∀ (d : Array α) (w : World), Env0 enc lt g lb sf sb blk off d.size w → Holds enc w blk off d → ∀ a m b : Int, 0 ≤ a → a < m → m < b → b - a ≤ N → Task R lt a.toNat m.toNat b.toNat d →
    Calls Try.prog 40 #[.agg #[.func (.func g) #[] lb, .func (.func sf) #[] sb], .int .i64 a, .int .i64 m, .int .i64 b] w fun e w' => e = .returned (.tuple #[]) ∧ ∃ d', At enc w blk off w' d' ∧ Done R a.toNat b.toNat d d'

set_option maxHeartbeats 4000000 in
set_option maxRecDepth 100000 in
theorem sym_hi {R : α → α → Prop} {enc : α → Value} {lt : α → α → Bool} (O : Ord R lt) {g : Nat} {lb : Array Value} {sf : Nat} {sb : Array Value} {blk off : Nat} {d : Array α} {w : World} (E : Env0 enc lt g lb sf sb blk off d.size w) (hH : Holds enc w blk off d) (a m b : Nat) (ham : a + 1 < m) (hmid : ((a : Int) + b) / 2 < m) (hmb : m + 1 < b) (T : Task R lt a m b d) (N : Nat) (hN : b - a ≤ N + 1) (IH : SymSpec R lt enc g lb sf sb blk off N) :
    Calls Try.prog 40 #[.agg #[.func (.func g) #[] lb, .func (.func sf) #[] sb], .int .i64 a, .int .i64 m, .int .i64 b] w fun e w' => e = .returned (.tuple #[]) ∧ ∃ d', At enc w blk off w' d' ∧ Done R a b d d' := by
  have hb := T.hb
  have hsz := E.small
  have hblk := E.lt
  have eg := E.eg
  have HA := Lib.hid ((At.start hH).alloc (.cells #[.func (.func g) #[] lb, .func (.func sf) #[] sb] 62))
  have HE := Lib.hid E
  have HH := Lib.hid hH
  have HT := Lib.hid T
  have HI := Lib.hid IH
  clear E hH T IH
  have hm1 : ((m : Int) - a == 1) = false := by rw [beq_eq_false_iff_ne]; omega
  have hm2 : ((b : Int) - m == 1) = false := by rw [beq_eq_false_iff_ne]; omega
  obtain ⟨s0, r0, hsr⟩ : ∃ s0 r0 : Nat, ((a + b) / 2 < m ∧ s0 = (a + b) / 2 + m - b ∧ r0 = (a + b) / 2) ∨ (m ≤ (a + b) / 2 ∧ s0 = a ∧ r0 = m) := by
    by_cases h : (a + b) / 2 < m
    · exact ⟨_, _, .inl ⟨h, rfl, rfl⟩⟩
    · exact ⟨_, _, .inr ⟨by omega, rfl, rfl⟩⟩
  have HSR := Lib.hid hsr
  have hsr1 : a ≤ s0 ∧ s0 ≤ r0 ∧ r0 ≤ m ∧ r0 ≤ (a + b) / 2 + m ∧ (a + b) / 2 + m ≤ b + s0 ∧ r0 ≤ (a + b) / 2 := by rcases hsr with ⟨h, rfl, rfl⟩ | ⟨h, rfl, rfl⟩ <;> omega
  clear hsr
  go_enter Try.func40, Try.ntmps40
  go_wp2
  go_loopw [18, 19] (fun vi vj wr => ∃ (i j q : Nat), vi = .int .i64 i ∧ vj = .int .i64 j ∧ s0 ≤ i ∧ i ≤ j ∧ j ≤ r0 ∧ Hid (wr = (w.alloc (.cells #[.func (.func g) #[] lb, .func (.func sf) #[] sb] 62)).drewN q) ∧ Hid (s0 < i → lt d[(a + b) / 2 + m - i]! d[i - 1]! = false) ∧ Hid (j < r0 → lt d[(a + b) / 2 + m - 1 - j]! d[j]! = true)) (fun vi vj _ => (intOf vj).toNat - (intOf vi).toNat)
  case atStart =>
    have := HSR.out
    exact ⟨s0, r0, 0, by congr 1; omega, by congr 1; omega, by omega, by omega, by omega, Lib.hid rfl, Lib.hid (fun h => by omega), Lib.hid (fun h => by omega)⟩
  case round =>
    obtain ⟨i, j, q, rfl, rfl, hi, hij, hj, HW, H1, H2⟩ := hrel
    by_cases hlt : i < j
    · have c0 : wr.cell? ⟨w.heap.size, 0, none⟩ = some (.func (.func g) #[] lb) := by rw [HW.out]; simp
      have HL := Lib.hid ((show At enc w blk off wr d by rw [HW.out]; exact HA.out.drewN q).less HE.out.less rfl (((a : Int) + b) / 2 + m - 1 - ((i : Int) + j) / 2) (((i : Int) + j) / 2) (by omega) (by omega) (by omega) (by omega))
      have hm : (((i : Int) + j) / 2).toNat = (i + j) / 2 := by omega
      have hm' : (((a : Int) + b) / 2 + m - 1 - ((i : Int) + j) / 2).toNat = (a + b) / 2 + m - 1 - (i + j) / 2 := by omega
      rw [hm, hm'] at HL
      clear hm hm'
      cases hx : lt d[(a + b) / 2 + m - 1 - (i + j) / 2]! d[(i + j) / 2]! with
      | true =>
        rw [hx] at HL
        have HX := Lib.hid hx
        clear hx
        go_wp2_with (go_at_fn g; refine HL.out.mono ?_; rintro e w' ⟨rfl, q', rfl⟩)
        go_roundw
        case rel => exact ⟨i, (i + j) / 2, q + q', rfl, by congr 1, by omega, by omega, by omega, Lib.hid (by rw [HW.out, World.drewN_drewN]), H1, Lib.hid (fun _ => HX.out)⟩
        case measure => simp [intOf]; omega
      | false =>
        rw [hx] at HL
        have HX := Lib.hid hx
        clear hx
        go_wp2_with (go_at_fn g; refine HL.out.mono ?_; rintro e w' ⟨rfl, q', rfl⟩)
        go_roundw
        case rel => exact ⟨(i + j) / 2 + 1, j, q + q', by congr 1, rfl, by omega, by omega, by omega, Lib.hid (by rw [HW.out, World.drewN_drewN]), Lib.hid (fun _ => by rw [Nat.add_sub_cancel, show (a + b) / 2 + m - ((i + j) / 2 + 1) = (a + b) / 2 + m - 1 - (i + j) / 2 by omega]; exact HX.out), H2⟩
        case measure => simp [intOf]; omega
    · obtain rfl : i = j := by omega
      obtain ⟨wo, rfl⟩ : ∃ wo : World, wo = wr := ⟨_, rfl⟩
      have HA1 : At enc w blk off wo d := by rw [HW.out]; exact HA.out.drewN q
      have hW1 : Holds enc wo blk off d := HA1.holds hblk HH.out rfl
      have c0 : wo.cell? ⟨w.heap.size, 0, none⟩ = some (.func (.func g) #[] lb) := by rw [HW.out]; simp
      have c1 : wo.cell? ⟨w.heap.size, 1, none⟩ = some (.func (.func sf) #[] sb) := by rw [HW.out]; simp
      have hne : w.heap.size ≠ blk := by omega
      have PL : Place lt a m b i ((a + b) / 2 + m - i) d := by
        have hq := HSR.out
        exact ⟨by omega, by omega, by omega, by omega, fun h1 h2 => H1.out (by omega), fun h1 h2 => by rw [show (a + b) / 2 + m - i - 1 = (a + b) / 2 + m - 1 - i by omega]; exact H2.out (by omega)⟩
      have he1 := PL.he; have he2 := PL.he'; have hs2 := PL.hs'; have hs1 := PL.hs
      have hE1 := HE.out.at HA1 rfl
      have HPL := Lib.hid PL
      clear PL HW
      have hz : i ≤ (a + b) / 2 := by omega
      have G0 : Hid (At enc w blk off wo d) := Lib.hid HA1
      have GH : Hid (Holds enc wo blk off d) := Lib.hid hW1
      have GE := Lib.hid hE1
      clear HA1 hW1 hE1 HSR H1 H2
      go_upto_region 40 with fail
      go_cut [145] (fun s wx => wo = wx ∧ ∃ tb : Bool, s = .bool tb ∧ Hid (tb = true ↔ (i < m ∧ m < (a + b) / 2 + m - i)))
      case first =>
        by_cases k1 : (i : Int) < m
        · by_cases k2 : (m : Int) < ((a : Int) + b) / 2 + m - i
          · go_wp2
            go_meet
            exact ⟨rfl, true, rfl, Lib.hid ⟨fun _ => by omega, fun _ => rfl⟩⟩
          · go_wp2
            go_meet
            exact ⟨rfl, false, rfl, Lib.hid ⟨(fun h => by cases h), (fun h => by omega)⟩⟩
        · go_wp2
          go_meet
          exact ⟨rfl, false, rfl, Lib.hid ⟨(fun h => by cases h), (fun h => by omega)⟩⟩
      case rest =>
        obtain ⟨rfl, tb, rfl, htb⟩ := hcut
        go_upto_if 145 with fail
        go_cut [] (fun wx => ∃ d1 : Array α, Hid (At enc w blk off wx d1) ∧ wx.cell? ⟨w.heap.size, 0, none⟩ = some (.func (.func g) #[] lb) ∧ wx.cell? ⟨w.heap.size, 1, none⟩ = some (.func (.func sf) #[] sb) ∧ Hid (RotOk d d1 i m ((a + b) / 2 + m - i)))
        case first =>
          cases tb with
          | true =>
            have hk := htb.out.1 rfl
            have HR := Lib.hid (rotate GE.out GH.out i m (((a : Int) + b) / 2 + m - i) (by omega) (by omega) (by omega) (by omega))
            go_wp2_with (go_at_call 41; refine HR.out.mono ?_; clear HR; rintro e1 w1 ⟨rfl, d1, hA1, hR⟩; have c01 := hA1.cell (a := ⟨w.heap.size, 0, none⟩) hne c0; have c11 := hA1.cell (a := ⟨w.heap.size, 1, none⟩) hne c1)
            go_meet
            rw [show (((a : Int) + b) / 2 + m - i).toNat = (a + b) / 2 + m - i by omega, Int.toNat_natCast, Int.toNat_natCast] at hR
            exact ⟨d1, Lib.hid (G0.out.trans hblk hA1 hR.size), c01, c11, Lib.hid hR⟩
          | false =>
            have hk : ¬ (i < m ∧ m < (a + b) / 2 + m - i) := fun h => by have := htb.out.2 h; cases this
            go_wp2
            go_meet
            exact ⟨d, G0, c0, c1, Lib.hid (RotOk.refl d hk hs2 he1)⟩
        case rest =>
          obtain ⟨d1, G1, c01, c11, hR⟩ := hcut
          clear c0 c1 GH GE G0 htb
          have hz1 := Lib.hid hR.out.size
          obtain ⟨T1, T2, X⟩ := merge_tasks O HT.out HPL.out (c := (a + b) / 2) (by omega) hR.out
          have HX := Lib.hid X
          clear X
          obtain ⟨wp, rfl⟩ : ∃ wp : World, wp = wc := ⟨_, rfl⟩
          have GE1 := Lib.hid (HE.out.at G1.out hz1.out)
          have GH1 := Lib.hid (G1.out.holds hblk HH.out hz1.out)
          go_upto_region 42 with fail
          go_cut [158] (fun s wx => wp = wx ∧ ∃ tb : Bool, s = .bool tb ∧ Hid (tb = true ↔ (a < i ∧ i < (a + b) / 2)))
          case first =>
            by_cases k1 : (a : Int) < i
            · by_cases k2 : (i : Int) < ((a : Int) + b) / 2
              · go_wp2
                go_meet
                exact ⟨rfl, true, rfl, Lib.hid ⟨fun _ => by omega, fun _ => rfl⟩⟩
              · go_wp2
                go_meet
                exact ⟨rfl, false, rfl, Lib.hid ⟨(fun h => by cases h), (fun h => by omega)⟩⟩
            · go_wp2
              go_meet
              exact ⟨rfl, false, rfl, Lib.hid ⟨(fun h => by cases h), (fun h => by omega)⟩⟩
          case rest =>
            obtain ⟨rfl, tb, rfl, htb⟩ := hcut
            go_upto_if 158 with fail
            go_cut [] (fun wx => ∃ d2 : Array α, Hid (At enc w blk off wx d2) ∧ wx.cell? ⟨w.heap.size, 0, none⟩ = some (.func (.func g) #[] lb) ∧ wx.cell? ⟨w.heap.size, 1, none⟩ = some (.func (.func sf) #[] sb) ∧ Hid (Done R a ((a + b) / 2) d1 d2))
            case first =>
              cases tb with
              | true =>
                have hk := htb.out.1 rfl
                have HL := Lib.hid (HI.out d1 wp (by rw [hz1.out]; exact GE1.out) GH1.out a i (((a : Int) + b) / 2) (by omega) (by omega) (by omega) (by omega) (by rw [show (((a : Int) + b) / 2).toNat = (a + b) / 2 by omega, Int.toNat_natCast, Int.toNat_natCast]; exact T1))
                go_wp2_with (go_at_call 40; refine HL.out.mono ?_; clear HL; rintro e2 w2 ⟨rfl, d2, hA2, hD2⟩; have c02 := hA2.cell (a := ⟨w.heap.size, 0, none⟩) hne c01; have c12 := hA2.cell (a := ⟨w.heap.size, 1, none⟩) hne c11)
                go_meet
                rw [show (((a : Int) + b) / 2).toNat = (a + b) / 2 by omega, Int.toNat_natCast] at hD2
                exact ⟨d2, Lib.hid (G1.out.trans hblk hA2 hD2.perm.1), c02, c12, Lib.hid hD2⟩
              | false =>
                have hk : ¬ (a < i ∧ i < (a + b) / 2) := fun h => by have := htb.out.2 h; cases this
                go_wp2
                go_meet
                exact ⟨d1, G1, c01, c11, Lib.hid (T1.triv hk)⟩
            case rest =>
              obtain ⟨d2, G2, c02, c12, hD2⟩ := hcut
              clear c01 c11 GH1 GE1 htb
              have hz2 := Lib.hid (hD2.out.perm.1.trans hz1.out)
              have T3 := T2.congr hD2.out.perm.1 fun k hk _ => hD2.out.perm.2.1 k (Or.inr hk)
              obtain ⟨wq, rfl⟩ : ∃ wq : World, wq = wc := ⟨_, rfl⟩
              have GE2 := Lib.hid (HE.out.at G2.out hz2.out)
              have GH2 := Lib.hid (G2.out.holds hblk HH.out hz2.out)
              go_upto_region 44 with fail
              go_cut [171] (fun s wx => wq = wx ∧ ∃ tb : Bool, s = .bool tb ∧ Hid (tb = true ↔ ((a + b) / 2 < (a + b) / 2 + m - i ∧ (a + b) / 2 + m - i < b)))
              case first =>
                by_cases k1 : ((a : Int) + b) / 2 < ((a : Int) + b) / 2 + m - i
                · by_cases k2 : ((a : Int) + b) / 2 + m - i < b
                  · go_wp2
                    go_meet
                    exact ⟨rfl, true, rfl, Lib.hid ⟨fun _ => by omega, fun _ => rfl⟩⟩
                  · go_wp2
                    go_meet
                    exact ⟨rfl, false, rfl, Lib.hid ⟨(fun h => by cases h), (fun h => by omega)⟩⟩
                · go_wp2
                  go_meet
                  exact ⟨rfl, false, rfl, Lib.hid ⟨(fun h => by cases h), (fun h => by omega)⟩⟩
              case rest =>
                obtain ⟨rfl, tb, rfl, htb⟩ := hcut
                cases tb with
                | true =>
                  have hk := htb.out.1 rfl
                  have HL := Lib.hid (HI.out d2 wq (by rw [hz2.out]; exact GE2.out) GH2.out (((a : Int) + b) / 2) (((a : Int) + b) / 2 + m - i) b (by omega) (by omega) (by omega) (by omega) (by rw [show (((a : Int) + b) / 2).toNat = (a + b) / 2 by omega, show (((a : Int) + b) / 2 + m - i).toNat = (a + b) / 2 + m - i by omega, Int.toNat_natCast]; exact T3))
                  go_wp2_with (go_at_call 40; refine HL.out.mono ?_; clear HL; rintro e3 w3 ⟨rfl, d3, hA3, hD3⟩)
                  rw [show (((a : Int) + b) / 2).toNat = (a + b) / 2 by omega, Int.toNat_natCast] at hD3
                  go_end0
                  exact ⟨rfl, d3, G2.out.trans hblk hA3 hD3.perm.1, merge_done HT.out hR.out hs1 hs2 he1 he2 (by omega) HX.out hD2.out hD3⟩
                | false =>
                  have hk : ¬ ((a + b) / 2 < (a + b) / 2 + m - i ∧ (a + b) / 2 + m - i < b) := fun h => by have := htb.out.2 h; cases this
                  go_wp2
                  go_end0
                  exact ⟨rfl, d2, G2.out, merge_done HT.out hR.out hs1 hs2 he1 he2 (by omega) HX.out hD2.out (T3.triv hk)⟩

set_option maxHeartbeats 4000000 in
set_option maxRecDepth 100000 in
theorem sym_lo {R : α → α → Prop} {enc : α → Value} {lt : α → α → Bool} (O : Ord R lt) {g : Nat} {lb : Array Value} {sf : Nat} {sb : Array Value} {blk off : Nat} {d : Array α} {w : World} (E : Env0 enc lt g lb sf sb blk off d.size w) (hH : Holds enc w blk off d) (a m b : Nat) (ham : a + 1 < m) (hmid : ¬ ((a : Int) + b) / 2 < m) (hmb : m + 1 < b) (T : Task R lt a m b d) (N : Nat) (hN : b - a ≤ N + 1) (IH : SymSpec R lt enc g lb sf sb blk off N) :
    Calls Try.prog 40 #[.agg #[.func (.func g) #[] lb, .func (.func sf) #[] sb], .int .i64 a, .int .i64 m, .int .i64 b] w fun e w' => e = .returned (.tuple #[]) ∧ ∃ d', At enc w blk off w' d' ∧ Done R a b d d' := by
  have hb := T.hb
  have hsz := E.small
  have hblk := E.lt
  have eg := E.eg
  have HA := Lib.hid ((At.start hH).alloc (.cells #[.func (.func g) #[] lb, .func (.func sf) #[] sb] 62))
  have HE := Lib.hid E
  have HH := Lib.hid hH
  have HT := Lib.hid T
  have HI := Lib.hid IH
  clear E hH T IH
  have hm1 : ((m : Int) - a == 1) = false := by rw [beq_eq_false_iff_ne]; omega
  have hm2 : ((b : Int) - m == 1) = false := by rw [beq_eq_false_iff_ne]; omega
  obtain ⟨s0, r0, hsr⟩ : ∃ s0 r0 : Nat, ((a + b) / 2 < m ∧ s0 = (a + b) / 2 + m - b ∧ r0 = (a + b) / 2) ∨ (m ≤ (a + b) / 2 ∧ s0 = a ∧ r0 = m) := by
    by_cases h : (a + b) / 2 < m
    · exact ⟨_, _, .inl ⟨h, rfl, rfl⟩⟩
    · exact ⟨_, _, .inr ⟨by omega, rfl, rfl⟩⟩
  have HSR := Lib.hid hsr
  have hsr1 : a ≤ s0 ∧ s0 ≤ r0 ∧ r0 ≤ m ∧ r0 ≤ (a + b) / 2 + m ∧ (a + b) / 2 + m ≤ b + s0 ∧ r0 ≤ (a + b) / 2 := by rcases hsr with ⟨h, rfl, rfl⟩ | ⟨h, rfl, rfl⟩ <;> omega
  clear hsr
  go_enter Try.func40, Try.ntmps40
  go_wp2
  go_loopw [18, 19] (fun vi vj wr => ∃ (i j q : Nat), vi = .int .i64 i ∧ vj = .int .i64 j ∧ s0 ≤ i ∧ i ≤ j ∧ j ≤ r0 ∧ Hid (wr = (w.alloc (.cells #[.func (.func g) #[] lb, .func (.func sf) #[] sb] 62)).drewN q) ∧ Hid (s0 < i → lt d[(a + b) / 2 + m - i]! d[i - 1]! = false) ∧ Hid (j < r0 → lt d[(a + b) / 2 + m - 1 - j]! d[j]! = true)) (fun vi vj _ => (intOf vj).toNat - (intOf vi).toNat)
  case atStart =>
    have := HSR.out
    exact ⟨s0, r0, 0, by congr 1; omega, by congr 1; omega, by omega, by omega, by omega, Lib.hid rfl, Lib.hid (fun h => by omega), Lib.hid (fun h => by omega)⟩
  case round =>
    obtain ⟨i, j, q, rfl, rfl, hi, hij, hj, HW, H1, H2⟩ := hrel
    by_cases hlt : i < j
    · have c0 : wr.cell? ⟨w.heap.size, 0, none⟩ = some (.func (.func g) #[] lb) := by rw [HW.out]; simp
      have HL := Lib.hid ((show At enc w blk off wr d by rw [HW.out]; exact HA.out.drewN q).less HE.out.less rfl (((a : Int) + b) / 2 + m - 1 - ((i : Int) + j) / 2) (((i : Int) + j) / 2) (by omega) (by omega) (by omega) (by omega))
      have hm : (((i : Int) + j) / 2).toNat = (i + j) / 2 := by omega
      have hm' : (((a : Int) + b) / 2 + m - 1 - ((i : Int) + j) / 2).toNat = (a + b) / 2 + m - 1 - (i + j) / 2 := by omega
      rw [hm, hm'] at HL
      clear hm hm'
      cases hx : lt d[(a + b) / 2 + m - 1 - (i + j) / 2]! d[(i + j) / 2]! with
      | true =>
        rw [hx] at HL
        have HX := Lib.hid hx
        clear hx
        go_wp2_with (go_at_fn g; refine HL.out.mono ?_; rintro e w' ⟨rfl, q', rfl⟩)
        go_roundw
        case rel => exact ⟨i, (i + j) / 2, q + q', rfl, by congr 1, by omega, by omega, by omega, Lib.hid (by rw [HW.out, World.drewN_drewN]), H1, Lib.hid (fun _ => HX.out)⟩
        case measure => simp [intOf]; omega
      | false =>
        rw [hx] at HL
        have HX := Lib.hid hx
        clear hx
        go_wp2_with (go_at_fn g; refine HL.out.mono ?_; rintro e w' ⟨rfl, q', rfl⟩)
        go_roundw
        case rel => exact ⟨(i + j) / 2 + 1, j, q + q', by congr 1, rfl, by omega, by omega, by omega, Lib.hid (by rw [HW.out, World.drewN_drewN]), Lib.hid (fun _ => by rw [Nat.add_sub_cancel, show (a + b) / 2 + m - ((i + j) / 2 + 1) = (a + b) / 2 + m - 1 - (i + j) / 2 by omega]; exact HX.out), H2⟩
        case measure => simp [intOf]; omega
    · obtain rfl : i = j := by omega
      obtain ⟨wo, rfl⟩ : ∃ wo : World, wo = wr := ⟨_, rfl⟩
      have HA1 : At enc w blk off wo d := by rw [HW.out]; exact HA.out.drewN q
      have hW1 : Holds enc wo blk off d := HA1.holds hblk HH.out rfl
      have c0 : wo.cell? ⟨w.heap.size, 0, none⟩ = some (.func (.func g) #[] lb) := by rw [HW.out]; simp
      have c1 : wo.cell? ⟨w.heap.size, 1, none⟩ = some (.func (.func sf) #[] sb) := by rw [HW.out]; simp
      have hne : w.heap.size ≠ blk := by omega
      have PL : Place lt a m b i ((a + b) / 2 + m - i) d := by
        have hq := HSR.out
        exact ⟨by omega, by omega, by omega, by omega, fun h1 h2 => H1.out (by omega), fun h1 h2 => by rw [show (a + b) / 2 + m - i - 1 = (a + b) / 2 + m - 1 - i by omega]; exact H2.out (by omega)⟩
      have he1 := PL.he; have he2 := PL.he'; have hs2 := PL.hs'; have hs1 := PL.hs
      have hE1 := HE.out.at HA1 rfl
      have HPL := Lib.hid PL
      clear PL HW
      have hz : i ≤ (a + b) / 2 := by omega
      have G0 : Hid (At enc w blk off wo d) := Lib.hid HA1
      have GH : Hid (Holds enc wo blk off d) := Lib.hid hW1
      have GE := Lib.hid hE1
      clear HA1 hW1 hE1 HSR H1 H2
      go_upto_region 40 with fail
      go_cut [145] (fun s wx => wo = wx ∧ ∃ tb : Bool, s = .bool tb ∧ Hid (tb = true ↔ (i < m ∧ m < (a + b) / 2 + m - i)))
      case first =>
        by_cases k1 : (i : Int) < m
        · by_cases k2 : (m : Int) < ((a : Int) + b) / 2 + m - i
          · go_wp2
            go_meet
            exact ⟨rfl, true, rfl, Lib.hid ⟨fun _ => by omega, fun _ => rfl⟩⟩
          · go_wp2
            go_meet
            exact ⟨rfl, false, rfl, Lib.hid ⟨(fun h => by cases h), (fun h => by omega)⟩⟩
        · go_wp2
          go_meet
          exact ⟨rfl, false, rfl, Lib.hid ⟨(fun h => by cases h), (fun h => by omega)⟩⟩
      case rest =>
        obtain ⟨rfl, tb, rfl, htb⟩ := hcut
        go_upto_if 145 with fail
        go_cut [] (fun wx => ∃ d1 : Array α, Hid (At enc w blk off wx d1) ∧ wx.cell? ⟨w.heap.size, 0, none⟩ = some (.func (.func g) #[] lb) ∧ wx.cell? ⟨w.heap.size, 1, none⟩ = some (.func (.func sf) #[] sb) ∧ Hid (RotOk d d1 i m ((a + b) / 2 + m - i)))
        case first =>
          cases tb with
          | true =>
            have hk := htb.out.1 rfl
            have HR := Lib.hid (rotate GE.out GH.out i m (((a : Int) + b) / 2 + m - i) (by omega) (by omega) (by omega) (by omega))
            go_wp2_with (go_at_call 41; refine HR.out.mono ?_; clear HR; rintro e1 w1 ⟨rfl, d1, hA1, hR⟩; have c01 := hA1.cell (a := ⟨w.heap.size, 0, none⟩) hne c0; have c11 := hA1.cell (a := ⟨w.heap.size, 1, none⟩) hne c1)
            go_meet
            rw [show (((a : Int) + b) / 2 + m - i).toNat = (a + b) / 2 + m - i by omega, Int.toNat_natCast, Int.toNat_natCast] at hR
            exact ⟨d1, Lib.hid (G0.out.trans hblk hA1 hR.size), c01, c11, Lib.hid hR⟩
          | false =>
            have hk : ¬ (i < m ∧ m < (a + b) / 2 + m - i) := fun h => by have := htb.out.2 h; cases this
            go_wp2
            go_meet
            exact ⟨d, G0, c0, c1, Lib.hid (RotOk.refl d hk hs2 he1)⟩
        case rest =>
          obtain ⟨d1, G1, c01, c11, hR⟩ := hcut
          clear c0 c1 GH GE G0 htb
          have hz1 := Lib.hid hR.out.size
          obtain ⟨T1, T2, X⟩ := merge_tasks O HT.out HPL.out (c := (a + b) / 2) (by omega) hR.out
          have HX := Lib.hid X
          clear X
          obtain ⟨wp, rfl⟩ : ∃ wp : World, wp = wc := ⟨_, rfl⟩
          have GE1 := Lib.hid (HE.out.at G1.out hz1.out)
          have GH1 := Lib.hid (G1.out.holds hblk HH.out hz1.out)
          go_upto_region 42 with fail
          go_cut [158] (fun s wx => wp = wx ∧ ∃ tb : Bool, s = .bool tb ∧ Hid (tb = true ↔ (a < i ∧ i < (a + b) / 2)))
          case first =>
            by_cases k1 : (a : Int) < i
            · by_cases k2 : (i : Int) < ((a : Int) + b) / 2
              · go_wp2
                go_meet
                exact ⟨rfl, true, rfl, Lib.hid ⟨fun _ => by omega, fun _ => rfl⟩⟩
              · go_wp2
                go_meet
                exact ⟨rfl, false, rfl, Lib.hid ⟨(fun h => by cases h), (fun h => by omega)⟩⟩
            · go_wp2
              go_meet
              exact ⟨rfl, false, rfl, Lib.hid ⟨(fun h => by cases h), (fun h => by omega)⟩⟩
          case rest =>
            obtain ⟨rfl, tb, rfl, htb⟩ := hcut
            go_upto_if 158 with fail
            go_cut [] (fun wx => ∃ d2 : Array α, Hid (At enc w blk off wx d2) ∧ wx.cell? ⟨w.heap.size, 0, none⟩ = some (.func (.func g) #[] lb) ∧ wx.cell? ⟨w.heap.size, 1, none⟩ = some (.func (.func sf) #[] sb) ∧ Hid (Done R a ((a + b) / 2) d1 d2))
            case first =>
              cases tb with
              | true =>
                have hk := htb.out.1 rfl
                have HL := Lib.hid (HI.out d1 wp (by rw [hz1.out]; exact GE1.out) GH1.out a i (((a : Int) + b) / 2) (by omega) (by omega) (by omega) (by omega) (by rw [show (((a : Int) + b) / 2).toNat = (a + b) / 2 by omega, Int.toNat_natCast, Int.toNat_natCast]; exact T1))
                go_wp2_with (go_at_call 40; refine HL.out.mono ?_; clear HL; rintro e2 w2 ⟨rfl, d2, hA2, hD2⟩; have c02 := hA2.cell (a := ⟨w.heap.size, 0, none⟩) hne c01; have c12 := hA2.cell (a := ⟨w.heap.size, 1, none⟩) hne c11)
                go_meet
                rw [show (((a : Int) + b) / 2).toNat = (a + b) / 2 by omega, Int.toNat_natCast] at hD2
                exact ⟨d2, Lib.hid (G1.out.trans hblk hA2 hD2.perm.1), c02, c12, Lib.hid hD2⟩
              | false =>
                have hk : ¬ (a < i ∧ i < (a + b) / 2) := fun h => by have := htb.out.2 h; cases this
                go_wp2
                go_meet
                exact ⟨d1, G1, c01, c11, Lib.hid (T1.triv hk)⟩
            case rest =>
              obtain ⟨d2, G2, c02, c12, hD2⟩ := hcut
              clear c01 c11 GH1 GE1 htb
              have hz2 := Lib.hid (hD2.out.perm.1.trans hz1.out)
              have T3 := T2.congr hD2.out.perm.1 fun k hk _ => hD2.out.perm.2.1 k (Or.inr hk)
              obtain ⟨wq, rfl⟩ : ∃ wq : World, wq = wc := ⟨_, rfl⟩
              have GE2 := Lib.hid (HE.out.at G2.out hz2.out)
              have GH2 := Lib.hid (G2.out.holds hblk HH.out hz2.out)
              go_upto_region 44 with fail
              go_cut [171] (fun s wx => wq = wx ∧ ∃ tb : Bool, s = .bool tb ∧ Hid (tb = true ↔ ((a + b) / 2 < (a + b) / 2 + m - i ∧ (a + b) / 2 + m - i < b)))
              case first =>
                by_cases k1 : ((a : Int) + b) / 2 < ((a : Int) + b) / 2 + m - i
                · by_cases k2 : ((a : Int) + b) / 2 + m - i < b
                  · go_wp2
                    go_meet
                    exact ⟨rfl, true, rfl, Lib.hid ⟨fun _ => by omega, fun _ => rfl⟩⟩
                  · go_wp2
                    go_meet
                    exact ⟨rfl, false, rfl, Lib.hid ⟨(fun h => by cases h), (fun h => by omega)⟩⟩
                · go_wp2
                  go_meet
                  exact ⟨rfl, false, rfl, Lib.hid ⟨(fun h => by cases h), (fun h => by omega)⟩⟩
              case rest =>
                obtain ⟨rfl, tb, rfl, htb⟩ := hcut
                cases tb with
                | true =>
                  have hk := htb.out.1 rfl
                  have HL := Lib.hid (HI.out d2 wq (by rw [hz2.out]; exact GE2.out) GH2.out (((a : Int) + b) / 2) (((a : Int) + b) / 2 + m - i) b (by omega) (by omega) (by omega) (by omega) (by rw [show (((a : Int) + b) / 2).toNat = (a + b) / 2 by omega, show (((a : Int) + b) / 2 + m - i).toNat = (a + b) / 2 + m - i by omega, Int.toNat_natCast]; exact T3))
                  go_wp2_with (go_at_call 40; refine HL.out.mono ?_; clear HL; rintro e3 w3 ⟨rfl, d3, hA3, hD3⟩)
                  rw [show (((a : Int) + b) / 2).toNat = (a + b) / 2 by omega, Int.toNat_natCast] at hD3
                  go_end0
                  exact ⟨rfl, d3, G2.out.trans hblk hA3 hD3.perm.1, merge_done HT.out hR.out hs1 hs2 he1 he2 (by omega) HX.out hD2.out hD3⟩
                | false =>
                  have hk : ¬ ((a + b) / 2 < (a + b) / 2 + m - i ∧ (a + b) / 2 + m - i < b) := fun h => by have := htb.out.2 h; cases this
                  go_wp2
                  go_end0
                  exact ⟨rfl, d2, G2.out, merge_done HT.out hR.out hs1 hs2 he1 he2 (by omega) HX.out hD2.out (T3.triv hk)⟩
end Go.Proofs.Ytelheeekbihfcac.Srt
