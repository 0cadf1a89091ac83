/- The law ScanApart, walked. -/
import Derived.Test.YtelheeekbihfcacFewW
import Derived.Test.YtelheeekbihfcacPScanAssignsx3
set_option linter.unusedVariables false
set_option linter.unusedSimpArgs false
namespace Go.Proofs.Ytelheeekbihfcac.Srt
open Go.RowKit Go.Proofs Go.Proofs.Ytelheeekbihfcac.PScanAssigns Go.Proofs.YtelheeekbihfcacW.PrintWords Go.Proofs.YtelheeekbihfcacW.PrintMore

theorem meet_f (a b : S40) : postbagref18_Meet.f a.f0 a.f1 b.f0 b.f1 = some (meetsB a b) := by
  unfold postbagref18_Meet.f meetsB
  split <;> simp [*]

set_option maxRecDepth 100000 in
set_option maxHeartbeats 4000000 in
theorem scan_apart (A : Option Addr) (c0 : Nat) (l : List S40) (x : Int) (w : World) (hr0 : Kd.C k40 w A l.length l) (hc0 : l.length ≤ c0) :
    Calls Try.prog 4 #[.slice A l.length c0, .int .i64 x] w fun e w' => e = .returned (.bool true) ∧ Below w.heap.size w w' := by
  have HR := Lib.hid hr0
  clear hr0
  by_cases hbig : (300 : Int) < l.length
  · go_enter Try.func4, Try.ntmps4
    go_wp2_with (go_at_call 7; refine (lives_any _).mono ?_; rintro e w1 ⟨rfl, hb⟩; have HB := Lib.hid hb; clear hb)
    go_ret
    exact ⟨rfl, HB.out⟩
  · obtain ⟨b, hb, hgood⟩ := Good_f l (by omega)
    have hb1 := hb (l.length + 1) (Nat.le_refl _)
    clear hb
    have HG := Lib.hid (scan_Good.calls (l.length + 1) A c0 l b w HR.out hc0 hb1)
    cases b with
    | false =>
      clear hgood hb1
      go_enter Try.func4, Try.ntmps4
      go_wp2_with (first
        | (go_at_call 12; refine HG.out.mono ?_; clear HG; rintro e w1 ⟨rfl, h1⟩; have B1 := Lib.hid h1; clear h1)
        | (go_at_call 7; refine (lives_any _).mono ?_; rintro e w2 ⟨rfl, h1⟩; have B2 := Lib.hid h1; clear h1))
      go_ret
      exact ⟨rfl, below_step B1.out B2.out⟩
    | true =>
      have hgood' := hgood rfl
      have HGO := Lib.hid hgood'
      clear hgood hgood'
      have HA := Lib.hid fun (R : Nat) => fun W => fun (hR : R ≤ 64) => fun hW : Below w.heap.size w W => assign_good (l.length + 1) A c0 l R W (Kd.C_below HR.out hW) hc0 hb1 (by omega) hR
      clear hb1
      go_enter Try.func4, Try.ntmps4
      go_upto_region 1 with fail
      go_cut [5] (fun s wx => (∃ R : Nat, R ≤ 64 ∧ s = .int .i64 R) ∧ w = wx)
      case first =>
        go_wp2
        go_meet
        exact ⟨rem65 x, rfl⟩
      case rest =>
        obtain ⟨⟨R, hR, rfl⟩, rfl⟩ := hcut
        go_wp2_with (first
          | (go_at_call 12; refine HG.out.mono ?_; clear HG; rintro e w1 ⟨rfl, h1⟩; have B1 := Lib.hid h1; clear h1)
          | (go_at_call 8; refine (HA.out R _ hR B1.out).mono ?_; clear HA; rintro e w2 ⟨o, st, v, h1, h2, rfl, h3, h4⟩; have FF := Lib.hid (final HGO.out h1 h2); obtain ⟨A2, c2, rfl, hc2, hC⟩ := Kd.R_reads h3; have HC2 := Lib.hid hC; have B2 := Lib.hid (below_step B1.out h4); have hrl := FF.out.rl; clear h1 h2 h3 h4 hC B1))
        have hs0 := FF.out.sl0
        have hs1 := FF.out.sl1
        go_loopw [36] (fun vi wr => ∃ i : Nat, vi = .int .i64 i ∧ i ≤ l.length ∧ Hid (Below w2.heap.size w2 wr)) (fun vi _ => l.length - (intOf vi).toNat)
        case atStart => exact ⟨0, by go_num, Nat.zero_le _, Lib.hid (Below.refl _ _)⟩
        case round =>
          obtain ⟨i, rfl, hi, BW⟩ := hrel
          by_cases hlt : i < l.length
          · obtain ⟨ad, e1, hx⟩ := Kd.at_int (Kd.C_below HC2.out BW.out) (i : Int) (by omega) (by omega)
            subst e1
            rw [Int.toNat_natCast] at hx
            have hrng := FF.out.rng i hlt
            have n1 : ¬ (R : Int) ≤ rd st.rooms i := by omega
            have n2 : ¬ rd st.rooms i < -st.slots := by omega
            have g1 : (0 : Int) ≤ i := by omega
            have g2 : (i : Int) < st.rooms.length := by omega
            have g3 : (i : Int) < l.length := by omega
            obtain ⟨wo, rfl⟩ : ∃ wo : World, wo = wr := ⟨_, rfl⟩
            go_wp2
            go_loopw [55] (fun vj wr => ∃ j : Nat, vj = .int .i64 j ∧ j ≤ i ∧ Hid (Below w2.heap.size w2 wr)) (fun vj _ => i - (intOf vj).toNat)
            case atStart => exact ⟨0, by go_num, Nat.zero_le _, BW⟩
            case round =>
              obtain ⟨j, rfl, hj, BJ⟩ := hrel
              by_cases hjl : j < i
              · obtain ⟨ad1, e1, hi1⟩ := Kd.at_int (Kd.C_below HC2.out BJ.out) (i : Int) (by omega) (by omega)
                obtain rfl : ad = ad1 := by injection e1
                obtain ⟨ad2, e2, hj1⟩ := Kd.at_int (Kd.C_below HC2.out BJ.out) (j : Int) (by omega) (by omega)
                obtain rfl : ad = ad2 := by injection e2
                have BWJ := Lib.hid (below_step B2.out BJ.out)
                obtain ⟨al, e3, hi2, hi3⟩ := at_T40 (Kd.C_below HR.out BWJ.out) (i : Int) (by omega) (by omega)
                obtain ⟨al2, e4, hj2, hj3⟩ := at_T40 (Kd.C_below HR.out BWJ.out) (j : Int) (by omega) (by omega)
                subst e3
                obtain rfl : al = al2 := by injection e4
                rw [Int.toNat_natCast] at hi1 hj1 hi2 hi3 hj2 hj3
                clear e1 e2 e4 hx
                have g4 : (0 : Int) ≤ j := by omega
                have g5 : (j : Int) < st.rooms.length := by omega
                have g6 : (j : Int) < l.length := by omega
                have g7 : (j : Int) < i := by omega
                by_cases heq : rd st.rooms i = rd st.rooms j
                · have hm := FF.out.apart i j hlt (by omega) (by omega) heq
                  have HM := Lib.hid (meet_f (rd_T40 l i) (rd_T40 l j))
                  rw [hm] at HM
                  obtain ⟨y, hy⟩ : ∃ y, rd st.rooms (j : Int) = y := ⟨_, rfl⟩
                  rw [hy] at hj1
                  rw [heq, hy] at hi1
                  clear hm heq hy
                  go_wp2
                  go_still_tail 18, (by kernel_rfl)
                  change wpList _ _ _ _ _ wr.drew
                  generalize hw5 : wr.drew = w5
                  have HW5 := Lib.hid hw5
                  clear hw5
                  go_wp2_with (go_at_call 16; refine (postbagref18_Meet.calls _ _ _ _ false _ HM.out).mono ?_; rintro e w6 ⟨rfl, h6⟩; have B6 := Lib.hid h6; clear h6)
                  go_roundw
                  case rel =>
                    refine ⟨j + 1, by go_num, by omega, Lib.hid ?_⟩
                    have h6 := B6.out
                    rw [← HW5.out] at h6
                    exact below_then (w1 := wr.drew) ⟨BJ.out.os, BJ.out.tape, BJ.out.output, BJ.out.size, BJ.out.block⟩ BJ.out.size h6
                  case measure => simp [intOf]; omega
                · go_wp2
                  go_quiet (fail)
                  go_wp2
                  go_roundw
                  case rel => exact ⟨j + 1, by go_num, by omega, Lib.hid ⟨BJ.out.os, BJ.out.tape, BJ.out.output, BJ.out.size, BJ.out.block⟩⟩
                  case measure => simp [intOf]; omega
              · obtain rfl : i = j := by omega
                go_wp2
                go_roundw
                case rel => exact ⟨i + 1, by go_num, by omega, BJ⟩
                case measure => simp [intOf]; omega
          · obtain rfl : i = l.length := by omega
            go_wp2_with (go_at_call 7; refine (lives_any _).mono ?_; rintro e w4 ⟨rfl, h1⟩; have B4 := Lib.hid h1; clear h1)
            go_ret
            exact ⟨rfl, below_step (below_step B2.out BW.out) B4.out⟩
end Go.Proofs.Ytelheeekbihfcac.Srt
