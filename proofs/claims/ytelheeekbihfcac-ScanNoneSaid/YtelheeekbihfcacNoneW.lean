/- The law ScanNone, walked. -/
import Derived.Test.YtelheeekbihfcacLivesW
set_option linter.unusedVariables false
set_option linter.unusedSimpArgs false
namespace Go.Proofs.Ytelheeekbihfcac.Srt
open Go.RowKit Go.Proofs Go.Proofs.Ytelheeekbihfcac.PScanAssigns Go.Proofs.YtelheeekbihfcacW.PrintWords Go.Proofs.YtelheeekbihfcacW.PrintMore

set_option maxRecDepth 100000 in
set_option maxHeartbeats 4000000 in
theorem scan_none (A : Option Addr) (c0 : Nat) (l : List S40) (w : World) (hr0 : Kd.C k40 w A l.length l) (hc0 : l.length ≤ c0) :
    Calls Try.prog 6 #[.slice A l.length c0] w fun e w' => e = .returned (.bool true) ∧ Below w.heap.size w w' := by
  have HR := Lib.hid hr0
  clear hr0
  by_cases hbig : (200 : Int) < l.length
  · go_enter Try.func6, Try.ntmps6
    go_wp2_with (go_at_call 7; refine (lives_any _).mono ?_; rintro e w1 ⟨rfl, hb⟩; have HB := Lib.hid hb; clear hb)
    go_ret
    exact ⟨rfl, HB.out⟩
  · obtain ⟨b, hb, hgood⟩ := Good_f l (by omega)
    have hb1 := hb (l.length + 1) (Nat.le_refl _)
    clear hb
    have HG := Lib.hid (scan_Good.calls (l.length + 1) A c0 l b w HR.out hc0 hb1)
    cases b with
    | false =>
      clear hgood hb1
      go_enter Try.func6, Try.ntmps6
      go_wp2_with (first
        | (go_at_call 12; refine HG.out.mono ?_; clear HG; rintro e w1 ⟨rfl, h1⟩; have B1 := Lib.hid h1; clear h1)
        | (go_at_call 7; refine (lives_any _).mono ?_; rintro e w2 ⟨rfl, h1⟩; have B2 := Lib.hid h1; clear h1))
      go_ret
      exact ⟨rfl, below_step B1.out B2.out⟩
    | true =>
      have hgood' := hgood rfl
      have HGO := Lib.hid hgood'
      clear hgood hgood'
      obtain ⟨kp, hkp⟩ := Peak_f l (by omega) hb1
      have HA := Lib.hid fun W => fun hW : Below w.heap.size w W => (by have h := assign_good (l.length + 1) A c0 l 0 W (Kd.C_below HR.out hW) hc0 hb1 (by omega) (by decide); exact h : Calls Try.prog 8 #[.slice A l.length c0, .int .i64 0] W (Assigned l 0 W))
      have HP := Lib.hid fun W => fun hW : Below w.heap.size w W => scan_Peak.calls kp A c0 l _ W (Kd.C_below HR.out hW) hc0 hkp
      clear hkp hb1
      go_enter Try.func6, Try.ntmps6
      go_wp2_with (first
        | (go_at_call 12; refine HG.out.mono ?_; clear HG; rintro e w1 ⟨rfl, h1⟩; have B1 := Lib.hid h1; clear h1)
        | (go_at_call 8; refine (HA.out _ B1.out).mono ?_; clear HA; rintro e w2 ⟨o, st, v, h1, h2, rfl, h3, h4⟩; have FF := Lib.hid (final HGO.out h1 h2); obtain ⟨A2, c2, rfl, hc2, hC⟩ := Kd.R_reads h3; have HC2 := Lib.hid hC; have B2 := Lib.hid (below_step B1.out h4); clear h1 h2 h3 h4 hC B1))
      have hrl := FF.out.rl
      go_loop [23] (fun vi => ∃ i : Nat, vi = .int .i64 i ∧ i ≤ st.rooms.length) (fun vi => st.rooms.length - (intOf vi).toNat)
      case atStart => exact ⟨0, by go_num, Nat.zero_le _⟩
      case round =>
        obtain ⟨i, rfl, hi⟩ := hrel
        by_cases hlt : i < st.rooms.length
        · obtain ⟨ad, e1, hx⟩ := Kd.at_int HC2.out (i : Int) (by omega) (by omega)
          subst e1
          rw [Int.toNat_natCast] at hx
          have hneg : ¬ (0 : Int) ≤ rd st.rooms i := by have := (FF.out.none rfl).1 i (by omega); omega
          have g1 : (0 : Int) ≤ i := by omega
          have g2 : (i : Int) < st.rooms.length := by omega
          go_wp2
          go_round
          case rel => exact ⟨i + 1, by go_num, by omega⟩
          case measure => simp [intOf]; omega
        · obtain rfl : i = st.rooms.length := by omega
          have hsl : st.slots = ((best l l.length : Nat) : Int) := (FF.out.none rfl).2
          go_wp2_with (first
            | (go_at_call 14; refine (HP.out _ B2.out).mono ?_; clear HP; rintro e w3 ⟨rfl, h1⟩; have B3 := Lib.hid (below_step B2.out h1); clear h1)
            | (go_at_call 7; refine (lives_any _).mono ?_; rintro e w4 ⟨rfl, h1⟩; have B4 := Lib.hid h1; clear h1))
          go_ret
          exact ⟨rfl, below_step B3.out B4.out⟩
end Go.Proofs.Ytelheeekbihfcac.Srt
