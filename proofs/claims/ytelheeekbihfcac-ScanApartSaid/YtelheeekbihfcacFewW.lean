/- The law ScanFew, walked. -/
import Derived.Test.YtelheeekbihfcacLivesW
set_option linter.unusedVariables false
set_option linter.unusedSimpArgs false
namespace Go.Proofs.Ytelheeekbihfcac.Srt
open Go.RowKit Go.Proofs Go.Proofs.Ytelheeekbihfcac.PScanAssigns Go.Proofs.YtelheeekbihfcacW.PrintWords Go.Proofs.YtelheeekbihfcacW.PrintMore

theorem rem65 (x : Int) : ∃ R : Nat, R ≤ 64 ∧ Value.int .i64 (wrap64 ((IntKind.u64.wrap x).tmod 65)) = Value.int .i64 R := by
  have h0 : 0 ≤ IntKind.u64.wrap x := by
    simp only [IntKind.wrap]
    first | exact Int.emod_nonneg _ (by decide) | (split <;> exact Int.emod_nonneg _ (by decide)) | (simp [IntKind.bits, IntKind.signed]; omega)
  rw [Int.tmod_eq_emod_of_nonneg h0]
  generalize IntKind.u64.wrap x = y at *
  refine ⟨(y % 65).toNat, by omega, ?_⟩
  rw [wrap_small _ (by omega) (by omega)]
  congr 1
  omega

set_option maxRecDepth 100000 in
set_option maxHeartbeats 4000000 in
theorem scan_few (A : Option Addr) (c0 : Nat) (l : List S40) (x : Int) (w : World) (hr0 : Kd.C k40 w A l.length l) (hc0 : l.length ≤ c0) :
    Calls Try.prog 5 #[.slice A l.length c0, .int .i64 x] w fun e w' => e = .returned (.bool true) ∧ Below w.heap.size w w' := by
  have HR := Lib.hid hr0
  clear hr0
  by_cases hbig : (300 : Int) < l.length
  · go_enter Try.func5, Try.ntmps5
    go_wp2_with (go_at_call 7; refine (lives_any _).mono ?_; rintro e w1 ⟨rfl, hb⟩; have HB := Lib.hid hb; clear hb)
    go_ret
    exact ⟨rfl, HB.out⟩
  · obtain ⟨b, hb, hgood⟩ := Good_f l (by omega)
    have hb1 := hb (l.length + 1) (Nat.le_refl _)
    clear hb
    have HG := Lib.hid (scan_Good.calls (l.length + 1) A c0 l b w HR.out hc0 hb1)
    cases b with
    | false =>
      clear hgood hb1
      go_enter Try.func5, Try.ntmps5
      go_wp2_with (first
        | (go_at_call 12; refine HG.out.mono ?_; clear HG; rintro e w1 ⟨rfl, h1⟩; have B1 := Lib.hid h1; clear h1)
        | (go_at_call 7; refine (lives_any _).mono ?_; rintro e w2 ⟨rfl, h1⟩; have B2 := Lib.hid h1; clear h1))
      go_ret
      exact ⟨rfl, below_step B1.out B2.out⟩
    | true =>
      have hgood' := hgood rfl
      have HGO := Lib.hid hgood'
      clear hgood hgood'
      obtain ⟨kp, hkp⟩ := Peak_f l (by omega) hb1
      have hpl : best l l.length ≤ l.length := best_le l _ _ (fun i _ => cnt_le l _ _)
      have HA := Lib.hid fun (R : Nat) => fun W => fun (hR : R ≤ 64) => fun hW : Below w.heap.size w W => assign_good (l.length + 1) A c0 l R W (Kd.C_below HR.out hW) hc0 hb1 (by omega) hR
      have HP := Lib.hid fun W => fun hW : Below w.heap.size w W => scan_Peak.calls kp A c0 l _ W (Kd.C_below HR.out hW) hc0 hkp
      clear hkp hb1
      go_enter Try.func5, Try.ntmps5
      go_upto_region 1 with fail
      go_cut [5] (fun s wx => (∃ R : Nat, R ≤ 64 ∧ s = .int .i64 R) ∧ w = wx)
      case first =>
        go_wp2
        go_meet
        exact ⟨rem65 x, rfl⟩
      case rest =>
        obtain ⟨⟨R, hR, rfl⟩, rfl⟩ := hcut
        go_upto_region 6 with (first
          | (go_at_call 12; refine HG.out.mono ?_; clear HG; rintro e w1 ⟨rfl, h1⟩; have B1 := Lib.hid h1; clear h1)
          | (go_at_call 8; refine (HA.out R _ hR B1.out).mono ?_; clear HA; rintro e w2 ⟨o, st, v, h1, h2, rfl, h3, h4⟩; have FF := Lib.hid (final HGO.out h1 h2); obtain ⟨A2, c2, rfl, hc2, hC⟩ := Kd.R_reads h3; have B2 := Lib.hid (below_step B1.out h4); clear h1 h2 h3 h4 hC B1)
          | (go_at_call 14; refine (HP.out _ B2.out).mono ?_; clear HP; rintro e w3 ⟨rfl, h1⟩; have B3 := Lib.hid (below_step B2.out h1); clear h1))
        have hs0 := FF.out.sl0
        have hs1 := FF.out.sl1
        have hs2 := FF.out.most
        have f1 : st.slots ≤ (l.length : Int) := hs1
        have f2 : ((best l l.length : Nat) : Int) - (R : Int) ≤ st.slots := by omega
        have f3 : ((best l l.length : Nat) : Int) ≤ (l.length : Int) := by omega
        have f4 : best l l.length ≤ l.length := hpl
        by_cases hp : R < best l l.length
        · go_wp2_with (go_at_call 7; refine (lives_any _).mono ?_; rintro e w4 ⟨rfl, h1⟩; have B4 := Lib.hid h1; clear h1)
          go_ret
          exact ⟨rfl, below_step B3.out B4.out⟩
        · have hz := FF.out.few (by omega)
          rw [hz] at f1 f2 hs0 hs1 hs2 ⊢
          go_wp2_with (go_at_call 7; refine (lives_any _).mono ?_; rintro e w4 ⟨rfl, h1⟩; have B4 := Lib.hid h1; clear h1)
          go_ret
          exact ⟨rfl, below_step B3.out B4.out⟩
end Go.Proofs.Ytelheeekbihfcac.Srt
