/- The law ScanAssigns, walked. -/
import Derived.Test.YtelheeekbihfcacRef
set_option linter.unusedVariables false
set_option linter.unusedSimpArgs false
namespace Go.Proofs.Ytelheeekbihfcac.Srt
open Go.RowKit Go.Proofs Go.Proofs.Ytelheeekbihfcac.PScanAssigns Go.Proofs.YtelheeekbihfcacW.PrintWords Go.Proofs.YtelheeekbihfcacW.PrintMore

set_option maxRecDepth 100000 in
set_option maxHeartbeats 4000000 in
theorem scan_assigns (A : Option Addr) (c0 : Nat) (l : List S40) (x : Int) (w : World) (hr0 : Kd.C k40 w A l.length l) (hc0 : l.length ≤ c0) :
    Calls Try.prog 3 #[.slice A l.length c0, .int .i64 x] w fun e w' => e = .returned (.bool true) ∧ Below w.heap.size w w' := by
  have HR := Lib.hid hr0
  clear hr0
  by_cases hbig : (60 : Int) < l.length
  · go_enter Try.func3, Try.ntmps3
    go_wp2_with (go_at_call 7; refine (lives_any _).mono ?_; rintro e w1 ⟨rfl, hb⟩; have HB := Lib.hid hb; clear hb)
    go_ret
    exact ⟨rfl, HB.out⟩
  · obtain ⟨b, hb, hgood⟩ := Good_f l (by omega)
    have hb1 := hb (l.length + 1) (Nat.le_refl _)
    clear hb hgood
    obtain ⟨kr, hkr⟩ := ref_good_f l (by omega) b ⟨_, hb1⟩
    obtain ⟨p, ⟨kp, hkp⟩, kq, hkq⟩ := peaks l (by omega)
    obtain ⟨ko, hko⟩ := of_f l (by omega)
    have HA := Lib.hid fun W => fun hW : Below w.heap.size w W => assign_any A c0 l x W (Kd.C_below HR.out hW) hc0 (by omega)
    have HG := Lib.hid fun W => fun hW : Below w.heap.size w W => scan_Good.calls (l.length + 1) A c0 l b W (Kd.C_below HR.out hW) hc0 hb1
    have HP := Lib.hid fun W => fun hW : Below w.heap.size w W => scan_Peak.calls kp A c0 l p W (Kd.C_below HR.out hW) hc0 hkp
    have HO := Lib.hid fun W => fun hW : Below w.heap.size w W => postbaglaw18_of.calls ko A c0 l (twin l) W (Kd.C_below HR.out hW) hc0 hko
    have HO' := Lib.hid HO.out
    have HRG := Lib.hid fun (A1 : Option Addr) (c1 : Nat) W hC hc => postbagref18_Good.calls kr A1 c1 (twin l) b W hC hc hkr
    have HRP := Lib.hid fun (A1 : Option Addr) (c1 : Nat) W hC hc => postbagref18_Peak.calls kq A1 c1 (twin l) p W hC hc hkq
    clear hb1 hkr hkp hkq hko
    go_enter Try.func3, Try.ntmps3
    go_upto_region 5 with (first
      | (go_at_call 8; refine (HA.out _ (Below.refl _ _)).mono ?_; clear HA; rintro e w1 ⟨v, rooms, slots, rfl, h3, h4, hlen, K, hK⟩; have B1 := Lib.hid h4; obtain ⟨A2, c2, rfl, hc2, hC2⟩ := Kd.R_reads h3; have HC2 := Lib.hid hC2; have HK := Lib.hid hK; have HL := Lib.hid hlen; have Hc2 := Lib.hid hc2; clear h3 h4 hlen hK hC2 hc2)
      | (go_at_call 10; refine (HO.out _ B1.out).mono ?_; rintro e w2 ⟨v2, rfl, h3, h4⟩; have B2 := Lib.hid (below_step B1.out h4); have E2 := Lib.hid (Kd.C_below HC2.out h4); obtain ⟨A3, c3, rfl, hc3, hC3⟩ := Kd.R_reads h3; have HC3 := Lib.hid hC3; have Hc3 := Lib.hid hc3; clear h3 h4 hc3 hC3)
      | (go_at_call 9; rw [← twin_len l] at *; refine (postbagref18_Assign.calls K _ _ (twin l) x rooms slots _ HC3.out Hc3.out HK.out).mono ?_; rintro e w3 ⟨v3, rfl, h3, h4⟩; have B3 := Lib.hid (below_step B2.out h4); have E3 := Lib.hid (Kd.C_below E2.out h4); obtain ⟨A4, c4, rfl, hc4, hC4⟩ := Kd.R_reads h3; have HC4 := Lib.hid hC4; have Hc4 := Lib.hid hc4; clear h3 h4 hc4 hC4))
    obtain ⟨kI, hI⟩ := ints_f rooms HL.out
    have HI := Lib.hid hI
    have BW := Lib.hid B3.out
    clear hI HO HK HL B1 B2 B3
    have HO := Lib.hid HO'.out
    clear HO'
    go_wp2_with (first
      | (go_at_call 11; refine (postbagref02_Ints.calls kI _ _ rooms _ _ rooms true _ E3.out Hc2.out HC4.out Hc4.out HI.out).mono ?_; clear HI E2 E3 HC4 HC3 HC2; rintro e w4 ⟨rfl, hd⟩; replace BW := Lib.hid (below_step BW.out hd.below); clear hd)
      | (go_at_call 12; refine (HG.out _ BW.out).mono ?_; clear HG; rintro e w5 ⟨rfl, h1⟩; replace BW := Lib.hid (below_step BW.out h1); clear h1)
      | (go_at_call 10; refine (HO.out _ BW.out).mono ?_; rintro e w6 ⟨v6, rfl, h3, h4⟩; replace BW := Lib.hid (below_step BW.out h4); obtain ⟨A6, c6, rfl, hc6, hC6⟩ := Kd.R_reads h3; have HC6 := Lib.hid hC6; have Hc6 := Lib.hid hc6; clear h3 h4 hc6 hC6)
      | (go_at_call 13; refine (HRG.out _ _ _ HC6.out Hc6.out).mono ?_; clear HRG HC6 Hc6; rintro e w7 ⟨rfl, hd⟩; replace BW := Lib.hid (below_step BW.out hd.below); clear hd)
      | (go_at_call 14; refine (HP.out _ BW.out).mono ?_; clear HP; rintro e w8 ⟨rfl, h1⟩; replace BW := Lib.hid (below_step BW.out h1); clear h1)
      | (go_at_call 15; refine (HRP.out _ _ _ HC6.out Hc6.out).mono ?_; clear HRP HC6 Hc6; rintro e w9 ⟨rfl, h1⟩; replace BW := Lib.hid (below_step BW.out h1); clear h1)
      | (go_at_call 7; refine (lives_any _).mono ?_; rintro e w10 ⟨rfl, h1⟩; replace BW := Lib.hid (below_step BW.out h1); clear h1))
    go_ret
    exact ⟨rfl, BW.out⟩
end Go.Proofs.Ytelheeekbihfcac.Srt
