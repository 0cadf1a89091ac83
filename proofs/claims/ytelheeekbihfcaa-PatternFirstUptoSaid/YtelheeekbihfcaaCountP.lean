/- The law's light, its count of the program that it builds. -/
import Derived.Test.YtelheeekbihfcaaCountB
set_option linter.unusedVariables false
set_option linter.unusedSimpArgs false
namespace Go.Proofs.Ytelheeekbihfcaa.Pt
open Go.RowKit Go.Proofs Go.Proofs.Ytelheeekbihfcaa.PPatternFirst Go.Proofs.YtelheeekbihfcaaW.PrintWords Go.Proofs.YtelheeekbihfcaaW.PrintMore Go.Proofs.YtelheeekbihfcaaW.PrintLast

/-- The one Def that light builds. -/
def defB (A : Option Addr) (n c : Nat) : Array Value := #[.int .i64 0, .string ⟨#[]⟩, .slice none 0 0, .slice none 0 0, .int .i64 0, .int .i64 0, .string ⟨#[]⟩, .slice none 0 0, .slice none 0 0, .slice A n c, .bool false, .int .i64 0]

set_option maxRecDepth 100000 in
set_option maxHeartbeats 8000000 in
theorem prog_ok (w0 : World) (g : Nat) (ps : List S53) (D : Nat) (A4 : Option Addr) (c4 : Nat) (w : World) (hG : CG w0 g w) (hD : w0.heap[D]? = some (.cells (defB A4 ps.length c4) 66 (0, 0))) (hC : Kd.C kArm w0 A4 ps.length ps) (hc4 : ps.length ≤ c4) (hnp : nodesL ps ≤ 1000000) :
    Calls Try.prog 36 #[.pointer (some ⟨g, 0, none⟩), .agg #[.slice (some ⟨D, 0, none⟩) 1 1, .int .i64 0, .string ⟨#[]⟩, .slice none 0 0]] w (Told g w) := by
  have HC := Lib.hid hC
  have HG := Lib.hid hG
  have HD := Lib.hid hD
  clear hC hG hD
  go_enter Try.func36, Try.ntmps36
  go_upto_region 1 with fail
  have hbl := below_alloc (Below.refl _ w) (.cells #[.slice (some ⟨D, 0, none⟩) 1 1, .int .i64 0, .string ⟨#[]⟩, .slice none 0 0] 69)
  have XB := Lib.hid (blk_new w (.cells #[.slice (some ⟨D, 0, none⟩) 1 1, .int .i64 0, .string ⟨#[]⟩, .slice none 0 0] 69))
  have K1 := Lib.hid (KG.of_below HG.out.n hbl)
  have hgb : w.heap.size ≠ g := by have := HG.out.n.lt; omega
  clear hbl
  generalize w.alloc (.cells #[.slice (some ⟨D, 0, none⟩) 1 1, .int .i64 0, .string ⟨#[]⟩, .slice none 0 0] 69) = W1 at *
  have G1 := Lib.hid (HG.out.keep K1.out)
  generalize w.heap.size = gb at *
  go_wp2
  go_loopw [6, 5] (fun v6 v5 wr => ∃ (i : Nat) (m : Int), v6 = .int .i64 i ∧ v5 = .int .i64 m ∧ i ≤ 1 ∧ Hid (KG g W1 wr)) (fun v6 _ _ => 1 - (intOf v6).toNat)
  case atStart => exact ⟨0, 0, by go_num, rfl, Nat.zero_le _, Lib.hid (KG.refl G1.out.n)⟩
  case round =>
    obtain ⟨i, m, rfl, rfl, hi, HK⟩ := hrel
    obtain ⟨wq, hwq⟩ : ∃ wq, wq = wr := ⟨_, rfl⟩
    subst hwq
    have XQ := Lib.hid (HK.out.blk XB.out hgb)
    have GQ := Lib.hid (G1.out.keep HK.out)
    have k0 := blk_cell XQ.out 0
    have k3 := blk_cell XQ.out 3
    by_cases hlt : i < 1
    · obtain rfl : i = 0 := by omega
      go_upto_region 6 with (go_at_call 41; refine (add_call g _ GQ.out.n).mono ?_; rintro e w2 ⟨b, rfl, hk⟩; have K2 := Lib.hid (HK.out.trans hk); have G2 := Lib.hid (GQ.out.keep hk); have X2 := Lib.hid (hk.blk XQ.out hgb); clear hk)
      clear k0 k3 XQ GQ
      have k0 := blk_cell X2.out 0
      have D2 := Lib.hid ((G2.out.b.block D (blk_lt HD.out)).trans HD.out)
      have d2 : w2.cell? ⟨D, 2, none⟩ = some (.slice none 0 0) := blk_cell D2.out 2
      go_wp2
      go_loopw [7] (fun v7 wr => v7 = .int .i64 0 ∧ Hid (wr = w2)) (fun _ _ => 0)
      case atStart => exact ⟨rfl, Lib.hid rfl⟩
      case round =>
        obtain ⟨rfl, HW⟩ := hrel
        have hw := HW.out
        subst hw
        have e3 : wr.cell? ⟨D, 3, none⟩ = some (.slice none 0 0) := blk_cell D2.out 3
        have e4 : wr.cell? ⟨D, 4, none⟩ = some (.int .i64 0) := blk_cell D2.out 4
        have e5 : wr.cell? ⟨D, 5, none⟩ = some (.int .i64 0) := blk_cell D2.out 5
        have e6 : wr.cell? ⟨D, 6, none⟩ = some (.string ⟨#[]⟩) := blk_cell D2.out 6
        have e7 : wr.cell? ⟨D, 7, none⟩ = some (.slice none 0 0) := blk_cell D2.out 7
        have e8 : wr.cell? ⟨D, 8, none⟩ = some (.slice none 0 0) := blk_cell D2.out 8
        have e9 : wr.cell? ⟨D, 9, none⟩ = some (.slice A4 ps.length c4) := blk_cell D2.out 9
        have e10 : wr.cell? ⟨D, 10, none⟩ = some (.bool false) := blk_cell D2.out 10
        have e11 : wr.cell? ⟨D, 11, none⟩ = some (.int .i64 0) := blk_cell D2.out 11
        go_upto_region 4 with (go_at_call 42; refine (body_any w0 g ps none 0 0 0 ⟨#[]⟩ none 0 none 0 A4 c4 false 0 65 _ G2.out HC.out hc4 hnp).mono ?_; rintro e w3 ⟨v3, rfl, hk⟩; have K3 := Lib.hid (K2.out.trans hk); clear hk)
        generalize (if m < v3 then v3 else m) = m1
        clear k0 d2 e3 e4 e5 e6 e7 e8 e9 e10 e11
        go_wp2
        go_roundw
        case rel => exact ⟨1, m1, by go_num, rfl, Nat.le_refl _, K3⟩
        case measure => simp [intOf]
    · obtain rfl : i = 1 := by omega
      go_wp2_with (go_at_call 43; refine (exprs_nil g _ GQ.out.n none 0 65).mono ?_; rintro e w2 ⟨v2, rfl, hk⟩; have K2 := Lib.hid (HK.out.trans hk); clear hk)
      all_goals
        go_ret
        exact ⟨_, rfl, K1.out.trans K2.out⟩
end Go.Proofs.Ytelheeekbihfcaa.Pt
