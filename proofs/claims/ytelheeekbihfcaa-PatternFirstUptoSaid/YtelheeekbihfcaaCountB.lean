/- The law's light, its count of a body: that it comes back. -/
import Derived.Test.YtelheeekbihfcaaArm
set_option linter.unusedVariables false
set_option linter.unusedSimpArgs false
namespace Go.Proofs.Ytelheeekbihfcaa.Pt
open Go.RowKit Go.Proofs Go.Proofs.Ytelheeekbihfcaa.PPatternFirst Go.Proofs.YtelheeekbihfcaaW.PrintWords Go.Proofs.YtelheeekbihfcaaW.PrintMore Go.Proofs.YtelheeekbihfcaaW.PrintLast

set_option maxRecDepth 100000 in
theorem exprs_nil (g : Nat) (w : World) (h : NB g w) (A : Option Addr) (c : Nat) (left : Int) : Calls Try.prog 43 #[.pointer (some ⟨g, 0, none⟩), .slice A 0 c, .int .i64 left] w (Told g w) := by
  have H := Lib.hid h
  clear h
  go_enter Try.func43, Try.ntmps43
  go_wp2
  go_loopw [8, 7] (fun v8 v7 wr => v8 = .int .i64 0 ∧ v7 = .int .i64 0 ∧ Hid (wr = w)) (fun _ _ _ => 0)
  case atStart => exact ⟨rfl, rfl, Lib.hid rfl⟩
  case round =>
    obtain ⟨rfl, rfl, HW⟩ := hrel
    have hw := HW.out
    subst hw
    go_wp2
    go_ret
    exact ⟨_, rfl, KG.refl H.out⟩

/-- What the count makes of a body that has but arms. -/
def BodyC (w0 : World) (g : Nat) (ps : List S53) : Prop := ∀ (A1 : Option Addr) (c1 : Nat) (i2 i3 : Int) (s4 : ByteArray) (A2 : Option Addr) (c2 : Nat) (A3 : Option Addr) (c3 : Nat) (A4 : Option Addr) (c4 : Nat) (b8 : Bool) (i9 left : Int) (w : World), CG w0 g w → Kd.C kArm w0 A4 ps.length ps → ps.length ≤ c4 → nodesL ps ≤ 1000000 →
  Calls Try.prog 42 #[.pointer (some ⟨g, 0, none⟩), .agg #[.slice A1 0 c1, .int .i64 i2, .int .i64 i3, .string s4, .slice A2 0 c2, .slice A3 0 c3, .slice A4 ps.length c4, .bool b8, .int .i64 i9], .int .i64 left] w (Told g w)

set_option maxRecDepth 100000 in
set_option maxHeartbeats 8000000 in
theorem body_ok (w0 : World) (g : Nat) (ps : List S53) (hIH : ps ≠ [] → BodyC w0 g []) : BodyC w0 g ps := by
  intro A1 c1 i2 i3 s4 A2 c2 A3 c3 A4 c4 b8 i9 left w hG hC hc4 hnp
  have hla : ps.length ≤ 1000000 := by have := nodesL_le ps; omega
  have HI := Lib.hid hIH
  have HC := Lib.hid hC
  have HG := Lib.hid hG
  clear hIH hC hG
  go_enter Try.func42, Try.ntmps42
  go_upto_region 1 with fail
  obtain ⟨bx, hbx⟩ : ∃ bx, (Obj.cells #[.slice A1 0 c1, .int .i64 i2, .int .i64 i3, .string s4, .slice A2 0 c2, .slice A3 0 c3, .slice A4 ps.length c4, .bool b8, .int .i64 i9] 61) = bx := ⟨_, rfl⟩
  have hbl := below_alloc (Below.refl _ w) (.cells #[.slice A1 0 c1, .int .i64 i2, .int .i64 i3, .string s4, .slice A2 0 c2, .slice A3 0 c3, .slice A4 ps.length c4, .bool b8, .int .i64 i9] 61)
  have XB := Lib.hid (blk_new w (.cells #[.slice A1 0 c1, .int .i64 i2, .int .i64 i3, .string s4, .slice A2 0 c2, .slice A3 0 c3, .slice A4 ps.length c4, .bool b8, .int .i64 i9] 61))
  have K1 := Lib.hid (KG.of_below HG.out.n hbl)
  have hgb : w.heap.size ≠ g := by have := HG.out.n.lt; omega
  clear hbl hbx bx
  generalize w.alloc (.cells #[.slice A1 0 c1, .int .i64 i2, .int .i64 i3, .string s4, .slice A2 0 c2, .slice A3 0 c3, .slice A4 ps.length c4, .bool b8, .int .i64 i9] 61) = W1 at *
  have G1 := Lib.hid (HG.out.keep K1.out)
  generalize w.heap.size = gb at *
  by_cases hl0 : left = 0
  · subst hl0
    go_wp2
    try rw [Exit.noGoto_ret]
    go_ret
    exact ⟨_, rfl, K1.out⟩
  · go_upto_region 3 with (go_at_call 41; refine (add_call g _ G1.out.n).mono ?_; rintro e w2 ⟨b, rfl, hk⟩; have K2 := Lib.hid (K1.out.trans hk); have G2 := Lib.hid (G1.out.keep hk); have XB2 := Lib.hid (hk.blk XB.out hgb); clear hk)
    · try rw [Exit.noGoto_ret]
      go_ret
      exact ⟨_, rfl, K2.out⟩
    rename_i hno K0 hK0
    clear XB K1 G1 hl0 hno
    have k0 := blk_cell XB2.out 0
    have k4 := blk_cell XB2.out 4
    have k5 := blk_cell XB2.out 5
    have k6 := blk_cell XB2.out 6
    go_upto_region 4 with (go_at_call 43; refine (exprs_nil g _ G2.out.n A2 c2 (wrap64 (left - 1))).mono ?_; rintro e w3 ⟨v3, rfl, hk⟩; have K3 := Lib.hid (K2.out.trans hk); have G3 := Lib.hid (G2.out.keep hk); have XB3 := Lib.hid (hk.blk XB2.out hgb); clear hk)
    clear k0 k4 k5 k6 XB2 K2 G2
    have k0 := blk_cell XB3.out 0
    have k5 := blk_cell XB3.out 5
    have k6 := blk_cell XB3.out 6
    go_wp2
    go_loopw [8, 7] (fun v8 v7 wr => v8 = .int .i64 0 ∧ v7 = .int .i64 v3 ∧ Hid (wr = w3)) (fun _ _ _ => 0)
    case atStart => exact ⟨rfl, rfl, Lib.hid rfl⟩
    case round =>
      obtain ⟨rfl, rfl, HW⟩ := hrel
      have hw := HW.out
      subst hw
      go_wp2
      go_loopw [9, 7] (fun v9 v7 wq => v9 = .int .i64 0 ∧ v7 = .int .i64 v3 ∧ Hid (wq = wr)) (fun _ _ _ => 0)
      case atStart => exact ⟨rfl, rfl, Lib.hid rfl⟩
      case round =>
        obtain ⟨rfl, rfl, HW2⟩ := hrel
        have hw2 := HW2.out
        subst hw2
        go_wp2
        clear k0 k5
        go_loopw [10, 7] (fun v10 v7 wq => ∃ (i : Nat) (m : Int), v10 = .int .i64 i ∧ v7 = .int .i64 m ∧ i ≤ ps.length ∧ Hid (KG g wr wq)) (fun v10 _ _ => ps.length - (intOf v10).toNat)
        case atStart => exact ⟨0, _, by go_num, rfl, Nat.zero_le _, Lib.hid (KG.refl G3.out.n)⟩
        case round =>
          obtain ⟨i, m, rfl, rfl, hi, HK⟩ := hrel
          obtain ⟨wq, hwq⟩ : ∃ wq, wq = wr := ⟨_, rfl⟩
          subst hwq
          have XQ := Lib.hid (HK.out.blk XB3.out hgb)
          have GQ := Lib.hid (G3.out.keep HK.out)
          clear k6
          have k6 := blk_cell XQ.out 6
          by_cases hlt : i < ps.length
          · have q1 : (i : Int) < (ps.length : Int) := by omega
            have q0 : (0 : Int) ≤ (i : Int) := by omega
            have hng := nodesL_get hlt
            have hnx : nodesP ps[i] ≤ 1000000 := by omega
            have hne : ps ≠ [] := fun e => by subst e; simp at hlt
            obtain ⟨ad, B4, d4, B5, d5, B6, d6, B7, d7, B8, d8, B9, d9, hA4, u0, u1, u2, u3, u4, u5, u6, u7, u8, u9, u10, u11, u12, u13, u14, hc5, hC5⟩ := at_Arm HC.out i hlt rfl
            subst hA4
            replace u0 := (GQ.out.b.cell (World.block_lt_of_cell? w0 _ u0)).trans u0
            replace u1 := (GQ.out.b.cell (World.block_lt_of_cell? w0 _ u1)).trans u1
            replace u2 := (GQ.out.b.cell (World.block_lt_of_cell? w0 _ u2)).trans u2
            replace u3 := (GQ.out.b.cell (World.block_lt_of_cell? w0 _ u3)).trans u3
            replace u4 := (GQ.out.b.cell (World.block_lt_of_cell? w0 _ u4)).trans u4
            have HC5 := Lib.hid hC5
            have hx0 := pat_any w0 g _ ps[i] (Nat.le_refl _)
            have HU5 := Lib.hid u5
            have HU6 := Lib.hid (And.intro u6 (And.intro u7 (And.intro u8 (And.intro u9 (And.intro u10 (And.intro u11 (And.intro u12 (And.intro u13 u14))))))))
            clear hC5 hng u5 u6 u7 u8 u9 u10 u11 u12 u13 u14
            generalize ps[i] = x at *
            go_upto_region 17 with (go_at_call 45; refine (hx0 B4 d4 (wrap64 (left - 1)) _ GQ.out HC5.out hc5 hnx).mono ?_; rintro e w4 ⟨v4, rfl, hk⟩; have K4 := Lib.hid (HK.out.trans hk); have G4 := Lib.hid (GQ.out.keep hk); have XB4 := Lib.hid (hk.blk XQ.out hgb); clear hk)
            generalize (if m < v4 then v4 else m) = m1
            clear k6 u0 u1 u2 u3 u4 XQ GQ
            have k6 := blk_cell XB4.out 6
            have u5 := HU5.out
            replace u5 := (G4.out.b.cell (World.block_lt_of_cell? w0 _ u5)).trans u5
            go_upto_region 18 with (go_at_call 43; refine (exprs_nil g _ G4.out.n B5 d5 (wrap64 (left - 1))).mono ?_; rintro e w5 ⟨v5, rfl, hk⟩; have K5 := Lib.hid (K4.out.trans hk); have G5 := Lib.hid (G4.out.keep hk); have XB5 := Lib.hid (hk.blk XB4.out hgb); clear hk)
            generalize (if m1 < v5 then v5 else m1) = m2
            clear k6 u5 XB4 G4 HU5
            have k6 := blk_cell XB5.out 6
            obtain ⟨u6, u7, u8, u9, u10, u11, u12, u13, u14⟩ := HU6.out
            clear HU6
            replace u6 := (G5.out.b.cell (World.block_lt_of_cell? w0 _ u6)).trans u6
            replace u7 := (G5.out.b.cell (World.block_lt_of_cell? w0 _ u7)).trans u7
            replace u8 := (G5.out.b.cell (World.block_lt_of_cell? w0 _ u8)).trans u8
            replace u9 := (G5.out.b.cell (World.block_lt_of_cell? w0 _ u9)).trans u9
            replace u10 := (G5.out.b.cell (World.block_lt_of_cell? w0 _ u10)).trans u10
            replace u11 := (G5.out.b.cell (World.block_lt_of_cell? w0 _ u11)).trans u11
            replace u12 := (G5.out.b.cell (World.block_lt_of_cell? w0 _ u12)).trans u12
            replace u13 := (G5.out.b.cell (World.block_lt_of_cell? w0 _ u13)).trans u13
            replace u14 := (G5.out.b.cell (World.block_lt_of_cell? w0 _ u14)).trans u14
            have hbody := HI.out hne
            go_upto_region 15 with (go_at_call 42; refine (hbody B6 d6 0 0 ⟨#[]⟩ B7 d7 B8 d8 B9 d9 false 0 (wrap64 (left - 1)) _ G5.out ⟨rfl, by simp, fun h => absurd h (Nat.lt_irrefl 0)⟩ (Nat.zero_le _) (Nat.zero_le _)).mono ?_; rintro e w6 ⟨v6, rfl, hk⟩; have K6 := Lib.hid (K5.out.trans hk); clear hk)
            generalize (if m2 < v6 then v6 else m2) = m3
            clear k6 u6 u7 u8 u9 u10 u11 u12 u13 u14
            go_wp2
            go_roundw
            case rel => exact ⟨i + 1, m3, by go_num, rfl, hlt, K6⟩
            case measure => simp [intOf]; omega
          · obtain rfl : i = ps.length := by omega
            go_wp2
            go_ret
            exact ⟨_, rfl, K3.out.trans HK.out⟩
theorem body_any (w0 : World) (g : Nat) (ps : List S53) : BodyC w0 g ps := body_ok w0 g ps fun _ => body_ok w0 g [] fun h => absurd rfl h
end Go.Proofs.Ytelheeekbihfcaa.Pt
