/- SamePr, 1 declarations cut -/
import Derived.Test.YtjboncbmeanlgaaDoorQApartB
/- The document's Same. -/
set_option linter.unusedVariables false
set_option linter.unusedSimpArgs false
namespace Go.Proofs.YtjboncbmeanlgaaDoor.Tr
open Go.RowKit Go.Proofs Go.Proofs.YtjboncbmeanlgaaDoor.PTreePrints Go.Proofs.YtjboncbmeanlgaaDoorW.PrintWords Go.Proofs.YtjboncbmeanlgaaDoorW.PrintMore Go.Proofs.YtjboncbmeanlgaaDoorW.PrintLast
theorem str_at {w : World} {A : Option Addr} {l : List ByteArray} {q : Nat} (hC : Kd.string.C w A l.length l) (hq : q < l.length) : ∃ as_, A = some as_ ∧ w.cell? (as_.add q) = some (.string l[q]) := by
  obtain ⟨as_, cc_, hs1, _, hK2, hc2⟩ := Kd.C_get hC (⟨#[]⟩ : ByteArray) (q : Int) (by omega) (by omega)
  subst hs1
  obtain rfl : cc_ = [.string (l.getD (q : Int).toNat (⟨#[]⟩ : ByteArray))] := hK2
  have hgd : l.getD (q : Int).toNat (⟨#[]⟩ : ByteArray) = l[q] := by rw [Int.toNat_natCast, List.getD_eq_getElem?_getD, List.getElem?_eq_getElem hq]; rfl
  refine ⟨as_, rfl, ?_⟩
  have v : w.cell? (as_.add (q * 1 + 0)) = some (.string (l.getD (q : Int).toNat (⟨#[]⟩ : ByteArray))) := hc2 0 _ rfl
  rwa [hgd, Nat.mul_one, Nat.add_zero] at v
theorem samePr_no {x y : S25} (h : (x.f2.toList == y.f2.toList) = false ∨ sameEL x.f3 y.f3 = false ∨ all2 sameD x.f0 y.f0 = false) : samePr x y = false := by
  unfold samePr
  rcases h with h | h | h <;> rw [h] <;> simp
theorem sameD_no {x y : S44} (h : (x.f1.toList == y.f1.toList) = false ∨ all2 sameN x.f2 y.f2 = false ∨ sameB x.f3 y.f3 = false) : sameD x y = false := by
  unfold sameD
  rcases h with h | h | h <;> rw [h] <;> simp
set_option maxRecDepth 100000 in
set_option maxHeartbeats 64000000 in
theorem rsame_call (x y : S25) (AD : Option Addr) (cD : Nat) (AX : Option Addr) (cX : Nat) (ED : Option Addr) (eD : Nat) (EX : Option Addr) (eX : Nat) (w : World) (hP : ProgC w x AD cD AX cX) (hQ : ProgC w y ED eD EX eX) :
    Calls Tryd.prog 14 #[.agg #[.slice AD x.f0.length cD, .int .i64 x.f1, .string x.f2, .slice AX x.f3.length cX], .agg #[.slice ED y.f0.length eD, .int .i64 y.f1, .string y.f2, .slice EX y.f3.length eX]] w (Says (samePr x y) w) := by
  have hlnD := C_len hP.gd
  have hlnE := C_len hQ.gd
  have HP := Lib.hid hP
  have HQ := Lib.hid hQ
  clear hP hQ
  go_enter Tryd.func14, Tryd.ntmps14
  go_upto_region 1 with fail
  have s1 : (w.alloc (.cells #[.slice AD x.f0.length cD, .int .i64 x.f1, .string x.f2, .slice AX x.f3.length cX] 25)).heap.size = w.heap.size + 1 := by simp
  have Y2 := blk_new (w.alloc (.cells #[.slice AD x.f0.length cD, .int .i64 x.f1, .string x.f2, .slice AX x.f3.length cX] 25)) (.cells #[.slice ED y.f0.length eD, .int .i64 y.f1, .string y.f2, .slice EX y.f3.length eX] 25)
  have X2 := Lib.hid (blk_alloc (blk_new w (.cells #[.slice AD x.f0.length cD, .int .i64 x.f1, .string x.f2, .slice AX x.f3.length cX] 25)) (.cells #[.slice ED y.f0.length eD, .int .i64 y.f1, .string y.f2, .slice EX y.f3.length eX] 25))
  rw [s1] at Y2
  have Y2 := Lib.hid Y2
  have hal := below_alloc (below_alloc (Below.refl _ w) (.cells #[.slice AD x.f0.length cD, .int .i64 x.f1, .string x.f2, .slice AX x.f3.length cX] 25)) (.cells #[.slice ED y.f0.length eD, .int .i64 y.f1, .string y.f2, .slice EX y.f3.length eX] 25)
  have CP := Lib.hid (progC_below HP.out hal)
  have CQ := Lib.hid (progC_below HQ.out hal)
  have BL := Lib.hid hal
  clear s1 hal HP HQ
  generalize ((w.alloc (.cells #[.slice AD x.f0.length cD, .int .i64 x.f1, .string x.f2, .slice AX x.f3.length cX] 25)).alloc (.cells #[.slice ED y.f0.length eD, .int .i64 y.f1, .string y.f2, .slice EX y.f3.length eX] 25)) = w2 at *
  generalize hgx : w.heap.size = gx at *
  have BW := Lib.hid (show Below w.heap.size w w2 by rw [hgx]; exact BL.out)
  clear BL hgx
  have y0 := blk_cell X2.out 0
  have z0 := blk_cell Y2.out 0
  have y1 := blk_cell X2.out 1
  have z1 := blk_cell Y2.out 1
  have y2 := blk_cell X2.out 2
  have z2 := blk_cell Y2.out 2
  have y3 := blk_cell X2.out 3
  have z3 := blk_cell Y2.out 3
  have hD : (x.f0.length = y.f0.length ∧ ((x.f0.length : Int) != (y.f0.length : Int)) = false) ∨ (all2 sameD x.f0 y.f0 = false ∧ ((x.f0.length : Int) != (y.f0.length : Int)) = true) := by
    by_cases h : x.f0.length = y.f0.length
    · exact .inl ⟨h, by rw [h]; simp⟩
    · exact .inr ⟨all2_len _ _ _ h, by simp; omega⟩
  have B3 := Lib.hid (Below.refl w2.heap.size w2)
  rcases hD with ⟨hln, hlb⟩ | ⟨hno, hlb⟩
  · go_upto_region 3 with (go_at_call 36; refine (sameEL_call x.f3 y.f3 AX cX EX eX _ CP.out.gx CP.out.lx CQ.out.gx CQ.out.lx).mono ?_; rintro e w3 ⟨rfl, hd⟩; clear B3; have B3 := Lib.hid hd; clear hd y0 z0 y1 z1 y2 z2 y3 z3; have y0 := blk_cell (blk_below X2.out B3.out) 0; have z0 := blk_cell (blk_below Y2.out B3.out) 0; cases hE : sameEL x.f3 y.f3)
    all_goals try (go_ret; refine ⟨?_, below_step BW.out B3.out⟩; rw [samePr_no (by first | (left; simpa using ‹¬ x.f2.toList = y.f2.toList›) | (right; left; exact hE))]; rfl)
    rename x.f2.toList = y.f2.toList => h2
    have HEQ := Lib.hid (show samePr x y = all2 sameD x.f0 y.f0 by unfold samePr; rw [h2, hE]; simp)
    have HLN := Lib.hid hln
    clear h2 hE hln hlb
    have XS := Lib.hid (fun (W' : World) (h : Below w3.heap.size w3 W') => blk_below (blk_below X2.out B3.out) h)
    have YS := Lib.hid (fun (W' : World) (h : Below w3.heap.size w3 W') => blk_below (blk_below Y2.out B3.out) h)
    have PS := Lib.hid (fun (W' : World) (h : Below w3.heap.size w3 W') => progC_below (progC_below CP.out B3.out) h)
    have QS := Lib.hid (fun (W' : World) (h : Below w3.heap.size w3 W') => progC_below (progC_below CQ.out B3.out) h)
    have BW3 := Lib.hid (below_step BW.out B3.out)
    clear B3 BW CP CQ X2 Y2
    go_wp2
    go_loopw [5] (fun vi wr => ∃ i : Nat, vi = .int .i64 i ∧ i ≤ x.f0.length ∧ Hid (all2 sameD (x.f0.take i) (y.f0.take i) = true) ∧ Hid (Below w3.heap.size w3 wr)) (fun vi _ => x.f0.length - (intOf vi).toNat)
    case atStart => exact ⟨0, by go_num, Nat.zero_le _, Lib.hid (by simp [all2]), Lib.hid (Below.refl _ _)⟩
    case round =>
    obtain ⟨i, rfl, hil, HS, HB⟩ := hrel
    obtain ⟨wq, hwq⟩ : ∃ wq, wq = wr := ⟨_, rfl⟩
    subst hwq
    clear y0 z0
    have y0 := blk_cell (XS.out _ HB.out) 0
    have z0 := blk_cell (YS.out _ HB.out) 0
    by_cases hlt : i < x.f0.length
    · have hlt2 : i < y.f0.length := by have := HLN.out; omega
      have q1 : (i : Int) < (x.f0.length : Int) := by omega
      have q2 : (i : Int) < (y.f0.length : Int) := by omega
      have q0 : (0 : Int) ≤ (i : Int) := by omega
      obtain ⟨ad, As, cs_, B0, b0, B4, b4, B5, b5, B6, b6, hA, u0, u1, u2, u3, u4, u5, u6, u7, u8, u9, u10, u11, hX⟩ := at_T44 (PS.out _ HB.out).gd (i : Int) q0 q1
      obtain ⟨be, Es, es_, F0, g0, F4, g4, F5, g5, F6, g6, hB, v0, v1, v2, v3, v4, v5, v6, v7, v8, v9, v10, v11, hY⟩ := at_T44 (QS.out _ HB.out).gd (i : Int) q0 q2
      subst hA
      subst hB
      rw [rd44 x.f0 i hlt, Int.toNat_natCast] at u0 u1 u2 u3 u4 u5 u6 u7 u8 u9 u10 u11
      rw [rd44 y.f0 i hlt2, Int.toNat_natCast] at v0 v1 v2 v3 v4 v5 v6 v7 v8 v9 v10 v11
      rw [rd44 x.f0 i hlt] at hX
      rw [rd44 y.f0 i hlt2] at hY
      have V0 := Lib.hid (fun (W' : World) (h : Below wq.heap.size wq W') => (h.cell (World.block_lt_of_cell? wq _ v0)).trans v0)
      have V1 := Lib.hid (fun (W' : World) (h : Below wq.heap.size wq W') => (h.cell (World.block_lt_of_cell? wq _ v1)).trans v1)
      have V2 := Lib.hid (fun (W' : World) (h : Below wq.heap.size wq W') => (h.cell (World.block_lt_of_cell? wq _ v2)).trans v2)
      have V3 := Lib.hid (fun (W' : World) (h : Below wq.heap.size wq W') => (h.cell (World.block_lt_of_cell? wq _ v3)).trans v3)
      have V4 := Lib.hid (fun (W' : World) (h : Below wq.heap.size wq W') => (h.cell (World.block_lt_of_cell? wq _ v4)).trans v4)
      have V5 := Lib.hid (fun (W' : World) (h : Below wq.heap.size wq W') => (h.cell (World.block_lt_of_cell? wq _ v5)).trans v5)
      have V6 := Lib.hid (fun (W' : World) (h : Below wq.heap.size wq W') => (h.cell (World.block_lt_of_cell? wq _ v6)).trans v6)
      have V7 := Lib.hid (fun (W' : World) (h : Below wq.heap.size wq W') => (h.cell (World.block_lt_of_cell? wq _ v7)).trans v7)
      have V8 := Lib.hid (fun (W' : World) (h : Below wq.heap.size wq W') => (h.cell (World.block_lt_of_cell? wq _ v8)).trans v8)
      have V9 := Lib.hid (fun (W' : World) (h : Below wq.heap.size wq W') => (h.cell (World.block_lt_of_cell? wq _ v9)).trans v9)
      have V10 := Lib.hid (fun (W' : World) (h : Below wq.heap.size wq W') => (h.cell (World.block_lt_of_cell? wq _ v10)).trans v10)
      have V11 := Lib.hid (fun (W' : World) (h : Below wq.heap.size wq W') => (h.cell (World.block_lt_of_cell? wq _ v11)).trans v11)
      have HX := Lib.hid hX
      have HY := Lib.hid hY
      have HN := Lib.hid (all2_next sameD hlt hlt2 HS.out)
      have HO := Lib.hid (fun h => (HEQ.out.trans (all2_no sameD (a := x.f0) (b := y.f0) hlt hlt2 h)))
      clear hX hY v0 v1 v2 v3 v4 v5 v6 v7 v8 v9 v10 v11 HS
      generalize x.f0[i] = d at *
      generalize y.f0[i] = f at *
      have hl2 : (d.f2.length = f.f2.length ∧ ((d.f2.length : Int) != (f.f2.length : Int)) = false) ∨ (all2 sameN d.f2 f.f2 = false ∧ ((d.f2.length : Int) != (f.f2.length : Int)) = true) := by
        by_cases h : d.f2.length = f.f2.length
        · exact .inl ⟨h, by rw [h]; simp⟩
        · exact .inr ⟨all2_len _ _ _ h, by simp; omega⟩
      have HL2 := Lib.hid hl2
      have hdl := C_len HX.out.2.1
      have hfl := C_len HY.out.2.1
      clear hl2
      go_upto_region 7 with fail
      have hal := below_alloc (Below.refl _ wq) (.cells #[.int .i64 d.f0, .string d.f1, .slice As d.f2.length cs_, .slice B0 d.f3.f0.length b0, .int .i64 d.f3.f1, .int .i64 d.f3.f2, .string d.f3.f3, .slice B4 d.f3.f4.length b4, .slice B5 d.f3.f5.length b5, .slice B6 d.f3.f6.length b6, .bool d.f3.f7, .int .i64 d.f3.f8] 44)
      have X1 := Lib.hid (blk_new wq (.cells #[.int .i64 d.f0, .string d.f1, .slice As d.f2.length cs_, .slice B0 d.f3.f0.length b0, .int .i64 d.f3.f1, .int .i64 d.f3.f2, .string d.f3.f3, .slice B4 d.f3.f4.length b4, .slice B5 d.f3.f5.length b5, .slice B6 d.f3.f6.length b6, .bool d.f3.f7, .int .i64 d.f3.f8] 44))
      have B1 := Lib.hid hal
      have z0' := blk_cell (YS.out _ (below_step HB.out hal)) 0
      clear hal u0 u1 u2 u3 u4 u5 u6 u7 u8 u9 u10 u11 y0 z0
      have v0 := V0.out _ B1.out
      have v1 := V1.out _ B1.out
      have v2 := V2.out _ B1.out
      have v3 := V3.out _ B1.out
      have v4 := V4.out _ B1.out
      have v5 := V5.out _ B1.out
      have v6 := V6.out _ B1.out
      have v7 := V7.out _ B1.out
      have v8 := V8.out _ B1.out
      have v9 := V9.out _ B1.out
      have v10 := V10.out _ B1.out
      have v11 := V11.out _ B1.out
      generalize wq.alloc (.cells #[.int .i64 d.f0, .string d.f1, .slice As d.f2.length cs_, .slice B0 d.f3.f0.length b0, .int .i64 d.f3.f1, .int .i64 d.f3.f2, .string d.f3.f3, .slice B4 d.f3.f4.length b4, .slice B5 d.f3.f5.length b5, .slice B6 d.f3.f6.length b6, .bool d.f3.f7, .int .i64 d.f3.f8] 44) = w4 at *
      generalize hgs : wq.heap.size = gs at *
      have BW4 := Lib.hid (show Below wq.heap.size wq w4 by rw [hgs]; exact B1.out)
      clear B1 hgs
      go_upto_region 8 with fail
      have hal := below_alloc (Below.refl _ w4) (.cells #[.int .i64 f.f0, .string f.f1, .slice Es f.f2.length es_, .slice F0 f.f3.f0.length g0, .int .i64 f.f3.f1, .int .i64 f.f3.f2, .string f.f3.f3, .slice F4 f.f3.f4.length g4, .slice F5 f.f3.f5.length g5, .slice F6 f.f3.f6.length g6, .bool f.f3.f7, .int .i64 f.f3.f8] 44)
      have Y5 := Lib.hid (blk_new w4 (.cells #[.int .i64 f.f0, .string f.f1, .slice Es f.f2.length es_, .slice F0 f.f3.f0.length g0, .int .i64 f.f3.f1, .int .i64 f.f3.f2, .string f.f3.f3, .slice F4 f.f3.f4.length g4, .slice F5 f.f3.f5.length g5, .slice F6 f.f3.f6.length g6, .bool f.f3.f7, .int .i64 f.f3.f8] 44))
      have X5 := Lib.hid (blk_below X1.out hal)
      have B5 := Lib.hid (below_step BW4.out hal)
      clear hal v0 v1 v2 v3 v4 v5 v6 v7 v8 v9 v10 v11 V0 V1 V2 V3 V4 V5 V6 V7 V8 V9 V10 V11 X1 z0'
      generalize w4.alloc (.cells #[.int .i64 f.f0, .string f.f1, .slice Es f.f2.length es_, .slice F0 f.f3.f0.length g0, .int .i64 f.f3.f1, .int .i64 f.f3.f2, .string f.f3.f3, .slice F4 f.f3.f4.length g4, .slice F5 f.f3.f5.length g5, .slice F6 f.f3.f6.length g6, .bool f.f3.f7, .int .i64 f.f3.f8] 44) = w5 at *
      generalize w4.heap.size = gt at *
      have PX1 := Lib.hid (HX.out.2.2.below B5.out)
      have PY1 := Lib.hid (HY.out.2.2.below B5.out)
      have SX1 := Lib.hid (Kd.C_below HX.out.2.1 B5.out)
      have SY1 := Lib.hid (Kd.C_below HY.out.2.1 B5.out)
      have B5q := Lib.hid (below_step HB.out B5.out)
      clear HX HY BW4 B5
      have y1 := blk_cell X5.out 1
      have z1 := blk_cell Y5.out 1
      have y2 := blk_cell X5.out 2
      have z2 := blk_cell Y5.out 2
      have y3 := blk_cell X5.out 3
      have z3 := blk_cell Y5.out 3
      have y4 := blk_cell X5.out 4
      have z4 := blk_cell Y5.out 4
      have y5 := blk_cell X5.out 5
      have z5 := blk_cell Y5.out 5
      have y6 := blk_cell X5.out 6
      have z6 := blk_cell Y5.out 6
      have y7 := blk_cell X5.out 7
      have z7 := blk_cell Y5.out 7
      have y8 := blk_cell X5.out 8
      have z8 := blk_cell Y5.out 8
      have y9 := blk_cell X5.out 9
      have z9 := blk_cell Y5.out 9
      have y10 := blk_cell X5.out 10
      have z10 := blk_cell Y5.out 10
      have y11 := blk_cell X5.out 11
      have z11 := blk_cell Y5.out 11
      have X6 := Lib.hid (fun (W' : World) (h : Below w5.heap.size w5 W') => blk_below X5.out h)
      have Y6 := Lib.hid (fun (W' : World) (h : Below w5.heap.size w5 W') => blk_below Y5.out h)
      have s1 : (w5.alloc (.cells #[.slice B0 d.f3.f0.length b0, .int .i64 d.f3.f1, .int .i64 d.f3.f2, .string d.f3.f3, .slice B4 d.f3.f4.length b4, .slice B5 d.f3.f5.length b5, .slice B6 d.f3.f6.length b6, .bool d.f3.f7, .int .i64 d.f3.f8] 42)).heap.size = w5.heap.size + 1 := by simp
      have K1 := blk_alloc (blk_new w5 (.cells #[.slice B0 d.f3.f0.length b0, .int .i64 d.f3.f1, .int .i64 d.f3.f2, .string d.f3.f3, .slice B4 d.f3.f4.length b4, .slice B5 d.f3.f5.length b5, .slice B6 d.f3.f6.length b6, .bool d.f3.f7, .int .i64 d.f3.f8] 42)) (.cells #[.slice F0 f.f3.f0.length g0, .int .i64 f.f3.f1, .int .i64 f.f3.f2, .string f.f3.f3, .slice F4 f.f3.f4.length g4, .slice F5 f.f3.f5.length g5, .slice F6 f.f3.f6.length g6, .bool f.f3.f7, .int .i64 f.f3.f8] 42)
      have K2 := blk_new (w5.alloc (.cells #[.slice B0 d.f3.f0.length b0, .int .i64 d.f3.f1, .int .i64 d.f3.f2, .string d.f3.f3, .slice B4 d.f3.f4.length b4, .slice B5 d.f3.f5.length b5, .slice B6 d.f3.f6.length b6, .bool d.f3.f7, .int .i64 d.f3.f8] 42)) (.cells #[.slice F0 f.f3.f0.length g0, .int .i64 f.f3.f1, .int .i64 f.f3.f2, .string f.f3.f3, .slice F4 f.f3.f4.length g4, .slice F5 f.f3.f5.length g5, .slice F6 f.f3.f6.length g6, .bool f.f3.f7, .int .i64 f.f3.f8] 42)
      rw [s1] at K2
      have hal := below_alloc (Below.refl _ w5) (.cells #[.slice B0 d.f3.f0.length b0, .int .i64 d.f3.f1, .int .i64 d.f3.f2, .string d.f3.f3, .slice B4 d.f3.f4.length b4, .slice B5 d.f3.f5.length b5, .slice B6 d.f3.f6.length b6, .bool d.f3.f7, .int .i64 d.f3.f8] 42)
      have BB := Lib.hid (below_alloc hal (.cells #[.slice F0 f.f3.f0.length g0, .int .i64 f.f3.f1, .int .i64 f.f3.f2, .string f.f3.f3, .slice F4 f.f3.f4.length g4, .slice F5 f.f3.f5.length g5, .slice F6 f.f3.f6.length g6, .bool f.f3.f7, .int .i64 f.f3.f8] 42))
      have r3 := blk_cell (Y6.out _ hal) 3
      have r4 := blk_cell (Y6.out _ hal) 4
      have r5 := blk_cell (Y6.out _ hal) 5
      have r6 := blk_cell (Y6.out _ hal) 6
      have r7 := blk_cell (Y6.out _ hal) 7
      have r8 := blk_cell (Y6.out _ hal) 8
      have r9 := blk_cell (Y6.out _ hal) 9
      have r10 := blk_cell (Y6.out _ hal) 10
      have r11 := blk_cell (Y6.out _ hal) 11
      have CP1 := Lib.hid (sameB1 d.f3 f.f3 (SB_any _ [d.f3] (Nat.le_refl _)) K1 K2 (PX1.out.below BB.out) (PY1.out.below BB.out))
      clear K1 K2 s1 hal
      have B6 := Lib.hid (Below.refl w5.heap.size w5)
      rcases HL2.out with ⟨hln2, hlb2⟩ | ⟨hno2, hlb2⟩
      · go_upto_region 10 with (go_at_call 37; refine (CP1.out).mono ?_; rintro e w6 ⟨rfl, hd_⟩; clear B6; have B6 := Lib.hid (below_step BB.out hd_); clear hd_ y1 z1 y2 z2 y3 z3 y4 z4 y5 z5 y6 z6 y7 z7 y8 z8 y9 z9 y10 z10 y11 z11 r3 r4 r5 r6 r7 r8 r9 r10 r11; have y2 := blk_cell (X6.out _ B6.out) 2; have z2 := blk_cell (Y6.out _ B6.out) 2; cases hcb : sameB d.f3 f.f3)
        all_goals try (go_ret; refine ⟨?_, below_step BW3.out (below_step B5q.out B6.out)⟩; rw [HO.out (sameD_no (by first | (left; simpa using ‹¬ d.f1.toList = f.f1.toList›) | (right; right; exact hcb)))]; rfl)
        rename d.f1.toList = f.f1.toList => h1
        have HDQ := Lib.hid (show sameD d f = all2 sameN d.f2 f.f2 by unfold sameD; rw [h1, hcb]; simp)
        have HLP := Lib.hid hln2
        have X7 := Lib.hid (fun (W' : World) (h : Below w6.heap.size w6 W') => blk_below (X6.out _ B6.out) h)
        have Y7 := Lib.hid (fun (W' : World) (h : Below w6.heap.size w6 W') => blk_below (Y6.out _ B6.out) h)
        have S7 := Lib.hid (fun (W' : World) (h : Below w6.heap.size w6 W') => Kd.C_below (Kd.C_below SX1.out B6.out) h)
        have T7 := Lib.hid (fun (W' : World) (h : Below w6.heap.size w6 W') => Kd.C_below (Kd.C_below SY1.out B6.out) h)
        have B6q := Lib.hid (below_step B5q.out B6.out)
        clear h1 hcb hlb2 hln2 HL2 X6 Y6 X5 Y5 B6 B5q CP1 BB
        go_wp2
        go_loopw [8] (fun vi wr => ∃ j : Nat, vi = .int .i64 j ∧ j ≤ d.f2.length ∧ Hid (all2 sameN (d.f2.take j) (f.f2.take j) = true) ∧ Hid (Below w6.heap.size w6 wr)) (fun vi _ => d.f2.length - (intOf vi).toNat)
        case atStart => exact ⟨0, by go_num, Nat.zero_le _, Lib.hid (by simp [all2]), Lib.hid (Below.refl _ _)⟩
        case round =>
        obtain ⟨j, rfl, hjl, HSJ, HBJ⟩ := hrel
        obtain ⟨wj, hwj⟩ : ∃ wj, wj = wr := ⟨_, rfl⟩
        subst hwj
        clear y2 z2
        have y2 := blk_cell (X7.out _ HBJ.out) 2
        have z2 := blk_cell (Y7.out _ HBJ.out) 2
        by_cases hjt : j < d.f2.length
        · have hjt2 : j < f.f2.length := by have := HLP.out; omega
          have p1 : (j : Int) < (d.f2.length : Int) := by omega
          have p2 : (j : Int) < (f.f2.length : Int) := by omega
          have p0 : (0 : Int) ≤ (j : Int) := by omega
          have VX := Lib.hid (fun (W' : World) (h : Below w6.heap.size w6 W') => str_at (S7.out W' h) hjt)
          have VY := Lib.hid (fun (W' : World) (h : Below w6.heap.size w6 W') => str_at (T7.out W' h) hjt2)
          obtain ⟨as_, hs1, va_⟩ := VX.out _ HBJ.out
          obtain ⟨bs_, ht1, vb_⟩ := VY.out _ HBJ.out
          subst hs1
          subst ht1
          have HVX := Lib.hid (fun (W' : World) (h : Below w6.heap.size w6 W') => by obtain ⟨a_, ha_, hv_⟩ := VX.out W' h; obtain rfl := Option.some.inj ha_; exact hv_)
          have HVY := Lib.hid (fun (W' : World) (h : Below w6.heap.size w6 W') => by obtain ⟨a_, ha_, hv_⟩ := VY.out W' h; obtain rfl := Option.some.inj ha_; exact hv_)
          have HNJ := Lib.hid (all2_next sameN hjt hjt2 HSJ.out)
          have HOJ := Lib.hid (fun h => all2_no sameN (a := d.f2) (b := f.f2) hjt hjt2 h)
          clear HSJ VX VY va_ vb_
          generalize d.f2[j] = sa at *
          generalize f.f2[j] = sb at *
          have hN : sameN sa sb = (sa.toList == sb.toList) := rfl
          go_upto_region 13 with fail
          clear y2 z2
          have BD := Lib.hid (below_step HBJ.out (Below.refl wj.heap.size wj).drew)
          refine start_ (n := 11) (S := fun w' => w'.cell? ⟨gs, 2, none⟩ = some (.slice (some as_) d.f2.length cs_) ∧ w'.cell? ⟨gt, 2, none⟩ = some (.slice (some bs_) f.f2.length es_) ∧ w'.cell? (as_.add j) = some (.string sa) ∧ w'.cell? (bs_.add j) = some (.string sb)) (ds := []) #[false, false, false, false, false, false, false, false, false, false, false] (by kernel_rfl) rfl rfl ⟨(blk_cell (X7.out _ BD.out) 2), (blk_cell (Y7.out _ BD.out) 2), (HVX.out _ BD.out), (HVY.out _ BD.out)⟩ (fun hHeld => ?_)
          generalize wj.drew = WD at *
          refine pure_ (i := 0) (N := some 79) (v := ?_) (a' := ?_) #[true, false, false, false, false, false, false, false, false, false, false] rfl rfl (by kernel_rfl) (fun _ _ _ h => h) (Or.inl ⟨by rfl, ?_⟩) ?_ ?_
          rotate_left
          · intro w'
            go_simp
            with_reducible rfl
          rotate_left
          · simp only [Act.put, List.setIfInBounds_toArray, List.set_cons_zero, List.set_cons_succ, i64_w, i32_w]
            rfl
          refine pure_ (i := 2) (N := some 81) (v := ?_) (a' := ?_) #[true, false, true, false, false, false, false, false, false, false, false] rfl rfl (by kernel_rfl) (fun _ _ _ h => h) (Or.inl ⟨by rfl, ?_⟩) ?_ ?_
          rotate_left
          · intro w'
            go_simp
            with_reducible rfl
          rotate_left
          · simp only [Act.put, List.setIfInBounds_toArray, List.set_cons_zero, List.set_cons_succ, i64_w, i32_w]
            rfl
          refine pure_ (i := 5) (N := some 84) (v := ?_) (a' := ?_) #[true, false, true, false, false, true, false, false, false, false, false] rfl rfl (by kernel_rfl) (fun _ _ _ h => h) (Or.inl ⟨by rfl, ?_⟩) ?_ ?_
          rotate_left
          · intro w'
            go_simp
            with_reducible rfl
          rotate_left
          · simp only [Act.put, List.setIfInBounds_toArray, List.set_cons_zero, List.set_cons_succ, i64_w, i32_w]
            rfl
          refine pure_ (i := 7) (N := some 86) (v := ?_) (a' := ?_) #[true, false, true, false, false, true, false, true, false, false, false] rfl rfl (by kernel_rfl) (fun _ _ _ h => h) (Or.inl ⟨by rfl, ?_⟩) ?_ ?_
          rotate_left
          · intro w'
            go_simp
            with_reducible rfl
          rotate_left
          · simp only [Act.put, List.setIfInBounds_toArray, List.set_cons_zero, List.set_cons_succ, i64_w, i32_w]
            rfl
          refine take_ (i := 1) (N := some 80) (v := ?_) (a' := ?_) #[true, true, true, false, false, true, false, true, false, false, false] rfl rfl (by kernel_rfl) (fun _ _ _ h => h) (Or.inl ⟨by rfl, ?_⟩) hHeld ?_ ?_
          rotate_left
          · rintro w' ⟨s0, s1, s2, s3⟩
            go_simp
            with_reducible rfl
          rotate_left
          · simp only [Act.put, List.setIfInBounds_toArray, List.set_cons_zero, List.set_cons_succ, i64_w, i32_w]
            rfl
          refine pure_ (i := 3) (N := some 82) (v := ?_) (a' := ?_) #[true, true, true, true, false, true, false, true, false, false, false] rfl rfl (by kernel_rfl) (fun _ _ _ h => h) (Or.inl ⟨by rfl, ?_⟩) ?_ ?_
          rotate_left
          · intro w'
            go_simp
            with_reducible rfl
          rotate_left
          · simp only [Act.put, List.setIfInBounds_toArray, List.set_cons_zero, List.set_cons_succ, i64_w, i32_w]
            rfl
          refine take_ (i := 4) (N := some 83) (v := ?_) (a' := ?_) #[true, true, true, true, true, true, false, true, false, false, false] rfl rfl (by kernel_rfl) (fun _ _ _ h => h) (Or.inl ⟨by rfl, ?_⟩) hHeld ?_ ?_
          rotate_left
          · rintro w' ⟨s0, s1, s2, s3⟩
            go_simp
            with_reducible rfl
          rotate_left
          · simp only [Act.put, List.setIfInBounds_toArray, List.set_cons_zero, List.set_cons_succ, i64_w, i32_w]
            rfl
          refine take_ (i := 6) (N := some 85) (v := ?_) (a' := ?_) #[true, true, true, true, true, true, true, true, false, false, false] rfl rfl (by kernel_rfl) (fun _ _ _ h => h) (Or.inl ⟨by rfl, ?_⟩) hHeld ?_ ?_
          rotate_left
          · rintro w' ⟨s0, s1, s2, s3⟩
            go_simp
            with_reducible rfl
          rotate_left
          · simp only [Act.put, List.setIfInBounds_toArray, List.set_cons_zero, List.set_cons_succ, i64_w, i32_w]
            rfl
          refine pure_ (i := 8) (N := some 87) (v := ?_) (a' := ?_) #[true, true, true, true, true, true, true, true, true, false, false] rfl rfl (by kernel_rfl) (fun _ _ _ h => h) (Or.inl ⟨by rfl, ?_⟩) ?_ ?_
          rotate_left
          · intro w'
            go_simp
            with_reducible rfl
          rotate_left
          · simp only [Act.put, List.setIfInBounds_toArray, List.set_cons_zero, List.set_cons_succ, i64_w, i32_w]
            rfl
          refine take_ (i := 9) (N := some 88) (v := ?_) (a' := ?_) #[true, true, true, true, true, true, true, true, true, true, false] rfl rfl (by kernel_rfl) (fun _ _ _ h => h) (Or.inl ⟨by rfl, ?_⟩) hHeld ?_ ?_
          rotate_left
          · rintro w' ⟨s0, s1, s2, s3⟩
            go_simp
            with_reducible rfl
          rotate_left
          · simp only [Act.put, List.setIfInBounds_toArray, List.set_cons_zero, List.set_cons_succ, i64_w, i32_w]
            rfl
          refine pure_ (i := 10) (N := some 89) (v := ?_) (a' := ?_) #[true, true, true, true, true, true, true, true, true, true, true] rfl rfl (by kernel_rfl) (fun _ _ _ h => h) (Or.inl ⟨by rfl, ?_⟩) ?_ ?_
          rotate_left
          · intro w'
            go_simp
            with_reducible rfl
          rotate_left
          · simp only [Act.put, List.setIfInBounds_toArray, List.set_cons_zero, List.set_cons_succ, i64_w, i32_w]
            rfl
          refine done_ (by kernel_rfl) ?_
          clear hHeld
          go_wp2
          · go_ret
            refine ⟨?_, below_step BW3.out (below_step B6q.out BD.out)⟩
            rw [HO.out (HDQ.out.trans (HOJ.out (by rw [hN]; simp_all)))]; rfl
          · go_roundw
            case rel => exact ⟨j + 1, by go_num, hjt, Lib.hid (by rw [HNJ.out, hN]; simp_all), BD⟩
            case measure => simp [intOf]; omega
        · obtain rfl : j = d.f2.length := by omega
          have hq_ := HSJ.out
          rw [List.take_length, HLP.out, List.take_length] at hq_
          have HEQ3 := Lib.hid (show all2 sameD (x.f0.take (i + 1)) (y.f0.take (i + 1)) = true by rw [HN.out, HDQ.out, hq_])
          clear hq_ HSJ HDQ
          go_wp2
          go_roundw
          case rel => exact ⟨i + 1, by go_num, by omega, HEQ3, Lib.hid (below_step B6q.out HBJ.out)⟩
          case measure => simp [intOf]; omega
      · go_wp2
        all_goals (go_ret; refine ⟨?_, below_step BW3.out B5q.out⟩; rw [HO.out (sameD_no (.inr (.inl hno2)))]; rfl)
    · obtain rfl : i = x.f0.length := by omega
      have hq_ := HS.out
      rw [List.take_length, HLN.out, List.take_length] at hq_
      have HQ := Lib.hid (HEQ.out.trans hq_)
      clear hq_ HS
      go_wp2
      go_ret
      exact ⟨by rw [HQ.out]; rfl, below_step BW3.out HB.out⟩
  · go_wp2_with (go_at_call 36; refine (sameEL_call x.f3 y.f3 AX cX EX eX _ CP.out.gx CP.out.lx CQ.out.gx CQ.out.lx).mono ?_; rintro e w3 ⟨rfl, hd⟩; clear B3; have B3 := Lib.hid hd; clear hd y0 z0 y1 z1 y2 z2 y3 z3; have y0 := blk_cell (blk_below X2.out B3.out) 0; have z0 := blk_cell (blk_below Y2.out B3.out) 0; cases hE : sameEL x.f3 y.f3)
    all_goals (go_ret; refine ⟨?_, below_step BW.out B3.out⟩; rw [samePr_no (.inr (.inr hno))]; rfl)
end Go.Proofs.YtjboncbmeanlgaaDoor.Tr
