/- DeepW, 1 declarations cut -/
import Derived.Test.YtjboncbmeanlgaaDoorVLivesW
/- The law TreeDeep: a tree set into tuples over and over. -/
set_option linter.unusedVariables false
set_option linter.unusedSimpArgs false
namespace Go.Proofs.YtjboncbmeanlgaaDoor.Tr
open Go.RowKit Go.Proofs Go.Proofs.YtjboncbmeanlgaaDoor.PTreePrints Go.Proofs.YtjboncbmeanlgaaDoorW.PrintWords Go.Proofs.YtjboncbmeanlgaaDoorW.PrintMore Go.Proofs.YtjboncbmeanlgaaDoorW.PrintLast
/-- An expression in so many tuples. -/
def nest (e : S31) : Nat → S31
  | 0 => e
  | j + 1 => ⟨5, 0, 0, ⟨#[]⟩, [nest e j]⟩
def mn (a b : Int) : Int := if a < b then a else b
theorem mn_min (a b : Int) : mn a b = min a b := by unfold mn; split <;> omega
mutual
theorem cutE : ∀ (x : S31) (k m : Nat), k ≤ m → dpE x k = mn (dpE x m) k
  | ⟨_, _, _, _, args⟩, 0, 0, h => by simp only [dpE]; rfl
  | ⟨_, _, _, _, args⟩, 0, m + 1, h => by
    have := dpEL_nn args m
    simp only [dpE]; unfold mn; split <;> omega
  | ⟨_, _, _, _, args⟩, k + 1, 0, h => absurd h (by omega)
  | ⟨_, _, _, _, args⟩, k + 1, m + 1, h => by
    have := cutEL args k m (by omega)
    simp only [dpE]; rw [this]; unfold mn; split <;> split <;> omega
theorem cutEL : ∀ (l : List S31) (k m : Nat), k ≤ m → dpEL l k = mn (dpEL l m) k
  | [], k, m, h => by simp only [dpEL]; unfold mn; split <;> omega
  | x :: r, k, m, h => by
    have h1 := cutE x k m h
    have h2 := cutEL r k m h
    rw [dpEL, dpEL, h1, h2]; unfold mx mn; split <;> split <;> split <;> (try split) <;> (try split) <;> omega
end
theorem dpEL_one (x : S31) (k : Nat) : dpEL [x] k = dpE x k := by
  have := dpE_nn x k
  simp only [dpEL]; unfold mx; split <;> omega
theorem nest_deep (e : S31) : ∀ (j k : Nat), dpE (nest e j) k = mn (dpE e k + j) k
  | 0, k => by
    have := dpE_le e k
    unfold nest mn; split <;> omega
  | j + 1, 0 => by
    have h1 := dpE_le (nest e (j + 1)) 0
    have h2 := dpE_nn (nest e (j + 1)) 0
    have h3 := dpE_nn e 0
    unfold mn; split <;> omega
  | j + 1, k + 1 => by
    rw [nest, dpE_s, dpEL_one, nest_deep e j k, cutE e k (k + 1) (by omega)]
    have := dpE_le e (k + 1)
    unfold mn; split <;> (try split) <;> (try split) <;> omega
/-- What stands in the box of the tuple's expression. -/
def GV (g : Nat) (W : World) (c0 : List Value) : Nat → List Value → Prop
  | 0, cs => cs = c0
  | j + 1, cs => ∃ b ds, b ≠ g ∧ cs = [.int .i64 5, .int .i64 0, .int .i64 0, .string ⟨#[]⟩, .slice (some ⟨b, 0, none⟩) 1 1] ∧ W.heap[b]? = some (.cells ds.toArray 31 (0, 0)) ∧ GV g W c0 j ds
theorem GV.keep {g : Nat} {W W' : World} {c0 : List Value} (hk : KX g W W') : ∀ (j : Nat) (cs : List Value), GV g W c0 j cs → GV g W' c0 j cs
  | 0, cs, h => h
  | j + 1, cs, ⟨b, ds, h1, h2, h3, h4⟩ => ⟨b, ds, h1, h2, hk.blk h3 h1, GV.keep hk j ds h4⟩
theorem GV.kind {g : Nat} {W : World} {c0 : List Value} {e : S31} (h0 : k31.K W e c0) : ∀ (j : Nat) (cs : List Value), GV g W c0 j cs → k31.K W (nest e j) cs
  | 0, cs, h => by rw [show cs = c0 from h]; exact h0
  | j + 1, cs, ⟨b, ds, h1, h2, h3, h4⟩ => by
    rw [h2]
    exact k31_mk W ⟨5, 0, 0, ⟨#[]⟩, [nest e j]⟩ (Nat.le_refl 1) (C_one h3 (GV.kind h0 j ds h4))
theorem set5 {w : World} {g t : Nat} {v0 v1 v2 v3 v4 u0 u1 u2 u3 u4 : Value} (h : w.heap[g]? = some (.cells #[v0, v1, v2, v3, v4] t (0, 0))) : (((((w.setCell ⟨g, 0, none⟩ u0).setCell ⟨g, 1, none⟩ u1).setCell ⟨g, 2, none⟩ u2).setCell ⟨g, 3, none⟩ u3).setCell ⟨g, 4, none⟩ u4).heap[g]? = some (.cells #[u0, u1, u2, u3, u4] t (0, 0)) := by
  have h1 := blk_set h 0 u0
  have h2 := blk_set h1 1 u1
  have h3 := blk_set h2 2 u2
  have h4 := blk_set h3 3 u3
  have h5 := blk_set h4 4 u4
  simpa only [List.setIfInBounds_toArray, List.set_cons_zero, List.set_cons_succ] using h5
theorem KX.set' {g : Nat} {W W' : World} (h : KX g W W') (k : Nat) (v : Value) : KX g W (W'.setCell ⟨g, k, none⟩ v) := h.trans ⟨rfl, rfl, rfl, by simp, fun i _ hs => Below.heap_setCell W' ⟨g, k, none⟩ v i hs⟩
theorem umod (n : Int) : 0 ≤ wrap64 ((IntKind.u64.wrap n).tmod 200) ∧ wrap64 ((IntKind.u64.wrap n).tmod 200) < 200 := by
  have h0 : 0 ≤ IntKind.u64.wrap n := by
    have e : IntKind.u64.wrap n = n % 18446744073709551616 := by simp [IntKind.wrap, IntKind.signed, IntKind.bits]
    rw [e]; omega
  have h1 : (IntKind.u64.wrap n).tmod 200 = (IntKind.u64.wrap n) % 200 := Int.tmod_eq_emod_of_nonneg h0
  rw [h1]
  unfold wrap64
  omega
/-- The deeper tree. -/
def dq (x : S25) (e : S31) : S25 := ⟨x.f0, 0, x.f2, [e]⟩
def dx (e : S31) : S25 := ⟨[], 0, ⟨#[]⟩, [e]⟩
theorem dx_deep (e : S31) : dpPr (dx e) = dpE e 65 := by
  have h := dpE_nn e 65
  unfold dpPr dx
  rw [dpEL_one]
  simp only [dpDL]
  unfold mx
  split <;> omega
theorem dq_bad (x : S25) (e : S31) (h : 64 < dpE e 65) : goodPr (dq x e) = false := by
  have h1 : ¬ walkPr stD (dq x e) 0 ≤ 64 := by
    rw [deepPr]
    unfold dpPr dq
    rw [dpEL_one]
    unfold mx
    split <;> omega
  rw [goodPr, goodHd, decide_eq_false h1]
  simp
set_option maxRecDepth 100000 in
set_option maxHeartbeats 8000000 in
/-- The law TreeDeep. -/
theorem deep_true (x : S25) (n : Int) (AD : Option Addr) (cD : Nat) (AX : Option Addr) (cX : Nat) (w : World) (hP : ProgC w x AD cD AX cX) (hT : Tab w) :
    Calls Tryd.prog 4 #[.agg #[.slice AD x.f0.length cD, .int .i64 x.f1, .string x.f2, .slice AX x.f3.length cX], .int .i64 n] w fun e w' => e = .returned (.bool true) ∧ Below w.heap.size w w' := by
  go_enter Tryd.func4, Tryd.ntmps4
  have hal := below_alloc (Below.refl _ w) (.cells #[.slice AD x.f0.length cD, .int .i64 x.f1, .string x.f2, .slice AX x.f3.length cX] 25)
  have XB := Lib.hid (blk_new w (.cells #[.slice AD x.f0.length cD, .int .i64 x.f1, .string x.f2, .slice AX x.f3.length cX] 25))
  have CP := Lib.hid (progC_below hP hal)
  have B2 := Lib.hid hal
  clear hal
  go_upto_region 1 with fail
  generalize w.alloc (.cells #[.slice AD x.f0.length cD, .int .i64 x.f1, .string x.f2, .slice AX x.f3.length cX] 25) = w2 at *
  generalize hgx : w.heap.size = gx at *
  have BW := Lib.hid (show Below w.heap.size w w2 by rw [hgx]; exact B2.out)
  have hgx' : w.heap.size ≤ gx := by omega
  clear B2 hgx
  have y0 := blk_cell XB.out 0
  have y1 := blk_cell XB.out 1
  have y2 := blk_cell XB.out 2
  have y3 := blk_cell XB.out 3
  have hT2 := Lib.hid (hT.below BW.out)
  go_upto_region 3 with (first
    | (go_at_call 6; refine (light_call x AD cD AX cX _ CP.out).mono ?_; rintro e w3 ⟨rfl, hd⟩; have B3 := Lib.hid (below_step BW.out hd); have X3 := Lib.hid (blk_below XB.out hd); have P3 := Lib.hid (progC_below CP.out hd); have T3 := Lib.hid (hT2.out.below hd); clear hd y0 y1 y2 y3; have y0 := blk_cell X3.out 0; have y1 := blk_cell X3.out 1; have y2 := blk_cell X3.out 2; have y3 := blk_cell X3.out 3; cases hL : lightB x)
    | (go_at_call 7; refine (lives_true _ T3.out).mono ?_; rintro e w4 ⟨rfl, hd⟩; have B4 := Lib.hid (below_step B3.out hd); clear hd))
  · go_ret
    exact ⟨rfl, B4.out⟩
  · go_ret
    exact ⟨rfl, B4.out⟩
  · clear BW XB CP hT2 hT hP
    obtain ⟨e0, er, hx3⟩ : ∃ e0 er, x.f3 = e0 :: er := by
      cases h : x.f3 with
      | nil =>
        have hq := ‹((x.f3.length : Int) == 0) = false›
        rw [h] at hq
        exact absurd hq (by decide)
      | cons a b => exact ⟨a, b, rfl⟩
    have hC3 := P3.out.gx
    rw [hx3] at hC3
    obtain ⟨ad, A5, c5, hA, hc5, hC5, hU⟩ := first31 hC3
    subst hA
    have HU := Lib.hid hU
    have HC5 := Lib.hid hC5
    have hlen1 : (0 : Int) < (x.f3.length : Int) := by rw [hx3, List.length_cons]; omega
    have hlenb : x.f3.length ≤ 9223372036854775807 := C_len P3.out.gx
    clear hC3 hU hC5
    go_upto_region 4 with fail
    obtain ⟨hk0, hk1⟩ := umod n
    generalize wrap64 ((IntKind.u64.wrap n).tmod 200) = kz at *
    obtain ⟨kk, hkk⟩ : ∃ kk : Nat, (kk : Int) = kz := ⟨kz.toNat, by omega⟩
    subst hkk
    obtain ⟨u0, u1, u2, u3, u4⟩ := HU.out _ (Below.refl _ _)
    go_upto_region 5 with fail
    have hal := below_alloc (Below.refl _ w3) (.cells #[.int .i64 e0.f0, .int .i64 e0.f1, .int .i64 e0.f2, .string e0.f3, .slice A5 e0.f4.length c5] 31)
    have G4 := Lib.hid (blk_new w3 (.cells #[.int .i64 e0.f0, .int .i64 e0.f1, .int .i64 e0.f2, .string e0.f3, .slice A5 e0.f4.length c5] 31))
    have X4 := Lib.hid (blk_below X3.out hal)
    have B4 := Lib.hid hal
    clear hal u0 u1 u2 u3 u4 y0 y1 y2 y3
    generalize w3.alloc (.cells #[.int .i64 e0.f0, .int .i64 e0.f1, .int .i64 e0.f2, .string e0.f3, .slice A5 e0.f4.length c5] 31) = w4 at *
    have hg3 : gx < w3.heap.size := blk_lt X3.out
    generalize hg : w3.heap.size = g at *
    have HG := Lib.hid hg
    have B34 := Lib.hid (show Below w3.heap.size w3 w4 by rw [hg]; exact B4.out)
    clear B4 hg
    have z0 := blk_cell G4.out 0
    have z1 := blk_cell G4.out 1
    have z2 := blk_cell G4.out 2
    have z3 := blk_cell G4.out 3
    have z4 := blk_cell G4.out 4
    have hal := below_alloc (Below.refl _ w4) (.cells #[.int .i64 e0.f0, .int .i64 e0.f1, .int .i64 e0.f2, .string e0.f3, .slice A5 e0.f4.length c5] 31)
    have N5 := Lib.hid (blk_new w4 (.cells #[.int .i64 e0.f0, .int .i64 e0.f1, .int .i64 e0.f2, .string e0.f3, .slice A5 e0.f4.length c5] 31))
    have G5 := Lib.hid (blk_below G4.out hal)
    have X5 := Lib.hid (blk_below X4.out hal)
    have B5 := Lib.hid (below_step B34.out hal)
    clear hal
    have P5 := Lib.hid (show ProgC (w4.alloc (.cells #[.int .i64 e0.f0, .int .i64 e0.f1, .int .i64 e0.f2, .string e0.f3, .slice A5 e0.f4.length c5] 31)) (dx e0) none 0 (some ⟨w4.heap.size, 0, none⟩) 1 from ⟨Nat.le_refl 0, Kd.C_nil _ _, Nat.le_refl 1, C_one N5.out (k31_mk _ e0 hc5 (Kd.C_below HC5.out B5.out))⟩)
    go_upto_region 6 with (go_at_call 12; refine (ref_depth_call (dx e0) none 0 (some ⟨w4.heap.size, 0, none⟩) 1 _ P5.out).mono ?_; rintro e w6 ⟨rfl, hd⟩; have B6 := Lib.hid (below_step B5.out hd); have G6 := Lib.hid (blk_below G5.out hd); have X6 := Lib.hid (blk_below X5.out hd); clear hd)
    have hd0 : dpPr (dx e0) = dpE e0 65 := dx_deep e0
    have hdn := dpE_nn e0 65
    have hdl := dpE_le e0 65
    rw [hd0]
    obtain ⟨dd, hdd⟩ : ∃ dd, dd = dpE e0 65 := ⟨_, rfl⟩
    rw [← hdd] at hdn hdl ⊢
    have HDD := Lib.hid hdd
    clear hd0 hdd z0 z1 z2 z3 z4 P5 N5 G5 X5 B5 G4 X4
    have GV0 := Lib.hid (show GV g w6 [.int .i64 e0.f0, .int .i64 e0.f1, .int .i64 e0.f2, .string e0.f3, .slice A5 e0.f4.length c5] 0 [.int .i64 e0.f0, .int .i64 e0.f1, .int .i64 e0.f2, .string e0.f3, .slice A5 e0.f4.length c5] from rfl)
    go_wp2
    go_loopw [33] (fun vi wr => ∃ (i : Nat) (v0 v1 v2 v3 v4 : Value), vi = .int .i64 i ∧ i ≤ kk ∧ Hid (wr.heap[g]? = some (.cells #[v0, v1, v2, v3, v4] 31 (0, 0))) ∧ Hid (GV g wr [.int .i64 e0.f0, .int .i64 e0.f1, .int .i64 e0.f2, .string e0.f3, .slice A5 e0.f4.length c5] i [v0, v1, v2, v3, v4]) ∧ Hid (KX g w6 wr)) (fun vi _ => kk - (intOf vi).toNat)
    case atStart => exact ⟨0, _, _, _, _, _, by go_num, Nat.zero_le _, G6, GV0, Lib.hid (KX.refl _ _)⟩
    case round =>
    obtain ⟨i, v0, v1, v2, v3, v4, rfl, hil, HG1, HV, HK⟩ := hrel
    obtain ⟨wq, hwq⟩ : ∃ wq, wq = wr := ⟨_, rfl⟩
    subst hwq
    have z0 := blk_cell HG1.out 0
    have z1 := blk_cell HG1.out 1
    have z2 := blk_cell HG1.out 2
    have z3 := blk_cell HG1.out 3
    have z4 := blk_cell HG1.out 4
    by_cases hlt : i < kk
    · have q1 : (i : Int) < (kk : Int) := by omega
      have hgq : g < wq.heap.size := blk_lt HG1.out
      have hng : wq.heap.size ≠ g := by omega
      have f0 := blk_frozen HG1.out 0
      have f1 := blk_frozen HG1.out 1
      have f2 := blk_frozen HG1.out 2
      have f3 := blk_frozen HG1.out 3
      have f4 := blk_frozen HG1.out 4
      go_wp2
      go_roundw
      case rel =>
        have KS := (((((KX.refl g wq).set' 0 (.int .i64 5)).set' 1 (.int .i64 0)).set' 2 (.int .i64 0)).set' 3 (.string ⟨#[]⟩)).set' 4 (.slice (some ⟨wq.heap.size, 0, none⟩) 1 1)
        have hs5 := set5 (u0 := .int .i64 5) (u1 := .int .i64 0) (u2 := .int .i64 0) (u3 := .string ⟨#[]⟩) (u4 := .slice (some ⟨wq.heap.size, 0, none⟩) 1 1) HG1.out
        have hsz : (((((wq.setCell ⟨g, 0, none⟩ (.int .i64 5)).setCell ⟨g, 1, none⟩ (.int .i64 0)).setCell ⟨g, 2, none⟩ (.int .i64 0)).setCell ⟨g, 3, none⟩ (.string ⟨#[]⟩)).setCell ⟨g, 4, none⟩ (.slice (some ⟨wq.heap.size, 0, none⟩) 1 1)).heap.size = wq.heap.size := by simp
        generalize ((((wq.setCell ⟨g, 0, none⟩ (.int .i64 5)).setCell ⟨g, 1, none⟩ (.int .i64 0)).setCell ⟨g, 2, none⟩ (.int .i64 0)).setCell ⟨g, 3, none⟩ (.string ⟨#[]⟩)).setCell ⟨g, 4, none⟩ (.slice (some ⟨wq.heap.size, 0, none⟩) 1 1) = WS at *
        have hN := blk_new WS (.cells #[v0, v1, v2, v3, v4] 31)
        rw [hsz] at hN
        have KA := KS.trans (KX.of_below (g := g) (below_alloc (Below.refl _ WS) (.cells #[v0, v1, v2, v3, v4] 31)))
        exact ⟨i + 1, _, _, _, _, _, by go_num, hlt, Lib.hid (blk_alloc hs5 _), Lib.hid ⟨wq.heap.size, _, hng, rfl, hN, GV.keep KA _ _ HV.out⟩, Lib.hid (HK.out.trans KA)⟩
      case measure => simp [intOf]; omega
    · obtain rfl : i = kk := by omega
      have hge : w3.heap.size ≤ g := by have := HG.out; omega
      have B7 := Lib.hid (B6.out.trans (HK.out.below hge B6.out.size))
      have X7 := Lib.hid (HK.out.blk X6.out (by omega))
      have HVK := Lib.hid (GV.kind (W := wq) (e := e0) (k31_mk wq e0 hc5 (Kd.C_below HC5.out B7.out)) i _ HV.out)
      have y0 := blk_cell X7.out 0
      have y2 := blk_cell X7.out 2
      clear HV HK
      go_upto_region 11 with fail
      have s1 : (wq.alloc (.cells #[v0, v1, v2, v3, v4] 31)).heap.size = wq.heap.size + 1 := by simp
      have M2 := blk_new (wq.alloc (.cells #[v0, v1, v2, v3, v4] 31)) (.cells #[.slice AD x.f0.length cD, .int .i64 0, .string x.f2, .slice (some ⟨wq.heap.size, 0, none⟩) 1 1] 25)
      rw [s1] at M2
      have M1 := Lib.hid (blk_alloc (blk_new wq (.cells #[v0, v1, v2, v3, v4] 31)) (.cells #[.slice AD x.f0.length cD, .int .i64 0, .string x.f2, .slice (some ⟨wq.heap.size, 0, none⟩) 1 1] 25))
      have M2 := Lib.hid M2
      have hbl := below_alloc (below_alloc (Below.refl _ wq) (.cells #[v0, v1, v2, v3, v4] 31)) (.cells #[.slice AD x.f0.length cD, .int .i64 0, .string x.f2, .slice (some ⟨wq.heap.size, 0, none⟩) 1 1] 25)
      have G8 := Lib.hid (blk_below HG1.out hbl)
      have B8 := Lib.hid (below_step B7.out hbl)
      have V8 := Lib.hid (k31.K_below hbl HVK.out)
      clear hbl s1 y0 y2 z0 z1 z2 z3 z4
      generalize ((wq.alloc (.cells #[v0, v1, v2, v3, v4] 31)).alloc (.cells #[.slice AD x.f0.length cD, .int .i64 0, .string x.f2, .slice (some ⟨wq.heap.size, 0, none⟩) 1 1] 25)) = w8 at *
      generalize wq.heap.size = a1 at *
      have z0 := blk_cell G8.out 0
      have z1 := blk_cell G8.out 1
      have z2 := blk_cell G8.out 2
      have z3 := blk_cell G8.out 3
      have z4 := blk_cell G8.out 4
      go_upto_region 12 with fail
      have s1 : (w8.alloc (.cells #[v0, v1, v2, v3, v4] 31)).heap.size = w8.heap.size + 1 := by simp
      have M4 := blk_new (w8.alloc (.cells #[v0, v1, v2, v3, v4] 31)) (.cells #[.slice none 0 0, .int .i64 0, .string ⟨#[]⟩, .slice (some ⟨w8.heap.size, 0, none⟩) 1 1] 25)
      rw [s1] at M4
      have M3 := Lib.hid (blk_alloc (blk_new w8 (.cells #[v0, v1, v2, v3, v4] 31)) (.cells #[.slice none 0 0, .int .i64 0, .string ⟨#[]⟩, .slice (some ⟨w8.heap.size, 0, none⟩) 1 1] 25))
      have M4 := Lib.hid M4
      have hbl := below_alloc (below_alloc (Below.refl _ w8) (.cells #[v0, v1, v2, v3, v4] 31)) (.cells #[.slice none 0 0, .int .i64 0, .string ⟨#[]⟩, .slice (some ⟨w8.heap.size, 0, none⟩) 1 1] 25)
      have M1' := Lib.hid (blk_below M1.out hbl)
      have M2' := Lib.hid (blk_below M2.out hbl)
      have B9 := Lib.hid (below_step B8.out hbl)
      have V9 := Lib.hid (k31.K_below hbl V8.out)
      clear hbl s1 z0 z1 z2 z3 z4
      generalize ((w8.alloc (.cells #[v0, v1, v2, v3, v4] 31)).alloc (.cells #[.slice none 0 0, .int .i64 0, .string ⟨#[]⟩, .slice (some ⟨w8.heap.size, 0, none⟩) 1 1] 25)) = w9 at *
      generalize w8.heap.size = a3 at *
      have PX := Lib.hid (show ProgC w9 (dx (nest e0 i)) none 0 (some ⟨a3, 0, none⟩) 1 from ⟨Nat.le_refl 0, Kd.C_nil _ _, Nat.le_refl 1, C_one M3.out V9.out⟩)
      have PQ := Lib.hid (show ProgC w9 (dq x (nest e0 i)) AD cD (some ⟨a1, 0, none⟩) 1 from ⟨P3.out.ld, Kd.C_below P3.out.gd B9.out, Nat.le_refl 1, C_one M1'.out V9.out⟩)
      have T9 := Lib.hid (T3.out.below B9.out)
      have hX : walkPr stD (dx (nest e0 i)) 0 = min (dd + i) 65 := by rw [deepPr, dx_deep, nest_deep e0 i 65, HDD.out, mn_min]; rfl
      have HQ := Lib.hid (show 64 < dd + i → goodPr (dq x (nest e0 i)) = false from fun h => dq_bad x _ (by rw [nest_deep e0 i 65, ← HDD.out]; unfold mn; split <;> omega))
      have HB := Lib.hid B3.out
      clear M1 M2 M3 M1' B8 V8 B7 X7
      have t0 := blk_cell M4.out 0
      have t1 := blk_cell M4.out 1
      have t2 := blk_cell M4.out 2
      have t3 := blk_cell M4.out 3
      have hw : wrap64 (dd + i) = dd + i := by unfold wrap64; omega
      go_wp2_with (first
        | (go_at_call 13; refine (top_35_call (dx (nest e0 i)) none 0 (some ⟨a3, 0, none⟩) 1 _ PX.out).mono ?_; rintro e wa ⟨rfl, hd⟩; rw [hX]; have BA := Lib.hid (below_step B9.out hd); have MA := Lib.hid (blk_below M2'.out hd); have PA := Lib.hid (progC_below PQ.out hd); have TA := Lib.hid (T9.out.below hd); clear hd t0 t1 t2 t3; have t0 := blk_cell MA.out 0; have t1 := blk_cell MA.out 1; have t2 := blk_cell MA.out 2; have t3 := blk_cell MA.out 3)
        | (go_at_call 8; refine (good_call (dq x (nest e0 i)) AD cD (some ⟨a1, 0, none⟩) 1 _ PA.out).mono ?_; rintro e wb ⟨rfl, hd⟩; have BB := Lib.hid (below_step BA.out hd); have TB_ := Lib.hid (TA.out.below hd); clear hd; rw [HQ.out (by first | assumption | omega)])
        | (go_at_call 7; refine (lives_true _ (by first | exact TB_.out | exact TA.out)).mono ?_; rintro e wc ⟨rfl, hd⟩; have BC := Lib.hid (below_step (by first | exact BB.out | exact BA.out) hd); clear hd))
      all_goals (go_ret; exact ⟨rfl, below_step HB.out BC.out⟩)
end Go.Proofs.YtjboncbmeanlgaaDoor.Tr
