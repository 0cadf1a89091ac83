/- WalkPD -/
import Derived.Test.YtjboncbmeanlgaaDoorQWalkBD
import Derived.Laws.EntriesVeiled
/- The walk through a tree, Depth: its closures. -/
set_option linter.unusedVariables false
set_option linter.unusedSimpArgs false
namespace Go.Proofs.YtjboncbmeanlgaaDoor.Tr
open Go.RowKit Go.Proofs Go.Proofs.YtjboncbmeanlgaaDoor.PTreePrints Go.Proofs.YtjboncbmeanlgaaDoorW.PrintWords Go.Proofs.YtjboncbmeanlgaaDoorW.PrintMore Go.Proofs.YtjboncbmeanlgaaDoorW.PrintLast
theorem WB_35_any (w0 : World) (g b72 b95 b96 b94 : Nat) (hg : w0.heap.size ≤ g) : ∀ (n : Nat) (x : S42), SizeOf.sizeOf x ≤ n → WB_35 w0 g b72 b95 b96 b94 x := by
  intro n
  induction n with
  | zero =>
    intro x hx
    cases x
    simp at hx
  | succ n ih =>
    intro x hx
    refine WB_35_ok w0 g b72 b95 b96 b94 hg x (fun y hy => ih y ?_) (fun y hy => ih y.2.2 ?_)
    · have h1 := List.sizeOf_lt_of_mem hy
      cases x
      simp at hx
      simp only at h1
      omega
    · have h1 := List.sizeOf_lt_of_mem hy
      obtain ⟨p, q, b⟩ := y
      cases x
      simp at hx
      simp at h1 ⊢
      omega
set_option maxRecDepth 100000 in
set_option maxHeartbeats 32000000 in
/-- The walk through a program. -/
theorem walk_35_call (w0 : World) (g : Nat) (hg : w0.heap.size ≤ g) (x : S25) (AD : Option Addr) (cD : Nat) (AX : Option Addr) (cX : Nat) (m : Int) (W : World) (hW : Below w0.heap.size w0 W) (hN : NB g W m) (hP : ProgC w0 x AD cD AX cX) :
    Calls Tryd.prog 34 #[.agg #[.slice AD x.f0.length cD, .int .i64 x.f1, .string x.f2, .slice AX x.f3.length cX], .func (.func 35) #[] #[.pointer (some ⟨g, 0, none⟩)]] W (Told g (walkPr stD x m) W) := by
  have hlnD := C_len hP.gd
  have HP := Lib.hid hP
  have HW := Lib.hid hW
  have HN := Lib.hid hN
  clear hP hW hN
  go_enter Tryd.func34, Tryd.ntmps34
  go_upto_region 4 with fail
  obtain ⟨a25, a72, a94, a95, a96, hbl, _⟩ := alloc5 W (.cells #[.slice AD x.f0.length cD, .int .i64 x.f1, .string x.f2, .slice AX x.f3.length cX] 25) (.cells #[.func (.func 35) #[] #[.pointer (some ⟨g, 0, none⟩)]] 72) (.cells #[.nilFunc] 94) (.cells #[.nilFunc] 95) (.cells #[.nilFunc] 96)
  generalize (((((W.alloc (.cells #[.slice AD x.f0.length cD, .int .i64 x.f1, .string x.f2, .slice AX x.f3.length cX] 25)).alloc (.cells #[.func (.func 35) #[] #[.pointer (some ⟨g, 0, none⟩)]] 72)).alloc (.cells #[.nilFunc] 94)).alloc (.cells #[.nilFunc] 95)).alloc (.cells #[.nilFunc] 96)) = V5 at *
  have hgW : g < W.heap.size := blk_lt HN.out
  generalize hbn : W.heap.size = bn at *
  generalize hc96 : bn + 1 + 1 + 1 + 1 = c96 at *
  generalize hc95 : bn + 1 + 1 + 1 = c95 at *
  generalize hc94 : bn + 1 + 1 = c94 at *
  generalize hc72 : bn + 1 = c72 at *
  have hbW : W.heap.size ≤ bn := by omega
  have x95 := blk_cell a95 0
  have f95 := blk_frozen a95 0
  have A25 := Lib.hid (blk_far (p := ⟨c95, 0, none⟩) a25 (show bn ≠ c95 by omega) (.func (.func 60) #[] #[.pointer (some ⟨c72, 0, none⟩), .pointer (some ⟨c95, 0, none⟩)]))
  have A72 := Lib.hid (blk_far (p := ⟨c95, 0, none⟩) a72 (show c72 ≠ c95 by omega) (.func (.func 60) #[] #[.pointer (some ⟨c72, 0, none⟩), .pointer (some ⟨c95, 0, none⟩)]))
  have A94 := Lib.hid (blk_far (p := ⟨c95, 0, none⟩) a94 (show c94 ≠ c95 by omega) (.func (.func 60) #[] #[.pointer (some ⟨c72, 0, none⟩), .pointer (some ⟨c95, 0, none⟩)]))
  have A95 := Lib.hid (blk_set a95 0 (.func (.func 60) #[] #[.pointer (some ⟨c72, 0, none⟩), .pointer (some ⟨c95, 0, none⟩)]))
  have A96 := Lib.hid (blk_far (p := ⟨c95, 0, none⟩) a96 (show c96 ≠ c95 by omega) (.func (.func 60) #[] #[.pointer (some ⟨c72, 0, none⟩), .pointer (some ⟨c95, 0, none⟩)]))
  have BL := Lib.hid (hbl.setCell (p := ⟨c95, 0, none⟩) (show bn ≤ c95 by omega) (.func (.func 60) #[] #[.pointer (some ⟨c72, 0, none⟩), .pointer (some ⟨c95, 0, none⟩)]))
  clear a25 a72 a94 a95 a96 hbl
  go_upto_region 5 with fail
  clear x95 f95
  generalize V5.setCell ⟨c95, 0, none⟩ (.func (.func 60) #[] #[.pointer (some ⟨c72, 0, none⟩), .pointer (some ⟨c95, 0, none⟩)]) = V6 at *
  simp only [List.setIfInBounds_toArray, List.set_cons_zero] at A95
  have x96 := blk_cell A96.out 0
  have f96 := blk_frozen A96.out 0
  have D25 := Lib.hid (blk_far (p := ⟨c96, 0, none⟩) A25.out (show bn ≠ c96 by omega) (.func (.func 61) #[] #[.pointer (some ⟨c72, 0, none⟩), .pointer (some ⟨c96, 0, none⟩)]))
  have D72 := Lib.hid (blk_far (p := ⟨c96, 0, none⟩) A72.out (show c72 ≠ c96 by omega) (.func (.func 61) #[] #[.pointer (some ⟨c72, 0, none⟩), .pointer (some ⟨c96, 0, none⟩)]))
  have D94 := Lib.hid (blk_far (p := ⟨c96, 0, none⟩) A94.out (show c94 ≠ c96 by omega) (.func (.func 61) #[] #[.pointer (some ⟨c72, 0, none⟩), .pointer (some ⟨c96, 0, none⟩)]))
  have D95 := Lib.hid (blk_far (p := ⟨c96, 0, none⟩) A95.out (show c95 ≠ c96 by omega) (.func (.func 61) #[] #[.pointer (some ⟨c72, 0, none⟩), .pointer (some ⟨c96, 0, none⟩)]))
  have D96 := Lib.hid (blk_set A96.out 0 (.func (.func 61) #[] #[.pointer (some ⟨c72, 0, none⟩), .pointer (some ⟨c96, 0, none⟩)]))
  have DL := Lib.hid (BL.out.setCell (p := ⟨c96, 0, none⟩) (show bn ≤ c96 by omega) (.func (.func 61) #[] #[.pointer (some ⟨c72, 0, none⟩), .pointer (some ⟨c96, 0, none⟩)]))
  clear A25 A72 A94 A95 A96 BL
  go_upto_region 6 with fail
  clear x96 f96
  generalize V6.setCell ⟨c96, 0, none⟩ (.func (.func 61) #[] #[.pointer (some ⟨c72, 0, none⟩), .pointer (some ⟨c96, 0, none⟩)]) = V7 at *
  simp only [List.setIfInBounds_toArray, List.set_cons_zero] at D96
  have x94 := blk_cell D94.out 0
  have f94 := blk_frozen D94.out 0
  have E25 := Lib.hid (blk_far (p := ⟨c94, 0, none⟩) D25.out (show bn ≠ c94 by omega) (.func (.func 62) #[] #[.pointer (some ⟨c72, 0, none⟩), .pointer (some ⟨c95, 0, none⟩), .pointer (some ⟨c94, 0, none⟩), .pointer (some ⟨c96, 0, none⟩)]))
  have E72 := Lib.hid (blk_far (p := ⟨c94, 0, none⟩) D72.out (show c72 ≠ c94 by omega) (.func (.func 62) #[] #[.pointer (some ⟨c72, 0, none⟩), .pointer (some ⟨c95, 0, none⟩), .pointer (some ⟨c94, 0, none⟩), .pointer (some ⟨c96, 0, none⟩)]))
  have E95 := Lib.hid (blk_far (p := ⟨c94, 0, none⟩) D95.out (show c95 ≠ c94 by omega) (.func (.func 62) #[] #[.pointer (some ⟨c72, 0, none⟩), .pointer (some ⟨c95, 0, none⟩), .pointer (some ⟨c94, 0, none⟩), .pointer (some ⟨c96, 0, none⟩)]))
  have E96 := Lib.hid (blk_far (p := ⟨c94, 0, none⟩) D96.out (show c96 ≠ c94 by omega) (.func (.func 62) #[] #[.pointer (some ⟨c72, 0, none⟩), .pointer (some ⟨c95, 0, none⟩), .pointer (some ⟨c94, 0, none⟩), .pointer (some ⟨c96, 0, none⟩)]))
  have E94 := Lib.hid (blk_set D94.out 0 (.func (.func 62) #[] #[.pointer (some ⟨c72, 0, none⟩), .pointer (some ⟨c95, 0, none⟩), .pointer (some ⟨c94, 0, none⟩), .pointer (some ⟨c96, 0, none⟩)]))
  have EL := Lib.hid (DL.out.setCell (p := ⟨c94, 0, none⟩) (show bn ≤ c94 by omega) (.func (.func 62) #[] #[.pointer (some ⟨c72, 0, none⟩), .pointer (some ⟨c95, 0, none⟩), .pointer (some ⟨c94, 0, none⟩), .pointer (some ⟨c96, 0, none⟩)]))
  clear D25 D72 D94 D95 D96 DL
  go_upto_region 7 with fail
  clear x94 f94
  generalize V7.setCell ⟨c94, 0, none⟩ (.func (.func 62) #[] #[.pointer (some ⟨c72, 0, none⟩), .pointer (some ⟨c95, 0, none⟩), .pointer (some ⟨c94, 0, none⟩), .pointer (some ⟨c96, 0, none⟩)]) = V8 at *
  simp only [List.setIfInBounds_toArray, List.set_cons_zero] at E94
  have EL' := Lib.hid (show Below W.heap.size W V8 by rw [hbn]; exact EL.out)
  have SP := Lib.hid (show St_35 w0 g c72 c95 c96 c94 W V8 m from ⟨HN.out.below EL'.out, ⟨E72.out, E95.out, E96.out, E94.out⟩, KX.of_below EL'.out, below_step HW.out EL'.out⟩)
  have XP := Lib.hid E25.out
  have hgn : bn ≠ g := by omega
  clear E25 E72 E94 E95 E96 EL EL'
  have WE := Lib.hid (fun (l : List S31) => WE_35_any w0 g c72 c95 c96 c94 hg _ l (Nat.le_refl _))
  have WB := Lib.hid (fun (y : S42) => WB_35_any w0 g c72 c95 c96 c94 hg _ y (Nat.le_refl _))
  clear hc72 hc94 hc95 hc96
  have y0 := blk_cell XP.out 0
  go_wp2
  go_loopw [15] (fun vi wr => ∃ i : Nat, vi = .int .i64 i ∧ i ≤ x.f0.length ∧ Hid (St_35 w0 g c72 c95 c96 c94 W wr (walkDL stD (x.f0.take i) m)) ∧ Hid (wr.heap[bn]? = some (.cells #[.slice AD x.f0.length cD, .int .i64 x.f1, .string x.f2, .slice AX x.f3.length cX] 25 (0, 0)))) (fun vi _ => x.f0.length - (intOf vi).toNat)
  case atStart => exact ⟨0, by go_num, Nat.zero_le _, Lib.hid SP.out, Lib.hid XP.out⟩
  case round =>
    obtain ⟨i, rfl, hil, HS, HXB⟩ := hrel
    obtain ⟨wq, hwq⟩ : ∃ wq, wq = wr := ⟨_, rfl⟩
    subst hwq
    by_cases hlt : i < x.f0.length
    · have q1 : (i : Int) < (x.f0.length : Int) := by omega
      have q0 : (0 : Int) ≤ (i : Int) := by omega
      obtain ⟨ad_, As, cs_, B0, b0, B4, b4, B5, b5, B6, b6, hA_, u0, u1, u2, u3, u4, u5, u6, u7, u8, u9, u10, u11, hX_⟩ := at_T44 HP.out.gd (i : Int) q0 q1
      subst hA_
      rw [rd44 x.f0 i hlt, Int.toNat_natCast] at u0 u1 u2 u3 u4 u5 u6 u7 u8 u9 u10 u11
      rw [rd44 x.f0 i hlt] at hX_
      replace u0 := (HS.out.b.cell (World.block_lt_of_cell? w0 _ u0)).trans u0
      replace u1 := (HS.out.b.cell (World.block_lt_of_cell? w0 _ u1)).trans u1
      replace u2 := (HS.out.b.cell (World.block_lt_of_cell? w0 _ u2)).trans u2
      replace u3 := (HS.out.b.cell (World.block_lt_of_cell? w0 _ u3)).trans u3
      replace u4 := (HS.out.b.cell (World.block_lt_of_cell? w0 _ u4)).trans u4
      replace u5 := (HS.out.b.cell (World.block_lt_of_cell? w0 _ u5)).trans u5
      replace u6 := (HS.out.b.cell (World.block_lt_of_cell? w0 _ u6)).trans u6
      replace u7 := (HS.out.b.cell (World.block_lt_of_cell? w0 _ u7)).trans u7
      replace u8 := (HS.out.b.cell (World.block_lt_of_cell? w0 _ u8)).trans u8
      replace u9 := (HS.out.b.cell (World.block_lt_of_cell? w0 _ u9)).trans u9
      replace u10 := (HS.out.b.cell (World.block_lt_of_cell? w0 _ u10)).trans u10
      replace u11 := (HS.out.b.cell (World.block_lt_of_cell? w0 _ u11)).trans u11
      have HT := Lib.hid (show ∀ v, v = walkB stD x.f0[i].f3 1 (walkN stD x.f0[i].f2.length (stD (walkDL stD (x.f0.take i) m) 0)) → v = walkDL stD (x.f0.take (i + 1)) m from fun v hv => by rw [List.take_succ_eq_append_getElem hlt, walkDL_snoc]; exact hv)
      have HX := Lib.hid hX_
      clear hX_
      have hdl := C_len HX.out.2.1
      generalize x.f0[i] = d at *
      generalize walkDL stD (x.f0.take i) m = mi at *
      go_upto_region 10 with fail
      have hal := below_alloc (Below.refl _ wq) (.cells #[.int .i64 d.f0, .string d.f1, .slice As d.f2.length cs_, .slice B0 d.f3.f0.length b0, .int .i64 d.f3.f1, .int .i64 d.f3.f2, .string d.f3.f3, .slice B4 d.f3.f4.length b4, .slice B5 d.f3.f5.length b5, .slice B6 d.f3.f6.length b6, .bool d.f3.f7, .int .i64 d.f3.f8] 44)
      have XC4 := Lib.hid (blk_new wq (.cells #[.int .i64 d.f0, .string d.f1, .slice As d.f2.length cs_, .slice B0 d.f3.f0.length b0, .int .i64 d.f3.f1, .int .i64 d.f3.f2, .string d.f3.f3, .slice B4 d.f3.f4.length b4, .slice B5 d.f3.f5.length b5, .slice B6 d.f3.f6.length b6, .bool d.f3.f7, .int .i64 d.f3.f8] 44))
      have S4 := Lib.hid (HS.out.below hal)
      have X4 := Lib.hid (blk_below HXB.out hal)
      clear hal u0 u1 u2 u3 u4 u5 u6 u7 u8 u9 u10 u11 HS HXB
      generalize wq.alloc (.cells #[.int .i64 d.f0, .string d.f1, .slice As d.f2.length cs_, .slice B0 d.f3.f0.length b0, .int .i64 d.f3.f1, .int .i64 d.f3.f2, .string d.f3.f3, .slice B4 d.f3.f4.length b4, .slice B5 d.f3.f5.length b5, .slice B6 d.f3.f6.length b6, .bool d.f3.f7, .int .i64 d.f3.f8] 44) = w4 at *
      generalize wq.heap.size = gd at *
      have ka := blk_cell S4.out.x.a 0
      go_upto_region 11 with (go_at_call 35; refine (cb35 g _ mi 0 S4.out.n).mono ?_; rintro e w5 ⟨rfl, hn, hk⟩; have S5 := Lib.hid (S4.out.told hg hn hk); have X5 := Lib.hid (hk.blk X4.out (ne_blk X4.out S4.out.n (by decide))); have XC5 := Lib.hid (hk.blk XC4.out (ne_blk XC4.out S4.out.n (by decide))); clear hn hk)
      clear ka S4 X4 XC4
      have z2 := blk_cell XC5.out 2
      go_wp2
      go_loopw [24] (fun vi wr => ∃ q : Nat, vi = .int .i64 q ∧ q ≤ d.f2.length ∧ Hid (St_35 w0 g c72 c95 c96 c94 W wr (walkN stD q (stD mi 0))) ∧ Hid (wr.heap[bn]? = some (.cells #[.slice (some ad_) x.f0.length cD, .int .i64 x.f1, .string x.f2, .slice AX x.f3.length cX] 25 (0, 0))) ∧ Hid (wr.heap[gd]? = some (.cells #[.int .i64 d.f0, .string d.f1, .slice As d.f2.length cs_, .slice B0 d.f3.f0.length b0, .int .i64 d.f3.f1, .int .i64 d.f3.f2, .string d.f3.f3, .slice B4 d.f3.f4.length b4, .slice B5 d.f3.f5.length b5, .slice B6 d.f3.f6.length b6, .bool d.f3.f7, .int .i64 d.f3.f8] 44 (0, 0)))) (fun vi _ => d.f2.length - (intOf vi).toNat)
      case atStart => exact ⟨0, by go_num, Nat.zero_le _, Lib.hid S5.out, Lib.hid X5.out, Lib.hid XC5.out⟩
      case round =>
        obtain ⟨q, rfl, hql, HS, HXB, HXC⟩ := hrel
        obtain ⟨wi, hwi⟩ : ∃ wi, wi = wr := ⟨_, rfl⟩
        subst hwi
        by_cases hq : q < d.f2.length
        · have p1 : (q : Int) < (d.f2.length : Int) := by omega
          have ka := blk_cell HS.out.x.a 0
          go_wp2_with (go_at_call 35; refine (cb35 g _ _ 0 HS.out.n).mono ?_; rintro e w7 ⟨rfl, hn, hk⟩; have S7 := Lib.hid (HS.out.told hg hn hk); have X7 := Lib.hid (hk.blk HXB.out (ne_blk HXB.out HS.out.n (by decide))); have XC7 := Lib.hid (hk.blk HXC.out (ne_blk HXC.out HS.out.n (by decide))); clear hn hk)
          go_roundw
          case rel => exact ⟨q + 1, by go_num, hq, Lib.hid (S7.out.cast (walkN_succ stD q _).symm), X7, XC7⟩
          case measure => simp [intOf]; omega
        · obtain rfl : q = d.f2.length := by omega
          have kb := blk_cell HS.out.x.b 0
          have z3 := blk_cell HXC.out 3
          have z4 := blk_cell HXC.out 4
          have z5 := blk_cell HXC.out 5
          have z6 := blk_cell HXC.out 6
          have z7 := blk_cell HXC.out 7
          have z8 := blk_cell HXC.out 8
          have z9 := blk_cell HXC.out 9
          have z10 := blk_cell HXC.out 10
          have z11 := blk_cell HXC.out 11
          go_wp2_with (go_at_call 62; refine (WB.out d.f3 B0 b0 B4 b4 B5 b5 B6 b6 1 _ _ HS.out.b HS.out.n HS.out.x HX.out.2.2 (by omega)).mono ?_; rintro e w7 ⟨rfl, hn, hk⟩; have S7 := Lib.hid (HS.out.told hg hn hk); have X7 := Lib.hid (hk.blk HXB.out (ne_blk HXB.out HS.out.n (by decide))); clear hn hk)
          go_roundw
          case rel => exact ⟨i + 1, by go_num, hlt, Lib.hid (S7.out.cast (HT.out _ rfl)), X7⟩
          case measure => simp [intOf]; omega
    · obtain rfl : i = x.f0.length := by omega
      have hg_ := HS.out
      rw [List.take_length] at hg_
      have S9 := Lib.hid hg_
      clear hg_ HS y0
      have ke := blk_cell S9.out.x.e 0
      have y3 := blk_cell HXB.out 3
      go_wp2_with (go_at_call 60; refine (WE.out x.f3 AX cX 1 _ _ S9.out.b S9.out.n S9.out.x HP.out.gx HP.out.lx (by omega)).mono ?_; rintro e w6 ⟨rfl, hn6, hk6⟩; have S10 := Lib.hid (S9.out.told hg hn6 hk6); clear hn6 hk6)
      go_end0
      exact ⟨rfl, S10.out.n, S10.out.k⟩
theorem results13 (tmps : Array Value) (w : World) (g : Nat) (m : Int) (hp : tmps.getD 2 undef = .pointer (some ⟨g, 0, none⟩)) (h : NB g w m) : (results Tryd.f13 tmps).run Tryd.prog w = .ok (.int .i64 m) w := by
  have hp' : tmps[2]?.getD undef = .pointer (some ⟨g, 0, none⟩) := by simpa using hp
  have hc := blk_cell h 0
  simp [results, Tryd.results13, asAddr, hp']
  go_simp
set_option maxRecDepth 100000 in
set_option maxHeartbeats 16000000 in
/-- Depth: what it tells. -/
theorem top_35_call (x : S25) (AD : Option Addr) (cD : Nat) (AX : Option Addr) (cX : Nat) (w : World) (hP : ProgC w x AD cD AX cX) :
    Calls Tryd.prog 13 #[.agg #[.slice AD x.f0.length cD, .int .i64 x.f1, .string x.f2, .slice AX x.f3.length cX]] w fun e w' => e = .returned (.int .i64 (walkPr stD x 0)) ∧ Below w.heap.size w w' := by
  have HP := Lib.hid hP
  clear hP
  go_enter Tryd.func13, Tryd.ntmps13
  go_upto_region 1 with fail
  have s1 : (w.alloc (.cells #[.slice AD x.f0.length cD, .int .i64 x.f1, .string x.f2, .slice AX x.f3.length cX] 25)).heap.size = w.heap.size + 1 := by simp
  have X2 := blk_new (w.alloc (.cells #[.slice AD x.f0.length cD, .int .i64 x.f1, .string x.f2, .slice AX x.f3.length cX] 25)) (.cells #[.int .i64 0] 3)
  have X1 := Lib.hid (blk_alloc (blk_new w (.cells #[.slice AD x.f0.length cD, .int .i64 x.f1, .string x.f2, .slice AX x.f3.length cX] 25)) (.cells #[.int .i64 0] 3))
  rw [s1] at X2
  have BL := Lib.hid (below_alloc (below_alloc (Below.refl _ w) (.cells #[.slice AD x.f0.length cD, .int .i64 x.f1, .string x.f2, .slice AX x.f3.length cX] 25)) (.cells #[.int .i64 0] 3))
  clear s1
  generalize ((w.alloc (.cells #[.slice AD x.f0.length cD, .int .i64 x.f1, .string x.f2, .slice AX x.f3.length cX] 25)).alloc (.cells #[.int .i64 0] 3)) = V2 at *
  have N2 := Lib.hid (show NB (w.heap.size + 1) V2 0 from X2)
  clear X2
  have hgs : w.heap.size ≤ w.heap.size + 1 := Nat.le_succ _
  have y0 := blk_cell X1.out 0
  have y1 := blk_cell X1.out 1
  have y2 := blk_cell X1.out 2
  have y3 := blk_cell X1.out 3
  go_upto_region 2 with (go_at_call 34; refine (walk_35_call w (w.heap.size + 1) hgs x AD cD AX cX 0 V2 BL.out N2.out HP.out).mono ?_; rintro e w5 ⟨rfl, hn, hk⟩; have N5 := Lib.hid hn; have B5 := Lib.hid (BL.out.trans (hk.below hgs BL.out.size)); clear hn hk)
  obtain ⟨m5, hm5⟩ : ∃ q, q = walkPr stD x 0 := ⟨_, rfl⟩
  rw [← hm5] at N5
  have HM5 := Lib.hid hm5
  clear hm5
  have kc := blk_cell N5.out 0
  have kf := blk_frozen N5.out 0
  have N6 := Lib.hid (NB.set N5.out m5)
  have B6 := Lib.hid (B5.out.setCell (p := ⟨w.heap.size + 1, 0, none⟩) hgs (.int .i64 m5))
  clear y0 y1 y2 y3 X1 N2 BL
  go_wp2
  refine bodyPost_ret (results13 _ _ _ _ rfl N6.out) rfl ⟨by rw [HM5.out], B6.out⟩
end Go.Proofs.YtjboncbmeanlgaaDoor.Tr
