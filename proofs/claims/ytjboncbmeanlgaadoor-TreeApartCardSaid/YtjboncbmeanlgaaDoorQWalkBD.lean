/- WalkBD -/
import Derived.Test.YtjboncbmeanlgaaDoorQWalkD
/- The walk through a tree, Depth: its closures. -/
set_option linter.unusedVariables false
set_option linter.unusedSimpArgs false
namespace Go.Proofs.YtjboncbmeanlgaaDoor.Tr
open Go.RowKit Go.Proofs Go.Proofs.YtjboncbmeanlgaaDoor.PTreePrints Go.Proofs.YtjboncbmeanlgaaDoorW.PrintWords Go.Proofs.YtjboncbmeanlgaaDoorW.PrintMore Go.Proofs.YtjboncbmeanlgaaDoorW.PrintLast
/-- The state of the walk: the number, the boxes, what stays. -/
structure St_35 (w0 : World) (g b72 b95 b96 b94 : Nat) (W0 W : World) (m : Int) : Prop where
  n : NB g W m
  x : BoxW 35 g b72 b95 b96 b94 W
  k : KX g W0 W
  b : Below w0.heap.size w0 W
theorem St_35.below {w0 : World} {g b72 b95 b96 b94 : Nat} {W0 W W' : World} {m : Int} (h : St_35 w0 g b72 b95 b96 b94 W0 W m) (hb : Below W.heap.size W W') : St_35 w0 g b72 b95 b96 b94 W0 W' m :=
  ⟨h.n.below hb, h.x.below hb, h.k.trans (KX.of_below hb), below_step h.b hb⟩
theorem St_35.told {w0 : World} {g b72 b95 b96 b94 : Nat} {W0 W W' : World} {m m' : Int} (h : St_35 w0 g b72 b95 b96 b94 W0 W m) (hg : w0.heap.size ≤ g) (hn : NB g W' m') (hk : KX g W W') : St_35 w0 g b72 b95 b96 b94 W0 W' m' :=
  ⟨hn, h.x.keep h.n hk, h.k.trans hk, h.b.trans (hk.below hg h.b.size)⟩
theorem St_35.cast {w0 : World} {g b72 b95 b96 b94 : Nat} {W0 W : World} {m m' : Int} (e : m = m') (h : St_35 w0 g b72 b95 b96 b94 W0 W m) : St_35 w0 g b72 b95 b96 b94 W0 W m' := e ▸ h
/-- What is to be shown of a body. -/
def WB_35 (w0 : World) (g b72 b95 b96 b94 : Nat) (x : S42) : Prop := ∀ (A0 : Option Addr) (c0 : Nat) (A4 : Option Addr) (c4 : Nat) (A5 : Option Addr) (c5 : Nat) (A6 : Option Addr) (c6 : Nat) (lv : Nat) (m : Int) (W : World), Below w0.heap.size w0 W → NB g W m → BoxW 35 g b72 b95 b96 b94 W → BodyC w0 x A0 c0 A4 c4 A5 c5 A6 c6 → lv ≤ 66 →
  Calls Tryd.prog 62 #[bodyV x A0 c0 A4 c4 A5 c5 A6 c6, .int .i64 (lv : Int), .pointer (some ⟨b72, 0, none⟩), .pointer (some ⟨b95, 0, none⟩), .pointer (some ⟨b94, 0, none⟩), .pointer (some ⟨b96, 0, none⟩)] W (Told g (walkB stD x lv m) W)
set_option maxRecDepth 100000 in
set_option maxHeartbeats 32000000 in
theorem WB_35_ok (w0 : World) (g b72 b95 b96 b94 : Nat) (hg : w0.heap.size ≤ g) (x : S42) (hI : ∀ y, y ∈ x.f5 → WB_35 w0 g b72 b95 b96 b94 y) (hJ : ∀ y, y ∈ x.f6 → WB_35 w0 g b72 b95 b96 b94 y.2.2) : WB_35 w0 g b72 b95 b96 b94 x := by
  obtain ⟨f0, f1, f2, f3, f4, f5, f6, f7, f8⟩ := x
  intro A0 c0 A4 c4 A5 c5 A6 c6 lv m W hW hN hX hB hlv
  simp only at hI hJ
  have hln0 := C_len hB.g0
  have hln5 := C_len hB.g5
  have hln6 := C_len hB.g6
  simp only at hln0 hln5 hln6
  have HI := Lib.hid hI
  have HJ := Lib.hid hJ
  have HB := Lib.hid hB
  have hwl : wrap64 ((lv : Int) + 1) = ((lv + 1 : Nat) : Int) := w_inc lv (by omega)
  have SP0 := Lib.hid (show St_35 w0 g b72 b95 b96 b94 W W m from ⟨hN, hX, KX.refl _ _, hW⟩)
  have WE := Lib.hid (fun (l : List S31) => WE_35_any w0 g b72 b95 b96 b94 hg _ l (Nat.le_refl _))
  have WP := Lib.hid (fun (l : List S83) => WP_35_any w0 g b72 b95 b96 b94 hg _ l (Nat.le_refl _))
  clear hI hJ hB hW hN hX
  unfold bodyV
  simp only
  go_enter Tryd.func62, Tryd.ntmps62
  have hal := below_alloc (Below.refl _ W) (.cells #[.slice A0 f0.length c0, .int .i64 f1, .int .i64 f2, .string f3, .slice A4 f4.length c4, .slice A5 f5.length c5, .slice A6 f6.length c6, .bool f7, .int .i64 f8] 42)
  have XP := Lib.hid (blk_new W (.cells #[.slice A0 f0.length c0, .int .i64 f1, .int .i64 f2, .string f3, .slice A4 f4.length c4, .slice A5 f5.length c5, .slice A6 f6.length c6, .bool f7, .int .i64 f8] 42))
  have SP := Lib.hid (SP0.out.below hal)
  clear hal SP0
  go_upto_region 1 with fail
  generalize W.alloc (.cells #[.slice A0 f0.length c0, .int .i64 f1, .int .i64 f2, .string f3, .slice A4 f4.length c4, .slice A5 f5.length c5, .slice A6 f6.length c6, .bool f7, .int .i64 f8] 42) = wp at *
  generalize W.heap.size = gx at *
  by_cases h65 : lv ≤ 65
  · have h65' : ¬ (lv : Int) > 65 := by omega
    have ka := blk_cell SP.out.x.a 0
    go_upto_region 3 with (go_at_call 35; refine (cb35 g _ m (lv : Int) SP.out.n).mono ?_; rintro e w5 ⟨rfl, hn5, hk5⟩; have S5 := Lib.hid (SP.out.told hg hn5 hk5); have X5 := Lib.hid (hk5.blk XP.out (ne_blk XP.out SP.out.n (by decide))); clear hn5 hk5)
    clear ka SP XP
    have ke := blk_cell S5.out.x.e 0
    have y4 := blk_cell X5.out 4
    go_upto_region 4 with (go_at_call 60; refine (WE.out f4 A4 c4 (lv + 1) _ _ S5.out.b S5.out.n S5.out.x HB.out.g4 HB.out.l4 (by omega)).mono ?_; rintro e w6 ⟨rfl, hn6, hk6⟩; have S6 := Lib.hid (S5.out.told hg hn6 hk6); have X6 := Lib.hid (hk6.blk X5.out (ne_blk X5.out S5.out.n (by decide))); clear hn6 hk6)
    clear ke y4 S5 X5
    have y0 := blk_cell X6.out 0
    have SP := Lib.hid S6.out
    have XP := Lib.hid X6.out
    clear S6 X6
    generalize w6 = wp' at *
    have hmm : ∃ mm, mm = walkEL stD f4 (lv + 1) (stD m (lv : Int)) := ⟨_, rfl⟩
    obtain ⟨m0, hm0⟩ := hmm
    rw [← hm0] at SP
    have HM0 := Lib.hid hm0
    clear hm0
    go_wp2
    go_loopw [28] (fun vi wr => ∃ i : Nat, vi = .int .i64 i ∧ i ≤ f0.length ∧ Hid (St_35 w0 g b72 b95 b96 b94 W wr (walkSL stD (f0.take i) lv m0)) ∧ Hid (wr.heap[gx]? = some (.cells #[.slice A0 f0.length c0, .int .i64 f1, .int .i64 f2, .string f3, .slice A4 f4.length c4, .slice A5 f5.length c5, .slice A6 f6.length c6, .bool f7, .int .i64 f8] 42 (0, 0)))) (fun vi _ => f0.length - (intOf vi).toNat)
    case atStart => exact ⟨0, by go_num, Nat.zero_le _, Lib.hid SP.out, Lib.hid XP.out⟩
    case round =>
      obtain ⟨i, rfl, hil, HS, HXB⟩ := hrel
      obtain ⟨wq, hwq⟩ : ∃ wq, wq = wr := ⟨_, rfl⟩
      subst hwq
      by_cases hlt : i < f0.length
      · have q1 : (i : Int) < (f0.length : Int) := by omega
        have q0 : (0 : Int) ≤ (i : Int) := by omega
        obtain ⟨ad_, A9, c9, hA_, u0, u1, u2, u3, u4, hX_⟩ := at_T37 HB.out.g0 (i : Int) q0 q1
        subst hA_
        rw [rd37 f0 i hlt, Int.toNat_natCast] at u0 u1 u2 u3 u4
        rw [rd37 f0 i hlt] at hX_
        replace u0 := (HS.out.b.cell (World.block_lt_of_cell? w0 _ u0)).trans u0
        replace u1 := (HS.out.b.cell (World.block_lt_of_cell? w0 _ u1)).trans u1
        replace u2 := (HS.out.b.cell (World.block_lt_of_cell? w0 _ u2)).trans u2
        replace u3 := (HS.out.b.cell (World.block_lt_of_cell? w0 _ u3)).trans u3
        replace u4 := (HS.out.b.cell (World.block_lt_of_cell? w0 _ u4)).trans u4
        have HT := Lib.hid (show ∀ v, v = walkEL stD f0[i].f4 (lv + 1) (stD (walkSL stD (f0.take i) lv m0) 0) → v = walkSL stD (f0.take (i + 1)) lv m0 from fun v hv => by rw [List.take_succ_eq_append_getElem hlt, walkSL_snoc]; exact hv)
        have HX := Lib.hid hX_
        clear hX_
        generalize f0[i] = x at *
        generalize walkSL stD (f0.take i) lv m0 = mi at *
        go_upto_region 7 with fail
        have hal := below_alloc (Below.refl _ wq) (.cells #[.int .i64 x.f0, .int .i64 x.f1, .string x.f2, .string x.f3, .slice A9 x.f4.length c9] 37)
        have XC := Lib.hid (blk_new wq (.cells #[.int .i64 x.f0, .int .i64 x.f1, .string x.f2, .string x.f3, .slice A9 x.f4.length c9] 37))
        have S4 := Lib.hid (HS.out.below hal)
        have X4 := Lib.hid (blk_below HXB.out hal)
        clear hal u0 u1 u2 u3 u4 HS HXB
        generalize wq.alloc (.cells #[.int .i64 x.f0, .int .i64 x.f1, .string x.f2, .string x.f3, .slice A9 x.f4.length c9] 37) = w4 at *
        generalize wq.heap.size = gq at *
        have XC4 := Lib.hid XC.out
        clear XC
        have ka := blk_cell S4.out.x.a 0
        go_upto_region 8 with (go_at_call 35; refine (cb35 g _ mi 0 S4.out.n).mono ?_; rintro e w5 ⟨rfl, hn, hk⟩; have S5 := Lib.hid (S4.out.told hg hn hk); have X5 := Lib.hid (hk.blk X4.out (ne_blk X4.out S4.out.n (by decide))); have XC5 := Lib.hid (hk.blk XC4.out (ne_blk XC4.out S4.out.n (by decide))); clear hn hk)
        clear ka
        have ke := blk_cell S5.out.x.e 0
        have z4 := blk_cell XC5.out 4
        go_wp2_with (go_at_call 60; refine (WE.out x.f4 A9 c9 (lv + 1) _ _ S5.out.b S5.out.n S5.out.x HX.out.2 HX.out.1 (by omega)).mono ?_; rintro e w6 ⟨rfl, hn, hk⟩; have S6 := Lib.hid (S5.out.told hg hn hk); have X6 := Lib.hid (hk.blk X5.out (ne_blk X5.out S5.out.n (by decide))); clear hn hk)
        go_roundw
        case rel => exact ⟨i + 1, by go_num, hlt, Lib.hid (S6.out.cast (HT.out _ rfl)), X6⟩
        case measure => simp [intOf]; omega
      · obtain rfl : i = f0.length := by omega
        have hg_ := HS.out
        rw [List.take_length] at hg_
        have SPn := Lib.hid hg_
        have XPn := Lib.hid HXB.out
        clear SP XP HS HXB hg_ y0
        have hmm : ∃ mm, mm = walkSL stD f0 lv m0 := ⟨_, rfl⟩
        obtain ⟨m1, hm1⟩ := hmm
        rw [← hm1] at SPn
        have HM_m1 := Lib.hid hm1
        clear hm1
        have SP := Lib.hid SPn.out
        have XP := Lib.hid XPn.out
        clear SPn XPn
        have y0_ := blk_cell XP.out 5
        generalize wq = wp'' at *
        go_wp2
        go_loopw [44] (fun vi wr => ∃ i : Nat, vi = .int .i64 i ∧ i ≤ f5.length ∧ Hid (St_35 w0 g b72 b95 b96 b94 W wr (walkBL stD (f5.take i) lv m1)) ∧ Hid (wr.heap[gx]? = some (.cells #[.slice A0 f0.length c0, .int .i64 f1, .int .i64 f2, .string f3, .slice A4 f4.length c4, .slice A5 f5.length c5, .slice A6 f6.length c6, .bool f7, .int .i64 f8] 42 (0, 0)))) (fun vi _ => f5.length - (intOf vi).toNat)
        case atStart => exact ⟨0, by go_num, Nat.zero_le _, Lib.hid SP.out, Lib.hid XP.out⟩
        case round =>
          obtain ⟨i, rfl, hil, HS, HXB⟩ := hrel
          obtain ⟨wq, hwq⟩ : ∃ wq, wq = wr := ⟨_, rfl⟩
          subst hwq
          by_cases hlt : i < f5.length
          · have q1 : (i : Int) < (f5.length : Int) := by omega
            have q0 : (0 : Int) ≤ (i : Int) := by omega
            obtain ⟨ad_, B0, b0, B4, b4, B5, b5, B6, b6, hA_, u0, u1, u2, u3, u4, u5, u6, u7, u8, hX_⟩ := at_T42 HB.out.g5 (i : Int) q0 q1
            subst hA_
            rw [rd42 f5 i hlt, Int.toNat_natCast] at u0 u1 u2 u3 u4 u5 u6 u7 u8
            rw [rd42 f5 i hlt] at hX_
            replace u0 := (HS.out.b.cell (World.block_lt_of_cell? w0 _ u0)).trans u0
            replace u1 := (HS.out.b.cell (World.block_lt_of_cell? w0 _ u1)).trans u1
            replace u2 := (HS.out.b.cell (World.block_lt_of_cell? w0 _ u2)).trans u2
            replace u3 := (HS.out.b.cell (World.block_lt_of_cell? w0 _ u3)).trans u3
            replace u4 := (HS.out.b.cell (World.block_lt_of_cell? w0 _ u4)).trans u4
            replace u5 := (HS.out.b.cell (World.block_lt_of_cell? w0 _ u5)).trans u5
            replace u6 := (HS.out.b.cell (World.block_lt_of_cell? w0 _ u6)).trans u6
            replace u7 := (HS.out.b.cell (World.block_lt_of_cell? w0 _ u7)).trans u7
            replace u8 := (HS.out.b.cell (World.block_lt_of_cell? w0 _ u8)).trans u8
            have HT := Lib.hid (show ∀ v, v = walkB stD f5[i] (lv + 1) (walkBL stD (f5.take i) lv m1) → v = walkBL stD (f5.take (i + 1)) lv m1 from fun v hv => by rw [List.take_succ_eq_append_getElem hlt, walkBL_snoc]; exact hv)
            have HE := Lib.hid (HI.out f5[i] (List.getElem_mem hlt))
            have HX := Lib.hid hX_
            clear hX_
            generalize f5[i] = x at *
            generalize walkBL stD (f5.take i) lv m1 = mi at *
            go_upto_region 13 with fail
            have hal := below_alloc (Below.refl _ wq) (.cells #[.slice B0 x.f0.length b0, .int .i64 x.f1, .int .i64 x.f2, .string x.f3, .slice B4 x.f4.length b4, .slice B5 x.f5.length b5, .slice B6 x.f6.length b6, .bool x.f7, .int .i64 x.f8] 42)
            have XC := Lib.hid (blk_new wq (.cells #[.slice B0 x.f0.length b0, .int .i64 x.f1, .int .i64 x.f2, .string x.f3, .slice B4 x.f4.length b4, .slice B5 x.f5.length b5, .slice B6 x.f6.length b6, .bool x.f7, .int .i64 x.f8] 42))
            have S4 := Lib.hid (HS.out.below hal)
            have X4 := Lib.hid (blk_below HXB.out hal)
            clear hal u0 u1 u2 u3 u4 u5 u6 u7 u8 HS HXB
            generalize wq.alloc (.cells #[.slice B0 x.f0.length b0, .int .i64 x.f1, .int .i64 x.f2, .string x.f3, .slice B4 x.f4.length b4, .slice B5 x.f5.length b5, .slice B6 x.f6.length b6, .bool x.f7, .int .i64 x.f8] 42) = w4 at *
            generalize wq.heap.size = gq at *
            have XC4 := Lib.hid XC.out
            clear XC
            have kb := blk_cell S4.out.x.b 0
            have z0 := blk_cell XC4.out 0
            have z1 := blk_cell XC4.out 1
            have z2 := blk_cell XC4.out 2
            have z3 := blk_cell XC4.out 3
            have z4 := blk_cell XC4.out 4
            have z5 := blk_cell XC4.out 5
            have z6 := blk_cell XC4.out 6
            have z7 := blk_cell XC4.out 7
            have z8 := blk_cell XC4.out 8
            go_wp2_with (go_at_call 62; refine (HE.out B0 b0 B4 b4 B5 b5 B6 b6 (lv + 1) _ _ S4.out.b S4.out.n S4.out.x HX.out (by omega)).mono ?_; rintro e w5 ⟨rfl, hn, hk⟩; have S5 := Lib.hid (S4.out.told hg hn hk); have X5 := Lib.hid (hk.blk X4.out (ne_blk X4.out S4.out.n (by decide))); clear hn hk)
            go_roundw
            case rel => exact ⟨i + 1, by go_num, hlt, Lib.hid (S5.out.cast (HT.out _ rfl)), X5⟩
            case measure => simp [intOf]; omega
          · obtain rfl : i = f5.length := by omega
            have hg_ := HS.out
            rw [List.take_length] at hg_
            have SPn := Lib.hid hg_
            have XPn := Lib.hid HXB.out
            clear SP XP HS HXB hg_ y0_
            have hmm : ∃ mm, mm = walkBL stD f5 lv m1 := ⟨_, rfl⟩
            obtain ⟨m2, hm2⟩ := hmm
            rw [← hm2] at SPn
            have HM_m2 := Lib.hid hm2
            clear hm2
            have SP := Lib.hid SPn.out
            have XP := Lib.hid XPn.out
            clear SPn XPn
            have y0_ := blk_cell XP.out 6
            generalize wq = wp'' at *
            go_wp2
            go_loopw [57] (fun vi wr => ∃ i : Nat, vi = .int .i64 i ∧ i ≤ f6.length ∧ Hid (St_35 w0 g b72 b95 b96 b94 W wr (walkAL stD (f6.take i) lv m2)) ∧ Hid (wr.heap[gx]? = some (.cells #[.slice A0 f0.length c0, .int .i64 f1, .int .i64 f2, .string f3, .slice A4 f4.length c4, .slice A5 f5.length c5, .slice A6 f6.length c6, .bool f7, .int .i64 f8] 42 (0, 0)))) (fun vi _ => f6.length - (intOf vi).toNat)
            case atStart => exact ⟨0, by go_num, Nat.zero_le _, Lib.hid SP.out, Lib.hid XP.out⟩
            case round =>
              obtain ⟨i, rfl, hil, HS, HXB⟩ := hrel
              obtain ⟨wq, hwq⟩ : ∃ wq, wq = wr := ⟨_, rfl⟩
              subst hwq
              by_cases hlt : i < f6.length
              · have q1 : (i : Int) < (f6.length : Int) := by omega
                have q0 : (0 : Int) ≤ (i : Int) := by omega
                obtain ⟨ad_, Ap, cp, Ag, cg, B0, b0, B4, b4, B5, b5, B6, b6, hA_, u0, u1, u2, u3, u4, u5, u6, u7, u8, u9, u10, u11, u12, u13, u14, hX_⟩ := at_TArm HB.out.g6 (i : Int) q0 q1
                subst hA_
                rw [rdArm f6 i hlt, Int.toNat_natCast] at u0 u1 u2 u3 u4 u5 u6 u7 u8 u9 u10 u11 u12 u13 u14
                rw [rdArm f6 i hlt] at hX_
                replace u0 := (HS.out.b.cell (World.block_lt_of_cell? w0 _ u0)).trans u0
                replace u1 := (HS.out.b.cell (World.block_lt_of_cell? w0 _ u1)).trans u1
                replace u2 := (HS.out.b.cell (World.block_lt_of_cell? w0 _ u2)).trans u2
                replace u3 := (HS.out.b.cell (World.block_lt_of_cell? w0 _ u3)).trans u3
                replace u4 := (HS.out.b.cell (World.block_lt_of_cell? w0 _ u4)).trans u4
                replace u5 := (HS.out.b.cell (World.block_lt_of_cell? w0 _ u5)).trans u5
                replace u6 := (HS.out.b.cell (World.block_lt_of_cell? w0 _ u6)).trans u6
                replace u7 := (HS.out.b.cell (World.block_lt_of_cell? w0 _ u7)).trans u7
                replace u8 := (HS.out.b.cell (World.block_lt_of_cell? w0 _ u8)).trans u8
                replace u9 := (HS.out.b.cell (World.block_lt_of_cell? w0 _ u9)).trans u9
                replace u10 := (HS.out.b.cell (World.block_lt_of_cell? w0 _ u10)).trans u10
                replace u11 := (HS.out.b.cell (World.block_lt_of_cell? w0 _ u11)).trans u11
                replace u12 := (HS.out.b.cell (World.block_lt_of_cell? w0 _ u12)).trans u12
                replace u13 := (HS.out.b.cell (World.block_lt_of_cell? w0 _ u13)).trans u13
                replace u14 := (HS.out.b.cell (World.block_lt_of_cell? w0 _ u14)).trans u14
                have HT := Lib.hid (show ∀ v, v = walkA stD f6[i] lv (walkAL stD (f6.take i) lv m2) → v = walkAL stD (f6.take (i + 1)) lv m2 from fun v hv => by rw [List.take_succ_eq_append_getElem hlt, walkAL_snoc]; exact hv)
                have HE := Lib.hid (HJ.out f6[i] (List.getElem_mem hlt))
                have HX := Lib.hid hX_
                clear hX_
                generalize f6[i] = x at *
                generalize walkAL stD (f6.take i) lv m2 = mi at *
                go_upto_region 18 with fail
                have hal := below_alloc (Below.refl _ wq) (.cells #[.int .i64 x.1.f0, .int .i64 x.1.f1, .int .i64 x.1.f2, .string x.1.f3, .slice Ap x.1.f4.length cp, .slice Ag x.2.1.length cg, .slice B0 x.2.2.f0.length b0, .int .i64 x.2.2.f1, .int .i64 x.2.2.f2, .string x.2.2.f3, .slice B4 x.2.2.f4.length b4, .slice B5 x.2.2.f5.length b5, .slice B6 x.2.2.f6.length b6, .bool x.2.2.f7, .int .i64 x.2.2.f8] 85)
                have XC := Lib.hid (blk_new wq (.cells #[.int .i64 x.1.f0, .int .i64 x.1.f1, .int .i64 x.1.f2, .string x.1.f3, .slice Ap x.1.f4.length cp, .slice Ag x.2.1.length cg, .slice B0 x.2.2.f0.length b0, .int .i64 x.2.2.f1, .int .i64 x.2.2.f2, .string x.2.2.f3, .slice B4 x.2.2.f4.length b4, .slice B5 x.2.2.f5.length b5, .slice B6 x.2.2.f6.length b6, .bool x.2.2.f7, .int .i64 x.2.2.f8] 85))
                have S4 := Lib.hid (HS.out.below hal)
                have X4 := Lib.hid (blk_below HXB.out hal)
                clear hal u0 u1 u2 u3 u4 u5 u6 u7 u8 u9 u10 u11 u12 u13 u14 HS HXB
                generalize wq.alloc (.cells #[.int .i64 x.1.f0, .int .i64 x.1.f1, .int .i64 x.1.f2, .string x.1.f3, .slice Ap x.1.f4.length cp, .slice Ag x.2.1.length cg, .slice B0 x.2.2.f0.length b0, .int .i64 x.2.2.f1, .int .i64 x.2.2.f2, .string x.2.2.f3, .slice B4 x.2.2.f4.length b4, .slice B5 x.2.2.f5.length b5, .slice B6 x.2.2.f6.length b6, .bool x.2.2.f7, .int .i64 x.2.2.f8] 85) = w4 at *
                generalize wq.heap.size = gq at *
                have hxA : ∀ v, walkA stD x lv v = walkB stD x.2.2 (lv + 1) (walkEL stD x.2.1 (lv + 1) (walkPL stD [x.1] (lv + 1) v)) := fun v => by obtain ⟨p, q, b⟩ := x; rfl
                have HXA := Lib.hid hxA
                clear hxA
                have XC4 := Lib.hid XC.out
                clear XC
                have kp := blk_cell S4.out.x.p 0
                have z0 := blk_cell XC4.out 0
                have z1 := blk_cell XC4.out 1
                have z2 := blk_cell XC4.out 2
                have z3 := blk_cell XC4.out 3
                have z4 := blk_cell XC4.out 4
                have hal2 := below_alloc (Below.refl _ w4) (.cells #[.int .i64 x.1.f0, .int .i64 x.1.f1, .int .i64 x.1.f2, .string x.1.f3, .slice Ap x.1.f4.length cp] 83)
                have S4b := Lib.hid (S4.out.below hal2)
                have X4b := Lib.hid (blk_below X4.out hal2)
                have XC4b := Lib.hid (blk_below XC4.out hal2)
                have hnb := blk_new w4 (.cells #[.int .i64 x.1.f0, .int .i64 x.1.f1, .int .i64 x.1.f2, .string x.1.f3, .slice Ap x.1.f4.length cp] 83)
                have RP := Lib.hid (RdP.of_block (w0 := w0) hnb (ne_blk hnb S4b.out.n (by decide)) HX.out.1 HX.out.2.1)
                clear hal2 hnb
                go_upto_region 19 with (go_at_call 61; refine (WP.out [x.1] (some ⟨w4.heap.size, 0, none⟩) 1 (lv + 1) _ _ S4b.out.b S4b.out.n S4b.out.x RP.out (by simp) (Nat.le_refl 1) (by omega)).mono ?_; rintro e w5 ⟨rfl, hn, hk⟩; have S5 := Lib.hid (S4b.out.told hg hn hk); have X5 := Lib.hid (hk.blk X4b.out (ne_blk X4b.out S4b.out.n (by decide))); have XC45 := Lib.hid (hk.blk XC4b.out (ne_blk XC4b.out S4b.out.n (by decide))); clear hn hk)
                clear kp z0 z1 z2 z3 z4
                have ke := blk_cell S5.out.x.e 0
                have z5 := blk_cell XC45.out 5
                go_upto_region 20 with (go_at_call 60; refine (WE.out x.2.1 Ag cg (lv + 1) _ _ S5.out.b S5.out.n S5.out.x HX.out.2.2.2.1 HX.out.2.2.1 (by omega)).mono ?_; rintro e w6 ⟨rfl, hn, hk⟩; have S6 := Lib.hid (S5.out.told hg hn hk); have X6 := Lib.hid (hk.blk X5.out (ne_blk X5.out S5.out.n (by decide))); have XC46 := Lib.hid (hk.blk XC45.out (ne_blk XC45.out S5.out.n (by decide))); clear hn hk)
                clear ke z5
                have kb := blk_cell S6.out.x.b 0
                have z6 := blk_cell XC46.out 6
                have z7 := blk_cell XC46.out 7
                have z8 := blk_cell XC46.out 8
                have z9 := blk_cell XC46.out 9
                have z10 := blk_cell XC46.out 10
                have z11 := blk_cell XC46.out 11
                have z12 := blk_cell XC46.out 12
                have z13 := blk_cell XC46.out 13
                have z14 := blk_cell XC46.out 14
                go_wp2_with (go_at_call 62; refine (HE.out B0 b0 B4 b4 B5 b5 B6 b6 (lv + 1) _ _ S6.out.b S6.out.n S6.out.x HX.out.2.2.2.2 (by omega)).mono ?_; rintro e w7 ⟨rfl, hn, hk⟩; have S7 := Lib.hid (S6.out.told hg hn hk); have X7 := Lib.hid (hk.blk X6.out (ne_blk X6.out S6.out.n (by decide))); clear hn hk)
                go_roundw
                case rel => exact ⟨i + 1, by go_num, hlt, Lib.hid (S7.out.cast (HT.out _ (HXA.out mi).symm)), X7⟩
                case measure => simp [intOf]; omega
              · obtain rfl : i = f6.length := by omega
                have hg_ := HS.out
                rw [List.take_length] at hg_
                have SPn := Lib.hid hg_
                go_wp2
                go_end0
                exact ⟨rfl, NB.cast (by simp only [walkB]; rw [if_pos h65, ← HM0.out, ← HM_m1.out, ← HM_m2.out]) SPn.out.n, SPn.out.k⟩
  · have h65' : (lv : Int) > 65 := by omega
    go_wp2
    go_end0
    exact ⟨rfl, NB.cast (by simp only [walkB]; rw [if_neg h65]) SP.out.n, SP.out.k⟩
end Go.Proofs.YtjboncbmeanlgaaDoor.Tr
