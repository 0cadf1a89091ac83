/- CountB -/
import Derived.Test.YtjboncbmeanlgaaDoorQCountE
/- The document's count of a tree's parts: bodies, programs. -/
set_option linter.unusedVariables false
set_option linter.unusedSimpArgs false
namespace Go.Proofs.YtjboncbmeanlgaaDoor.Tr
open Go.RowKit Go.Proofs Go.Proofs.YtjboncbmeanlgaaDoor.PTreePrints Go.Proofs.YtjboncbmeanlgaaDoorW.PrintWords Go.Proofs.YtjboncbmeanlgaaDoorW.PrintMore Go.Proofs.YtjboncbmeanlgaaDoorW.PrintLast
theorem SC.self {w0 : World} {g : Nat} {W0 W : World} {m : Int} (h : SC w0 g W0 W m) : SC w0 g W W m := ⟨h.n, KX.refl _ _, h.b, h.lo, h.hi⟩
/-- What is to be shown of a body. -/
def CB (w0 : World) (g : Nat) (x : S42) : Prop := ∀ (A0 : Option Addr) (c0 : Nat) (A4 : Option Addr) (c4 : Nat) (A5 : Option Addr) (c5 : Nat) (A6 : Option Addr) (c6 : Nat) (lv k : Nat) (m : Int) (W : World), lv + k = 66 → SC w0 g W W m → BodyC w0 x A0 c0 A4 c4 A5 c5 A6 c6 →
  Calls Tryd.prog 65 #[.pointer (some ⟨g, 0, none⟩), bodyV x A0 c0 A4 c4 A5 c5 A6 c6, .int .i64 (k : Int)] W (ToldC g (walkB stS x lv m) W)
set_option maxRecDepth 100000 in
set_option maxHeartbeats 32000000 in
theorem CB_ok (w0 : World) (g : Nat) (hg : w0.heap.size ≤ g) (x : S42) (hI : ∀ y, y ∈ x.f5 → CB w0 g y) (hJ : ∀ y, y ∈ x.f6 → CB w0 g y.2.2) : CB w0 g x := by
  obtain ⟨f0, f1, f2, f3, f4, f5, f6, f7, f8⟩ := x
  intro A0 c0 A4 c4 A5 c5 A6 c6 lv k m W hlk hS hB
  simp only at hI hJ
  have hln0 := C_len hB.g0
  have hln5 := C_len hB.g5
  have hln6 := C_len hB.g6
  simp only at hln0 hln5 hln6
  have HI := Lib.hid hI
  have HJ := Lib.hid hJ
  have HB := Lib.hid hB
  have SP0 := Lib.hid hS
  clear hI hJ hB hS
  unfold bodyV
  simp only
  go_enter Tryd.func65, Tryd.ntmps65
  have hal := below_alloc (Below.refl _ W) (.cells #[.slice A0 f0.length c0, .int .i64 f1, .int .i64 f2, .string f3, .slice A4 f4.length c4, .slice A5 f5.length c5, .slice A6 f6.length c6, .bool f7, .int .i64 f8] 42)
  have XP := Lib.hid (blk_new W (.cells #[.slice A0 f0.length c0, .int .i64 f1, .int .i64 f2, .string f3, .slice A4 f4.length c4, .slice A5 f5.length c5, .slice A6 f6.length c6, .bool f7, .int .i64 f8] 42))
  have SP := Lib.hid (SP0.out.below hal)
  clear hal SP0
  go_upto_region 1 with fail
  generalize W.alloc (.cells #[.slice A0 f0.length c0, .int .i64 f1, .int .i64 f2, .string f3, .slice A4 f4.length c4, .slice A5 f5.length c5, .slice A6 f6.length c6, .bool f7, .int .i64 f8] 42) = wp at *
  generalize W.heap.size = gx at *
  cases k with
  | zero =>
    go_wp2
    go_ret
    exact SP.out.tell (by rw [walkB, if_neg (by omega)]) _
  | succ k =>
    have hk0 : ¬ (((k + 1 : Nat) : Int) = 0) := by omega
    have hkw : wrap64 (((k + 1 : Nat) : Int) - 1) = (k : Int) := by unfold wrap64; omega
    have HW := Lib.hid (show walkB stS ⟨f0, f1, f2, f3, f4, f5, f6, f7, f8⟩ lv m = walkAL stS f6 lv (walkBL stS f5 lv (walkSL stS f0 lv (walkEL stS f4 (lv + 1) (stS m 0)))) by rw [walkB, if_pos (by omega)]; rfl)
    have hkk : lv + 1 + k = 66 := by omega
    generalize hq : ((k + 1 : Nat) : Int) = kq at *
    have HQ := Lib.hid hq
    clear hq
    go_upto_region 3 with (go_at_call 64; refine (add_call g _ m SP.out.n SP.out.lo SP.out.hi).mono ?_; rintro e w5 ⟨rfl, hn5, hk5⟩; have S5 := Lib.hid (SP.out.told hg hn5 hk5 (stS_rng SP.out.lo SP.out.hi).1 (stS_rng SP.out.lo SP.out.hi).2); have X5 := Lib.hid (hk5.blk XP.out (ne_blk XP.out SP.out.n (by decide))); clear hn5 hk5; cases hb : decide (stS m 0 ≤ 4096))
    · have e : stS m 0 = 4097 := by have h1 := S5.out.hi; have h2 := of_decide_eq_false hb; omega
      go_ret
      exact S5.out.tell (by rw [HW.out, e, fixEL stS_full, fixSL stS_full, fixBL stS_full, fixAL stS_full]) _
    · clear SP XP
      have hb_ := hb
      clear hb
      generalize stS m 0 = mb at *
      have y4 := blk_cell X5.out 4
      go_upto_region 4 with (go_at_call 66; refine (cexprs_call w0 g hg f4 A4 c4 (lv + 1) k mb _ hkk S5.out.self HB.out.g4 HB.out.l4).mono ?_; rintro e w6 ⟨⟨d6, rfl⟩, hn6, hk6, l6, h6⟩; have S6 := Lib.hid (S5.out.told hg hn6 hk6 l6 h6); have X6 := Lib.hid (hk6.blk X5.out (ne_blk X5.out S5.out.n (by decide))); clear hn6 hk6 l6 h6)
      clear y4 S5 X5
      have SP := Lib.hid S6.out
      have XP := Lib.hid X6.out
      clear S6 X6
      generalize w6 = wp' at *
      have hmm : ∃ mm, mm = walkEL stS f4 (lv + 1) mb := ⟨_, rfl⟩
      obtain ⟨m0, hm0⟩ := hmm
      rw [← hm0] at SP
      have HM0 := Lib.hid hm0
      clear hm0
      have y0 := blk_cell XP.out 0
      go_wp2
      go_loopw [8, 7] (fun vi v7 wr => ∃ (i : Nat) (d : Int), vi = .int .i64 i ∧ v7 = .int .i64 d ∧ i ≤ f0.length ∧ Hid (SC w0 g W wr (walkSL stS (f0.take i) lv m0)) ∧ Hid (wr.heap[gx]? = some (.cells #[.slice A0 f0.length c0, .int .i64 f1, .int .i64 f2, .string f3, .slice A4 f4.length c4, .slice A5 f5.length c5, .slice A6 f6.length c6, .bool f7, .int .i64 f8] 42 (0, 0)))) (fun vi _ _ => f0.length - (intOf vi).toNat)
      case atStart => exact ⟨0, _, by go_num, rfl, Nat.zero_le _, Lib.hid SP.out, Lib.hid XP.out⟩
      case round =>
        obtain ⟨i, dd, rfl, rfl, hil, HS, HX⟩ := hrel
        clear y0
        have y0 := blk_cell HX.out 0
        obtain ⟨wq, hwq⟩ : ∃ wq, wq = wr := ⟨_, rfl⟩
        subst hwq
        by_cases hlt : i < f0.length
        · have q1 : (i : Int) < (f0.length : Int) := by omega
          have q0 : (0 : Int) ≤ (i : Int) := by omega
          obtain ⟨ad_, A9, c9, hA_, u0, u1, u2, u3, u4, hX_⟩ := at_T37 HB.out.g0 (i : Int) q0 q1
          subst hA_
          rw [rd37 f0 i hlt, Int.toNat_natCast] at u0 u1 u2 u3 u4
          rw [rd37 f0 i hlt] at hX_
          have V0 := Lib.hid u0
          replace u0 := (HS.out.b.cell (World.block_lt_of_cell? w0 _ V0.out)).trans V0.out
          have V1 := Lib.hid u1
          replace u1 := (HS.out.b.cell (World.block_lt_of_cell? w0 _ V1.out)).trans V1.out
          have V2 := Lib.hid u2
          replace u2 := (HS.out.b.cell (World.block_lt_of_cell? w0 _ V2.out)).trans V2.out
          have V3 := Lib.hid u3
          replace u3 := (HS.out.b.cell (World.block_lt_of_cell? w0 _ V3.out)).trans V3.out
          have V4 := Lib.hid u4
          replace u4 := (HS.out.b.cell (World.block_lt_of_cell? w0 _ V4.out)).trans V4.out
          have HT := Lib.hid (show ∀ v, v = walkEL stS f0[i].f4 (lv + 1) (stS (walkSL stS (f0.take i) lv m0) 0) → v = walkSL stS (f0.take (i + 1)) lv m0 from fun v hv => by rw [List.take_succ_eq_append_getElem hlt, walkSL_snoc]; exact hv)
          have HZ := Lib.hid hX_
          clear hX_
          generalize f0[i] = x at *
          generalize walkSL stS (f0.take i) lv m0 = mi at *
          go_wp2_with (first
            | (go_at_call 64; refine (add_call g _ mi HS.out.n HS.out.lo HS.out.hi).mono ?_; rintro e w5 ⟨rfl, hn, hk⟩; have S5 := Lib.hid (HS.out.told hg hn hk (stS_rng HS.out.lo HS.out.hi).1 (stS_rng HS.out.lo HS.out.hi).2); have X5 := Lib.hid (hk.blk HX.out (ne_blk HX.out HS.out.n (by decide))); clear hn hk y0 u0 u1 u2 u3 u4; have y0 := blk_cell X5.out 0; have u0 := (S5.out.b.cell (World.block_lt_of_cell? w0 _ V0.out)).trans V0.out; have u1 := (S5.out.b.cell (World.block_lt_of_cell? w0 _ V1.out)).trans V1.out; have u2 := (S5.out.b.cell (World.block_lt_of_cell? w0 _ V2.out)).trans V2.out; have u3 := (S5.out.b.cell (World.block_lt_of_cell? w0 _ V3.out)).trans V3.out; have u4 := (S5.out.b.cell (World.block_lt_of_cell? w0 _ V4.out)).trans V4.out)
            | (go_at_call 66; refine (cexprs_call w0 g hg x.f4 A9 c9 (lv + 1) k _ _ hkk S5.out.self HZ.out.2 HZ.out.1).mono ?_; rintro e w6 ⟨⟨d6, rfl⟩, hn, hk, hl_, hh_⟩; have S6 := Lib.hid (S5.out.told hg hn hk hl_ hh_); have X6 := Lib.hid (hk.blk X5.out (ne_blk X5.out S5.out.n (by decide))); clear hn hk hl_ hh_ y0 u0 u1 u2 u3 u4; have y0 := blk_cell X6.out 0; have u0 := (S6.out.b.cell (World.block_lt_of_cell? w0 _ V0.out)).trans V0.out; have u1 := (S6.out.b.cell (World.block_lt_of_cell? w0 _ V1.out)).trans V1.out; have u2 := (S6.out.b.cell (World.block_lt_of_cell? w0 _ V2.out)).trans V2.out; have u3 := (S6.out.b.cell (World.block_lt_of_cell? w0 _ V3.out)).trans V3.out; have u4 := (S6.out.b.cell (World.block_lt_of_cell? w0 _ V4.out)).trans V4.out))
          all_goals (go_roundw; (case rel => first | exact ⟨i + 1, by go_num, hlt, Lib.hid (S6.out.cast (HT.out _ rfl))⟩ | exact ⟨i + 1, _, by go_num, rfl, hlt, Lib.hid (S6.out.cast (HT.out _ rfl)), X6⟩ | exact ⟨i + 1, by go_num, ⟨_, rfl⟩, hlt, Lib.hid (S6.out.cast (HT.out _ rfl)), X6⟩); case measure => simp [intOf]; omega)
        · obtain rfl : i = f0.length := by omega
          have hg_ := HS.out
          rw [List.take_length] at hg_
          have SPn := Lib.hid hg_
          have XPn := Lib.hid HX.out
          clear SP XP HS HX hg_ y0
          have hmm : ∃ mm, mm = walkSL stS f0 lv m0 := ⟨_, rfl⟩
          obtain ⟨m1, hm1⟩ := hmm
          rw [← hm1] at SPn
          have HM_m1 := Lib.hid hm1
          clear hm1
          have SP := Lib.hid SPn.out
          have XP := Lib.hid XPn.out
          clear SPn XPn
          have y5 := blk_cell XP.out 5
          have y0 := blk_cell XP.out 0
          generalize wq = wp'' at *
          go_wp2
          go_loopw [9, 7] (fun vi v7 wr => ∃ (i : Nat) (d : Int), vi = .int .i64 i ∧ v7 = .int .i64 d ∧ i ≤ f5.length ∧ Hid (SC w0 g W wr (walkBL stS (f5.take i) lv m1)) ∧ Hid (wr.heap[gx]? = some (.cells #[.slice A0 f0.length c0, .int .i64 f1, .int .i64 f2, .string f3, .slice A4 f4.length c4, .slice A5 f5.length c5, .slice A6 f6.length c6, .bool f7, .int .i64 f8] 42 (0, 0)))) (fun vi _ _ => f5.length - (intOf vi).toNat)
          case atStart => exact ⟨0, _, by go_num, rfl, Nat.zero_le _, Lib.hid SP.out, Lib.hid XP.out⟩
          case round =>
            obtain ⟨i, dd, rfl, rfl, hil, HS, HX⟩ := hrel
            clear y5
            have y5 := blk_cell HX.out 5
            obtain ⟨wq, hwq⟩ : ∃ wq, wq = wr := ⟨_, rfl⟩
            subst hwq
            by_cases hlt : i < f5.length
            · have q1 : (i : Int) < (f5.length : Int) := by omega
              have q0 : (0 : Int) ≤ (i : Int) := by omega
              obtain ⟨ad_, B0, b0, B4, b4, B5, b5, B6, b6, hA_, u0, u1, u2, u3, u4, u5, u6, u7, u8, hX_⟩ := at_T42 HB.out.g5 (i : Int) q0 q1
              subst hA_
              rw [rd42 f5 i hlt, Int.toNat_natCast] at u0 u1 u2 u3 u4 u5 u6 u7 u8
              rw [rd42 f5 i hlt] at hX_
              have V0 := Lib.hid u0
              replace u0 := (HS.out.b.cell (World.block_lt_of_cell? w0 _ V0.out)).trans V0.out
              have V1 := Lib.hid u1
              replace u1 := (HS.out.b.cell (World.block_lt_of_cell? w0 _ V1.out)).trans V1.out
              have V2 := Lib.hid u2
              replace u2 := (HS.out.b.cell (World.block_lt_of_cell? w0 _ V2.out)).trans V2.out
              have V3 := Lib.hid u3
              replace u3 := (HS.out.b.cell (World.block_lt_of_cell? w0 _ V3.out)).trans V3.out
              have V4 := Lib.hid u4
              replace u4 := (HS.out.b.cell (World.block_lt_of_cell? w0 _ V4.out)).trans V4.out
              have V5 := Lib.hid u5
              replace u5 := (HS.out.b.cell (World.block_lt_of_cell? w0 _ V5.out)).trans V5.out
              have V6 := Lib.hid u6
              replace u6 := (HS.out.b.cell (World.block_lt_of_cell? w0 _ V6.out)).trans V6.out
              have V7 := Lib.hid u7
              replace u7 := (HS.out.b.cell (World.block_lt_of_cell? w0 _ V7.out)).trans V7.out
              have V8 := Lib.hid u8
              replace u8 := (HS.out.b.cell (World.block_lt_of_cell? w0 _ V8.out)).trans V8.out
              have HT := Lib.hid (show ∀ v, v = walkB stS f5[i] (lv + 1) (walkBL stS (f5.take i) lv m1) → v = walkBL stS (f5.take (i + 1)) lv m1 from fun v hv => by rw [List.take_succ_eq_append_getElem hlt, walkBL_snoc]; exact hv)
              have HZ := Lib.hid hX_
              clear hX_
              have HE := Lib.hid (HI.out f5[i] (List.getElem_mem hlt))
              generalize f5[i] = x at *
              generalize walkBL stS (f5.take i) lv m1 = mi at *
              go_wp2_with (go_at_call 65; refine (HE.out B0 b0 B4 b4 B5 b5 B6 b6 (lv + 1) k _ _ hkk HS.out.self HZ.out).mono ?_; rintro e w5 ⟨⟨d5, rfl⟩, hn, hk, hl_, hh_⟩; have S5 := Lib.hid (HS.out.told hg hn hk hl_ hh_); have X5 := Lib.hid (hk.blk HX.out (ne_blk HX.out HS.out.n (by decide))); clear hn hk hl_ hh_ y5 u0 u1 u2 u3 u4 u5 u6 u7 u8; have y5 := blk_cell X5.out 5; have u0 := (S5.out.b.cell (World.block_lt_of_cell? w0 _ V0.out)).trans V0.out; have u1 := (S5.out.b.cell (World.block_lt_of_cell? w0 _ V1.out)).trans V1.out; have u2 := (S5.out.b.cell (World.block_lt_of_cell? w0 _ V2.out)).trans V2.out; have u3 := (S5.out.b.cell (World.block_lt_of_cell? w0 _ V3.out)).trans V3.out; have u4 := (S5.out.b.cell (World.block_lt_of_cell? w0 _ V4.out)).trans V4.out; have u5 := (S5.out.b.cell (World.block_lt_of_cell? w0 _ V5.out)).trans V5.out; have u6 := (S5.out.b.cell (World.block_lt_of_cell? w0 _ V6.out)).trans V6.out; have u7 := (S5.out.b.cell (World.block_lt_of_cell? w0 _ V7.out)).trans V7.out; have u8 := (S5.out.b.cell (World.block_lt_of_cell? w0 _ V8.out)).trans V8.out)
              all_goals (go_roundw; (case rel => first | exact ⟨i + 1, by go_num, hlt, Lib.hid (S5.out.cast (HT.out _ rfl))⟩ | exact ⟨i + 1, _, by go_num, rfl, hlt, Lib.hid (S5.out.cast (HT.out _ rfl)), X5⟩ | exact ⟨i + 1, by go_num, ⟨_, rfl⟩, hlt, Lib.hid (S5.out.cast (HT.out _ rfl)), X5⟩); case measure => simp [intOf]; omega)
            · obtain rfl : i = f5.length := by omega
              have hg_ := HS.out
              rw [List.take_length] at hg_
              have SPn := Lib.hid hg_
              have XPn := Lib.hid HX.out
              clear SP XP HS HX hg_ y5
              have hmm : ∃ mm, mm = walkBL stS f5 lv m1 := ⟨_, rfl⟩
              obtain ⟨m2, hm2⟩ := hmm
              rw [← hm2] at SPn
              have HM_m2 := Lib.hid hm2
              clear hm2
              have SP := Lib.hid SPn.out
              have XP := Lib.hid XPn.out
              clear SPn XPn
              have y6 := blk_cell XP.out 6
              have y5 := blk_cell XP.out 5
              generalize wq = wp'' at *
              go_wp2
              go_loopw [10, 7] (fun vi v7 wr => ∃ (i : Nat) (d : Int), vi = .int .i64 i ∧ v7 = .int .i64 d ∧ i ≤ f6.length ∧ Hid (SC w0 g W wr (walkAL stS (f6.take i) lv m2)) ∧ Hid (wr.heap[gx]? = some (.cells #[.slice A0 f0.length c0, .int .i64 f1, .int .i64 f2, .string f3, .slice A4 f4.length c4, .slice A5 f5.length c5, .slice A6 f6.length c6, .bool f7, .int .i64 f8] 42 (0, 0)))) (fun vi _ _ => f6.length - (intOf vi).toNat)
              case atStart => exact ⟨0, _, by go_num, rfl, Nat.zero_le _, Lib.hid SP.out, Lib.hid XP.out⟩
              case round =>
                obtain ⟨i, dd, rfl, rfl, hil, HS, HX⟩ := hrel
                clear y6
                have y6 := blk_cell HX.out 6
                obtain ⟨wq, hwq⟩ : ∃ wq, wq = wr := ⟨_, rfl⟩
                subst hwq
                by_cases hlt : i < f6.length
                · have q1 : (i : Int) < (f6.length : Int) := by omega
                  have q0 : (0 : Int) ≤ (i : Int) := by omega
                  obtain ⟨ad_, Ap, cp, Ag, cg, B0, b0, B4, b4, B5, b5, B6, b6, hA_, u0, u1, u2, u3, u4, u5, u6, u7, u8, u9, u10, u11, u12, u13, u14, hX_⟩ := at_TArm HB.out.g6 (i : Int) q0 q1
                  subst hA_
                  rw [rdArm f6 i hlt, Int.toNat_natCast] at u0 u1 u2 u3 u4 u5 u6 u7 u8 u9 u10 u11 u12 u13 u14
                  rw [rdArm f6 i hlt] at hX_
                  have V0 := Lib.hid u0
                  replace u0 := (HS.out.b.cell (World.block_lt_of_cell? w0 _ V0.out)).trans V0.out
                  have V1 := Lib.hid u1
                  replace u1 := (HS.out.b.cell (World.block_lt_of_cell? w0 _ V1.out)).trans V1.out
                  have V2 := Lib.hid u2
                  replace u2 := (HS.out.b.cell (World.block_lt_of_cell? w0 _ V2.out)).trans V2.out
                  have V3 := Lib.hid u3
                  replace u3 := (HS.out.b.cell (World.block_lt_of_cell? w0 _ V3.out)).trans V3.out
                  have V4 := Lib.hid u4
                  replace u4 := (HS.out.b.cell (World.block_lt_of_cell? w0 _ V4.out)).trans V4.out
                  have V5 := Lib.hid u5
                  replace u5 := (HS.out.b.cell (World.block_lt_of_cell? w0 _ V5.out)).trans V5.out
                  have V6 := Lib.hid u6
                  replace u6 := (HS.out.b.cell (World.block_lt_of_cell? w0 _ V6.out)).trans V6.out
                  have V7 := Lib.hid u7
                  replace u7 := (HS.out.b.cell (World.block_lt_of_cell? w0 _ V7.out)).trans V7.out
                  have V8 := Lib.hid u8
                  replace u8 := (HS.out.b.cell (World.block_lt_of_cell? w0 _ V8.out)).trans V8.out
                  have V9 := Lib.hid u9
                  replace u9 := (HS.out.b.cell (World.block_lt_of_cell? w0 _ V9.out)).trans V9.out
                  have V10 := Lib.hid u10
                  replace u10 := (HS.out.b.cell (World.block_lt_of_cell? w0 _ V10.out)).trans V10.out
                  have V11 := Lib.hid u11
                  replace u11 := (HS.out.b.cell (World.block_lt_of_cell? w0 _ V11.out)).trans V11.out
                  have V12 := Lib.hid u12
                  replace u12 := (HS.out.b.cell (World.block_lt_of_cell? w0 _ V12.out)).trans V12.out
                  have V13 := Lib.hid u13
                  replace u13 := (HS.out.b.cell (World.block_lt_of_cell? w0 _ V13.out)).trans V13.out
                  have V14 := Lib.hid u14
                  replace u14 := (HS.out.b.cell (World.block_lt_of_cell? w0 _ V14.out)).trans V14.out
                  have HT := Lib.hid (show ∀ v, v = walkA stS f6[i] lv (walkAL stS (f6.take i) lv m2) → v = walkAL stS (f6.take (i + 1)) lv m2 from fun v hv => by rw [List.take_succ_eq_append_getElem hlt, walkAL_snoc]; exact hv)
                  have HZ := Lib.hid hX_
                  clear hX_
                  have HE := Lib.hid (HJ.out f6[i] (List.getElem_mem hlt))
                  generalize f6[i] = x at *
                  generalize walkAL stS (f6.take i) lv m2 = mi at *
                  have hxA : ∀ v, walkA stS x lv v = walkB stS x.2.2 (lv + 1) (walkEL stS x.2.1 (lv + 1) (walkPL stS [x.1] (lv + 1) v)) := fun v => by obtain ⟨p, q, b⟩ := x; rfl
                  have HXA := Lib.hid hxA
                  clear hxA
                  have hpl : ∀ v, walkPL stS [x.1] (lv + 1) v = walkP stS x.1 (lv + 1) v := fun v => by simp only [walkPL]
                  have HPL := Lib.hid hpl
                  clear hpl
                  go_wp2_with (first
                    | (go_at_call 77; refine (CP_call w0 g hg x.1 Ap cp (lv + 1) k mi _ hkk HS.out.self HZ.out.2.1 HZ.out.1).mono ?_; rintro e w5 ⟨⟨d5, rfl⟩, hn, hk, hl_, hh_⟩; have S5 := Lib.hid (HS.out.told hg hn hk hl_ hh_); have X5 := Lib.hid (hk.blk HX.out (ne_blk HX.out HS.out.n (by decide))); clear hn hk hl_ hh_ y6 u0 u1 u2 u3 u4 u5 u6 u7 u8 u9 u10 u11 u12 u13 u14; have y6 := blk_cell X5.out 6; have u0 := (S5.out.b.cell (World.block_lt_of_cell? w0 _ V0.out)).trans V0.out; have u1 := (S5.out.b.cell (World.block_lt_of_cell? w0 _ V1.out)).trans V1.out; have u2 := (S5.out.b.cell (World.block_lt_of_cell? w0 _ V2.out)).trans V2.out; have u3 := (S5.out.b.cell (World.block_lt_of_cell? w0 _ V3.out)).trans V3.out; have u4 := (S5.out.b.cell (World.block_lt_of_cell? w0 _ V4.out)).trans V4.out; have u5 := (S5.out.b.cell (World.block_lt_of_cell? w0 _ V5.out)).trans V5.out; have u6 := (S5.out.b.cell (World.block_lt_of_cell? w0 _ V6.out)).trans V6.out; have u7 := (S5.out.b.cell (World.block_lt_of_cell? w0 _ V7.out)).trans V7.out; have u8 := (S5.out.b.cell (World.block_lt_of_cell? w0 _ V8.out)).trans V8.out; have u9 := (S5.out.b.cell (World.block_lt_of_cell? w0 _ V9.out)).trans V9.out; have u10 := (S5.out.b.cell (World.block_lt_of_cell? w0 _ V10.out)).trans V10.out; have u11 := (S5.out.b.cell (World.block_lt_of_cell? w0 _ V11.out)).trans V11.out; have u12 := (S5.out.b.cell (World.block_lt_of_cell? w0 _ V12.out)).trans V12.out; have u13 := (S5.out.b.cell (World.block_lt_of_cell? w0 _ V13.out)).trans V13.out; have u14 := (S5.out.b.cell (World.block_lt_of_cell? w0 _ V14.out)).trans V14.out)
                    | (go_at_call 66; refine (cexprs_call w0 g hg x.2.1 Ag cg (lv + 1) k _ _ hkk S5.out.self HZ.out.2.2.2.1 HZ.out.2.2.1).mono ?_; rintro e w6 ⟨⟨d6, rfl⟩, hn, hk, hl_, hh_⟩; have S6 := Lib.hid (S5.out.told hg hn hk hl_ hh_); have X6 := Lib.hid (hk.blk X5.out (ne_blk X5.out S5.out.n (by decide))); clear hn hk hl_ hh_ y6 u0 u1 u2 u3 u4 u5 u6 u7 u8 u9 u10 u11 u12 u13 u14; have y6 := blk_cell X6.out 6; have u0 := (S6.out.b.cell (World.block_lt_of_cell? w0 _ V0.out)).trans V0.out; have u1 := (S6.out.b.cell (World.block_lt_of_cell? w0 _ V1.out)).trans V1.out; have u2 := (S6.out.b.cell (World.block_lt_of_cell? w0 _ V2.out)).trans V2.out; have u3 := (S6.out.b.cell (World.block_lt_of_cell? w0 _ V3.out)).trans V3.out; have u4 := (S6.out.b.cell (World.block_lt_of_cell? w0 _ V4.out)).trans V4.out; have u5 := (S6.out.b.cell (World.block_lt_of_cell? w0 _ V5.out)).trans V5.out; have u6 := (S6.out.b.cell (World.block_lt_of_cell? w0 _ V6.out)).trans V6.out; have u7 := (S6.out.b.cell (World.block_lt_of_cell? w0 _ V7.out)).trans V7.out; have u8 := (S6.out.b.cell (World.block_lt_of_cell? w0 _ V8.out)).trans V8.out; have u9 := (S6.out.b.cell (World.block_lt_of_cell? w0 _ V9.out)).trans V9.out; have u10 := (S6.out.b.cell (World.block_lt_of_cell? w0 _ V10.out)).trans V10.out; have u11 := (S6.out.b.cell (World.block_lt_of_cell? w0 _ V11.out)).trans V11.out; have u12 := (S6.out.b.cell (World.block_lt_of_cell? w0 _ V12.out)).trans V12.out; have u13 := (S6.out.b.cell (World.block_lt_of_cell? w0 _ V13.out)).trans V13.out; have u14 := (S6.out.b.cell (World.block_lt_of_cell? w0 _ V14.out)).trans V14.out)
                    | (go_at_call 65; refine (HE.out B0 b0 B4 b4 B5 b5 B6 b6 (lv + 1) k _ _ hkk S6.out.self HZ.out.2.2.2.2).mono ?_; rintro e w7 ⟨⟨d7, rfl⟩, hn, hk, hl_, hh_⟩; have S7 := Lib.hid (S6.out.told hg hn hk hl_ hh_); have X7 := Lib.hid (hk.blk X6.out (ne_blk X6.out S6.out.n (by decide))); clear hn hk hl_ hh_ y6 u0 u1 u2 u3 u4 u5 u6 u7 u8 u9 u10 u11 u12 u13 u14; have y6 := blk_cell X7.out 6; have u0 := (S7.out.b.cell (World.block_lt_of_cell? w0 _ V0.out)).trans V0.out; have u1 := (S7.out.b.cell (World.block_lt_of_cell? w0 _ V1.out)).trans V1.out; have u2 := (S7.out.b.cell (World.block_lt_of_cell? w0 _ V2.out)).trans V2.out; have u3 := (S7.out.b.cell (World.block_lt_of_cell? w0 _ V3.out)).trans V3.out; have u4 := (S7.out.b.cell (World.block_lt_of_cell? w0 _ V4.out)).trans V4.out; have u5 := (S7.out.b.cell (World.block_lt_of_cell? w0 _ V5.out)).trans V5.out; have u6 := (S7.out.b.cell (World.block_lt_of_cell? w0 _ V6.out)).trans V6.out; have u7 := (S7.out.b.cell (World.block_lt_of_cell? w0 _ V7.out)).trans V7.out; have u8 := (S7.out.b.cell (World.block_lt_of_cell? w0 _ V8.out)).trans V8.out; have u9 := (S7.out.b.cell (World.block_lt_of_cell? w0 _ V9.out)).trans V9.out; have u10 := (S7.out.b.cell (World.block_lt_of_cell? w0 _ V10.out)).trans V10.out; have u11 := (S7.out.b.cell (World.block_lt_of_cell? w0 _ V11.out)).trans V11.out; have u12 := (S7.out.b.cell (World.block_lt_of_cell? w0 _ V12.out)).trans V12.out; have u13 := (S7.out.b.cell (World.block_lt_of_cell? w0 _ V13.out)).trans V13.out; have u14 := (S7.out.b.cell (World.block_lt_of_cell? w0 _ V14.out)).trans V14.out))
                  all_goals (go_roundw; (case rel => first | exact ⟨i + 1, by go_num, hlt, Lib.hid (S7.out.cast (HT.out _ (by rw [HXA.out, HPL.out])))⟩ | exact ⟨i + 1, _, by go_num, rfl, hlt, Lib.hid (S7.out.cast (HT.out _ (by rw [HXA.out, HPL.out]))), X7⟩ | exact ⟨i + 1, by go_num, ⟨_, rfl⟩, hlt, Lib.hid (S7.out.cast (HT.out _ (by rw [HXA.out, HPL.out]))), X7⟩); case measure => simp [intOf]; omega)
                · obtain rfl : i = f6.length := by omega
                  have hg_ := HS.out
                  rw [List.take_length] at hg_
                  have HG_ := Lib.hid hg_
                  clear hg_
                  go_wp2
                  go_ret
                  exact HG_.out.tell (by rw [HW.out, ← HM0.out, ← HM_m1.out, ← HM_m2.out]) _
theorem CB_any (w0 : World) (g : Nat) (hg : w0.heap.size ≤ g) : ∀ (n : Nat) (x : S42), SizeOf.sizeOf x ≤ n → CB w0 g x := by
  intro n
  induction n with
  | zero =>
    intro x hx
    cases x
    simp at hx
  | succ n ih =>
    intro x hx
    refine CB_ok w0 g hg x (fun y hy => ih y ?_) (fun y hy => ih y.2.2 ?_)
    · have h1 := List.sizeOf_lt_of_mem hy
      cases x
      simp at hx
      simp only at h1
      omega
    · have h1 := List.sizeOf_lt_of_mem hy
      obtain ⟨p, q, b⟩ := y
      cases x
      simp at hx
      simp at h1 ⊢
      omega
theorem CB_call (w0 : World) (g : Nat) (hg : w0.heap.size ≤ g) (x : S42) : CB w0 g x := CB_any w0 g hg _ x (Nat.le_refl _)
end Go.Proofs.YtjboncbmeanlgaaDoor.Tr
