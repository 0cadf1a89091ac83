/- CountP -/
import Derived.Test.YtjboncbmeanlgaaDoorQCountB
/- The document's count of a tree's parts: programs. -/
set_option linter.unusedVariables false
set_option linter.unusedSimpArgs false
namespace Go.Proofs.YtjboncbmeanlgaaDoor.Tr
open Go.RowKit Go.Proofs Go.Proofs.YtjboncbmeanlgaaDoor.PTreePrints Go.Proofs.YtjboncbmeanlgaaDoorW.PrintWords Go.Proofs.YtjboncbmeanlgaaDoorW.PrintMore Go.Proofs.YtjboncbmeanlgaaDoorW.PrintLast
theorem stS_step (v : Int) (n : Nat) : stS (walkN stS n v) 0 = walkN stS (n + 1) v := (walkN_succ stS n v).symm
set_option maxRecDepth 100000 in
set_option maxHeartbeats 32000000 in
/-- A program's count. -/
theorem cprog_call (w0 : World) (g : Nat) (hg : w0.heap.size ≤ g) (x : S25) (AD : Option Addr) (cD : Nat) (AX : Option Addr) (cX : Nat) (m : Int) (W : World) (hS : SC w0 g W W m) (hP : ProgC w0 x AD cD AX cX) :
    Calls Tryd.prog 38 #[.pointer (some ⟨g, 0, none⟩), .agg #[.slice AD x.f0.length cD, .int .i64 x.f1, .string x.f2, .slice AX x.f3.length cX]] W (ToldC g (walkPr stS x m) W) := by
  have hlnD := C_len hP.gd
  have HP := Lib.hid hP
  have SP0 := Lib.hid hS
  clear hP hS
  go_enter Tryd.func38, Tryd.ntmps38
  have hal := below_alloc (Below.refl _ W) (.cells #[.slice AD x.f0.length cD, .int .i64 x.f1, .string x.f2, .slice AX x.f3.length cX] 25)
  have XP := Lib.hid (blk_new W (.cells #[.slice AD x.f0.length cD, .int .i64 x.f1, .string x.f2, .slice AX x.f3.length cX] 25))
  have SP := Lib.hid (SP0.out.below hal)
  clear hal SP0
  go_upto_region 1 with fail
  generalize W.alloc (.cells #[.slice AD x.f0.length cD, .int .i64 x.f1, .string x.f2, .slice AX x.f3.length cX] 25) = wp at *
  generalize W.heap.size = gx at *
  have y0 := blk_cell XP.out 0
  go_wp2
  go_loopw [6, 5] (fun vi v5 wr => ∃ (i : Nat) (d : Int), vi = .int .i64 i ∧ v5 = .int .i64 d ∧ i ≤ x.f0.length ∧ Hid (SC w0 g W wr (walkDL stS (x.f0.take i) m)) ∧ Hid (wr.heap[gx]? = some (.cells #[.slice AD x.f0.length cD, .int .i64 x.f1, .string x.f2, .slice AX x.f3.length cX] 25 (0, 0)))) (fun vi _ _ => x.f0.length - (intOf vi).toNat)
  case atStart => exact ⟨0, 0, by go_num, rfl, Nat.zero_le _, Lib.hid SP.out, Lib.hid XP.out⟩
  case round =>
    obtain ⟨i, dd, rfl, rfl, hil, HS, HX⟩ := hrel
    clear y0
    have y0 := blk_cell HX.out 0
    obtain ⟨wq, hwq⟩ : ∃ wq, wq = wr := ⟨_, rfl⟩
    subst hwq
    by_cases hlt : i < x.f0.length
    · have q1 : (i : Int) < (x.f0.length : Int) := by omega
      have q0 : (0 : Int) ≤ (i : Int) := by omega
      obtain ⟨ad_, As, cs_, B0, b0, B4, b4, B5, b5, B6, b6, hA_, u0, u1, u2, u3, u4, u5, u6, u7, u8, u9, u10, u11, hX_⟩ := at_T44 HP.out.gd (i : Int) q0 q1
      subst hA_
      rw [rd44 x.f0 i hlt, Int.toNat_natCast] at u0 u1 u2 u3 u4 u5 u6 u7 u8 u9 u10 u11
      rw [rd44 x.f0 i hlt] at hX_
      have V0 := Lib.hid u0
      replace u0 := (HS.out.b.cell (World.block_lt_of_cell? w0 _ V0.out)).trans V0.out
      have V1 := Lib.hid u1
      replace u1 := (HS.out.b.cell (World.block_lt_of_cell? w0 _ V1.out)).trans V1.out
      have V2 := Lib.hid u2
      replace u2 := (HS.out.b.cell (World.block_lt_of_cell? w0 _ V2.out)).trans V2.out
      have V3 := Lib.hid u3
      replace u3 := (HS.out.b.cell (World.block_lt_of_cell? w0 _ V3.out)).trans V3.out
      have V4 := Lib.hid u4
      replace u4 := (HS.out.b.cell (World.block_lt_of_cell? w0 _ V4.out)).trans V4.out
      have V5 := Lib.hid u5
      replace u5 := (HS.out.b.cell (World.block_lt_of_cell? w0 _ V5.out)).trans V5.out
      have V6 := Lib.hid u6
      replace u6 := (HS.out.b.cell (World.block_lt_of_cell? w0 _ V6.out)).trans V6.out
      have V7 := Lib.hid u7
      replace u7 := (HS.out.b.cell (World.block_lt_of_cell? w0 _ V7.out)).trans V7.out
      have V8 := Lib.hid u8
      replace u8 := (HS.out.b.cell (World.block_lt_of_cell? w0 _ V8.out)).trans V8.out
      have V9 := Lib.hid u9
      replace u9 := (HS.out.b.cell (World.block_lt_of_cell? w0 _ V9.out)).trans V9.out
      have V10 := Lib.hid u10
      replace u10 := (HS.out.b.cell (World.block_lt_of_cell? w0 _ V10.out)).trans V10.out
      have V11 := Lib.hid u11
      replace u11 := (HS.out.b.cell (World.block_lt_of_cell? w0 _ V11.out)).trans V11.out
      have HT := Lib.hid (show ∀ v, v = walkB stS x.f0[i].f3 1 (walkN stS x.f0[i].f2.length (stS (walkDL stS (x.f0.take i) m) 0)) → v = walkDL stS (x.f0.take (i + 1)) m from fun v hv => by rw [List.take_succ_eq_append_getElem hlt, walkDL_snoc]; exact hv)
      have HZ := Lib.hid hX_
      clear hX_
      have hdl := C_len HZ.out.2.1
      have hLT := Lib.hid hlt
      have hlx : x.f0.length ≤ 9223372036854775807 := hlnD
      generalize x.f0[i] = d at *
      generalize walkDL stS (x.f0.take i) m = mi at *
      go_upto_region 6 with (go_at_call 64; refine (add_call g _ mi HS.out.n HS.out.lo HS.out.hi).mono ?_; rintro e w5 ⟨rfl, hn, hk⟩; have S5 := Lib.hid (HS.out.told hg hn hk (stS_rng HS.out.lo HS.out.hi).1 (stS_rng HS.out.lo HS.out.hi).2); have X5 := Lib.hid (hk.blk HX.out (ne_blk HX.out HS.out.n (by decide))); clear hn hk)
      clear y0 u0 u1 u2 u3 u4 u5 u6 u7 u8 u9 u10 u11
      generalize hq : stS mi 0 = mq at *
      have HQ := Lib.hid hq
      clear hq
      go_wp2
      go_loopw [7] (fun vk wr => ∃ k : Nat, vk = .int .i64 k ∧ k ≤ d.f2.length ∧ Hid (SC w0 g W wr (walkN stS k mq)) ∧ Hid (wr.heap[gx]? = some (.cells #[.slice (some ad_) x.f0.length cD, .int .i64 x.f1, .string x.f2, .slice AX x.f3.length cX] 25 (0, 0)))) (fun vk _ => d.f2.length - (intOf vk).toNat)
      case atStart => exact ⟨0, by go_num, Nat.zero_le _, Lib.hid S5.out, Lib.hid X5.out⟩
      case round =>
        obtain ⟨k, rfl, hkl, HS2, HX2⟩ := hrel
        obtain ⟨wi, hwi⟩ : ∃ wi, wi = wr := ⟨_, rfl⟩
        subst hwi
        have y0 := blk_cell HX2.out 0
        have y3 := blk_cell HX2.out 3
        have u0 := (HS2.out.b.cell (World.block_lt_of_cell? w0 _ V0.out)).trans V0.out; have u1 := (HS2.out.b.cell (World.block_lt_of_cell? w0 _ V1.out)).trans V1.out; have u2 := (HS2.out.b.cell (World.block_lt_of_cell? w0 _ V2.out)).trans V2.out; have u3 := (HS2.out.b.cell (World.block_lt_of_cell? w0 _ V3.out)).trans V3.out; have u4 := (HS2.out.b.cell (World.block_lt_of_cell? w0 _ V4.out)).trans V4.out; have u5 := (HS2.out.b.cell (World.block_lt_of_cell? w0 _ V5.out)).trans V5.out; have u6 := (HS2.out.b.cell (World.block_lt_of_cell? w0 _ V6.out)).trans V6.out; have u7 := (HS2.out.b.cell (World.block_lt_of_cell? w0 _ V7.out)).trans V7.out; have u8 := (HS2.out.b.cell (World.block_lt_of_cell? w0 _ V8.out)).trans V8.out; have u9 := (HS2.out.b.cell (World.block_lt_of_cell? w0 _ V9.out)).trans V9.out; have u10 := (HS2.out.b.cell (World.block_lt_of_cell? w0 _ V10.out)).trans V10.out; have u11 := (HS2.out.b.cell (World.block_lt_of_cell? w0 _ V11.out)).trans V11.out
        by_cases hk : k < d.f2.length
        · have p1 : (k : Int) < (d.f2.length : Int) := by omega
          go_wp2_with (go_at_call 64; refine (add_call g _ _ HS2.out.n HS2.out.lo HS2.out.hi).mono ?_; rintro e w6 ⟨rfl, hn, hkk⟩; have S6 := Lib.hid (HS2.out.told hg hn hkk (stS_rng HS2.out.lo HS2.out.hi).1 (stS_rng HS2.out.lo HS2.out.hi).2); have X6 := Lib.hid (hkk.blk HX2.out (ne_blk HX2.out HS2.out.n (by decide))); clear hn hkk)
          go_roundw
          case rel => first | exact ⟨k + 1, by go_num, hk, Lib.hid (S6.out.cast (stS_step mq k))⟩ | exact ⟨k + 1, by go_num, hk, Lib.hid (S6.out.cast (stS_step mq k)), X6⟩
          case measure => simp [intOf]; omega
        · obtain rfl : k = d.f2.length := by omega
          go_wp2_with (go_at_call 65; refine (CB_call w0 g hg d.f3 B0 b0 B4 b4 B5 b5 B6 b6 1 65 _ _ rfl HS2.out.self HZ.out.2.2).mono ?_; rintro e w7 ⟨⟨d7, rfl⟩, hn, hk7, hl_, hh_⟩; have S7 := Lib.hid (HS2.out.told hg hn hk7 hl_ hh_); have X7 := Lib.hid (hk7.blk HX2.out (ne_blk HX2.out HS2.out.n (by decide))); clear hn hk7 hl_ hh_)
          all_goals (go_roundw; (case rel => first | exact ⟨i + 1, by go_num, hlt, Lib.hid (S7.out.cast (HT.out _ rfl))⟩ | exact ⟨i + 1, _, by go_num, rfl, hlt, Lib.hid (S7.out.cast (HT.out _ rfl)), X7⟩ | exact ⟨i + 1, by go_num, ⟨_, rfl⟩, hlt, Lib.hid (S7.out.cast (HT.out _ rfl)), X7⟩); case measure => simp [intOf]; omega)
    · obtain rfl : i = x.f0.length := by omega
      have hg_ := HS.out
      rw [List.take_length] at hg_
      have HG_ := Lib.hid hg_
      clear hg_
      have y3 := blk_cell HX.out 3
      go_wp2_with (go_at_call 66; refine (cexprs_call w0 g hg x.f3 AX cX 1 65 _ _ rfl HG_.out.self HP.out.gx HP.out.lx).mono ?_; rintro e w7 ⟨⟨d7, rfl⟩, hn, hk7, hl_, hh_⟩; have S7 := Lib.hid (HG_.out.told hg hn hk7 hl_ hh_); clear hn hk7 hl_ hh_)
      all_goals (go_ret; exact S7.out.tell rfl _)
set_option maxRecDepth 100000 in
set_option maxHeartbeats 16000000 in
/-- The document's Size. -/
theorem ref_size_call (x : S25) (AD : Option Addr) (cD : Nat) (AX : Option Addr) (cX : Nat) (w : World) (hP : ProgC w x AD cD AX cX) :
    Calls Tryd.prog 15 #[.agg #[.slice AD x.f0.length cD, .int .i64 x.f1, .string x.f2, .slice AX x.f3.length cX]] w fun e w' => e = .returned (.int .i64 (walkPr stS x 0)) ∧ Below w.heap.size w w' := by
  have HP := Lib.hid hP
  clear hP
  go_enter Tryd.func15, Tryd.ntmps15
  go_upto_region 2 with fail
  have s1 : (w.alloc (.cells #[.slice AD x.f0.length cD, .int .i64 x.f1, .string x.f2, .slice AX x.f3.length cX] 25)).heap.size = w.heap.size + 1 := by simp
  have X2 := blk_new (w.alloc (.cells #[.slice AD x.f0.length cD, .int .i64 x.f1, .string x.f2, .slice AX x.f3.length cX] 25)) (.cells #[.int .i64 0] 77)
  have X1 := Lib.hid (blk_alloc (blk_new w (.cells #[.slice AD x.f0.length cD, .int .i64 x.f1, .string x.f2, .slice AX x.f3.length cX] 25)) (.cells #[.int .i64 0] 77))
  rw [s1] at X2
  have BL := Lib.hid (below_alloc (below_alloc (Below.refl _ w) (.cells #[.slice AD x.f0.length cD, .int .i64 x.f1, .string x.f2, .slice AX x.f3.length cX] 25)) (.cells #[.int .i64 0] 77))
  clear s1
  generalize ((w.alloc (.cells #[.slice AD x.f0.length cD, .int .i64 x.f1, .string x.f2, .slice AX x.f3.length cX] 25)).alloc (.cells #[.int .i64 0] 77)) = V2 at *
  have hgs : w.heap.size ≤ w.heap.size + 1 := Nat.le_succ _
  have S2 := Lib.hid (show SC w (w.heap.size + 1) V2 V2 0 from ⟨X2, KX.refl _ _, BL.out, by omega, by omega⟩)
  clear X2
  have y0 := blk_cell X1.out 0
  have y1 := blk_cell X1.out 1
  have y2 := blk_cell X1.out 2
  have y3 := blk_cell X1.out 3
  go_upto_region 3 with (go_at_call 38; refine (cprog_call w (w.heap.size + 1) hgs x AD cD AX cX 0 V2 S2.out HP.out).mono ?_; rintro e w5 ⟨⟨d5, rfl⟩, hn, hk, hl_, hh_⟩; have S5 := Lib.hid (S2.out.told hgs hn hk hl_ hh_); clear hn hk hl_ hh_)
  clear y0 y1 y2 y3 X1
  have kc := blk_cell S5.out.n 0
  obtain ⟨m5, hm5⟩ : ∃ q, q = walkPr stS x 0 := ⟨_, rfl⟩
  rw [← hm5] at kc
  have HM5 := Lib.hid hm5
  clear hm5
  go_wp2
  go_ret
  exact ⟨by rw [← HM5.out]; rfl, S5.out.b⟩
end Go.Proofs.YtjboncbmeanlgaaDoor.Tr
