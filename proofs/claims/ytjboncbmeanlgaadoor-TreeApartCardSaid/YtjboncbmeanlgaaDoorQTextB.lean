/- TextB -/
import Derived.Test.YtjboncbmeanlgaaDoorQTextR
/- What the tree's text functions write: a body. -/
set_option linter.unusedVariables false
set_option linter.unusedSimpArgs false
namespace Go.Proofs.YtjboncbmeanlgaaDoor.Tr
open Go.RowKit Go.Proofs Go.Proofs.YtjboncbmeanlgaaDoor.PTreePrints Go.Proofs.YtjboncbmeanlgaaDoorW.PrintWords Go.Proofs.YtjboncbmeanlgaaDoorW.PrintMore Go.Proofs.YtjboncbmeanlgaaDoorW.PrintLast
set_option maxRecDepth 100000 in
set_option maxHeartbeats 32000000 in
theorem TB_ok (w0 : World) (x : S42) (hI : ∀ y, y ∈ x.f5 → TB w0 y) (hJ : ∀ y, y ∈ x.f6 → TB w0 y.2.2) : TB w0 x := by
  intro hG B b A0 c0 A4 c4 A5 c5 A6 c6 l W hS hB hl
  obtain ⟨f0, f1, f2, f3, f4, f5, f6, f7, f8⟩ := x
  simp only at hI hJ
  obtain ⟨hgS, hgP, hgA, hcase⟩ := goodB_cases hG
  have hln0 := C_len hB.g0
  simp only at hln0
  have HI := Lib.hid hI
  have HJ := Lib.hid hJ
  have HB := Lib.hid hB
  have SP0 := Lib.hid hS
  have HL := Lib.hid hl
  have HGP := Lib.hid hgP
  have HGA := Lib.hid hgA
  have HGS := Lib.hid hgS
  clear hI hJ hB hS hl hgP hgA hgS hG
  obtain ⟨mid, hmid⟩ : ∃ mid, prB ⟨f0, f1, f2, f3, f4, f5, f6, f7, f8⟩ = [123, 32] ++ (prSL f0 ++ (mid ++ [32, 125])) := by rw [prB]; exact ⟨_, rfl⟩
  have HP := Lib.hid hmid
  clear hmid
  unfold bodyV
  simp only
  go_enter Tryd.func26, Tryd.ntmps26
  have hal := below_alloc (Below.refl _ W) (.cells #[.slice A0 f0.length c0, .int .i64 f1, .int .i64 f2, .string f3, .slice A4 f4.length c4, .slice A5 f5.length c5, .slice A6 f6.length c6, .bool f7, .int .i64 f8] 42)
  have X1 := Lib.hid (blk_new W (.cells #[.slice A0 f0.length c0, .int .i64 f1, .int .i64 f2, .string f3, .slice A4 f4.length c4, .slice A5 f5.length c5, .slice A6 f6.length c6, .bool f7, .int .i64 f8] 42))
  have hnb : W.heap.size ≠ b := by have := SP0.out.ne; omega
  have S1 := Lib.hid (SP0.out.below hal)
  clear hal SP0
  go_upto_region 2 with fail
  generalize W.alloc (.cells #[.slice A0 f0.length c0, .int .i64 f1, .int .i64 f2, .string f3, .slice A4 f4.length c4, .slice A5 f5.length c5, .slice A6 f6.length c6, .bool f7, .int .i64 f8] 42) = wp at *
  generalize W.heap.size = gx at *
  go_upto_region 3 with (go_at_call 24; refine (write_call S1.out _ (by have h_ := HL.out; rw [HP.out] at h_; simp only [size_bl, bl_app, bl_lit, List.size_toArray, List.length_append, List.length_cons, List.length_nil] at h_ ⊢; omega)).mono ?_; rintro e w2 ⟨rfl, hs, hk⟩; have S2 := Lib.hid hs; have X2 := Lib.hid (TS.blk hk X1.out hnb (by decide)); clear hs hk)
  have y0 := blk_cell X2.out 0
  obtain ⟨l1, hl1⟩ : ∃ q, q = l ++ bl ⟨#[123, 32]⟩ := ⟨_, rfl⟩
  rw [← hl1] at S2
  have HL1 := Lib.hid hl1
  clear hl1
  have HLA := Lib.hid (show l1.length + ((prSL f0).length + (mid.length + 2)) ≤ 140737488355328 by have h_ := HL.out; rw [HP.out] at h_; rw [HL1.out]; simp only [bl_lit, List.size_toArray, List.length_append, List.length_cons, List.length_nil] at h_ ⊢; omega)
  go_wp2
  go_loopw [16] (fun vi wr => ∃ i : Nat, vi = .int .i64 i ∧ i ≤ f0.length ∧ Hid (TS w0 B b W wr (l1 ++ prSL (f0.take i))) ∧ Hid (wr.heap[gx]? = some (.cells #[.slice A0 f0.length c0, .int .i64 f1, .int .i64 f2, .string f3, .slice A4 f4.length c4, .slice A5 f5.length c5, .slice A6 f6.length c6, .bool f7, .int .i64 f8] 42 (0, 0)))) (fun vi _ => f0.length - (intOf vi).toNat)
  case atStart => exact ⟨0, by go_num, Nat.zero_le _, Lib.hid (S2.out.cast (by simp [prSL])), Lib.hid X2.out⟩
  case round =>
    obtain ⟨i, rfl, hil, HS, HX⟩ := hrel
    obtain ⟨wq, hwq⟩ : ∃ wq, wq = wr := ⟨_, rfl⟩
    subst hwq
    by_cases hlt : i < f0.length
    · have q1 : (i : Int) < (f0.length : Int) := by omega
      have q0 : (0 : Int) ≤ (i : Int) := by omega
      obtain ⟨ad_, A9, c9, hA_, u0, u1, u2, u3, u4, hX_⟩ := at_T37 HB.out.g0 (i : Int) q0 q1
      subst hA_
      rw [rd37 f0 i hlt, Int.toNat_natCast] at u0 u1 u2 u3 u4
      rw [rd37 f0 i hlt] at hX_
      replace u0 := (HS.out.o.cell (World.block_lt_of_cell? w0 _ u0)).trans u0
      replace u1 := (HS.out.o.cell (World.block_lt_of_cell? w0 _ u1)).trans u1
      replace u2 := (HS.out.o.cell (World.block_lt_of_cell? w0 _ u2)).trans u2
      replace u3 := (HS.out.o.cell (World.block_lt_of_cell? w0 _ u3)).trans u3
      replace u4 := (HS.out.o.cell (World.block_lt_of_cell? w0 _ u4)).trans u4
      obtain ⟨ht1, ht2⟩ := pre_take prSL prSL_app f0 i hlt
      have hone : prSL [f0[i]] = prS f0[i] := by simp [prSL]
      rw [hone] at ht1 ht2
      have HT := Lib.hid ht1
      have HLR := Lib.hid (show (l1 ++ prSL (f0.take i)).length + (prS f0[i]).length ≤ 140737488355328 by have h_ := HLA.out; rw [List.length_append]; omega)
      have hgs := goodSL_mem f0 f0[i] HGS.out (List.getElem_mem hlt)
      have HZ := Lib.hid hX_
      clear hX_ ht1 ht2 hone
      generalize f0[i] = x at *
      go_upto_region 6 with fail
      have hal := below_alloc (Below.refl _ wq) (.cells #[.int .i64 x.f0, .int .i64 x.f1, .string x.f2, .string x.f3, .slice A9 x.f4.length c9] 37)
      have Y4 := Lib.hid (blk_new wq (.cells #[.int .i64 x.f0, .int .i64 x.f1, .string x.f2, .string x.f3, .slice A9 x.f4.length c9] 37))
      have S4 := Lib.hid (HS.out.below hal)
      have X4 := Lib.hid (blk_below HX.out hal)
      clear hal u0 u1 u2 u3 u4 HS HX
      generalize wq.alloc (.cells #[.int .i64 x.f0, .int .i64 x.f1, .string x.f2, .string x.f3, .slice A9 x.f4.length c9] 37) = w4 at *
      generalize wq.heap.size = ga at *
      have z0 := blk_cell Y4.out 0
      have z1 := blk_cell Y4.out 1
      have z2 := blk_cell Y4.out 2
      have z3 := blk_cell Y4.out 3
      have z4 := blk_cell Y4.out 4
      go_wp2_with (go_at_call 53; refine (TS_call w0 x hgs B b A9 c9 _ _ S4.out.self HZ.out.2 HZ.out.1 HLR.out).mono ?_; rintro e w5 ⟨rfl, ht, hf, hk⟩; have S5 := Lib.hid (S4.out.wrote ht hf hk); have X5 := Lib.hid (TS.blk hk X4.out hnb (by decide)); clear ht hf hk)
      go_roundw
      case rel => first | exact ⟨i + 1, by go_num, hlt, Lib.hid (S5.out.cast (by rw [HT.out, List.append_assoc])), X5⟩ | exact ⟨i + 1, by go_num, hlt, Lib.hid (S5.out.cast (by rw [HT.out, List.append_assoc]))⟩
      case measure => simp [intOf]; omega
    · obtain rfl : i = f0.length := by omega
      have hg_ := HS.out
      rw [List.take_length] at hg_
      have S4 := Lib.hid hg_
      have X4 := Lib.hid HX.out
      clear hg_ HS HX y0
      obtain ⟨l2, hl2⟩ : ∃ q, q = l1 ++ prSL f0 := ⟨_, rfl⟩
      rw [← hl2] at S4
      have HL2 := Lib.hid hl2
      clear hl2
      have HLM := Lib.hid (show l2.length + (mid.length + 2) ≤ 140737488355328 by have h_ := HLA.out; rw [HL2.out, List.length_append]; omega)
      have HEND := Lib.hid (show ∀ m, m = mid → (l2 ++ m) ++ bl ⟨#[32, 125]⟩ = l ++ prB ⟨f0, f1, f2, f3, f4, f5, f6, f7, f8⟩ from fun m hm => by rw [HP.out, HL2.out, HL1.out, hm]; simp [bl])
      have y1 := blk_cell X4.out 1
      have y3 := blk_cell X4.out 3
      have y4 := blk_cell X4.out 4
      have y5 := blk_cell X4.out 5
      rcases hcase with ⟨rfl, h0, hgl⟩ | rfl | ⟨rfl, ⟨p, rfl, hgp⟩, q, r, rfl⟩ | ⟨rfl, hLt⟩
      · have HMD := Lib.hid (show mid = [98, 101, 99, 111, 109, 101, 32] ++ (bl f3 ++ (40 :: (prEL f4 ++ [41]))) by have h := HP.out; rw [prB] at h; have h2 := List.append_cancel_right (List.append_cancel_left (List.append_cancel_left h)); rw [← h2]; rw [if_pos rfl]; try rfl)
        have hs1 : ¬ 9223372036854775807 < 7 + f3.size := by omega
        have hs2 : ¬ 9223372036854775807 < 7 + f3.size + 1 := by omega
        go_upto_region 11 with (go_at_call 24; refine (write_call S4.out _ (by have h_ := HLM.out; rw [HMD.out] at h_; simp only [size_bl, bl_app, bl_lit, List.size_toArray, List.length_append, List.length_cons, List.length_nil] at h_ ⊢; omega)).mono ?_; rintro e w5 ⟨rfl, hs, hk⟩; have S5 := Lib.hid hs; have X5 := Lib.hid (TS.blk hk X4.out hnb (by decide)); clear hs hk)
        clear y1 y3 y4 y5
        have y4 := blk_cell X5.out 4
        go_upto_region 12 with (go_at_call 27; refine (TE_list w0 f4 (fun x _ => TE_call w0 x) hgl B b A4 c4 _ _ S5.out.self HB.out.g4 HB.out.l4 (by have h_ := HLM.out; rw [HMD.out] at h_; simp only [size_bl, bl_app, bl_lit, List.size_toArray, List.length_append, List.length_cons, List.length_nil] at h_ ⊢; omega)).mono ?_; rintro e w6 ⟨rfl, ht, hf, hk⟩; have S6 := Lib.hid (S5.out.wrote ht hf hk); clear ht hf hk)
        go_upto_region 24 with (go_at_call 24; refine (write_call S6.out _ (by have h_ := HLM.out; rw [HMD.out] at h_; simp only [size_bl, bl_app, bl_lit, List.size_toArray, List.length_append, List.length_cons, List.length_nil] at h_ ⊢; omega)).mono ?_; rintro e w7 ⟨rfl, hs, hk⟩; have S7 := Lib.hid hs; clear hs hk)
        go_wp2_with (go_at_call 24; refine (write_call S7.out _ (by have h_ := HLM.out; rw [HMD.out] at h_; simp only [size_bl, bl_app, bl_lit, List.size_toArray, List.length_append, List.length_cons, List.length_nil] at h_ ⊢; omega)).mono ?_; rintro e w8 ⟨rfl, hs, hk⟩; have S8 := Lib.hid hs; clear hs hk)
        go_end0
        exact S8.out.tell (by rw [← HEND.out _ rfl, HMD.out]; try simp [bl])
      · have HMD := Lib.hid (show mid = [115, 116, 111, 112] by have h := HP.out; rw [prB] at h; have h2 := List.append_cancel_right (List.append_cancel_left (List.append_cancel_left h)); rw [← h2]; rw [if_neg (show ¬ (2 : Int) = 1 by decide)]; rw [if_pos rfl]; try rfl)
        go_upto_region 24 with (go_at_call 24; refine (write_call S4.out _ (by have h_ := HLM.out; rw [HMD.out] at h_; simp only [size_bl, bl_app, bl_lit, List.size_toArray, List.length_append, List.length_cons, List.length_nil] at h_ ⊢; omega)).mono ?_; rintro e w5 ⟨rfl, hs, hk⟩; have S5 := Lib.hid hs; clear hs hk)
        go_wp2_with (go_at_call 24; refine (write_call S5.out _ (by have h_ := HLM.out; rw [HMD.out] at h_; simp only [size_bl, bl_app, bl_lit, List.size_toArray, List.length_append, List.length_cons, List.length_nil] at h_ ⊢; omega)).mono ?_; rintro e w6 ⟨rfl, hs, hk⟩; have S6 := Lib.hid hs; clear hs hk)
        go_end0
        exact S6.out.tell (by rw [← HEND.out _ rfl, HMD.out]; try simp [bl])
      · have HMD := Lib.hid (show mid = [105, 102, 32] ++ (prE p ++ (32 :: (prB q ++ ([32, 101, 108, 115, 101, 32] ++ prB r)))) by have h := HP.out; rw [prB] at h; have h2 := List.append_cancel_right (List.append_cancel_left (List.append_cancel_left h)); rw [← h2]; rw [if_neg (show ¬ (3 : Int) = 1 by decide)]; rw [if_neg (show ¬ (3 : Int) = 2 by decide)]; rw [if_pos rfl]; simp only [prH, prI, prO])
        obtain ⟨ad, Ay, cy, hA, hcy, hCy, hU⟩ := first31 HB.out.g4
        subst hA
        have HU := Lib.hid hU
        have HCy := Lib.hid hCy
        have hA5 : ∃ ad', A5 = some ad' := by
          obtain ⟨ad', _, _, _, _, _, _, _, _, h, _⟩ := at_T42 HB.out.g5 0 (by omega) (by simp)
          exact ⟨ad', h⟩
        obtain ⟨ad', hA5⟩ := hA5
        subst hA5
        obtain ⟨B0, b0, B4, b4, B5, b5, B6, b6, hBq, hUq⟩ := first42 HB.out.g5
        obtain ⟨D0, d0, D4, d4, D5, d5, D6, d6, hBr, hUr⟩ := second42 HB.out.g5
        have HUQ := Lib.hid hUq
        have HUR := Lib.hid hUr
        have HBQ := Lib.hid hBq
        have HBR := Lib.hid hBr
        have HEQ := Lib.hid (HI.out q (by simp) (goodBL_mem _ q HGP.out (by simp)))
        have HER := Lib.hid (HI.out r (by simp) (goodBL_mem _ r HGP.out (by simp)))
        clear hU hCy hUq hUr hBq hBr
        simp only [List.length_cons, List.length_nil, Nat.zero_add, Nat.reduceAdd] at *
        go_upto_region 17 with (go_at_call 24; refine (write_call S4.out _ (by have h_ := HLM.out; rw [HMD.out] at h_; simp only [size_bl, bl_app, bl_lit, List.size_toArray, List.length_append, List.length_cons, List.length_nil] at h_ ⊢; omega)).mono ?_; rintro e w5 ⟨rfl, hs, hk⟩; have S5 := Lib.hid hs; have X5 := Lib.hid (TS.blk hk X4.out hnb (by decide)); clear hs hk)
        clear y1 y3 y4 y5
        have y4 := blk_cell X5.out 4
        obtain ⟨u0, u1, u2, u3, u4⟩ := HU.out _ S5.out.o
        go_upto_region 18 with (go_at_call 28; refine (TE_call w0 p hgp B b Ay cy _ _ S5.out.self HCy.out hcy (by have h_ := HLM.out; rw [HMD.out] at h_; simp only [size_bl, bl_app, bl_lit, List.size_toArray, List.length_append, List.length_cons, List.length_nil] at h_ ⊢; omega)).mono ?_; rintro e w6 ⟨rfl, ht, hf, hk⟩; have S6 := Lib.hid (S5.out.wrote ht hf hk); have X6 := Lib.hid (TS.blk hk X5.out hnb (by decide)); clear ht hf hk)
        go_upto_region 19 with (go_at_call 24; refine (write_call S6.out _ (by have h_ := HLM.out; rw [HMD.out] at h_; simp only [size_bl, bl_app, bl_lit, List.size_toArray, List.length_append, List.length_cons, List.length_nil] at h_ ⊢; omega)).mono ?_; rintro e w7 ⟨rfl, hs, hk⟩; have S7 := Lib.hid hs; have X7 := Lib.hid (TS.blk hk X6.out hnb (by decide)); clear hs hk)
        clear u0 u1 u2 u3 u4 y4
        have y5 := blk_cell X7.out 5
        obtain ⟨u0, u1, u2, u3, u4, u5, u6, u7, u8⟩ := HUQ.out _ S7.out.o
        go_upto_region 20 with (go_at_call 26; refine (HEQ.out B b B0 b0 B4 b4 B5 b5 B6 b6 _ _ S7.out.self HBQ.out (by have h_ := HLM.out; rw [HMD.out] at h_; simp only [size_bl, bl_app, bl_lit, List.size_toArray, List.length_append, List.length_cons, List.length_nil] at h_ ⊢; omega)).mono ?_; rintro e w8 ⟨rfl, ht, hf, hk⟩; have S8 := Lib.hid (S7.out.wrote ht hf hk); have X8 := Lib.hid (TS.blk hk X7.out hnb (by decide)); clear ht hf hk)
        clear u0 u1 u2 u3 u4 u5 u6 u7 u8 y5
        go_upto_region 21 with (go_at_call 24; refine (write_call S8.out _ (by have h_ := HLM.out; rw [HMD.out] at h_; simp only [size_bl, bl_app, bl_lit, List.size_toArray, List.length_append, List.length_cons, List.length_nil] at h_ ⊢; omega)).mono ?_; rintro e w9 ⟨rfl, hs, hk⟩; have S9 := Lib.hid hs; have X9 := Lib.hid (TS.blk hk X8.out hnb (by decide)); clear hs hk)
        have y5 := blk_cell X9.out 5
        obtain ⟨u0, u1, u2, u3, u4, u5, u6, u7, u8⟩ := HUR.out _ S9.out.o
        go_upto_region 24 with (go_at_call 26; refine (HER.out B b D0 d0 D4 d4 D5 d5 D6 d6 _ _ S9.out.self HBR.out (by have h_ := HLM.out; rw [HMD.out] at h_; simp only [size_bl, bl_app, bl_lit, List.size_toArray, List.length_append, List.length_cons, List.length_nil] at h_ ⊢; omega)).mono ?_; rintro e w10 ⟨rfl, ht, hf, hk⟩; have S10 := Lib.hid (S9.out.wrote ht hf hk); clear ht hf hk)
        go_wp2_with (go_at_call 24; refine (write_call S10.out _ (by have h_ := HLM.out; rw [HMD.out] at h_; simp only [size_bl, bl_app, bl_lit, List.size_toArray, List.length_append, List.length_cons, List.length_nil] at h_ ⊢; omega)).mono ?_; rintro e w11 ⟨rfl, hs, hk⟩; have S11 := Lib.hid hs; clear hs hk)
        go_end0
        exact S11.out.tell (by rw [← HEND.out _ rfl, HMD.out]; try simp [bl])
      · have HMD := Lib.hid (show mid = prR ⟨f0, 4, f2, f3, f4, f5, f6, f7, f8⟩ by have h := HP.out; rw [prB] at h; have h2 := List.append_cancel_right (List.append_cancel_left (List.append_cancel_left h)); rw [← h2]; rw [if_neg (show ¬ (4 : Int) = 1 by decide)]; rw [if_neg (show ¬ (4 : Int) = 2 by decide)]; rw [if_neg (show ¬ (4 : Int) = 3 by decide)]; unfold prR; rfl)
        have y0 := blk_cell X4.out 0
        have y2 := blk_cell X4.out 2
        have y6 := blk_cell X4.out 6
        have y7 := blk_cell X4.out 7
        have y8 := blk_cell X4.out 8
        have HLT := Lib.hid hLt
        clear hLt
        go_upto_region 24 with (go_at_call 54; refine (TR_ok w0 ⟨f0, 4, f2, f3, f4, f5, f6, f7, f8⟩ HI.out HJ.out HGP.out HGA.out HLT.out B b A0 c0 A4 c4 A5 c5 A6 c6 _ _ S4.out.self HB.out (by have h_ := HLM.out; rw [HMD.out] at h_; omega)).mono ?_; rintro e w5 ⟨rfl, ht, hf, hk⟩; have S5 := Lib.hid (S4.out.wrote ht hf hk); clear ht hf hk)
        clear y0 y1 y2 y3 y4 y5 y6 y7 y8
        go_wp2_with (go_at_call 24; refine (write_call S5.out _ (by have h_ := HLM.out; rw [HMD.out] at h_; simp only [size_bl, bl_app, bl_lit, List.size_toArray, List.length_append, List.length_cons, List.length_nil] at h_ ⊢; omega)).mono ?_; rintro e w6 ⟨rfl, hs, hk⟩; have S6 := Lib.hid hs; clear hs hk)
        go_end0
        exact S6.out.tell (by rw [← HEND.out _ rfl, HMD.out]; try simp [bl])
theorem TB_any (w0 : World) : ∀ (n : Nat) (x : S42), SizeOf.sizeOf x ≤ n → TB w0 x := by
  intro n
  induction n with
  | zero =>
    intro x hx
    cases x
    simp at hx
  | succ n ih =>
    intro x hx
    refine TB_ok w0 x (fun y hy => ih y ?_) (fun y hy => ih y.2.2 ?_)
    · have h1 := List.sizeOf_lt_of_mem hy
      cases x
      simp at hx
      simp only at h1
      omega
    · have h1 := List.sizeOf_lt_of_mem hy
      obtain ⟨p, q, b⟩ := y
      cases x
      simp at hx
      simp at h1 ⊢
      omega
theorem TB_call (w0 : World) (x : S42) : TB w0 x := TB_any w0 _ x (Nat.le_refl _)
end Go.Proofs.YtjboncbmeanlgaaDoor.Tr
