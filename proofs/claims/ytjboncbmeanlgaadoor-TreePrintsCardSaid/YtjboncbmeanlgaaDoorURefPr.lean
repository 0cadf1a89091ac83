/- RefPr -/
import Derived.Test.YtjboncbmeanlgaaDoorURefF
import Derived.Test.YtjboncbmeanlgaaDoorURefGd
import Derived.Test.YtjboncbmeanlgaaDoorUPrintW
/- The document's text of programs. -/
set_option linter.unusedVariables false
set_option linter.unusedSimpArgs false
namespace Go.Proofs.YtjboncbmeanlgaaDoor.Tr
open Go.RowKit Go.Proofs Go.Proofs.YtjboncbmeanlgaaDoor.PTreePrints Go.Proofs.YtjboncbmeanlgaaDoorW.PrintWords Go.Proofs.YtjboncbmeanlgaaDoorW.PrintMore Go.Proofs.YtjboncbmeanlgaaDoorW.PrintLast
theorem join_snoc (l : List ByteArray) (x : ByteArray) : Lib.join ((l ++ [x]).map bl) [44, 32] = Lib.join (l.map bl) [44, 32] ++ ((if l = [] then [] else [44, 32]) ++ bl x) := by
  cases l with
  | nil => simp [Lib.join_one, Lib.join_nil]
  | cons y r => simp [Lib.join_cons, Lib.joinTail]
theorem join_take (l : List ByteArray) (i : Nat) : (Lib.join ((l.take i).map bl) [44, 32]).length ≤ (Lib.join (l.map bl) [44, 32]).length := by
  cases l with
  | nil => simp
  | cons y r =>
    cases i with
    | zero => simp [Lib.join_nil]
    | succ i =>
      have h : r = r.take i ++ r.drop i := (List.take_append_drop i r).symm
      rw [List.take_succ_cons, List.map_cons, Lib.join_cons, List.map_cons, Lib.join_cons]
      conv => rhs; rw [h]
      simp only [Lib.joinTail, List.map_append, List.flatten_append, List.length_append]
      omega
set_option maxRecDepth 100000 in
set_option maxHeartbeats 32000000 in
/-- The document's Print. -/
theorem rprint_call (x : S25) (AD : Option Addr) (cD : Nat) (AX : Option Addr) (cX : Nat) (w : World) (hP : ProgC w x AD cD AX cX) (hl : goodPr x = true → (prPr x).length ≤ 140737488355328) :
    Calls Tryd.prog 11 #[.agg #[.slice AD x.f0.length cD, .int .i64 x.f1, .string x.f2, .slice AX x.f3.length cX]] w (SaysS (printed x) w) := by
  have hlnD := C_len hP.gd
  have HP := Lib.hid hP
  clear hP
  go_enter Tryd.func11, Tryd.ntmps11
  have hal := below_alloc (Below.refl _ w) (.cells #[.slice AD x.f0.length cD, .int .i64 x.f1, .string x.f2, .slice AX x.f3.length cX] 25)
  have XB := Lib.hid (blk_new w (.cells #[.slice AD x.f0.length cD, .int .i64 x.f1, .string x.f2, .slice AX x.f3.length cX] 25))
  have CP := Lib.hid (progC_below HP.out hal)
  have B2 := Lib.hid hal
  clear hal
  go_upto_region 1 with fail
  generalize w.alloc (.cells #[.slice AD x.f0.length cD, .int .i64 x.f1, .string x.f2, .slice AX x.f3.length cX] 25) = w2 at *
  generalize hgx : w.heap.size = gx at *
  have BW := Lib.hid (show Below w.heap.size w w2 by rw [hgx]; exact B2.out)
  clear B2 hgx
  have y0 := blk_cell XB.out 0
  have y1 := blk_cell XB.out 1
  have y2 := blk_cell XB.out 2
  have y3 := blk_cell XB.out 3
  go_upto_region 3 with (go_at_call 9; refine (rgood_call x AD cD AX cX _ CP.out).mono ?_; rintro e w3 ⟨rfl, hd⟩; have B3 := Lib.hid (below_step BW.out hd); have X3 := Lib.hid (blk_below XB.out hd); have P3 := Lib.hid (progC_below CP.out hd); clear hd y0 y1 y2 y3; cases hg : goodPr x)
  · go_ret
    exact SaysS.mk' (by rw [printed, if_neg (by rw [hg]; decide)]) B3.out
  · have HPN := Lib.hid (show printed x = prPr x by rw [printed, if_pos hg])
    have HL := Lib.hid (hl hg)
    have HPR := Lib.hid (show prPr x = prDL x.f0 ++ ([109, 97, 105, 110, 32] ++ (bl x.f2 ++ (40 :: (prEL x.f3 ++ [41, 10])))) from rfl)
    have hall : x.f0.all goodDef = true := by rw [goodPr, Bool.and_eq_true] at hg; exact hg.2
    have hhd : goodHd x = true := by rw [goodPr, Bool.and_eq_true] at hg; exact hg.1
    simp only [goodHd, Bool.and_eq_true] at hhd
    have hgl : goodEL x.f3 = true := hhd.2.2.2.2.1
    have HALL := Lib.hid hall
    have hmain : x.f2.size ≤ 32 := nameOk_le hhd.2.2.2.1
    have HLD := Lib.hid (show (prDL x.f0).length ≤ 140737488355328 by have h_ := HL.out; rw [HPR.out, List.length_append] at h_; omega)
    clear hall hhd hg hl XB BW CP
    have XS := Lib.hid (fun (W' : World) (h : Below w3.heap.size w3 W') => blk_below X3.out h)
    have y0 := blk_cell X3.out 0
    go_wp2
    go_loopw [4, 3] (fun vi vs wr => ∃ (i : Nat) (s : ByteArray), vi = .int .i64 i ∧ vs = .string s ∧ i ≤ x.f0.length ∧ Hid (bl s = prDL (x.f0.take i)) ∧ Hid (Below w3.heap.size w3 wr)) (fun vi _ _ => x.f0.length - (intOf vi).toNat)
    case atStart => exact ⟨0, ⟨#[]⟩, by go_num, rfl, Nat.zero_le _, Lib.hid (by simp [prDL]), Lib.hid (Below.refl _ _)⟩
    case round =>
    obtain ⟨i, s, rfl, rfl, hil, HS, HQ⟩ := hrel
    obtain ⟨wq, hwq⟩ : ∃ wq, wq = wr := ⟨_, rfl⟩
    subst hwq
    clear y0
    have y0 := blk_cell (XS.out _ HQ.out) 0
    by_cases hlt : i < x.f0.length
    · have q1 : (i : Int) < (x.f0.length : Int) := by omega
      have q0 : (0 : Int) ≤ (i : Int) := by omega
      obtain ⟨ad_, As, cs_, B0, b0, B4, b4, B5, b5, B6, b6, hA_, u0, u1, u2, u3, u4, u5, u6, u7, u8, u9, u10, u11, hX_⟩ := at_T44 (progC_below P3.out HQ.out).gd (i : Int) q0 q1
      subst hA_
      rw [rd44 x.f0 i hlt, Int.toNat_natCast] at u0 u1 u2 u3 u4 u5 u6 u7 u8 u9 u10 u11
      rw [rd44 x.f0 i hlt] at hX_
      obtain ⟨ht1, ht2⟩ := pre_take prDL prDL_app x.f0 i hlt
      have hone : prDL [x.f0[i]] = prD x.f0[i] := by simp [prDL]
      rw [hone] at ht1 ht2
      have HTI := Lib.hid ht1
      have HLR := Lib.hid (show s.size + (prD x.f0[i]).length ≤ 140737488355328 by have h_ := HLD.out; rw [size_bl, HS.out]; omega)
      have hgd := List.all_eq_true.mp HALL.out _ (List.getElem_mem hlt)
      have HZ := Lib.hid hX_
      clear hX_ ht1 ht2 hone
      generalize x.f0[i] = d at *
      have HPD := Lib.hid (show prD d = [97, 99, 116, 111, 114, 32] ++ (bl d.f1 ++ (40 :: (Lib.join (d.f2.map bl) [44, 32] ++ (41 :: 32 :: (prB d.f3 ++ [10]))))) from rfl)
      simp only [goodDef, Bool.and_eq_true, decide_eq_true_eq] at hgd
      have hn1 : d.f1.size ≤ 32 := nameOk_le hgd.1
      have HGB := Lib.hid hgd.2.2.1
      have HNM := Lib.hid (show ∀ n, n ∈ d.f2 → n.size ≤ 32 from fun n hn => nameOk_le (List.all_eq_true.mp hgd.2.2.2 n hn))
      have HLX := Lib.hid (show s.size + (6 + d.f1.size + 1 + (Lib.join (d.f2.map bl) [44, 32]).length + 2 + (prB d.f3).length + 1) ≤ 140737488355328 by have h_ := HLR.out; rw [HPD.out] at h_; simp only [List.length_append, List.length_cons, List.length_nil] at h_; rw [size_bl d.f1]; omega)
      have HXB := Lib.hid (show (prB d.f3).length ≤ 140737488355328 by have := HLX.out; omega)
      have HXJ := Lib.hid (show (Lib.join (d.f2.map bl) [44, 32]).length ≤ 140737488355328 by have := HLX.out; omega)
      have hdl : d.f2.length ≤ 9223372036854775807 := C_len HZ.out.2.1
      have hs0 : s.size ≤ 140737488355328 := by have := HLX.out; omega
      clear hgd
      go_upto_region 8 with fail
      have hal := below_alloc (Below.refl _ wq) (.cells #[.int .i64 d.f0, .string d.f1, .slice As d.f2.length cs_, .slice B0 d.f3.f0.length b0, .int .i64 d.f3.f1, .int .i64 d.f3.f2, .string d.f3.f3, .slice B4 d.f3.f4.length b4, .slice B5 d.f3.f5.length b5, .slice B6 d.f3.f6.length b6, .bool d.f3.f7, .int .i64 d.f3.f8] 44)
      have Y4 := Lib.hid (blk_new wq (.cells #[.int .i64 d.f0, .string d.f1, .slice As d.f2.length cs_, .slice B0 d.f3.f0.length b0, .int .i64 d.f3.f1, .int .i64 d.f3.f2, .string d.f3.f3, .slice B4 d.f3.f4.length b4, .slice B5 d.f3.f5.length b5, .slice B6 d.f3.f6.length b6, .bool d.f3.f7, .int .i64 d.f3.f8] 44))
      have Q4 := Lib.hid (below_step HQ.out hal)
      have PS := Lib.hid (Kd.C_below HZ.out.2.1 hal)
      have PB := Lib.hid (HZ.out.2.2.below hal)
      clear hal u0 u1 u2 u3 u4 u5 u6 u7 u8 u9 u10 u11 y0
      generalize wq.alloc (.cells #[.int .i64 d.f0, .string d.f1, .slice As d.f2.length cs_, .slice B0 d.f3.f0.length b0, .int .i64 d.f3.f1, .int .i64 d.f3.f2, .string d.f3.f3, .slice B4 d.f3.f4.length b4, .slice B5 d.f3.f5.length b5, .slice B6 d.f3.f6.length b6, .bool d.f3.f7, .int .i64 d.f3.f8] 44) = w4 at *
      generalize wq.heap.size = ga at *
      have YS := Lib.hid (fun (W' : World) (h : Below w4.heap.size w4 W') => blk_below Y4.out h)
      have z2 := blk_cell Y4.out 2
      go_wp2
      go_loopw [7, 6] (fun vj vt wr => ∃ (j : Nat) (t : ByteArray), vj = .int .i64 j ∧ vt = .string t ∧ j ≤ d.f2.length ∧ Hid (bl t = Lib.join ((d.f2.take j).map bl) [44, 32]) ∧ Hid (wr = w4)) (fun vj _ _ => d.f2.length - (intOf vj).toNat)
      case atStart => exact ⟨0, ⟨#[]⟩, by go_num, rfl, Nat.zero_le _, Lib.hid (by simp [Lib.join_nil]), Lib.hid rfl⟩
      case round =>
      obtain ⟨j, t, rfl, rfl, hjl, HTJ, HW⟩ := hrel
      have hwe := HW.out
      subst hwe
      clear HW
      obtain ⟨wz, hwz⟩ : ∃ wz, wz = wr := ⟨_, rfl⟩
      subst hwz
      by_cases hjt : j < d.f2.length
      · have p1 : (j : Int) < (d.f2.length : Int) := by omega
        have p0 : (0 : Int) ≤ (j : Int) := by omega
        obtain ⟨as_, cc_, hs1, _, hK2, hc2⟩ := Kd.C_get PS.out (⟨#[]⟩ : ByteArray) (j : Int) p0 p1
        subst hs1
        obtain rfl : cc_ = [.string (d.f2.getD (j : Int).toNat (⟨#[]⟩ : ByteArray))] := hK2
        have hgd : d.f2.getD (j : Int).toNat (⟨#[]⟩ : ByteArray) = d.f2[j] := by rw [Int.toNat_natCast, List.getD_eq_getElem?_getD, List.getElem?_eq_getElem hjt]; rfl
        have v0 : wz.cell? (as_.add j) = some (.string d.f2[j]) := by
          have v : wz.cell? (as_.add (j * 1 + 0)) = some (.string (d.f2.getD (j : Int).toNat (⟨#[]⟩ : ByteArray))) := hc2 0 _ rfl
          rwa [hgd, Nat.mul_one, Nat.add_zero] at v
        have hnm := HNM.out d.f2[j] (List.getElem_mem hjt)
        have hts : t.size ≤ 140737488355328 := by have h1 := join_take d.f2 j; have h2 := HXJ.out; rw [size_bl, HTJ.out]; omega
        have HJS := Lib.hid (show Lib.join ((d.f2.take (j + 1)).map bl) [44, 32] = Lib.join ((d.f2.take j).map bl) [44, 32] ++ ((if d.f2.take j = [] then [] else [44, 32]) ++ bl d.f2[j]) by rw [List.take_succ_eq_append_getElem hjt, join_snoc])
        have hnil : d.f2.take j = [] ↔ j = 0 := by
          cases hd2 : d.f2 with
          | nil => rw [hd2] at hjt; simp at hjt
          | cons y r => simp
        clear hc2 hgd
        generalize d.f2[j] = sq at *
        have hr1 : ¬ 9223372036854775807 < t.size + 2 := by omega
        have hr2 : ¬ 9223372036854775807 < t.size + sq.size := by omega
        have hr3 : ¬ 9223372036854775807 < t.size + 2 + sq.size := by omega
        by_cases h0 : j = 0
        · have hj0 : ¬ (j : Int) > 0 := by omega
          have e1 := HJS.out
          rw [if_pos (hnil.2 h0), List.nil_append] at e1
          have HT2 := Lib.hid e1
          clear e1 h0 hnil
          go_wp2
          go_roundw
          case rel => exact ⟨j + 1, _, by go_num, rfl, hjt, Lib.hid (by rw [bl_app, HTJ.out, HT2.out]), Lib.hid trivial⟩
          case measure => simp [intOf]; omega
        · have hj0 : (j : Int) > 0 := by omega
          have e1 := HJS.out
          rw [if_neg (fun h => h0 (hnil.1 h))] at e1
          have HT2 := Lib.hid e1
          clear e1 hnil
          go_wp2
          go_roundw
          case rel => exact ⟨j + 1, _, by go_num, rfl, hjt, Lib.hid (by rw [bl_app, bl_app, HTJ.out, HT2.out]; simp [bl]), Lib.hid trivial⟩
          case measure => simp [intOf]; omega
      · obtain rfl : j = d.f2.length := by omega
        have ht_ := HTJ.out
        rw [List.take_length] at ht_
        have HTB := Lib.hid ht_
        have hts : t.size = (Lib.join (d.f2.map bl) [44, 32]).length := by rw [size_bl, ht_]
        have hlx := HLX.out
        rw [← hts] at hlx
        clear ht_ HTJ hts
        have hs1 : ¬ 9223372036854775807 < s.size + 6 := by omega
        have hs2 : ¬ 9223372036854775807 < s.size + 6 + d.f1.size := by omega
        have hs3 : ¬ 9223372036854775807 < s.size + 6 + d.f1.size + 1 := by omega
        have hs4 : ¬ 9223372036854775807 < s.size + 6 + d.f1.size + 1 + t.size := by omega
        have hs5 : ¬ 9223372036854775807 < s.size + 6 + d.f1.size + 1 + t.size + 2 := by omega
        have HLY := Lib.hid hlx
        go_upto_region 15 with fail
        clear z2
        have BD := Lib.hid (Below.refl wz.heap.size wz).drew
        have XBd := Lib.hid (fun (W' : World) (h : BodyC W' d.f3 B0 b0 B4 b4 B5 b5 B6 b6) => XB_call d.f3 HGB.out B0 b0 B4 b4 B5 b5 B6 b6 W' h HXB.out)
        refine start_ (n := 15) (S := fun w' => w'.cell? ⟨ga, 1, none⟩ = some (.string d.f1) ∧ w'.cell? ⟨ga, 3, none⟩ = some (.slice B0 d.f3.f0.length b0) ∧ w'.cell? ⟨ga, 4, none⟩ = some (.int .i64 d.f3.f1) ∧ w'.cell? ⟨ga, 5, none⟩ = some (.int .i64 d.f3.f2) ∧ w'.cell? ⟨ga, 6, none⟩ = some (.string d.f3.f3) ∧ w'.cell? ⟨ga, 7, none⟩ = some (.slice B4 d.f3.f4.length b4) ∧ w'.cell? ⟨ga, 8, none⟩ = some (.slice B5 d.f3.f5.length b5) ∧ w'.cell? ⟨ga, 9, none⟩ = some (.slice B6 d.f3.f6.length b6) ∧ w'.cell? ⟨ga, 10, none⟩ = some (.bool d.f3.f7) ∧ w'.cell? ⟨ga, 11, none⟩ = some (.int .i64 d.f3.f8)) (ds := []) #[false, false, false, false, false, false, false, false, false, false, false, false, false, false, false] (by kernel_rfl) rfl rfl ⟨(blk_cell (YS.out _ BD.out) 1), (blk_cell (YS.out _ BD.out) 3), (blk_cell (YS.out _ BD.out) 4), (blk_cell (YS.out _ BD.out) 5), (blk_cell (YS.out _ BD.out) 6), (blk_cell (YS.out _ BD.out) 7), (blk_cell (YS.out _ BD.out) 8), (blk_cell (YS.out _ BD.out) 9), (blk_cell (YS.out _ BD.out) 10), (blk_cell (YS.out _ BD.out) 11)⟩ (fun hHeld => ?_)
        generalize wz.drew = WD at *
        refine pure_ (i := 0) (N := some 41) (v := ?_) (a' := ?_) #[true, false, false, false, false, false, false, false, false, false, false, false, false, false, false] rfl rfl (by kernel_rfl) (fun _ _ _ h => h) (Or.inl ⟨by rfl, ?_⟩) ?_ ?_
        rotate_left
        · intro w'
          go_simp
          with_reducible rfl
        rotate_left
        · simp only [Act.put, List.setIfInBounds_toArray, List.set_cons_zero, List.set_cons_succ, i64_w, i32_w]
          rfl
        refine pure_ (i := 1) (N := some 42) (v := ?_) (a' := ?_) #[true, true, false, false, false, false, false, false, false, false, false, false, false, false, false] rfl rfl (by kernel_rfl) (fun _ _ _ h => h) (Or.inl ⟨by rfl, ?_⟩) ?_ ?_
        rotate_left
        · intro w'
          go_simp
          with_reducible rfl
        rotate_left
        · simp only [Act.put, List.setIfInBounds_toArray, List.set_cons_zero, List.set_cons_succ, i64_w, i32_w]
          rfl
        refine pure_ (i := 2) (N := some 43) (v := ?_) (a' := ?_) #[true, true, true, false, false, false, false, false, false, false, false, false, false, false, false] rfl rfl (by kernel_rfl) (fun _ _ _ h => h) (Or.inl ⟨by rfl, ?_⟩) ?_ ?_
        rotate_left
        · intro w'
          go_simp
          with_reducible rfl
        rotate_left
        · simp only [Act.put, List.setIfInBounds_toArray, List.set_cons_zero, List.set_cons_succ, i64_w, i32_w]
          rfl
        refine pure_ (i := 6) (N := some 47) (v := ?_) (a' := ?_) #[true, true, true, false, false, false, true, false, false, false, false, false, false, false, false] rfl rfl (by kernel_rfl) (fun _ _ _ h => h) (Or.inl ⟨by rfl, ?_⟩) ?_ ?_
        rotate_left
        · intro w'
          go_simp
          with_reducible rfl
        rotate_left
        · simp only [Act.put, List.setIfInBounds_toArray, List.set_cons_zero, List.set_cons_succ, i64_w, i32_w]
          rfl
        refine pure_ (i := 9) (N := some 50) (v := ?_) (a' := ?_) #[true, true, true, false, false, false, true, false, false, true, false, false, false, false, false] rfl rfl (by kernel_rfl) (fun _ _ _ h => h) (Or.inl ⟨by rfl, ?_⟩) ?_ ?_
        rotate_left
        · intro w'
          go_simp
          with_reducible rfl
        rotate_left
        · simp only [Act.put, List.setIfInBounds_toArray, List.set_cons_zero, List.set_cons_succ, i64_w, i32_w]
          rfl
        refine take_ (i := 3) (N := some 44) (v := ?_) (a' := ?_) #[true, true, true, true, false, false, true, false, false, true, false, false, false, false, false] rfl rfl (by kernel_rfl) (fun _ _ _ h => h) (Or.inl ⟨by rfl, ?_⟩) hHeld ?_ ?_
        rotate_left
        · rintro w' ⟨s0, s1, s2, s3, s4, s5, s6, s7, s8, s9⟩
          go_simp
          with_reducible rfl
        rotate_left
        · simp only [Act.put, List.setIfInBounds_toArray, List.set_cons_zero, List.set_cons_succ, i64_w, i32_w]
          rfl
        refine pure_ (i := 4) (N := some 45) (v := ?_) (a' := ?_) #[true, true, true, true, true, false, true, false, false, true, false, false, false, false, false] rfl rfl (by kernel_rfl) (fun _ _ _ h => h) (Or.inl ⟨by rfl, ?_⟩) ?_ ?_
        rotate_left
        · intro w'
          go_simp
          with_reducible rfl
        rotate_left
        · simp only [Act.put, List.setIfInBounds_toArray, List.set_cons_zero, List.set_cons_succ, i64_w, i32_w]
          rfl
        refine pure_ (i := 5) (N := some 46) (v := ?_) (a' := ?_) #[true, true, true, true, true, true, true, false, false, true, false, false, false, false, false] rfl rfl (by kernel_rfl) (fun _ _ _ h => h) (Or.inl ⟨by rfl, ?_⟩) ?_ ?_
        rotate_left
        · intro w'
          go_simp
          with_reducible rfl
        rotate_left
        · simp only [Act.put, List.setIfInBounds_toArray, List.set_cons_zero, List.set_cons_succ, i64_w, i32_w]
          rfl
        refine pure_ (i := 7) (N := some 48) (v := ?_) (a' := ?_) #[true, true, true, true, true, true, true, true, false, true, false, false, false, false, false] rfl rfl (by kernel_rfl) (fun _ _ _ h => h) (Or.inl ⟨by rfl, ?_⟩) ?_ ?_
        rotate_left
        · intro w'
          go_simp
          with_reducible rfl
        rotate_left
        · simp only [Act.put, List.setIfInBounds_toArray, List.set_cons_zero, List.set_cons_succ, i64_w, i32_w]
          rfl
        refine pure_ (i := 8) (N := some 49) (v := ?_) (a' := ?_) #[true, true, true, true, true, true, true, true, true, true, false, false, false, false, false] rfl rfl (by kernel_rfl) (fun _ _ _ h => h) (Or.inl ⟨by rfl, ?_⟩) ?_ ?_
        rotate_left
        · intro w'
          go_simp
          with_reducible rfl
        rotate_left
        · simp only [Act.put, List.setIfInBounds_toArray, List.set_cons_zero, List.set_cons_succ, i64_w, i32_w]
          rfl
        refine take_ (i := 10) (N := some 51) (v := ?_) (a' := ?_) #[true, true, true, true, true, true, true, true, true, true, true, false, false, false, false] rfl rfl (by kernel_rfl) (fun _ _ _ h => h) (Or.inl ⟨by rfl, ?_⟩) hHeld ?_ ?_
        rotate_left
        · rintro w' ⟨s0, s1, s2, s3, s4, s5, s6, s7, s8, s9⟩
          go_simp
          with_reducible rfl
        rotate_left
        · simp only [Act.put, List.setIfInBounds_toArray, List.set_cons_zero, List.set_cons_succ, i64_w, i32_w]
          rfl
        refine one_ (i := 11) (N := some 52) #[true, true, true, true, true, true, true, true, true, true, true, true, false, false, false] rfl rfl (by kernel_rfl) (by decide) (fun K hK => ?_)
        refine goes_ Tryd.func30 (by kernel_rfl) rfl #[.agg #[.slice B0 d.f3.f0.length b0, .int .i64 d.f3.f1, .int .i64 d.f3.f2, .string d.f3.f3, .slice B4 d.f3.f4.length b4, .slice B5 d.f3.f5.length b5, .slice B6 d.f3.f6.length b6, .bool d.f3.f7, .int .i64 d.f3.f8]] (by rfl) rfl rfl (by simp only [List.map_toArray, List.map_cons, List.map_nil]; rfl) ?_
        with_reducible refine (XBd.out _ (PB.out.below BD.out)).mono ?_
        rintro e w5 ⟨r, rfl, hr, hd⟩
        refine ⟨_, rfl, ?_⟩
        have B3_ := Lib.hid (below_step BD.out hd)
        have HR := Lib.hid hr
        have hrs : r.size ≤ 140737488355328 := by rw [size_bl, hr]; exact HXB.out
        have hs6 : ¬ 9223372036854775807 < s.size + 6 + d.f1.size + 1 + t.size + 2 + r.size := by omega
        have hs7 : ¬ 9223372036854775807 < s.size + 6 + d.f1.size + 1 + t.size + 2 + r.size + 1 := by omega
        refine hK.out _ _ ⟨(blk_cell (YS.out _ B3_.out) 1), (blk_cell (YS.out _ B3_.out) 3), (blk_cell (YS.out _ B3_.out) 4), (blk_cell (YS.out _ B3_.out) 5), (blk_cell (YS.out _ B3_.out) 6), (blk_cell (YS.out _ B3_.out) 7), (blk_cell (YS.out _ B3_.out) 8), (blk_cell (YS.out _ B3_.out) 9), (blk_cell (YS.out _ B3_.out) 10), (blk_cell (YS.out _ B3_.out) 11)⟩ (fun hHeld => ?_)
        clear hK K
        refine norm_ (a' := ?_) ?_ ?_
        rotate_left
        · show Act.put _ (some 52) _ = _
          simp only [Act.put, List.setIfInBounds_toArray, List.set_cons_zero, List.set_cons_succ, i64_w, i32_w]
          rfl
        refine pure_ (i := 12) (N := some 53) (v := ?_) (a' := ?_) #[true, true, true, true, true, true, true, true, true, true, true, true, true, false, false] rfl rfl (by kernel_rfl) (fun _ _ _ h => h) (Or.inl ⟨by rfl, ?_⟩) ?_ ?_
        rotate_left
        · intro w'
          go_simp
          with_reducible rfl
        rotate_left
        · simp only [Act.put, List.setIfInBounds_toArray, List.set_cons_zero, List.set_cons_succ, i64_w, i32_w]
          rfl
        refine pure_ (i := 13) (N := some 54) (v := ?_) (a' := ?_) #[true, true, true, true, true, true, true, true, true, true, true, true, true, true, false] rfl rfl (by kernel_rfl) (fun _ _ _ h => h) (Or.inl ⟨by rfl, ?_⟩) ?_ ?_
        rotate_left
        · intro w'
          go_simp
          with_reducible rfl
        rotate_left
        · simp only [Act.put, List.setIfInBounds_toArray, List.set_cons_zero, List.set_cons_succ, i64_w, i32_w]
          rfl
        refine pure_ (i := 14) (N := some 3) (v := ?_) (a' := ?_) #[true, true, true, true, true, true, true, true, true, true, true, true, true, true, true] rfl rfl (by kernel_rfl) (fun _ _ _ h => h) (Or.inl ⟨by rfl, ?_⟩) ?_ ?_
        rotate_left
        · intro w'
          go_simp
          with_reducible rfl
        rotate_left
        · simp only [Act.put, List.setIfInBounds_toArray, List.set_cons_zero, List.set_cons_succ, i64_w, i32_w]
          rfl
        refine done_ (by kernel_rfl) ?_
        clear hHeld
        go_wp2
        go_roundw
        case rel => first | exact ⟨i + 1, _, by go_num, rfl, hlt, Lib.hid (by rw [HTI.out, HPD.out]; simp only [bl_app, bl_mk, HS.out, HTB.out, HR.out]; simp), Lib.hid (below_step Q4.out B3_.out)⟩ | exact ⟨i + 1, by go_num, ⟨_, rfl⟩, hlt, Lib.hid (by rw [HTI.out, HPD.out]; simp only [bl_app, bl_mk, HS.out, HTB.out, HR.out]; simp), Lib.hid (below_step Q4.out B3_.out)⟩
        case measure => simp [intOf]; omega
    · obtain rfl : i = x.f0.length := by omega
      have hg_ := HS.out
      rw [List.take_length] at hg_
      have HG_ := Lib.hid hg_
      have hsz : s.size = (prDL x.f0).length := by rw [size_bl, hg_]
      have HXE := Lib.hid (show (prEL x.f3).length ≤ 140737488355328 by have h_ := HL.out; rw [HPR.out] at h_; simp only [List.length_append, List.length_cons, List.length_nil] at h_; omega)
      have hs0 : s.size ≤ 140737488355328 := by have := HLD.out; omega
      have CQ := Lib.hid (progC_below P3.out HQ.out)
      have XQ := Lib.hid (XS.out _ HQ.out)
      clear hg_ HS hsz
      have XS2 := Lib.hid (fun (W' : World) (h : Below wq.heap.size wq W') => blk_below XQ.out h)
      have hs1 : ¬ 9223372036854775807 < s.size + 5 := by omega
      have hs2 : ¬ 9223372036854775807 < s.size + 5 + x.f2.size := by omega
      have hs3 : ¬ 9223372036854775807 < s.size + 5 + x.f2.size + 1 := by omega
      go_upto_region 16 with fail
      clear y0
      have BD := Lib.hid (Below.refl wq.heap.size wq).drew
      refine start_ (n := 12) (S := fun w' => w'.cell? ⟨gx, 2, none⟩ = some (.string x.f2) ∧ w'.cell? ⟨gx, 3, none⟩ = some (.slice AX x.f3.length cX)) (ds := []) #[false, false, false, false, false, false, false, false, false, false, false, false] (by kernel_rfl) rfl rfl ⟨(blk_cell (XS2.out _ BD.out) 2), (blk_cell (XS2.out _ BD.out) 3)⟩ (fun hHeld => ?_)
      generalize wq.drew = WD at *
      refine pure_ (i := 0) (N := some 55) (v := ?_) (a' := ?_) #[true, false, false, false, false, false, false, false, false, false, false, false] rfl rfl (by kernel_rfl) (fun _ _ _ h => h) (Or.inl ⟨by rfl, ?_⟩) ?_ ?_
      rotate_left
      · intro w'
        go_simp
        with_reducible rfl
      rotate_left
      · simp only [Act.put, List.setIfInBounds_toArray, List.set_cons_zero, List.set_cons_succ, i64_w, i32_w]
        rfl
      refine pure_ (i := 1) (N := some 56) (v := ?_) (a' := ?_) #[true, true, false, false, false, false, false, false, false, false, false, false] rfl rfl (by kernel_rfl) (fun _ _ _ h => h) (Or.inl ⟨by rfl, ?_⟩) ?_ ?_
      rotate_left
      · intro w'
        go_simp
        with_reducible rfl
      rotate_left
      · simp only [Act.put, List.setIfInBounds_toArray, List.set_cons_zero, List.set_cons_succ, i64_w, i32_w]
        rfl
      refine pure_ (i := 2) (N := some 57) (v := ?_) (a' := ?_) #[true, true, true, false, false, false, false, false, false, false, false, false] rfl rfl (by kernel_rfl) (fun _ _ _ h => h) (Or.inl ⟨by rfl, ?_⟩) ?_ ?_
      rotate_left
      · intro w'
        go_simp
        with_reducible rfl
      rotate_left
      · simp only [Act.put, List.setIfInBounds_toArray, List.set_cons_zero, List.set_cons_succ, i64_w, i32_w]
        rfl
      refine pure_ (i := 6) (N := some 61) (v := ?_) (a' := ?_) #[true, true, true, false, false, false, true, false, false, false, false, false] rfl rfl (by kernel_rfl) (fun _ _ _ h => h) (Or.inl ⟨by rfl, ?_⟩) ?_ ?_
      rotate_left
      · intro w'
        go_simp
        with_reducible rfl
      rotate_left
      · simp only [Act.put, List.setIfInBounds_toArray, List.set_cons_zero, List.set_cons_succ, i64_w, i32_w]
        rfl
      refine take_ (i := 3) (N := some 58) (v := ?_) (a' := ?_) #[true, true, true, true, false, false, true, false, false, false, false, false] rfl rfl (by kernel_rfl) (fun _ _ _ h => h) (Or.inl ⟨by rfl, ?_⟩) hHeld ?_ ?_
      rotate_left
      · rintro w' ⟨s0, s1⟩
        go_simp
        with_reducible rfl
      rotate_left
      · simp only [Act.put, List.setIfInBounds_toArray, List.set_cons_zero, List.set_cons_succ, i64_w, i32_w]
        rfl
      refine pure_ (i := 4) (N := some 59) (v := ?_) (a' := ?_) #[true, true, true, true, true, false, true, false, false, false, false, false] rfl rfl (by kernel_rfl) (fun _ _ _ h => h) (Or.inl ⟨by rfl, ?_⟩) ?_ ?_
      rotate_left
      · intro w'
        go_simp
        with_reducible rfl
      rotate_left
      · simp only [Act.put, List.setIfInBounds_toArray, List.set_cons_zero, List.set_cons_succ, i64_w, i32_w]
        rfl
      refine pure_ (i := 5) (N := some 60) (v := ?_) (a' := ?_) #[true, true, true, true, true, true, true, false, false, false, false, false] rfl rfl (by kernel_rfl) (fun _ _ _ h => h) (Or.inl ⟨by rfl, ?_⟩) ?_ ?_
      rotate_left
      · intro w'
        go_simp
        with_reducible rfl
      rotate_left
      · simp only [Act.put, List.setIfInBounds_toArray, List.set_cons_zero, List.set_cons_succ, i64_w, i32_w]
        rfl
      refine take_ (i := 7) (N := some 62) (v := ?_) (a' := ?_) #[true, true, true, true, true, true, true, true, false, false, false, false] rfl rfl (by kernel_rfl) (fun _ _ _ h => h) (Or.inl ⟨by rfl, ?_⟩) hHeld ?_ ?_
      rotate_left
      · rintro w' ⟨s0, s1⟩
        go_simp
        with_reducible rfl
      rotate_left
      · simp only [Act.put, List.setIfInBounds_toArray, List.set_cons_zero, List.set_cons_succ, i64_w, i32_w]
        rfl
      refine one_ (i := 8) (N := some 63) #[true, true, true, true, true, true, true, true, true, false, false, false] rfl rfl (by kernel_rfl) (by decide) (fun K hK => ?_)
      refine goes_ Tryd.func31 (by kernel_rfl) rfl #[.slice AX x.f3.length cX] (by rfl) rfl rfl (by simp only [List.map_toArray, List.map_cons, List.map_nil]; rfl) ?_
      with_reducible refine (XE_list x.f3 (fun y _ => XE_call y) hgl AX cX _ (Kd.C_below CQ.out.gx BD.out) CQ.out.lx HXE.out).mono ?_
      rintro e w5 ⟨r, rfl, hr, hd⟩
      refine ⟨_, rfl, ?_⟩
      have B4_ := Lib.hid (below_step BD.out hd)
      have HR := Lib.hid hr
      have hrs : r.size ≤ 140737488355328 := by rw [size_bl, hr]; exact HXE.out
      have hs6 : ¬ 9223372036854775807 < s.size + 5 + x.f2.size + 1 + r.size := by omega
      have hs7 : ¬ 9223372036854775807 < s.size + 5 + x.f2.size + 1 + r.size + 2 := by omega
      refine hK.out _ _ ⟨(blk_cell (XS2.out _ B4_.out) 2), (blk_cell (XS2.out _ B4_.out) 3)⟩ (fun hHeld => ?_)
      clear hK K
      refine norm_ (a' := ?_) ?_ ?_
      rotate_left
      · show Act.put _ (some 63) _ = _
        simp only [Act.put, List.setIfInBounds_toArray, List.set_cons_zero, List.set_cons_succ, i64_w, i32_w]
        rfl
      refine pure_ (i := 9) (N := some 64) (v := ?_) (a' := ?_) #[true, true, true, true, true, true, true, true, true, true, false, false] rfl rfl (by kernel_rfl) (fun _ _ _ h => h) (Or.inl ⟨by rfl, ?_⟩) ?_ ?_
      rotate_left
      · intro w'
        go_simp
        with_reducible rfl
      rotate_left
      · simp only [Act.put, List.setIfInBounds_toArray, List.set_cons_zero, List.set_cons_succ, i64_w, i32_w]
        rfl
      refine pure_ (i := 10) (N := some 65) (v := ?_) (a' := ?_) #[true, true, true, true, true, true, true, true, true, true, true, false] rfl rfl (by kernel_rfl) (fun _ _ _ h => h) (Or.inl ⟨by rfl, ?_⟩) ?_ ?_
      rotate_left
      · intro w'
        go_simp
        with_reducible rfl
      rotate_left
      · simp only [Act.put, List.setIfInBounds_toArray, List.set_cons_zero, List.set_cons_succ, i64_w, i32_w]
        rfl
      refine pure_ (i := 11) (N := some 2) (v := ?_) (a' := ?_) #[true, true, true, true, true, true, true, true, true, true, true, true] rfl rfl (by kernel_rfl) (fun _ _ _ h => h) (Or.inl ⟨by rfl, ?_⟩) ?_ ?_
      rotate_left
      · intro w'
        go_simp
        with_reducible rfl
      rotate_left
      · simp only [Act.put, List.setIfInBounds_toArray, List.set_cons_zero, List.set_cons_succ, i64_w, i32_w]
        rfl
      refine done_ (by kernel_rfl) ?_
      clear hHeld
      go_wp2
      go_ret
      exact SaysS.mk' (by rw [HPN.out, HPR.out]; simp only [bl_app, bl_mk, HG_.out, HR.out]; simp) (below_step B3.out (below_step HQ.out B4_.out))
end Go.Proofs.YtjboncbmeanlgaaDoor.Tr
