/- PrintW -/
import Derived.Test.YtjboncbmeanlgaaDoorQTextB
import Derived.Test.YtjboncbmeanlgaaDoorQGoodW
/- What the tree's text functions write: a program. -/
set_option linter.unusedVariables false
set_option linter.unusedSimpArgs false
namespace Go.Proofs.YtjboncbmeanlgaaDoor.Tr
open Go.RowKit Go.Proofs Go.Proofs.YtjboncbmeanlgaaDoor.PTreePrints Go.Proofs.YtjboncbmeanlgaaDoorW.PrintWords Go.Proofs.YtjboncbmeanlgaaDoorW.PrintMore Go.Proofs.YtjboncbmeanlgaaDoorW.PrintLast
/-- A definition's text. -/
def prD (d : S44) : List UInt8 := [97, 99, 116, 111, 114, 32] ++ (bl d.f1 ++ (40 :: (Lib.join (d.f2.map bl) [44, 32] ++ (41 :: 32 :: (prB d.f3 ++ [10])))))
def prDL : List S44 → List UInt8
  | [] => []
  | x :: r => prD x ++ prDL r
theorem prDL_app : ∀ (a b : List S44), prDL (a ++ b) = prDL a ++ prDL b
  | [], b => by simp [prDL]
  | x :: a, b => by simp [prDL, prDL_app a b]
/-- A program's text. -/
def prPr (x : S25) : List UInt8 := prDL x.f0 ++ ([109, 97, 105, 110, 32] ++ (bl x.f2 ++ (40 :: (prEL x.f3 ++ [41, 10]))))
theorem cell_spot {w : World} {a : Addr} {v : Value} (h : w.cell? a = some v) : a.spot = none := by
  unfold World.cell? at h
  split at h
  · split at h
    · cases h
    · rename_i hs
      cases hsp : a.spot with
      | none => rfl
      | some q => rw [hsp] at hs; exact absurd rfl hs
  · cases h
/-- What Print tells. -/
def printed (x : S25) : List UInt8 := if goodPr x = true then prPr x else []
/-- Some names, joined. -/
theorem join_any (A : Option Addr) (c : Nat) (xs : List ByteArray) (w : World) (hC : Kd.string.C w A xs.length xs) (hc : xs.length ≤ c) (hN : xs.length ≤ 140737488355328) (hlen : (Lib.join (xs.map bl) [44, 32]).length ≤ 140737488355328) :
    Calls Tryd.prog 25 #[.slice A xs.length c, .string ⟨#[44, 32]⟩] w fun e w' => e = .returned (.string ⟨(Lib.join (xs.map bl) [44, 32]).toArray⟩) ∧ Below w.heap.size w w' := by
  cases xs with
  | nil =>
    refine (join_none A c ⟨#[44, 32]⟩ w).mono ?_
    rintro e w' ⟨rfl, rfl⟩
    exact ⟨rfl, Below.refl _ _⟩
  | cons y r =>
    have one : ∀ (i : Nat) (h : i < (y :: r).length), ∃ ad, A = some ad ∧ w.cell? (ad.add i) = some (.string (y :: r)[i]) := fun i h => by
      obtain ⟨as_, cc_, hs1, _, hK2, hc2⟩ := Kd.C_get hC (⟨#[]⟩ : ByteArray) (i : Int) (by omega) (by omega)
      obtain rfl : cc_ = [.string ((y :: r).getD (i : Int).toNat (⟨#[]⟩ : ByteArray))] := hK2
      have hgd : (y :: r).getD (i : Int).toNat (⟨#[]⟩ : ByteArray) = (y :: r)[i] := by rw [Int.toNat_natCast, List.getD_eq_getElem?_getD, List.getElem?_eq_getElem h]; rfl
      have v : w.cell? (as_.add (i * 1 + 0)) = some (.string ((y :: r).getD (i : Int).toNat (⟨#[]⟩ : ByteArray))) := hc2 0 _ rfl
      rw [hgd, Nat.mul_one, Nat.add_zero] at v
      exact ⟨as_, hs1, v⟩
    obtain ⟨ad, hA, h0⟩ := one 0 (by simp)
    subst hA
    obtain ⟨ab, ao, sp⟩ := ad
    have hsp : sp = none := cell_spot h0
    subst hsp
    have hcells : ∀ (j : Nat) x, (y :: r)[j]? = some x → w.cell? ⟨ab, ao + j, none⟩ = some (.string x) := fun j x hx => by
      obtain ⟨hj, he⟩ := List.getElem?_eq_some_iff.1 hx
      obtain ⟨ad', h1, h2⟩ := one j hj
      injection h1 with h1
      subst h1
      rw [← he, ← h2]
      simp only [Addr.add]
      split
      · rename_i hj0; rw [hj0, Nat.add_zero]
      · rfl
    have hb : ab < w.heap.size := by
      have h2 := World.block_lt_of_cell? w _ h0
      exact h2
    have h := join_call ab ao c (y :: r) ⟨#[44, 32]⟩ w hcells hb hN hc hlen
    exact h
set_option maxRecDepth 100000 in
set_option maxHeartbeats 32000000 in
/-- The program's Print. -/
theorem print_call (x : S25) (AD : Option Addr) (cD : Nat) (AX : Option Addr) (cX : Nat) (w : World) (hP : ProgC w x AD cD AX cX) (hT : Tab w) (hl : goodPr x = true → (prPr x).length ≤ 140737488355328) :
    Calls Tryd.prog 10 #[.agg #[.slice AD x.f0.length cD, .int .i64 x.f1, .string x.f2, .slice AX x.f3.length cX]] w fun e w' => e = .returned (.string ⟨(printed x).toArray⟩) ∧ Below w.heap.size w w' := by
  have hlnD := C_len hP.gd
  have HP := Lib.hid hP
  have HT := Lib.hid hT
  clear hP hT
  go_enter Tryd.func10, Tryd.ntmps10
  have hal := below_alloc (Below.refl _ w) (.cells #[.slice AD x.f0.length cD, .int .i64 x.f1, .string x.f2, .slice AX x.f3.length cX] 25)
  have XB := Lib.hid (blk_new w (.cells #[.slice AD x.f0.length cD, .int .i64 x.f1, .string x.f2, .slice AX x.f3.length cX] 25))
  have CP := Lib.hid (progC_below HP.out hal)
  have B2 := Lib.hid hal
  clear hal
  go_upto_region 1 with fail
  generalize w.alloc (.cells #[.slice AD x.f0.length cD, .int .i64 x.f1, .string x.f2, .slice AX x.f3.length cX] 25) = w2 at *
  generalize hgx : w.heap.size = gx at *
  have BW := Lib.hid (show Below w.heap.size w w2 by rw [hgx]; exact B2.out)
  have HGX := Lib.hid hgx
  clear B2 hgx
  have y0 := blk_cell XB.out 0
  have y1 := blk_cell XB.out 1
  have y2 := blk_cell XB.out 2
  have y3 := blk_cell XB.out 3
  go_upto_region 3 with (go_at_call 8; refine (good_call x AD cD AX cX _ CP.out).mono ?_; rintro e w3 ⟨rfl, hd⟩; have B3 := Lib.hid (below_step BW.out hd); have X3 := Lib.hid (blk_below XB.out hd); clear hd y0 y1 y2 y3; cases hg : goodPr x)
  · go_ret
    exact ⟨by rw [printed, if_neg (by rw [hg]; decide)]; rfl, B3.out⟩
  · have HPN := Lib.hid (show printed x = prPr x by rw [printed, if_pos hg])
    have HL := Lib.hid (hl hg)
    have HPR := Lib.hid (show prPr x = prDL x.f0 ++ ([109, 97, 105, 110, 32] ++ (bl x.f2 ++ (40 :: (prEL x.f3 ++ [41, 10])))) from rfl)
    have hall : x.f0.all goodDef = true := by rw [goodPr, Bool.and_eq_true] at hg; exact hg.2
    have hhd : goodHd x = true := by rw [goodPr, Bool.and_eq_true] at hg; exact hg.1
    simp only [goodHd, Bool.and_eq_true] at hhd
    have hgl : goodEL x.f3 = true := hhd.2.2.2.2.1
    have HALL := Lib.hid hall
    have hmain : x.f2.size ≤ 32 := nameOk_le hhd.2.2.2.1
    clear hall hhd hg hl XB BW CP
    go_upto_region 4 with fail
    have hal := below_alloc (Below.refl _ w3) (.cells #[.pointer none, .slice none 0 0] 55)
    have T4 := Lib.hid (blk_new w3 (.cells #[.pointer none, .slice none 0 0] 55))
    have B4 := Lib.hid (below_step B3.out hal)
    have X4 := Lib.hid (blk_below X3.out hal)
    have hb3 := B3.out.size
    have hnx : gx ≠ w3.heap.size := fun e => by have h1 := blk_lt X3.out; omega
    clear hal X3 B3
    generalize w3.alloc (.cells #[.pointer none, .slice none 0 0] 55) = w4 at *
    generalize w3.heap.size = gb at *
    have S4 := Lib.hid (show TS w w.heap.size gb w w4 [] from ⟨.inl ⟨hb3, _, T4.out, World.ownsRowF_of (World.ownsRow_nil _ _ _ _), by simp [Value.ownBlock]⟩, B4.out, ok_below B4.out, B4.out, Nat.le_refl _, B4.out.size, blk_lt T4.out, HT.out⟩)
    clear T4 B4 hb3
    have y0 := blk_cell X4.out 0
    go_wp2
    go_loopw [14] (fun vi wr => ∃ i : Nat, vi = .int .i64 i ∧ i ≤ x.f0.length ∧ Hid (TS w w.heap.size gb w wr (prDL (x.f0.take i))) ∧ Hid (wr.heap[gx]? = some (.cells #[.slice AD x.f0.length cD, .int .i64 x.f1, .string x.f2, .slice AX x.f3.length cX] 25 (0, 0)))) (fun vi _ => x.f0.length - (intOf vi).toNat)
    case atStart => exact ⟨0, by go_num, Nat.zero_le _, Lib.hid (S4.out.cast (by simp [prDL])), Lib.hid X4.out⟩
    case round =>
    clear S4 X4 y0
    obtain ⟨i, rfl, hil, HS, HX⟩ := hrel
    obtain ⟨wq, hwq⟩ : ∃ wq, wq = wr := ⟨_, rfl⟩
    subst hwq
    by_cases hlt : i < x.f0.length
    · have q1 : (i : Int) < (x.f0.length : Int) := by omega
      have q0 : (0 : Int) ≤ (i : Int) := by omega
      obtain ⟨ad_, As, cs_, B0, b0, B4, b4, B5, b5, B6, b6, hA_, u0, u1, u2, u3, u4, u5, u6, u7, u8, u9, u10, u11, hX_⟩ := at_T44 HP.out.gd (i : Int) q0 q1
      subst hA_
      rw [rd44 x.f0 i hlt, Int.toNat_natCast] at u0 u1 u2 u3 u4 u5 u6 u7 u8 u9 u10 u11
      rw [rd44 x.f0 i hlt] at hX_
      replace u0 := (HS.out.o.cell (World.block_lt_of_cell? w _ u0)).trans u0
      replace u1 := (HS.out.o.cell (World.block_lt_of_cell? w _ u1)).trans u1
      replace u2 := (HS.out.o.cell (World.block_lt_of_cell? w _ u2)).trans u2
      replace u3 := (HS.out.o.cell (World.block_lt_of_cell? w _ u3)).trans u3
      replace u4 := (HS.out.o.cell (World.block_lt_of_cell? w _ u4)).trans u4
      replace u5 := (HS.out.o.cell (World.block_lt_of_cell? w _ u5)).trans u5
      replace u6 := (HS.out.o.cell (World.block_lt_of_cell? w _ u6)).trans u6
      replace u7 := (HS.out.o.cell (World.block_lt_of_cell? w _ u7)).trans u7
      replace u8 := (HS.out.o.cell (World.block_lt_of_cell? w _ u8)).trans u8
      replace u9 := (HS.out.o.cell (World.block_lt_of_cell? w _ u9)).trans u9
      replace u10 := (HS.out.o.cell (World.block_lt_of_cell? w _ u10)).trans u10
      replace u11 := (HS.out.o.cell (World.block_lt_of_cell? w _ u11)).trans u11
      obtain ⟨ht1, ht2⟩ := pre_take prDL prDL_app x.f0 i hlt
      have hone : prDL [x.f0[i]] = prD x.f0[i] := by simp [prDL]
      rw [hone] at ht1 ht2
      have HTI := Lib.hid ht1
      have HLR := Lib.hid (show (prDL (x.f0.take i)).length + (prD x.f0[i]).length ≤ 140737488355328 by have h_ := HL.out; rw [HPR.out, List.length_append] at h_; omega)
      have hgd := List.all_eq_true.mp HALL.out _ (List.getElem_mem hlt)
      have HZ := Lib.hid hX_
      clear hX_ ht1 ht2 hone
      generalize x.f0[i] = d at *
      have HPD := Lib.hid (show prD d = [97, 99, 116, 111, 114, 32] ++ (bl d.f1 ++ (40 :: (Lib.join (d.f2.map bl) [44, 32] ++ (41 :: 32 :: (prB d.f3 ++ [10]))))) from rfl)
      simp only [goodDef, Bool.and_eq_true, decide_eq_true_eq] at hgd
      have hn1 : d.f1.size ≤ 32 := nameOk_le hgd.1
      have HGB := Lib.hid hgd.2.2.1
      have HN := Lib.hid (show d.f2.length ≤ 140737488355328 by have := hgd.2.1; omega)
      have HJL := Lib.hid (show (Lib.join (d.f2.map bl) [44, 32]).length ≤ 140737488355328 by have h_ := HLR.out; rw [HPD.out] at h_; simp only [List.length_append, List.length_cons] at h_; omega)
      clear hgd
      obtain ⟨sj, hsj⟩ : ∃ sj : ByteArray, sj = ⟨(Lib.join (d.f2.map bl) [44, 32]).toArray⟩ := ⟨_, rfl⟩
      have HSJ := Lib.hid hsj
      have HSB := Lib.hid (show bl sj = Lib.join (d.f2.map bl) [44, 32] by rw [hsj])
      have hss : sj.size ≤ 140737488355328 := by rw [size_bl, HSB.out]; exact HJL.out
      clear hsj
      have hs1 : ¬ 9223372036854775807 < 6 + d.f1.size := by omega
      have hs2 : ¬ 9223372036854775807 < 6 + d.f1.size + 1 := by omega
      have hs3 : ¬ 9223372036854775807 < 6 + d.f1.size + 1 + sj.size := by omega
      have hs4 : ¬ 9223372036854775807 < 6 + d.f1.size + 1 + sj.size + 2 := by omega
      have HBA := Lib.hid (show (prDL (x.f0.take i)).length + (((⟨#[97, 99, 116, 111, 114, 32]⟩ ++ d.f1 ++ ⟨#[40]⟩) ++ sj) ++ ⟨#[41, 32]⟩ : ByteArray).size ≤ 140737488355328 by have h_ := HLR.out; rw [HPD.out] at h_; simp only [size_bl, bl_app, bl_lit, List.size_toArray, List.length_append, List.length_cons, List.length_nil, HSB.out] at h_ ⊢; omega)
      have HLB := Lib.hid (show ((prDL (x.f0.take i)) ++ bl (((⟨#[97, 99, 116, 111, 114, 32]⟩ ++ d.f1 ++ ⟨#[40]⟩) ++ sj) ++ ⟨#[41, 32]⟩)).length + ((prB d.f3).length + 1) ≤ 140737488355328 by have h_ := HLR.out; rw [HPD.out] at h_; simp only [size_bl, bl_app, bl_lit, List.size_toArray, List.length_append, List.length_cons, List.length_nil, HSB.out] at h_ ⊢; omega)
      go_upto_region 7 with fail
      have hal := below_alloc (Below.refl _ wq) (.cells #[.int .i64 d.f0, .string d.f1, .slice As d.f2.length cs_, .slice B0 d.f3.f0.length b0, .int .i64 d.f3.f1, .int .i64 d.f3.f2, .string d.f3.f3, .slice B4 d.f3.f4.length b4, .slice B5 d.f3.f5.length b5, .slice B6 d.f3.f6.length b6, .bool d.f3.f7, .int .i64 d.f3.f8] 44)
      have Y4 := Lib.hid (blk_new wq (.cells #[.int .i64 d.f0, .string d.f1, .slice As d.f2.length cs_, .slice B0 d.f3.f0.length b0, .int .i64 d.f3.f1, .int .i64 d.f3.f2, .string d.f3.f3, .slice B4 d.f3.f4.length b4, .slice B5 d.f3.f5.length b5, .slice B6 d.f3.f6.length b6, .bool d.f3.f7, .int .i64 d.f3.f8] 44))
      have hna : wq.heap.size ≠ gb := by have := HS.out.ne; omega
      have S4 := Lib.hid (HS.out.below hal)
      have X4 := Lib.hid (blk_below HX.out hal)
      clear hal u0 u1 u2 u3 u4 u5 u6 u7 u8 u9 u10 u11 HS HX
      generalize wq.alloc (.cells #[.int .i64 d.f0, .string d.f1, .slice As d.f2.length cs_, .slice B0 d.f3.f0.length b0, .int .i64 d.f3.f1, .int .i64 d.f3.f2, .string d.f3.f3, .slice B4 d.f3.f4.length b4, .slice B5 d.f3.f5.length b5, .slice B6 d.f3.f6.length b6, .bool d.f3.f7, .int .i64 d.f3.f8] 44) = w4 at *
      generalize wq.heap.size = ga at *
      have SD := Lib.hid (show TS w w.heap.size gb w w4.drew (prDL (x.f0.take i)) from S4.out.below (Below.refl _ _).drew)
      have XD := Lib.hid (show w4.drew.heap[gx]? = some (.cells #[.slice (some ad_) x.f0.length cD, .int .i64 x.f1, .string x.f2, .slice AX x.f3.length cX] 25 (0, 0)) from X4.out)
      have YD := Lib.hid (show w4.drew.heap[ga]? = some (.cells #[.int .i64 d.f0, .string d.f1, .slice As d.f2.length cs_, .slice B0 d.f3.f0.length b0, .int .i64 d.f3.f1, .int .i64 d.f3.f2, .string d.f3.f3, .slice B4 d.f3.f4.length b4, .slice B5 d.f3.f5.length b5, .slice B6 d.f3.f6.length b6, .bool d.f3.f7, .int .i64 d.f3.f8] 44 (0, 0)) from Y4.out)
      have CS := Lib.hid (show Kd.string.C w4.drew As d.f2.length d.f2 from Kd.C_below HZ.out.2.1 SD.out.o)
      refine start_ (n := 13) (S := fun w' => w'.cell? ⟨ga, 1, none⟩ = some (.string d.f1) ∧ w'.cell? ⟨ga, 2, none⟩ = some (.slice As d.f2.length cs_)) (ds := []) #[false, false, false, false, false, false, false, false, false, false, false, false, false] (by kernel_rfl) rfl rfl ⟨(blk_cell YD.out 1), (blk_cell YD.out 2)⟩ (fun hHeld => ?_)
      generalize w4.drew = WD at *
      refine pure_ (i := 0) (N := some 18) (v := ?_) (a' := ?_) #[true, false, false, false, false, false, false, false, false, false, false, false, false] rfl rfl (by kernel_rfl) (fun _ _ _ h => h) (Or.inl ⟨by rfl, ?_⟩) ?_ ?_
      rotate_left
      · intro w'
        go_simp
        with_reducible rfl
      rotate_left
      · simp only [Act.put, List.setIfInBounds_toArray, List.set_cons_zero, List.set_cons_succ, i64_w, i32_w]
        rfl
      refine pure_ (i := 1) (N := some 19) (v := ?_) (a' := ?_) #[true, true, false, false, false, false, false, false, false, false, false, false, false] rfl rfl (by kernel_rfl) (fun _ _ _ h => h) (Or.inl ⟨by rfl, ?_⟩) ?_ ?_
      rotate_left
      · intro w'
        go_simp
        with_reducible rfl
      rotate_left
      · simp only [Act.put, List.setIfInBounds_toArray, List.set_cons_zero, List.set_cons_succ, i64_w, i32_w]
        rfl
      refine pure_ (i := 2) (N := some 20) (v := ?_) (a' := ?_) #[true, true, true, false, false, false, false, false, false, false, false, false, false] rfl rfl (by kernel_rfl) (fun _ _ _ h => h) (Or.inl ⟨by rfl, ?_⟩) ?_ ?_
      rotate_left
      · intro w'
        go_simp
        with_reducible rfl
      rotate_left
      · simp only [Act.put, List.setIfInBounds_toArray, List.set_cons_zero, List.set_cons_succ, i64_w, i32_w]
        rfl
      refine pure_ (i := 3) (N := some 21) (v := ?_) (a' := ?_) #[true, true, true, true, false, false, false, false, false, false, false, false, false] rfl rfl (by kernel_rfl) (fun _ _ _ h => h) (Or.inl ⟨by rfl, ?_⟩) ?_ ?_
      rotate_left
      · intro w'
        go_simp
        with_reducible rfl
      rotate_left
      · simp only [Act.put, List.setIfInBounds_toArray, List.set_cons_zero, List.set_cons_succ, i64_w, i32_w]
        rfl
      refine pure_ (i := 7) (N := some 25) (v := ?_) (a' := ?_) #[true, true, true, true, false, false, false, true, false, false, false, false, false] rfl rfl (by kernel_rfl) (fun _ _ _ h => h) (Or.inl ⟨by rfl, ?_⟩) ?_ ?_
      rotate_left
      · intro w'
        go_simp
        with_reducible rfl
      rotate_left
      · simp only [Act.put, List.setIfInBounds_toArray, List.set_cons_zero, List.set_cons_succ, i64_w, i32_w]
        rfl
      refine take_ (i := 4) (N := some 22) (v := ?_) (a' := ?_) #[true, true, true, true, true, false, false, true, false, false, false, false, false] rfl rfl (by kernel_rfl) (fun _ _ _ h => h) (Or.inl ⟨by rfl, ?_⟩) hHeld ?_ ?_
      rotate_left
      · rintro w' ⟨s0, s1⟩
        go_simp
        with_reducible rfl
      rotate_left
      · simp only [Act.put, List.setIfInBounds_toArray, List.set_cons_zero, List.set_cons_succ, i64_w, i32_w]
        rfl
      refine pure_ (i := 5) (N := some 23) (v := ?_) (a' := ?_) #[true, true, true, true, true, true, false, true, false, false, false, false, false] rfl rfl (by kernel_rfl) (fun _ _ _ h => h) (Or.inl ⟨by rfl, ?_⟩) ?_ ?_
      rotate_left
      · intro w'
        go_simp
        with_reducible rfl
      rotate_left
      · simp only [Act.put, List.setIfInBounds_toArray, List.set_cons_zero, List.set_cons_succ, i64_w, i32_w]
        rfl
      refine pure_ (i := 6) (N := some 24) (v := ?_) (a' := ?_) #[true, true, true, true, true, true, true, true, false, false, false, false, false] rfl rfl (by kernel_rfl) (fun _ _ _ h => h) (Or.inl ⟨by rfl, ?_⟩) ?_ ?_
      rotate_left
      · intro w'
        go_simp
        with_reducible rfl
      rotate_left
      · simp only [Act.put, List.setIfInBounds_toArray, List.set_cons_zero, List.set_cons_succ, i64_w, i32_w]
        rfl
      refine take_ (i := 8) (N := some 26) (v := ?_) (a' := ?_) #[true, true, true, true, true, true, true, true, true, false, false, false, false] rfl rfl (by kernel_rfl) (fun _ _ _ h => h) (Or.inl ⟨by rfl, ?_⟩) hHeld ?_ ?_
      rotate_left
      · rintro w' ⟨s0, s1⟩
        go_simp
        with_reducible rfl
      rotate_left
      · simp only [Act.put, List.setIfInBounds_toArray, List.set_cons_zero, List.set_cons_succ, i64_w, i32_w]
        rfl
      refine one_ (i := 9) (N := some 27) #[true, true, true, true, true, true, true, true, true, true, false, false, false] rfl rfl (by kernel_rfl) (by decide) (fun K hK => ?_)
      refine goes_ Tryd.func25 (by kernel_rfl) rfl #[.slice As d.f2.length cs_, .string ⟨#[44, 32]⟩] (by rfl) rfl rfl (by simp only [List.map_toArray, List.map_cons, List.map_nil]; rfl) ?_
      with_reducible refine (join_any As cs_ d.f2 _ CS.out HZ.out.1 HN.out HJL.out).mono ?_
      rintro e w9 ⟨rfl, hb9⟩
      refine ⟨_, rfl, ?_⟩
      have S9 := Lib.hid (SD.out.below hb9)
      have X9 := Lib.hid (blk_below XD.out hb9)
      have Y9 := Lib.hid (blk_below YD.out hb9)
      rw [← HSJ.out]
      refine hK.out _ _ ⟨(blk_cell (blk_below YD.out hb9) 1), (blk_cell (blk_below YD.out hb9) 2)⟩ (fun hHeld => ?_)
      clear hK K
      refine norm_ (a' := ?_) ?_ ?_
      rotate_left
      · show Act.put _ (some 27) _ = _
        simp only [Act.put, List.setIfInBounds_toArray, List.set_cons_zero, List.set_cons_succ, i64_w, i32_w]
        rfl
      refine pure_ (i := 10) (N := some 28) (v := ?_) (a' := ?_) #[true, true, true, true, true, true, true, true, true, true, true, false, false] rfl rfl (by kernel_rfl) (fun _ _ _ h => h) (Or.inl ⟨by rfl, ?_⟩) ?_ ?_
      rotate_left
      · intro w'
        go_simp
        with_reducible rfl
      rotate_left
      · simp only [Act.put, List.setIfInBounds_toArray, List.set_cons_zero, List.set_cons_succ, i64_w, i32_w]
        rfl
      refine pure_ (i := 11) (N := some 29) (v := ?_) (a' := ?_) #[true, true, true, true, true, true, true, true, true, true, true, true, false] rfl rfl (by kernel_rfl) (fun _ _ _ h => h) (Or.inl ⟨by rfl, ?_⟩) ?_ ?_
      rotate_left
      · intro w'
        go_simp
        with_reducible rfl
      rotate_left
      · simp only [Act.put, List.setIfInBounds_toArray, List.set_cons_zero, List.set_cons_succ, i64_w, i32_w]
        rfl
      refine one_ (i := 12) (N := some 30) #[true, true, true, true, true, true, true, true, true, true, true, true, true] rfl rfl (by kernel_rfl) (by decide) (fun K hK => ?_)
      refine goes_ Tryd.func24 (by kernel_rfl) rfl #[.pointer (some ⟨gb, 0, none⟩), .string (((⟨#[97, 99, 116, 111, 114, 32]⟩ ++ d.f1 ++ ⟨#[40]⟩) ++ sj) ++ ⟨#[41, 32]⟩)] (by rfl) rfl rfl (by simp only [List.map_toArray, List.map_cons, List.map_nil]; rfl) ?_
      with_reducible refine (write_call S9.out _ HBA.out).mono ?_
      rintro e w10 ⟨rfl, hs, hk⟩
      refine ⟨_, rfl, ?_⟩
      have S10 := Lib.hid hs
      have X10 := Lib.hid (TS.blk hk X9.out hnx (by decide))
      have Y10 := Lib.hid (TS.blk hk Y9.out hna (by decide))
      refine hK.out _ _ ⟨(blk_cell (TS.blk hk Y9.out hna (by decide)) 1), (blk_cell (TS.blk hk Y9.out hna (by decide)) 2)⟩ (fun hHeld => ?_)
      clear hK K
      refine norm_ (a' := ?_) ?_ ?_
      rotate_left
      · show Act.put _ (some 30) _ = _
        simp only [Act.put, List.setIfInBounds_toArray, List.set_cons_zero, List.set_cons_succ, i64_w, i32_w]
        rfl
      refine done_ (by kernel_rfl) ?_
      clear hHeld
      obtain ⟨l2, hl2⟩ : ∃ q, q = (prDL (x.f0.take i)) ++ bl (((⟨#[97, 99, 116, 111, 114, 32]⟩ ++ d.f1 ++ ⟨#[40]⟩) ++ sj) ++ ⟨#[41, 32]⟩) := ⟨_, rfl⟩
      rw [← hl2] at S10 HLB
      have HL2 := Lib.hid hl2
      clear hl2 hs1 hs2 hs3 hs4 hss
      have z3 := blk_cell Y10.out 3
      have z4 := blk_cell Y10.out 4
      have z5 := blk_cell Y10.out 5
      have z6 := blk_cell Y10.out 6
      have z7 := blk_cell Y10.out 7
      have z8 := blk_cell Y10.out 8
      have z9 := blk_cell Y10.out 9
      have z10 := blk_cell Y10.out 10
      have z11 := blk_cell Y10.out 11
      go_upto_region 9 with (go_at_call 26; refine (TB_call w d.f3 HGB.out w.heap.size gb B0 b0 B4 b4 B5 b5 B6 b6 _ _ S10.out.self HZ.out.2.2 (by have h_ := HLB.out; omega)).mono ?_; rintro e w11 ⟨rfl, ht, hf, hk⟩; have S11 := Lib.hid (S10.out.wrote ht hf hk); have X11 := Lib.hid (TS.blk hk X10.out hnx (by decide)); clear ht hf hk)
      go_wp2_with (go_at_call 24; refine (write_call S11.out _ (by have h_ := HLB.out; simp only [size_bl, bl_app, bl_lit, List.size_toArray, List.length_append, List.length_cons, List.length_nil] at h_ ⊢; omega)).mono ?_; rintro e w12 ⟨rfl, hs, hk⟩; have S12 := Lib.hid hs; have X12 := Lib.hid (TS.blk hk X11.out hnx (by decide)); clear hs hk)
      go_roundw
      case rel => first | exact ⟨i + 1, by go_num, hlt, Lib.hid (S12.out.cast (by rw [HTI.out, HPD.out, HL2.out]; simp only [bl_app, HSB.out, bl_mk]; simp)), X12⟩ | exact ⟨i + 1, by go_num, hlt, Lib.hid (S12.out.cast (by rw [HTI.out, HPD.out, HL2.out]; simp only [bl_app, HSB.out, bl_mk]; simp))⟩
      case measure => simp [intOf]; omega
    · obtain rfl : i = x.f0.length := by omega
      have hg_ := HS.out
      rw [List.take_length] at hg_
      have S4 := Lib.hid hg_
      have X4 := Lib.hid HX.out
      clear hg_ HS HX
      have hs1 : ¬ 9223372036854775807 < 5 + x.f2.size := by omega
      have hs2 : ¬ 9223372036854775807 < 5 + x.f2.size + 1 := by omega
      have HBM := Lib.hid (show (prDL x.f0).length + ((⟨#[109, 97, 105, 110, 32]⟩ ++ x.f2) ++ ⟨#[40]⟩ : ByteArray).size ≤ 140737488355328 by have h_ := HL.out; rw [HPR.out] at h_; simp only [size_bl, bl_app, bl_lit, List.size_toArray, List.length_append, List.length_cons, List.length_nil] at h_ ⊢; omega)
      go_upto_region 11 with fail
      have SD := Lib.hid (show TS w w.heap.size gb w wq.drew (prDL x.f0) from S4.out.below (Below.refl _ _).drew)
      have XD := Lib.hid (show wq.drew.heap[gx]? = some (.cells #[.slice AD x.f0.length cD, .int .i64 x.f1, .string x.f2, .slice AX x.f3.length cX] 25 (0, 0)) from X4.out)
      refine start_ (n := 8) (S := fun w' => w'.cell? ⟨gx, 2, none⟩ = some (.string x.f2)) (ds := []) #[false, false, false, false, false, false, false, false] (by kernel_rfl) rfl rfl ((blk_cell XD.out 2)) (fun hHeld => ?_)
      generalize wq.drew = WD at *
      refine pure_ (i := 0) (N := some 40) (v := ?_) (a' := ?_) #[true, false, false, false, false, false, false, false] rfl rfl (by kernel_rfl) (fun _ _ _ h => h) (Or.inl ⟨by rfl, ?_⟩) ?_ ?_
      rotate_left
      · intro w'
        go_simp
        with_reducible rfl
      rotate_left
      · simp only [Act.put, List.setIfInBounds_toArray, List.set_cons_zero, List.set_cons_succ, i64_w, i32_w]
        rfl
      refine pure_ (i := 1) (N := some 41) (v := ?_) (a' := ?_) #[true, true, false, false, false, false, false, false] rfl rfl (by kernel_rfl) (fun _ _ _ h => h) (Or.inl ⟨by rfl, ?_⟩) ?_ ?_
      rotate_left
      · intro w'
        go_simp
        with_reducible rfl
      rotate_left
      · simp only [Act.put, List.setIfInBounds_toArray, List.set_cons_zero, List.set_cons_succ, i64_w, i32_w]
        rfl
      refine pure_ (i := 2) (N := some 42) (v := ?_) (a' := ?_) #[true, true, true, false, false, false, false, false] rfl rfl (by kernel_rfl) (fun _ _ _ h => h) (Or.inl ⟨by rfl, ?_⟩) ?_ ?_
      rotate_left
      · intro w'
        go_simp
        with_reducible rfl
      rotate_left
      · simp only [Act.put, List.setIfInBounds_toArray, List.set_cons_zero, List.set_cons_succ, i64_w, i32_w]
        rfl
      refine pure_ (i := 3) (N := some 43) (v := ?_) (a' := ?_) #[true, true, true, true, false, false, false, false] rfl rfl (by kernel_rfl) (fun _ _ _ h => h) (Or.inl ⟨by rfl, ?_⟩) ?_ ?_
      rotate_left
      · intro w'
        go_simp
        with_reducible rfl
      rotate_left
      · simp only [Act.put, List.setIfInBounds_toArray, List.set_cons_zero, List.set_cons_succ, i64_w, i32_w]
        rfl
      refine take_ (i := 4) (N := some 44) (v := ?_) (a' := ?_) #[true, true, true, true, true, false, false, false] rfl rfl (by kernel_rfl) (fun _ _ _ h => h) (Or.inl ⟨by rfl, ?_⟩) hHeld ?_ ?_
      rotate_left
      · intro w' s0
        go_simp
        with_reducible rfl
      rotate_left
      · simp only [Act.put, List.setIfInBounds_toArray, List.set_cons_zero, List.set_cons_succ, i64_w, i32_w]
        rfl
      refine pure_ (i := 5) (N := some 45) (v := ?_) (a' := ?_) #[true, true, true, true, true, true, false, false] rfl rfl (by kernel_rfl) (fun _ _ _ h => h) (Or.inl ⟨by rfl, ?_⟩) ?_ ?_
      rotate_left
      · intro w'
        go_simp
        with_reducible rfl
      rotate_left
      · simp only [Act.put, List.setIfInBounds_toArray, List.set_cons_zero, List.set_cons_succ, i64_w, i32_w]
        rfl
      refine pure_ (i := 6) (N := some 46) (v := ?_) (a' := ?_) #[true, true, true, true, true, true, true, false] rfl rfl (by kernel_rfl) (fun _ _ _ h => h) (Or.inl ⟨by rfl, ?_⟩) ?_ ?_
      rotate_left
      · intro w'
        go_simp
        with_reducible rfl
      rotate_left
      · simp only [Act.put, List.setIfInBounds_toArray, List.set_cons_zero, List.set_cons_succ, i64_w, i32_w]
        rfl
      refine one_ (i := 7) (N := some 47) #[true, true, true, true, true, true, true, true] rfl rfl (by kernel_rfl) (by decide) (fun K hK => ?_)
      refine goes_ Tryd.func24 (by kernel_rfl) rfl #[.pointer (some ⟨gb, 0, none⟩), .string ((⟨#[109, 97, 105, 110, 32]⟩ ++ x.f2) ++ ⟨#[40]⟩)] (by rfl) rfl rfl (by simp only [List.map_toArray, List.map_cons, List.map_nil]; rfl) ?_
      with_reducible refine (write_call SD.out _ HBM.out).mono ?_
      rintro e w10 ⟨rfl, hs, hk⟩
      refine ⟨_, rfl, ?_⟩
      have S10 := Lib.hid hs
      have X10 := Lib.hid (TS.blk hk XD.out hnx (by decide))
      refine hK.out _ _ ((blk_cell (TS.blk hk XD.out hnx (by decide)) 2)) (fun hHeld => ?_)
      clear hK K
      refine norm_ (a' := ?_) ?_ ?_
      rotate_left
      · show Act.put _ (some 47) _ = _
        simp only [Act.put, List.setIfInBounds_toArray, List.set_cons_zero, List.set_cons_succ, i64_w, i32_w]
        rfl
      refine done_ (by kernel_rfl) ?_
      clear hHeld
      have y3 := blk_cell X10.out 3
      go_upto_region 13 with (go_at_call 27; refine (TE_list w x.f3 (fun y _ => TE_call w y) hgl w.heap.size gb AX cX _ _ S10.out.self HP.out.gx HP.out.lx (by have h_ := HL.out; rw [HPR.out] at h_; simp only [size_bl, bl_app, bl_lit, List.size_toArray, List.length_append, List.length_cons, List.length_nil] at h_ ⊢; omega)).mono ?_; rintro e w11 ⟨rfl, ht, hf, hk⟩; have S11 := Lib.hid (S10.out.wrote ht hf hk); clear ht hf hk)
      go_upto_region 14 with (go_at_call 24; refine (write_call S11.out _ (by have h_ := HL.out; rw [HPR.out] at h_; simp only [size_bl, bl_app, bl_lit, List.size_toArray, List.length_append, List.length_cons, List.length_nil] at h_ ⊢; omega)).mono ?_; rintro e w12 ⟨rfl, hs, hk⟩; have S12 := Lib.hid hs; clear hs hk)
      have S13 := Lib.hid (S12.out.cast (l' := prPr x) (by rw [HPR.out]; simp only [bl_app, bl_mk]; simp))
      go_wp2_with (go_at_call 29; refine (string_call w.heap.size gb (prPr x) _ S13.out.t (by rw [HPR.out]; simp)).mono ?_; rintro e w14 ⟨rfl, hd⟩; have B14 := Lib.hid (S13.out.f.trans hd); clear hd)
      go_ret
      exact ⟨by rw [HPN.out]; rfl, B14.out⟩
end Go.Proofs.YtjboncbmeanlgaaDoor.Tr
