/- RefE -/
import Derived.Test.YtjboncbmeanlgaaDoorURefS
import Derived.Test.YtjboncbmeanlgaaDoorUTextR
/- The document's text of bodies. -/
set_option linter.unusedVariables false
set_option linter.unusedSimpArgs false
namespace Go.Proofs.YtjboncbmeanlgaaDoor.Tr
open Go.RowKit Go.Proofs Go.Proofs.YtjboncbmeanlgaaDoor.PTreePrints Go.Proofs.YtjboncbmeanlgaaDoorW.PrintWords Go.Proofs.YtjboncbmeanlgaaDoorW.PrintMore Go.Proofs.YtjboncbmeanlgaaDoorW.PrintLast
/-- A body's end, in text. -/
def prEn (x : S42) : List UInt8 := if x.f1 = 1 then [98, 101, 99, 111, 109, 101, 32] ++ (bl x.f3 ++ (40 :: (prEL x.f4 ++ [41]))) else if x.f1 = 2 then [115, 116, 111, 112] else if x.f1 = 3 then [105, 102, 32] ++ (prH x.f4 ++ (32 :: prI x.f5)) else [114, 101, 99, 101, 105, 118, 101, 32, 123] ++ (prAL x.f6 ++ ((if x.f7 = true then [32, 97, 102, 116, 101, 114, 32] ++ (Lib.itoa x.f8 ++ (32 :: prO x.f5)) else []) ++ [32, 125]))
theorem prB_eq (x : S42) : prB x = [123, 32] ++ (prSL x.f0 ++ (prEn x ++ [32, 125])) := by obtain ⟨f0, f1, f2, f3, f4, f5, f6, f7, f8⟩ := x; rw [prB]; rfl
theorem goodAL_len : ∀ (l : List Arm) (x : Arm), goodAL l = true → x ∈ l → x.2.1 = [] ∨ ∃ g, x.2.1 = [g]
  | y :: l, x, h, hm => by
    rw [goodAL, Bool.and_eq_true] at h
    rcases List.mem_cons.1 hm with rfl | hm
    · have h1 := h.1
      obtain ⟨p, g, b⟩ := x
      simp only [goodA, goodG, Bool.and_eq_true, withinB, decide_eq_true_eq] at h1
      have h2 := h1.2.1.2.2
      match g, h2 with
      | [], _ => exact .inl rfl
      | [q], _ => exact .inr ⟨q, rfl⟩
      | a :: b :: c, h2 => simp only [List.length_cons] at h2; omega
    · exact goodAL_len l x h.2 hm
/-- What is to be shown of a body. -/
def XB (x : S42) : Prop := goodB x = true → ∀ (A0 : Option Addr) (c0 : Nat) (A4 : Option Addr) (c4 : Nat) (A5 : Option Addr) (c5 : Nat) (A6 : Option Addr) (c6 : Nat) (w : World), BodyC w x A0 c0 A4 c4 A5 c5 A6 c6 → (prB x).length ≤ 140737488355328 → Calls Tryd.prog 30 #[bodyV x A0 c0 A4 c4 A5 c5 A6 c6] w (SaysS (prB x) w)
set_option maxRecDepth 100000 in
set_option maxHeartbeats 32000000 in
theorem XEn_ok (x : S42) (hI : ∀ y, y ∈ x.f5 → XB y) (hJ : ∀ y, y ∈ x.f6 → XB y.2.2) (hG : goodB x = true) (A0 : Option Addr) (c0 : Nat) (A4 : Option Addr) (c4 : Nat) (A5 : Option Addr) (c5 : Nat) (A6 : Option Addr) (c6 : Nat) (w : World) (hB : BodyC w x A0 c0 A4 c4 A5 c5 A6 c6) (hl : (prEn x).length ≤ 140737488355328) :
    Calls Tryd.prog 57 #[bodyV x A0 c0 A4 c4 A5 c5 A6 c6] w (SaysS (prEn x) w) := by
  obtain ⟨f0, f1, f2, f3, f4, f5, f6, f7, f8⟩ := x
  simp only at hI hJ
  obtain ⟨hgS, hgP, hgA, hcase⟩ := goodB_cases hG
  have hln6 := C_len hB.g6
  simp only at hln6
  have HI := Lib.hid hI
  have HJ := Lib.hid hJ
  have HB0 := Lib.hid hB
  have HL := Lib.hid hl
  have HGP := Lib.hid hgP
  have HGA := Lib.hid hgA
  clear hI hJ hB hl hgP hgA hgS hG
  unfold bodyV
  simp only
  go_enter Tryd.func57, Tryd.ntmps57
  have hal := below_alloc (Below.refl _ w) (.cells #[.slice A0 f0.length c0, .int .i64 f1, .int .i64 f2, .string f3, .slice A4 f4.length c4, .slice A5 f5.length c5, .slice A6 f6.length c6, .bool f7, .int .i64 f8] 42)
  have XB_ := Lib.hid (blk_new w (.cells #[.slice A0 f0.length c0, .int .i64 f1, .int .i64 f2, .string f3, .slice A4 f4.length c4, .slice A5 f5.length c5, .slice A6 f6.length c6, .bool f7, .int .i64 f8] 42))
  have B2 := Lib.hid hal
  have HB := Lib.hid (HB0.out.below hal)
  clear hal HB0
  go_upto_region 1 with fail
  generalize w.alloc (.cells #[.slice A0 f0.length c0, .int .i64 f1, .int .i64 f2, .string f3, .slice A4 f4.length c4, .slice A5 f5.length c5, .slice A6 f6.length c6, .bool f7, .int .i64 f8] 42) = w2 at *
  generalize hgx : w.heap.size = gx at *
  have BW := Lib.hid (show Below w.heap.size w w2 by rw [hgx]; exact B2.out)
  clear B2 hgx
  have y1 := blk_cell XB_.out 1
  have y3 := blk_cell XB_.out 3
  have y4 := blk_cell XB_.out 4
  have y5 := blk_cell XB_.out 5
  have XS := Lib.hid (fun (W' : World) (h : Below w2.heap.size w2 W') => blk_below XB_.out h)
  rcases hcase with ⟨rfl, h0, hgl⟩ | rfl | ⟨rfl, ⟨p, rfl, hgp⟩, q, r, rfl⟩ | ⟨rfl, hLt⟩
  · -- become
    have HP := Lib.hid (show prEn ⟨f0, 1, f2, f3, f4, f5, f6, f7, f8⟩ = [98, 101, 99, 111, 109, 101, 32] ++ (bl f3 ++ (40 :: (prEL f4 ++ [41]))) by unfold prEn; first | rfl | (rw [if_pos rfl]; first | rfl | simp only [prH, prI, prO]))
    have HX := Lib.hid (show (prEL f4).length ≤ 140737488355328 by have h := HL.out; rw [HP.out] at h; simp only [List.length_cons, List.length_append, List.length_nil] at h; omega)
    have hs1 : ¬ 9223372036854775807 < 7 + f3.size := by omega
    have hs2 : ¬ 9223372036854775807 < 7 + f3.size + 1 := by omega
    go_upto_region 3 with fail
    clear y1 y3 y4 y5
    have BD := Lib.hid (Below.refl w2.heap.size w2).drew
    refine start_ (n := 10) (S := fun w' => w'.cell? ⟨gx, 3, none⟩ = some (.string f3) ∧ w'.cell? ⟨gx, 4, none⟩ = some (.slice A4 f4.length c4)) (ds := []) #[false, false, false, false, false, false, false, false, false, false] (by kernel_rfl) rfl rfl ⟨(blk_cell (XS.out _ BD.out) 3), (blk_cell (XS.out _ BD.out) 4)⟩ (fun hHeld => ?_)
    generalize w2.drew = WD at *
    refine pure_ (i := 0) (N := some 10) (v := ?_) (a' := ?_) #[true, false, false, false, false, false, false, false, false, false] rfl rfl (by kernel_rfl) (fun _ _ _ h => h) (Or.inl ⟨by rfl, ?_⟩) ?_ ?_
    rotate_left
    · intro w'
      go_simp
      with_reducible rfl
    rotate_left
    · simp only [Act.put, List.setIfInBounds_toArray, List.set_cons_zero, List.set_cons_succ, i64_w, i32_w]
      rfl
    refine pure_ (i := 4) (N := some 14) (v := ?_) (a' := ?_) #[true, false, false, false, true, false, false, false, false, false] rfl rfl (by kernel_rfl) (fun _ _ _ h => h) (Or.inl ⟨by rfl, ?_⟩) ?_ ?_
    rotate_left
    · intro w'
      go_simp
      with_reducible rfl
    rotate_left
    · simp only [Act.put, List.setIfInBounds_toArray, List.set_cons_zero, List.set_cons_succ, i64_w, i32_w]
      rfl
    refine take_ (i := 1) (N := some 11) (v := ?_) (a' := ?_) #[true, true, false, false, true, false, false, false, false, false] rfl rfl (by kernel_rfl) (fun _ _ _ h => h) (Or.inl ⟨by rfl, ?_⟩) hHeld ?_ ?_
    rotate_left
    · rintro w' ⟨s0, s1⟩
      go_simp
      with_reducible rfl
    rotate_left
    · simp only [Act.put, List.setIfInBounds_toArray, List.set_cons_zero, List.set_cons_succ, i64_w, i32_w]
      rfl
    refine pure_ (i := 2) (N := some 12) (v := ?_) (a' := ?_) #[true, true, true, false, true, false, false, false, false, false] rfl rfl (by kernel_rfl) (fun _ _ _ h => h) (Or.inl ⟨by rfl, ?_⟩) ?_ ?_
    rotate_left
    · intro w'
      go_simp
      with_reducible rfl
    rotate_left
    · simp only [Act.put, List.setIfInBounds_toArray, List.set_cons_zero, List.set_cons_succ, i64_w, i32_w]
      rfl
    refine pure_ (i := 3) (N := some 13) (v := ?_) (a' := ?_) #[true, true, true, true, true, false, false, false, false, false] rfl rfl (by kernel_rfl) (fun _ _ _ h => h) (Or.inl ⟨by rfl, ?_⟩) ?_ ?_
    rotate_left
    · intro w'
      go_simp
      with_reducible rfl
    rotate_left
    · simp only [Act.put, List.setIfInBounds_toArray, List.set_cons_zero, List.set_cons_succ, i64_w, i32_w]
      rfl
    refine take_ (i := 5) (N := some 15) (v := ?_) (a' := ?_) #[true, true, true, true, true, true, false, false, false, false] rfl rfl (by kernel_rfl) (fun _ _ _ h => h) (Or.inl ⟨by rfl, ?_⟩) hHeld ?_ ?_
    rotate_left
    · rintro w' ⟨s0, s1⟩
      go_simp
      with_reducible rfl
    rotate_left
    · simp only [Act.put, List.setIfInBounds_toArray, List.set_cons_zero, List.set_cons_succ, i64_w, i32_w]
      rfl
    refine one_ (i := 6) (N := some 16) #[true, true, true, true, true, true, true, false, false, false] rfl rfl (by kernel_rfl) (by decide) (fun K hK => ?_)
    refine goes_ Tryd.func31 (by kernel_rfl) rfl #[.slice A4 f4.length c4] (by rfl) rfl rfl (by simp only [List.map_toArray, List.map_cons, List.map_nil]; rfl) ?_
    with_reducible refine (XE_list f4 (fun x _ => XE_call x) hgl A4 c4 _ (Kd.C_below HB.out.g4 BD.out) HB.out.l4 HX.out).mono ?_
    rintro e w3 ⟨r, rfl, hr, hd⟩
    refine ⟨_, rfl, ?_⟩
    have B3 := Lib.hid (below_step BD.out hd)
    have HR := Lib.hid hr
    have hrs : r.size ≤ 140737488355328 := by rw [size_bl, hr]; exact HX.out
    have hs3 : ¬ 9223372036854775807 < 7 + f3.size + 1 + r.size := by omega
    have hs4 : ¬ 9223372036854775807 < 7 + f3.size + 1 + r.size + 1 := by omega
    refine hK.out _ _ ⟨(blk_cell (XS.out _ B3.out) 3), (blk_cell (XS.out _ B3.out) 4)⟩ (fun hHeld => ?_)
    clear hK K
    refine norm_ (a' := ?_) ?_ ?_
    rotate_left
    · show Act.put _ (some 16) _ = _
      simp only [Act.put, List.setIfInBounds_toArray, List.set_cons_zero, List.set_cons_succ, i64_w, i32_w]
      rfl
    refine pure_ (i := 7) (N := some 17) (v := ?_) (a' := ?_) #[true, true, true, true, true, true, true, true, false, false] rfl rfl (by kernel_rfl) (fun _ _ _ h => h) (Or.inl ⟨by rfl, ?_⟩) ?_ ?_
    rotate_left
    · intro w'
      go_simp
      with_reducible rfl
    rotate_left
    · simp only [Act.put, List.setIfInBounds_toArray, List.set_cons_zero, List.set_cons_succ, i64_w, i32_w]
      rfl
    refine pure_ (i := 8) (N := some 18) (v := ?_) (a' := ?_) #[true, true, true, true, true, true, true, true, true, false] rfl rfl (by kernel_rfl) (fun _ _ _ h => h) (Or.inl ⟨by rfl, ?_⟩) ?_ ?_
    rotate_left
    · intro w'
      go_simp
      with_reducible rfl
    rotate_left
    · simp only [Act.put, List.setIfInBounds_toArray, List.set_cons_zero, List.set_cons_succ, i64_w, i32_w]
      rfl
    refine pure_ (i := 9) (N := some 2) (v := ?_) (a' := ?_) #[true, true, true, true, true, true, true, true, true, true] rfl rfl (by kernel_rfl) (fun _ _ _ h => h) (Or.inl ⟨by rfl, ?_⟩) ?_ ?_
    rotate_left
    · intro w'
      go_simp
      with_reducible rfl
    rotate_left
    · simp only [Act.put, List.setIfInBounds_toArray, List.set_cons_zero, List.set_cons_succ, i64_w, i32_w]
      rfl
    refine done_ (by kernel_rfl) ?_
    clear hHeld
    go_wp2
    go_ret
    exact SaysS.mk' (by rw [HP.out]; simp only [bl_app, bl_mk, HR.out]; try simp) (below_step BW.out B3.out)
  · -- stop
    have HP := Lib.hid (show prEn ⟨f0, 2, f2, f3, f4, f5, f6, f7, f8⟩ = [115, 116, 111, 112] by unfold prEn; rw [if_neg (show ¬ (2 : Int) = 1 by decide)]; first | rfl | (rw [if_pos rfl]; first | rfl | simp only [prH, prI, prO]))
    go_wp2
    go_ret
    exact SaysS.mk' (by rw [HP.out]; try rfl) BW.out
  · -- if
    have HP := Lib.hid (show prEn ⟨f0, 3, f2, f3, [p], [q, r], f6, f7, f8⟩ = [105, 102, 32] ++ (prE p ++ (32 :: (prB q ++ ([32, 101, 108, 115, 101, 32] ++ prB r)))) by unfold prEn; rw [if_neg (show ¬ (3 : Int) = 1 by decide)]; rw [if_neg (show ¬ (3 : Int) = 2 by decide)]; first | rfl | (rw [if_pos rfl]; first | rfl | simp only [prH, prI, prO]))
    have HXp := Lib.hid (show (prE p).length ≤ 140737488355328 by have h := HL.out; rw [HP.out] at h; simp only [List.length_cons, List.length_append, List.length_nil] at h; omega)
    have HXq := Lib.hid (show (prB q).length ≤ 140737488355328 by have h := HL.out; rw [HP.out] at h; simp only [List.length_cons, List.length_append, List.length_nil] at h; omega)
    have HXr := Lib.hid (show (prB r).length ≤ 140737488355328 by have h := HL.out; rw [HP.out] at h; simp only [List.length_cons, List.length_append, List.length_nil] at h; omega)
    obtain ⟨ad, Ay, cy, hA, hcy, hCy, hU⟩ := first31 HB.out.g4
    subst hA
    have HU := Lib.hid hU
    have HCy := Lib.hid hCy
    have hA5 : ∃ ad', A5 = some ad' := by
      obtain ⟨ad', _, _, _, _, _, _, _, _, h, _⟩ := at_T42 HB.out.g5 0 (by omega) (by simp)
      exact ⟨ad', h⟩
    obtain ⟨ad2, hA5⟩ := hA5
    subst hA5
    obtain ⟨B0, b0, B4, b4, B5, b5, B6, b6, hBq, hUq⟩ := first42 HB.out.g5
    obtain ⟨D0, d0, D4, d4, D5, d5, D6, d6, hBr, hUr⟩ := second42 HB.out.g5
    have HUQ := Lib.hid hUq
    have HUR := Lib.hid hUr
    have HBQ := Lib.hid hBq
    have HBR := Lib.hid hBr
    have HEp := Lib.hid (XE_call p hgp)
    have HEq := Lib.hid (HI.out q (by simp) (goodBL_mem _ q HGP.out (by simp)))
    have HEr := Lib.hid (HI.out r (by simp) (goodBL_mem _ r HGP.out (by simp)))
    clear hU hCy hUq hUr hBq hBr
    simp only [List.length_cons, List.length_nil, Nat.zero_add, Nat.reduceAdd] at *
    go_upto_region 7 with fail
    clear y1 y3 y4 y5
    have BD := Lib.hid (Below.refl w2.heap.size w2).drew
    refine start_ (n := 21) (S := fun w' => w'.cell? ⟨gx, 4, none⟩ = some (.slice (some ad) 1 c4) ∧ w'.cell? ⟨gx, 5, none⟩ = some (.slice (some ad2) 2 c5) ∧ w'.cell? ad = some (.int .i64 p.f0) ∧ w'.cell? ⟨ad.block, ad.off + 1, none⟩ = some (.int .i64 p.f1) ∧ w'.cell? ⟨ad.block, ad.off + 2, none⟩ = some (.int .i64 p.f2) ∧ w'.cell? ⟨ad.block, ad.off + 3, none⟩ = some (.string p.f3) ∧ w'.cell? ⟨ad.block, ad.off + 4, none⟩ = some (.slice Ay p.f4.length cy) ∧ w'.cell? ad2 = some (.slice B0 q.f0.length b0) ∧ w'.cell? ⟨ad2.block, ad2.off + 1, none⟩ = some (.int .i64 q.f1) ∧ w'.cell? ⟨ad2.block, ad2.off + 2, none⟩ = some (.int .i64 q.f2) ∧ w'.cell? ⟨ad2.block, ad2.off + 3, none⟩ = some (.string q.f3) ∧ w'.cell? ⟨ad2.block, ad2.off + 4, none⟩ = some (.slice B4 q.f4.length b4) ∧ w'.cell? ⟨ad2.block, ad2.off + 5, none⟩ = some (.slice B5 q.f5.length b5) ∧ w'.cell? ⟨ad2.block, ad2.off + 6, none⟩ = some (.slice B6 q.f6.length b6) ∧ w'.cell? ⟨ad2.block, ad2.off + 7, none⟩ = some (.bool q.f7) ∧ w'.cell? ⟨ad2.block, ad2.off + 8, none⟩ = some (.int .i64 q.f8) ∧ w'.cell? ⟨ad2.block, ad2.off + 9, none⟩ = some (.slice D0 r.f0.length d0) ∧ w'.cell? ⟨ad2.block, ad2.off + 9 + 1, none⟩ = some (.int .i64 r.f1) ∧ w'.cell? ⟨ad2.block, ad2.off + 9 + 2, none⟩ = some (.int .i64 r.f2) ∧ w'.cell? ⟨ad2.block, ad2.off + 9 + 3, none⟩ = some (.string r.f3) ∧ w'.cell? ⟨ad2.block, ad2.off + 9 + 4, none⟩ = some (.slice D4 r.f4.length d4) ∧ w'.cell? ⟨ad2.block, ad2.off + 9 + 5, none⟩ = some (.slice D5 r.f5.length d5) ∧ w'.cell? ⟨ad2.block, ad2.off + 9 + 6, none⟩ = some (.slice D6 r.f6.length d6) ∧ w'.cell? ⟨ad2.block, ad2.off + 9 + 7, none⟩ = some (.bool r.f7) ∧ w'.cell? ⟨ad2.block, ad2.off + 9 + 8, none⟩ = some (.int .i64 r.f8)) (ds := []) #[false, false, false, false, false, false, false, false, false, false, false, false, false, false, false, false, false, false, false, false, false] (by kernel_rfl) rfl rfl ⟨(blk_cell (XS.out _ BD.out) 4), (blk_cell (XS.out _ BD.out) 5), (HU.out _ BD.out).1, (HU.out _ BD.out).2.1, (HU.out _ BD.out).2.2.1, (HU.out _ BD.out).2.2.2.1, (HU.out _ BD.out).2.2.2.2, (HUQ.out _ BD.out).1, (HUQ.out _ BD.out).2.1, (HUQ.out _ BD.out).2.2.1, (HUQ.out _ BD.out).2.2.2.1, (HUQ.out _ BD.out).2.2.2.2.1, (HUQ.out _ BD.out).2.2.2.2.2.1, (HUQ.out _ BD.out).2.2.2.2.2.2.1, (HUQ.out _ BD.out).2.2.2.2.2.2.2.1, (HUQ.out _ BD.out).2.2.2.2.2.2.2.2, (HUR.out _ BD.out).1, (HUR.out _ BD.out).2.1, (HUR.out _ BD.out).2.2.1, (HUR.out _ BD.out).2.2.2.1, (HUR.out _ BD.out).2.2.2.2.1, (HUR.out _ BD.out).2.2.2.2.2.1, (HUR.out _ BD.out).2.2.2.2.2.2.1, (HUR.out _ BD.out).2.2.2.2.2.2.2.1, (HUR.out _ BD.out).2.2.2.2.2.2.2.2⟩ (fun hHeld => ?_)
    generalize w2.drew = WD at *
    refine pure_ (i := 0) (N := some 23) (v := ?_) (a' := ?_) #[true, false, false, false, false, false, false, false, false, false, false, false, false, false, false, false, false, false, false, false, false] rfl rfl (by kernel_rfl) (fun _ _ _ h => h) (Or.inl ⟨by rfl, ?_⟩) ?_ ?_
    rotate_left
    · intro w'
      go_simp
      with_reducible rfl
    rotate_left
    · simp only [Act.put, List.setIfInBounds_toArray, List.set_cons_zero, List.set_cons_succ, i64_w, i32_w]
      rfl
    refine pure_ (i := 7) (N := some 30) (v := ?_) (a' := ?_) #[true, false, false, false, false, false, false, true, false, false, false, false, false, false, false, false, false, false, false, false, false] rfl rfl (by kernel_rfl) (fun _ _ _ h => h) (Or.inl ⟨by rfl, ?_⟩) ?_ ?_
    rotate_left
    · intro w'
      go_simp
      with_reducible rfl
    rotate_left
    · simp only [Act.put, List.setIfInBounds_toArray, List.set_cons_zero, List.set_cons_succ, i64_w, i32_w]
      rfl
    refine pure_ (i := 14) (N := some 37) (v := ?_) (a' := ?_) #[true, false, false, false, false, false, false, true, false, false, false, false, false, false, true, false, false, false, false, false, false] rfl rfl (by kernel_rfl) (fun _ _ _ h => h) (Or.inl ⟨by rfl, ?_⟩) ?_ ?_
    rotate_left
    · intro w'
      go_simp
      with_reducible rfl
    rotate_left
    · simp only [Act.put, List.setIfInBounds_toArray, List.set_cons_zero, List.set_cons_succ, i64_w, i32_w]
      rfl
    refine take_ (i := 1) (N := some 24) (v := ?_) (a' := ?_) #[true, true, false, false, false, false, false, true, false, false, false, false, false, false, true, false, false, false, false, false, false] rfl rfl (by kernel_rfl) (fun _ _ _ h => h) (Or.inl ⟨by rfl, ?_⟩) hHeld ?_ ?_
    rotate_left
    · rintro w' ⟨s0, s1, s2, s3, s4, s5, s6, s7, s8, s9, s10, s11, s12, s13, s14, s15, s16, s17, s18, s19, s20, s21, s22, s23, s24⟩
      go_simp
      with_reducible rfl
    rotate_left
    · simp only [Act.put, List.setIfInBounds_toArray, List.set_cons_zero, List.set_cons_succ, i64_w, i32_w]
      rfl
    refine pure_ (i := 2) (N := some 25) (v := ?_) (a' := ?_) #[true, true, true, false, false, false, false, true, false, false, false, false, false, false, true, false, false, false, false, false, false] rfl rfl (by kernel_rfl) (fun _ _ _ h => h) (Or.inl ⟨by rfl, ?_⟩) ?_ ?_
    rotate_left
    · intro w'
      go_simp
      with_reducible rfl
    rotate_left
    · simp only [Act.put, List.setIfInBounds_toArray, List.set_cons_zero, List.set_cons_succ, i64_w, i32_w]
      rfl
    refine take_ (i := 3) (N := some 26) (v := ?_) (a' := ?_) #[true, true, true, true, false, false, false, true, false, false, false, false, false, false, true, false, false, false, false, false, false] rfl rfl (by kernel_rfl) (fun _ _ _ h => h) (Or.inl ⟨by rfl, ?_⟩) hHeld ?_ ?_
    rotate_left
    · rintro w' ⟨s0, s1, s2, s3, s4, s5, s6, s7, s8, s9, s10, s11, s12, s13, s14, s15, s16, s17, s18, s19, s20, s21, s22, s23, s24⟩
      go_simp
      with_reducible rfl
    rotate_left
    · simp only [Act.put, List.setIfInBounds_toArray, List.set_cons_zero, List.set_cons_succ, i64_w, i32_w]
      rfl
    refine take_ (i := 8) (N := some 31) (v := ?_) (a' := ?_) #[true, true, true, true, false, false, false, true, true, false, false, false, false, false, true, false, false, false, false, false, false] rfl rfl (by kernel_rfl) (fun _ _ _ h => h) (Or.inl ⟨by rfl, ?_⟩) hHeld ?_ ?_
    rotate_left
    · rintro w' ⟨s0, s1, s2, s3, s4, s5, s6, s7, s8, s9, s10, s11, s12, s13, s14, s15, s16, s17, s18, s19, s20, s21, s22, s23, s24⟩
      go_simp
      with_reducible rfl
    rotate_left
    · simp only [Act.put, List.setIfInBounds_toArray, List.set_cons_zero, List.set_cons_succ, i64_w, i32_w]
      rfl
    refine pure_ (i := 9) (N := some 32) (v := ?_) (a' := ?_) #[true, true, true, true, false, false, false, true, true, true, false, false, false, false, true, false, false, false, false, false, false] rfl rfl (by kernel_rfl) (fun _ _ _ h => h) (Or.inl ⟨by rfl, ?_⟩) ?_ ?_
    rotate_left
    · intro w'
      go_simp
      with_reducible rfl
    rotate_left
    · simp only [Act.put, List.setIfInBounds_toArray, List.set_cons_zero, List.set_cons_succ, i64_w, i32_w]
      rfl
    refine take_ (i := 10) (N := some 33) (v := ?_) (a' := ?_) #[true, true, true, true, false, false, false, true, true, true, true, false, false, false, true, false, false, false, false, false, false] rfl rfl (by kernel_rfl) (fun _ _ _ h => h) (Or.inl ⟨by rfl, ?_⟩) hHeld ?_ ?_
    rotate_left
    · rintro w' ⟨s0, s1, s2, s3, s4, s5, s6, s7, s8, s9, s10, s11, s12, s13, s14, s15, s16, s17, s18, s19, s20, s21, s22, s23, s24⟩
      go_simp
      with_reducible rfl
    rotate_left
    · simp only [Act.put, List.setIfInBounds_toArray, List.set_cons_zero, List.set_cons_succ, i64_w, i32_w]
      rfl
    refine take_ (i := 15) (N := some 38) (v := ?_) (a' := ?_) #[true, true, true, true, false, false, false, true, true, true, true, false, false, false, true, true, false, false, false, false, false] rfl rfl (by kernel_rfl) (fun _ _ _ h => h) (Or.inl ⟨by rfl, ?_⟩) hHeld ?_ ?_
    rotate_left
    · rintro w' ⟨s0, s1, s2, s3, s4, s5, s6, s7, s8, s9, s10, s11, s12, s13, s14, s15, s16, s17, s18, s19, s20, s21, s22, s23, s24⟩
      go_simp
      with_reducible rfl
    rotate_left
    · simp only [Act.put, List.setIfInBounds_toArray, List.set_cons_zero, List.set_cons_succ, i64_w, i32_w]
      rfl
    refine pure_ (i := 16) (N := some 39) (v := ?_) (a' := ?_) #[true, true, true, true, false, false, false, true, true, true, true, false, false, false, true, true, true, false, false, false, false] rfl rfl (by kernel_rfl) (fun _ _ _ h => h) (Or.inl ⟨by rfl, ?_⟩) ?_ ?_
    rotate_left
    · intro w'
      go_simp
      with_reducible rfl
    rotate_left
    · simp only [Act.put, List.setIfInBounds_toArray, List.set_cons_zero, List.set_cons_succ, i64_w, i32_w]
      rfl
    refine take_ (i := 17) (N := some 40) (v := ?_) (a' := ?_) #[true, true, true, true, false, false, false, true, true, true, true, false, false, false, true, true, true, true, false, false, false] rfl rfl (by kernel_rfl) (fun _ _ _ h => h) (Or.inl ⟨by rfl, ?_⟩) hHeld ?_ ?_
    rotate_left
    · rintro w' ⟨s0, s1, s2, s3, s4, s5, s6, s7, s8, s9, s10, s11, s12, s13, s14, s15, s16, s17, s18, s19, s20, s21, s22, s23, s24⟩
      go_simp
      with_reducible rfl
    rotate_left
    · simp only [Act.put, List.setIfInBounds_toArray, List.set_cons_zero, List.set_cons_succ, i64_w, i32_w]
      rfl
    refine one_ (i := 4) (N := some 27) #[true, true, true, true, true, false, false, true, true, true, true, false, false, false, true, true, true, true, false, false, false] rfl rfl (by kernel_rfl) (by decide) (fun K hK => ?_)
    refine goes_ Tryd.func58 (by kernel_rfl) rfl #[.agg #[.int .i64 p.f0, .int .i64 p.f1, .int .i64 p.f2, .string p.f3, .slice Ay p.f4.length cy]] (by rfl) rfl rfl (by simp only [List.map_toArray, List.map_cons, List.map_nil]; rfl) ?_
    with_reducible refine (HEp.out Ay cy _ (Kd.C_below HCy.out BD.out) hcy HXp.out).mono ?_
    rintro e w3 ⟨t1, rfl, hr, hd⟩
    refine ⟨_, rfl, ?_⟩
    have B3 := Lib.hid (below_step BD.out hd)
    have HR1 := Lib.hid hr
    have hrs1 : t1.size ≤ 140737488355328 := by rw [size_bl, hr]; exact HXp.out
    have hs1 : ¬ 9223372036854775807 < 3 + t1.size := by omega
    have hs2 : ¬ 9223372036854775807 < 3 + t1.size + 1 := by omega
    refine hK.out _ _ ⟨(blk_cell (XS.out _ B3.out) 4), (blk_cell (XS.out _ B3.out) 5), (HU.out _ B3.out).1, (HU.out _ B3.out).2.1, (HU.out _ B3.out).2.2.1, (HU.out _ B3.out).2.2.2.1, (HU.out _ B3.out).2.2.2.2, (HUQ.out _ B3.out).1, (HUQ.out _ B3.out).2.1, (HUQ.out _ B3.out).2.2.1, (HUQ.out _ B3.out).2.2.2.1, (HUQ.out _ B3.out).2.2.2.2.1, (HUQ.out _ B3.out).2.2.2.2.2.1, (HUQ.out _ B3.out).2.2.2.2.2.2.1, (HUQ.out _ B3.out).2.2.2.2.2.2.2.1, (HUQ.out _ B3.out).2.2.2.2.2.2.2.2, (HUR.out _ B3.out).1, (HUR.out _ B3.out).2.1, (HUR.out _ B3.out).2.2.1, (HUR.out _ B3.out).2.2.2.1, (HUR.out _ B3.out).2.2.2.2.1, (HUR.out _ B3.out).2.2.2.2.2.1, (HUR.out _ B3.out).2.2.2.2.2.2.1, (HUR.out _ B3.out).2.2.2.2.2.2.2.1, (HUR.out _ B3.out).2.2.2.2.2.2.2.2⟩ (fun hHeld => ?_)
    clear hK K
    refine norm_ (a' := ?_) ?_ ?_
    rotate_left
    · show Act.put _ (some 27) _ = _
      simp only [Act.put, List.setIfInBounds_toArray, List.set_cons_zero, List.set_cons_succ, i64_w, i32_w]
      rfl
    refine pure_ (i := 5) (N := some 28) (v := ?_) (a' := ?_) #[true, true, true, true, true, true, false, true, true, true, true, false, false, false, true, true, true, true, false, false, false] rfl rfl (by kernel_rfl) (fun _ _ _ h => h) (Or.inl ⟨by rfl, ?_⟩) ?_ ?_
    rotate_left
    · intro w'
      go_simp
      with_reducible rfl
    rotate_left
    · simp only [Act.put, List.setIfInBounds_toArray, List.set_cons_zero, List.set_cons_succ, i64_w, i32_w]
      rfl
    refine pure_ (i := 6) (N := some 29) (v := ?_) (a' := ?_) #[true, true, true, true, true, true, true, true, true, true, true, false, false, false, true, true, true, true, false, false, false] rfl rfl (by kernel_rfl) (fun _ _ _ h => h) (Or.inl ⟨by rfl, ?_⟩) ?_ ?_
    rotate_left
    · intro w'
      go_simp
      with_reducible rfl
    rotate_left
    · simp only [Act.put, List.setIfInBounds_toArray, List.set_cons_zero, List.set_cons_succ, i64_w, i32_w]
      rfl
    refine one_ (i := 11) (N := some 34) #[true, true, true, true, true, true, true, true, true, true, true, true, false, false, true, true, true, true, false, false, false] rfl rfl (by kernel_rfl) (by decide) (fun K hK => ?_)
    refine goes_ Tryd.func30 (by kernel_rfl) rfl #[.agg #[.slice B0 q.f0.length b0, .int .i64 q.f1, .int .i64 q.f2, .string q.f3, .slice B4 q.f4.length b4, .slice B5 q.f5.length b5, .slice B6 q.f6.length b6, .bool q.f7, .int .i64 q.f8]] (by rfl) rfl rfl (by simp only [List.map_toArray, List.map_cons, List.map_nil]; rfl) ?_
    with_reducible refine (HEq.out B0 b0 B4 b4 B5 b5 B6 b6 _ (HBQ.out.below B3.out) HXq.out).mono ?_
    rintro e w5 ⟨t2, rfl, hr2, hd2⟩
    refine ⟨_, rfl, ?_⟩
    have B5_ := Lib.hid (below_step B3.out hd2)
    have HR2 := Lib.hid hr2
    have hrs2 : t2.size ≤ 140737488355328 := by rw [size_bl, hr2]; exact HXq.out
    have hs3 : ¬ 9223372036854775807 < 3 + t1.size + 1 + t2.size := by omega
    have hs4 : ¬ 9223372036854775807 < 3 + t1.size + 1 + t2.size + 6 := by omega
    refine hK.out _ _ ⟨(blk_cell (XS.out _ B5_.out) 4), (blk_cell (XS.out _ B5_.out) 5), (HU.out _ B5_.out).1, (HU.out _ B5_.out).2.1, (HU.out _ B5_.out).2.2.1, (HU.out _ B5_.out).2.2.2.1, (HU.out _ B5_.out).2.2.2.2, (HUQ.out _ B5_.out).1, (HUQ.out _ B5_.out).2.1, (HUQ.out _ B5_.out).2.2.1, (HUQ.out _ B5_.out).2.2.2.1, (HUQ.out _ B5_.out).2.2.2.2.1, (HUQ.out _ B5_.out).2.2.2.2.2.1, (HUQ.out _ B5_.out).2.2.2.2.2.2.1, (HUQ.out _ B5_.out).2.2.2.2.2.2.2.1, (HUQ.out _ B5_.out).2.2.2.2.2.2.2.2, (HUR.out _ B5_.out).1, (HUR.out _ B5_.out).2.1, (HUR.out _ B5_.out).2.2.1, (HUR.out _ B5_.out).2.2.2.1, (HUR.out _ B5_.out).2.2.2.2.1, (HUR.out _ B5_.out).2.2.2.2.2.1, (HUR.out _ B5_.out).2.2.2.2.2.2.1, (HUR.out _ B5_.out).2.2.2.2.2.2.2.1, (HUR.out _ B5_.out).2.2.2.2.2.2.2.2⟩ (fun hHeld => ?_)
    clear hK K
    refine norm_ (a' := ?_) ?_ ?_
    rotate_left
    · show Act.put _ (some 34) _ = _
      simp only [Act.put, List.setIfInBounds_toArray, List.set_cons_zero, List.set_cons_succ, i64_w, i32_w]
      rfl
    refine pure_ (i := 12) (N := some 35) (v := ?_) (a' := ?_) #[true, true, true, true, true, true, true, true, true, true, true, true, true, false, true, true, true, true, false, false, false] rfl rfl (by kernel_rfl) (fun _ _ _ h => h) (Or.inl ⟨by rfl, ?_⟩) ?_ ?_
    rotate_left
    · intro w'
      go_simp
      with_reducible rfl
    rotate_left
    · simp only [Act.put, List.setIfInBounds_toArray, List.set_cons_zero, List.set_cons_succ, i64_w, i32_w]
      rfl
    refine pure_ (i := 13) (N := some 36) (v := ?_) (a' := ?_) #[true, true, true, true, true, true, true, true, true, true, true, true, true, true, true, true, true, true, false, false, false] rfl rfl (by kernel_rfl) (fun _ _ _ h => h) (Or.inl ⟨by rfl, ?_⟩) ?_ ?_
    rotate_left
    · intro w'
      go_simp
      with_reducible rfl
    rotate_left
    · simp only [Act.put, List.setIfInBounds_toArray, List.set_cons_zero, List.set_cons_succ, i64_w, i32_w]
      rfl
    refine one_ (i := 18) (N := some 41) #[true, true, true, true, true, true, true, true, true, true, true, true, true, true, true, true, true, true, true, false, false] rfl rfl (by kernel_rfl) (by decide) (fun K hK => ?_)
    refine goes_ Tryd.func30 (by kernel_rfl) rfl #[.agg #[.slice D0 r.f0.length d0, .int .i64 r.f1, .int .i64 r.f2, .string r.f3, .slice D4 r.f4.length d4, .slice D5 r.f5.length d5, .slice D6 r.f6.length d6, .bool r.f7, .int .i64 r.f8]] (by rfl) rfl rfl (by simp only [List.map_toArray, List.map_cons, List.map_nil]; rfl) ?_
    with_reducible refine (HEr.out D0 d0 D4 d4 D5 d5 D6 d6 _ (HBR.out.below B5_.out) HXr.out).mono ?_
    rintro e w7 ⟨t3, rfl, hr3, hd3⟩
    refine ⟨_, rfl, ?_⟩
    have B7 := Lib.hid (below_step B5_.out hd3)
    have HR3 := Lib.hid hr3
    have hrs3 : t3.size ≤ 140737488355328 := by rw [size_bl, hr3]; exact HXr.out
    have hs5 : ¬ 9223372036854775807 < 3 + t1.size + 1 + t2.size + 6 + t3.size := by omega
    refine hK.out _ _ ⟨(blk_cell (XS.out _ B7.out) 4), (blk_cell (XS.out _ B7.out) 5), (HU.out _ B7.out).1, (HU.out _ B7.out).2.1, (HU.out _ B7.out).2.2.1, (HU.out _ B7.out).2.2.2.1, (HU.out _ B7.out).2.2.2.2, (HUQ.out _ B7.out).1, (HUQ.out _ B7.out).2.1, (HUQ.out _ B7.out).2.2.1, (HUQ.out _ B7.out).2.2.2.1, (HUQ.out _ B7.out).2.2.2.2.1, (HUQ.out _ B7.out).2.2.2.2.2.1, (HUQ.out _ B7.out).2.2.2.2.2.2.1, (HUQ.out _ B7.out).2.2.2.2.2.2.2.1, (HUQ.out _ B7.out).2.2.2.2.2.2.2.2, (HUR.out _ B7.out).1, (HUR.out _ B7.out).2.1, (HUR.out _ B7.out).2.2.1, (HUR.out _ B7.out).2.2.2.1, (HUR.out _ B7.out).2.2.2.2.1, (HUR.out _ B7.out).2.2.2.2.2.1, (HUR.out _ B7.out).2.2.2.2.2.2.1, (HUR.out _ B7.out).2.2.2.2.2.2.2.1, (HUR.out _ B7.out).2.2.2.2.2.2.2.2⟩ (fun hHeld => ?_)
    clear hK K
    refine norm_ (a' := ?_) ?_ ?_
    rotate_left
    · show Act.put _ (some 41) _ = _
      simp only [Act.put, List.setIfInBounds_toArray, List.set_cons_zero, List.set_cons_succ, i64_w, i32_w]
      rfl
    refine pure_ (i := 19) (N := some 42) (v := ?_) (a' := ?_) #[true, true, true, true, true, true, true, true, true, true, true, true, true, true, true, true, true, true, true, true, false] rfl rfl (by kernel_rfl) (fun _ _ _ h => h) (Or.inl ⟨by rfl, ?_⟩) ?_ ?_
    rotate_left
    · intro w'
      go_simp
      with_reducible rfl
    rotate_left
    · simp only [Act.put, List.setIfInBounds_toArray, List.set_cons_zero, List.set_cons_succ, i64_w, i32_w]
      rfl
    refine pure_ (i := 20) (N := some 2) (v := ?_) (a' := ?_) #[true, true, true, true, true, true, true, true, true, true, true, true, true, true, true, true, true, true, true, true, true] rfl rfl (by kernel_rfl) (fun _ _ _ h => h) (Or.inl ⟨by rfl, ?_⟩) ?_ ?_
    rotate_left
    · intro w'
      go_simp
      with_reducible rfl
    rotate_left
    · simp only [Act.put, List.setIfInBounds_toArray, List.set_cons_zero, List.set_cons_succ, i64_w, i32_w]
      rfl
    refine done_ (by kernel_rfl) ?_
    clear hHeld
    go_wp2
    go_ret
    exact SaysS.mk' (by rw [HP.out]; simp only [bl_app, bl_mk, HR1.out, HR2.out, HR3.out]; try simp) (below_step BW.out B7.out)
  · -- receive
    have HP := Lib.hid (show prEn ⟨f0, 4, f2, f3, f4, f5, f6, f7, f8⟩ = [114, 101, 99, 101, 105, 118, 101, 32, 123] ++ (prAL f6 ++ ((if f7 = true then [32, 97, 102, 116, 101, 114, 32] ++ (Lib.itoa f8 ++ (32 :: prO f5)) else []) ++ [32, 125])) by unfold prEn; rw [if_neg (show ¬ (4 : Int) = 1 by decide), if_neg (show ¬ (4 : Int) = 2 by decide), if_neg (show ¬ (4 : Int) = 3 by decide)])
    have HLT := Lib.hid hLt
    have HLA := Lib.hid (show 9 + (prAL f6).length + 2 ≤ 140737488355328 by have h_ := HL.out; rw [HP.out] at h_; simp only [List.length_append, List.length_cons, List.length_nil] at h_; omega)
    clear hLt y3 y4
    have y6 := blk_cell XB_.out 6
    go_wp2
    go_loopw [4, 3] (fun vi vs wr => ∃ (i : Nat) (s : ByteArray), vi = .int .i64 i ∧ vs = .string s ∧ i ≤ f6.length ∧ Hid (bl s = [114, 101, 99, 101, 105, 118, 101, 32, 123] ++ prAL (f6.take i)) ∧ Hid (Below w2.heap.size w2 wr)) (fun vi _ _ => f6.length - (intOf vi).toNat)
    case atStart => exact ⟨0, ⟨#[114, 101, 99, 101, 105, 118, 101, 32, 123]⟩, by go_num, rfl, Nat.zero_le _, Lib.hid (by simp [prAL, bl]), Lib.hid (Below.refl _ _)⟩
    case round =>
    obtain ⟨i, s, rfl, rfl, hil, HS, HQ⟩ := hrel
    obtain ⟨wq, hwq⟩ : ∃ wq, wq = wr := ⟨_, rfl⟩
    subst hwq
    clear y1 y5 y6
    have y6 := blk_cell (XS.out _ HQ.out) 6
    by_cases hlt : i < f6.length
    · have q1 : (i : Int) < (f6.length : Int) := by omega
      have q0 : (0 : Int) ≤ (i : Int) := by omega
      obtain ⟨ad_, Ap, cp, Ag, cg, B0, b0, B4, b4, B5, b5, B6, b6, hA_, u0, u1, u2, u3, u4, u5, u6, u7, u8, u9, u10, u11, u12, u13, u14, hX_⟩ := at_TArm (HB.out.below HQ.out).g6 (i : Int) q0 q1
      subst hA_
      rw [rdArm f6 i hlt, Int.toNat_natCast] at u0 u1 u2 u3 u4 u5 u6 u7 u8 u9 u10 u11 u12 u13 u14
      rw [rdArm f6 i hlt] at hX_
      obtain ⟨ht1, ht2⟩ := pre_take prAL prAL_app f6 i hlt
      have hone : prAL [f6[i]] = prArm f6[i] := by simp [prAL]
      rw [hone] at ht1 ht2
      have HT := Lib.hid ht1
      have hsz : s.size = 9 + (prAL (f6.take i)).length := by rw [size_bl, HS.out, List.length_append]; rfl
      have HLR := Lib.hid (show s.size + (prArm f6[i]).length ≤ 140737488355328 by have h_ := HLA.out; omega)
      have HGM := Lib.hid (goodAL_mem f6 f6[i] HGA.out (List.getElem_mem hlt))
      have HGL := Lib.hid (goodAL_len f6 f6[i] HGA.out (List.getElem_mem hlt))
      have HE := Lib.hid (HJ.out f6[i] (List.getElem_mem hlt) HGM.out.2.2)
      have HZ := Lib.hid hX_
      clear hX_ ht1 ht2 hone hsz
      generalize f6[i] = x at *
      have HPA := Lib.hid (show prArm x = 32 :: (prP x.1 ++ (prWL x.2.1 ++ (32 :: prB x.2.2))) by obtain ⟨p, g, b⟩ := x; simp only [prArm, prGd])
      have HXp := Lib.hid (show s.size + ((prP x.1).length + ((prWL x.2.1).length + ((prB x.2.2).length + 2))) ≤ 140737488355328 by have h_ := HLR.out; rw [HPA.out] at h_; simp only [List.length_append, List.length_cons] at h_; omega)
      have HX1 := Lib.hid (show (prP x.1).length ≤ 140737488355328 by have := HXp.out; omega)
      have HX2 := Lib.hid (show (prB x.2.2).length ≤ 140737488355328 by have := HXp.out; omega)
      have hs0 : s.size ≤ 140737488355328 := by have := HXp.out; omega
      have hs1 : ¬ 9223372036854775807 < s.size + 1 := by omega
      go_upto_region 13 with fail
      have hal := below_alloc (Below.refl _ wq) (.cells #[.int .i64 x.1.f0, .int .i64 x.1.f1, .int .i64 x.1.f2, .string x.1.f3, .slice Ap x.1.f4.length cp, .slice Ag x.2.1.length cg, .slice B0 x.2.2.f0.length b0, .int .i64 x.2.2.f1, .int .i64 x.2.2.f2, .string x.2.2.f3, .slice B4 x.2.2.f4.length b4, .slice B5 x.2.2.f5.length b5, .slice B6 x.2.2.f6.length b6, .bool x.2.2.f7, .int .i64 x.2.2.f8] 85)
      have Y4 := Lib.hid (blk_new wq (.cells #[.int .i64 x.1.f0, .int .i64 x.1.f1, .int .i64 x.1.f2, .string x.1.f3, .slice Ap x.1.f4.length cp, .slice Ag x.2.1.length cg, .slice B0 x.2.2.f0.length b0, .int .i64 x.2.2.f1, .int .i64 x.2.2.f2, .string x.2.2.f3, .slice B4 x.2.2.f4.length b4, .slice B5 x.2.2.f5.length b5, .slice B6 x.2.2.f6.length b6, .bool x.2.2.f7, .int .i64 x.2.2.f8] 85))
      have Q4 := Lib.hid (below_step HQ.out hal)
      have P4 := Lib.hid (Kd.C_below HZ.out.2.1 hal)
      have E4 := Lib.hid (Kd.C_below HZ.out.2.2.2.1 hal)
      have D4_ := Lib.hid (HZ.out.2.2.2.2.below hal)
      clear hal u0 u1 u2 u3 u4 u5 u6 u7 u8 u9 u10 u11 u12 u13 u14 y6
      generalize wq.alloc (.cells #[.int .i64 x.1.f0, .int .i64 x.1.f1, .int .i64 x.1.f2, .string x.1.f3, .slice Ap x.1.f4.length cp, .slice Ag x.2.1.length cg, .slice B0 x.2.2.f0.length b0, .int .i64 x.2.2.f1, .int .i64 x.2.2.f2, .string x.2.2.f3, .slice B4 x.2.2.f4.length b4, .slice B5 x.2.2.f5.length b5, .slice B6 x.2.2.f6.length b6, .bool x.2.2.f7, .int .i64 x.2.2.f8] 85) = w4 at *
      generalize wq.heap.size = ga at *
      have z0 := blk_cell Y4.out 0
      have z1 := blk_cell Y4.out 1
      have z2 := blk_cell Y4.out 2
      have z3 := blk_cell Y4.out 3
      have z4 := blk_cell Y4.out 4
      go_upto_region 14 with (go_at_call 75; refine (XP_call x.1 HGM.out.1 Ap cp _ P4.out HZ.out.1 HX1.out).mono ?_; rintro e w5 ⟨r1, rfl, hr, hd⟩; have Q5 := Lib.hid (below_step Q4.out hd); have Y5 := Lib.hid (blk_below Y4.out hd); have E5 := Lib.hid (Kd.C_below E4.out hd); have D5_ := Lib.hid (D4_.out.below hd); have HR1 := Lib.hid hr; have hrs1 : r1.size ≤ 140737488355328 := (by rw [size_bl, hr]; exact HX1.out); have hz1 : ¬ 9223372036854775807 < s.size + 1 + r1.size := (by omega); clear hd hr)
      clear z0 z1 z2 z3 z4
      have z5 := blk_cell Y5.out 5
      have HS2 := Lib.hid (show bl ((s ++ ⟨#[32]⟩) ++ r1) = bl s ++ (32 :: prP x.1) by rw [bl_app, bl_app, HR1.out]; simp [bl])
      have hsz2 : ((s ++ ⟨#[32]⟩) ++ r1).size = s.size + ((prP x.1).length + 1) := by rw [size_bl, HS2.out, List.length_append, List.length_cons, ← size_bl]
      generalize ((s ++ ⟨#[32]⟩) ++ r1) = s2 at *
      have HX5 := Lib.hid (show s2.size + ((prWL x.2.1).length + ((prB x.2.2).length + 1)) ≤ 140737488355328 by have := HXp.out; omega)
      clear hsz2 hs0 hs1 hz1 hrs1
      rcases HGL.out with hg0 | ⟨g, hg1⟩
      · have HPW := Lib.hid (show prWL x.2.1 = [] by rw [hg0]; rfl)
        have hgl0 : ¬ (x.2.1.length : Int) > 0 := by rw [hg0]; decide
        have hs0 : s2.size ≤ 140737488355328 := by have := HX5.out; omega
        have hs1 : ¬ 9223372036854775807 < s2.size + 1 := by omega
        clear hg0
        go_upto_region 16 with fail
        have z6 := blk_cell Y5.out 6
        have z7 := blk_cell Y5.out 7
        have z8 := blk_cell Y5.out 8
        have z9 := blk_cell Y5.out 9
        have z10 := blk_cell Y5.out 10
        have z11 := blk_cell Y5.out 11
        have z12 := blk_cell Y5.out 12
        have z13 := blk_cell Y5.out 13
        have z14 := blk_cell Y5.out 14
        go_wp2_with (go_at_call 30; refine (HE.out B0 b0 B4 b4 B5 b5 B6 b6 _ D5_.out HX2.out).mono ?_; rintro e w6 ⟨r2, rfl, hr, hd⟩; have Q6 := Lib.hid (below_step Q5.out hd); have HR2 := Lib.hid hr; have hrs2 : r2.size ≤ 140737488355328 := (by rw [size_bl, hr]; exact HX2.out); have hz1 : ¬ 9223372036854775807 < s2.size + 1 + r2.size := (by omega); clear hd hr)
        go_roundw
        case rel => first | exact ⟨i + 1, _, by go_num, rfl, hlt, Lib.hid (by rw [bl_app, bl_app, HS2.out, HR2.out, HS.out, HT.out, HPA.out, HPW.out]; simp [bl]), Q6⟩ | exact ⟨i + 1, by go_num, ⟨_, rfl⟩, hlt, Lib.hid (by rw [bl_app, bl_app, HS2.out, HR2.out, HS.out, HT.out, HPA.out, HPW.out]; simp [bl]), Q6⟩
        case measure => simp [intOf]; omega
      · have HPW := Lib.hid (show prWL x.2.1 = [32, 119, 104, 101, 110, 32] ++ prE g by rw [hg1]; simp [prWL])
        have hgl0 : (x.2.1.length : Int) > 0 := by rw [hg1]; simp
        have hgg : goodE g = true := goodEL_mem _ g HGM.out.2.1 (by rw [hg1]; simp)
        have hE6 := E5.out
        rw [hg1] at hE6
        obtain ⟨ae, Ay, cy, hAe, hcy, hCy, hU⟩ := first31 hE6
        subst hAe
        have HU := Lib.hid hU
        have HCy := Lib.hid hCy
        have HX6 := Lib.hid (show s2.size + (6 + (prE g).length + ((prB x.2.2).length + 1)) ≤ 140737488355328 by have h_ := HX5.out; rw [HPW.out] at h_; simp only [List.length_append, List.length_cons, List.length_nil] at h_; omega)
        have HX7 := Lib.hid (show (prE g).length ≤ 140737488355328 by have := HX6.out; omega)
        have hs0 : s2.size ≤ 140737488355328 := by have := HX6.out; omega
        have hs1 : ¬ 9223372036854775807 < s2.size + 6 := by omega
        have hlb : x.2.1.length ≤ 9223372036854775807 := by rw [hg1]; simp
        clear hg1 hE6 hU hCy
        obtain ⟨t0, t1, t2, t3, t4⟩ := HU.out _ (Below.refl _ _)
        go_upto_region 16 with (go_at_call 58; refine (XE_call g hgg Ay cy _ HCy.out hcy HX7.out).mono ?_; rintro e w6 ⟨r3, rfl, hr, hd⟩; have Q6 := Lib.hid (below_step Q5.out hd); have Y6 := Lib.hid (blk_below Y5.out hd); have D6_ := Lib.hid (D5_.out.below hd); have HR3 := Lib.hid hr; have hrs3 : r3.size ≤ 140737488355328 := (by rw [size_bl, hr]; exact HX7.out); have hz1 : ¬ 9223372036854775807 < s2.size + 6 + r3.size := (by omega); clear hd hr)
        clear t0 t1 t2 t3 t4 z5
        have HS3 := Lib.hid (show bl ((s2 ++ ⟨#[32, 119, 104, 101, 110, 32]⟩) ++ r3) = bl s2 ++ ([32, 119, 104, 101, 110, 32] ++ prE g) by rw [bl_app, bl_app, HR3.out]; simp [bl])
        have hsz3 : ((s2 ++ ⟨#[32, 119, 104, 101, 110, 32]⟩) ++ r3).size = s2.size + (6 + (prE g).length) := by rw [size_bl, HS3.out, List.length_append, List.length_append, ← size_bl]; rfl
        generalize ((s2 ++ ⟨#[32, 119, 104, 101, 110, 32]⟩) ++ r3) = s3 at *
        have hs0' : s3.size ≤ 140737488355328 := by have := HX6.out; omega
        have hs1' : ¬ 9223372036854775807 < s3.size + 1 := by omega
        clear hsz3 hs0 hs1 hz1 hrs3
        have z6 := blk_cell Y6.out 6
        have z7 := blk_cell Y6.out 7
        have z8 := blk_cell Y6.out 8
        have z9 := blk_cell Y6.out 9
        have z10 := blk_cell Y6.out 10
        have z11 := blk_cell Y6.out 11
        have z12 := blk_cell Y6.out 12
        have z13 := blk_cell Y6.out 13
        have z14 := blk_cell Y6.out 14
        go_wp2_with (go_at_call 30; refine (HE.out B0 b0 B4 b4 B5 b5 B6 b6 _ D6_.out HX2.out).mono ?_; rintro e w7 ⟨r2, rfl, hr, hd⟩; have Q7 := Lib.hid (below_step Q6.out hd); have HR2 := Lib.hid hr; have hrs2 : r2.size ≤ 140737488355328 := (by rw [size_bl, hr]; exact HX2.out); have hz1 : ¬ 9223372036854775807 < s3.size + 1 + r2.size := (by omega); clear hd hr)
        go_roundw
        case rel => first | exact ⟨i + 1, _, by go_num, rfl, hlt, Lib.hid (by rw [bl_app, bl_app, HS3.out, HS2.out, HR2.out, HS.out, HT.out, HPA.out, HPW.out]; simp [bl]), Q7⟩ | exact ⟨i + 1, by go_num, ⟨_, rfl⟩, hlt, Lib.hid (by rw [bl_app, bl_app, HS3.out, HS2.out, HR2.out, HS.out, HT.out, HPA.out, HPW.out]; simp [bl]), Q7⟩
        case measure => simp [intOf]; omega
    · obtain rfl : i = f6.length := by omega
      have hg_ := HS.out
      rw [List.take_length] at hg_
      have HG_ := Lib.hid hg_
      have hss : s.size = 9 + (prAL f6).length := by rw [size_bl, hg_, List.length_append]; rfl
      have BQ := Lib.hid (below_step BW.out HQ.out)
      have XQ := Lib.hid (XS.out _ HQ.out)
      have CB := Lib.hid (HB.out.below HQ.out)
      clear hg_ HS
      have y7 := blk_cell XQ.out 7
      have y8 := blk_cell XQ.out 8
      have y5 := blk_cell XQ.out 5
      cases f7 with
      | false =>
        have hs0 : s.size ≤ 140737488355328 := by have := HLA.out; omega
        have hs1 : ¬ 9223372036854775807 < s.size + 2 := by omega
        clear hss
        go_wp2
        go_ret
        exact SaysS.mk' (by rw [HP.out, bl_app, HG_.out]; simp [bl]) BQ.out
      | true =>
        obtain ⟨⟨p, hp⟩, h80, h81⟩ := HLT.out rfl
        subst hp
        have HP2 := Lib.hid (show prEn ⟨f0, 4, f2, f3, f4, [p], f6, true, f8⟩ = [114, 101, 99, 101, 105, 118, 101, 32, 123] ++ (prAL f6 ++ (([32, 97, 102, 116, 101, 114, 32] ++ (Lib.itoa f8 ++ (32 :: prB p))) ++ [32, 125])) by rw [HP.out]; simp only [prO]; rfl)
        have HX8 := Lib.hid (show s.size + (7 + (Lib.itoa f8).length + ((prB p).length + 3)) ≤ 140737488355328 by have h_ := HL.out; rw [HP2.out] at h_; simp only [List.length_append, List.length_cons, List.length_nil] at h_; omega)
        have HXp := Lib.hid (show (prB p).length ≤ 140737488355328 by have := HX8.out; omega)
        have hA5 : ∃ ad, A5 = some ad := by
          obtain ⟨ad, _, _, _, _, _, _, _, _, h, _⟩ := at_T42 CB.out.g5 0 (by omega) (by simp)
          exact ⟨ad, h⟩
        obtain ⟨ad2, hA5⟩ := hA5
        subst hA5
        obtain ⟨B0, b0, B4, b4, B5, b5, B6, b6, hBp, hU⟩ := first42 CB.out.g5
        have HU := Lib.hid hU
        have HBP := Lib.hid hBp
        have HEp := Lib.hid (HI.out p (by simp) (goodBL_mem _ p HGP.out (by simp)))
        have HIT := Lib.hid (show (Lib.itoa f8).length ≤ 21 from Lib.itoa_length_le f8 (by omega) (by omega))
        have XS2 := Lib.hid (fun (W' : World) (h : Below wq.heap.size wq W') => blk_below XQ.out h)
        have hs0 : s.size ≤ 140737488355328 := by have := HX8.out; omega
        have hs1 : ¬ 9223372036854775807 < s.size + 7 := by omega
        clear hU hBp hss
        simp only [List.length_cons, List.length_nil, Nat.zero_add, Nat.reduceAdd] at *
        go_upto_region 18 with fail
        clear y5 y7 y8 y6
        have BD := Lib.hid (Below.refl wq.heap.size wq).drew
        refine start_ (n := 14) (S := fun w' => w'.cell? ⟨gx, 8, none⟩ = some (.int .i64 f8) ∧ w'.cell? ⟨gx, 5, none⟩ = some (.slice (some ad2) 1 c5) ∧ w'.cell? ad2 = some (.slice B0 p.f0.length b0) ∧ w'.cell? ⟨ad2.block, ad2.off + 1, none⟩ = some (.int .i64 p.f1) ∧ w'.cell? ⟨ad2.block, ad2.off + 2, none⟩ = some (.int .i64 p.f2) ∧ w'.cell? ⟨ad2.block, ad2.off + 3, none⟩ = some (.string p.f3) ∧ w'.cell? ⟨ad2.block, ad2.off + 4, none⟩ = some (.slice B4 p.f4.length b4) ∧ w'.cell? ⟨ad2.block, ad2.off + 5, none⟩ = some (.slice B5 p.f5.length b5) ∧ w'.cell? ⟨ad2.block, ad2.off + 6, none⟩ = some (.slice B6 p.f6.length b6) ∧ w'.cell? ⟨ad2.block, ad2.off + 7, none⟩ = some (.bool p.f7) ∧ w'.cell? ⟨ad2.block, ad2.off + 8, none⟩ = some (.int .i64 p.f8)) (ds := []) #[false, false, false, false, false, false, false, false, false, false, false, false, false, false] (by kernel_rfl) rfl rfl ⟨(blk_cell (XS2.out _ BD.out) 8), (blk_cell (XS2.out _ BD.out) 5), (HU.out _ BD.out).1, (HU.out _ BD.out).2.1, (HU.out _ BD.out).2.2.1, (HU.out _ BD.out).2.2.2.1, (HU.out _ BD.out).2.2.2.2.1, (HU.out _ BD.out).2.2.2.2.2.1, (HU.out _ BD.out).2.2.2.2.2.2.1, (HU.out _ BD.out).2.2.2.2.2.2.2.1, (HU.out _ BD.out).2.2.2.2.2.2.2.2⟩ (fun hHeld => ?_)
        generalize wq.drew = WD at *
        refine pure_ (i := 0) (N := some 81) (v := ?_) (a' := ?_) #[true, false, false, false, false, false, false, false, false, false, false, false, false, false] rfl rfl (by kernel_rfl) (fun _ _ _ h => h) (Or.inl ⟨by rfl, ?_⟩) ?_ ?_
        rotate_left
        · intro w'
          go_simp
          with_reducible rfl
        rotate_left
        · simp only [Act.put, List.setIfInBounds_toArray, List.set_cons_zero, List.set_cons_succ, i64_w, i32_w]
          rfl
        refine pure_ (i := 1) (N := some 82) (v := ?_) (a' := ?_) #[true, true, false, false, false, false, false, false, false, false, false, false, false, false] rfl rfl (by kernel_rfl) (fun _ _ _ h => h) (Or.inl ⟨by rfl, ?_⟩) ?_ ?_
        rotate_left
        · intro w'
          go_simp
          with_reducible rfl
        rotate_left
        · simp only [Act.put, List.setIfInBounds_toArray, List.set_cons_zero, List.set_cons_succ, i64_w, i32_w]
          rfl
        refine pure_ (i := 2) (N := some 83) (v := ?_) (a' := ?_) #[true, true, true, false, false, false, false, false, false, false, false, false, false, false] rfl rfl (by kernel_rfl) (fun _ _ _ h => h) (Or.inl ⟨by rfl, ?_⟩) ?_ ?_
        rotate_left
        · intro w'
          go_simp
          with_reducible rfl
        rotate_left
        · simp only [Act.put, List.setIfInBounds_toArray, List.set_cons_zero, List.set_cons_succ, i64_w, i32_w]
          rfl
        refine pure_ (i := 7) (N := some 88) (v := ?_) (a' := ?_) #[true, true, true, false, false, false, false, true, false, false, false, false, false, false] rfl rfl (by kernel_rfl) (fun _ _ _ h => h) (Or.inl ⟨by rfl, ?_⟩) ?_ ?_
        rotate_left
        · intro w'
          go_simp
          with_reducible rfl
        rotate_left
        · simp only [Act.put, List.setIfInBounds_toArray, List.set_cons_zero, List.set_cons_succ, i64_w, i32_w]
          rfl
        refine take_ (i := 3) (N := some 84) (v := ?_) (a' := ?_) #[true, true, true, true, false, false, false, true, false, false, false, false, false, false] rfl rfl (by kernel_rfl) (fun _ _ _ h => h) (Or.inl ⟨by rfl, ?_⟩) hHeld ?_ ?_
        rotate_left
        · rintro w' ⟨s0, s1, s2, s3, s4, s5, s6, s7, s8, s9, s10⟩
          go_simp
          with_reducible rfl
        rotate_left
        · simp only [Act.put, List.setIfInBounds_toArray, List.set_cons_zero, List.set_cons_succ, i64_w, i32_w]
          rfl
        refine take_ (i := 8) (N := some 89) (v := ?_) (a' := ?_) #[true, true, true, true, false, false, false, true, true, false, false, false, false, false] rfl rfl (by kernel_rfl) (fun _ _ _ h => h) (Or.inl ⟨by rfl, ?_⟩) hHeld ?_ ?_
        rotate_left
        · rintro w' ⟨s0, s1, s2, s3, s4, s5, s6, s7, s8, s9, s10⟩
          go_simp
          with_reducible rfl
        rotate_left
        · simp only [Act.put, List.setIfInBounds_toArray, List.set_cons_zero, List.set_cons_succ, i64_w, i32_w]
          rfl
        refine pure_ (i := 9) (N := some 90) (v := ?_) (a' := ?_) #[true, true, true, true, false, false, false, true, true, true, false, false, false, false] rfl rfl (by kernel_rfl) (fun _ _ _ h => h) (Or.inl ⟨by rfl, ?_⟩) ?_ ?_
        rotate_left
        · intro w'
          go_simp
          with_reducible rfl
        rotate_left
        · simp only [Act.put, List.setIfInBounds_toArray, List.set_cons_zero, List.set_cons_succ, i64_w, i32_w]
          rfl
        refine take_ (i := 10) (N := some 91) (v := ?_) (a' := ?_) #[true, true, true, true, false, false, false, true, true, true, true, false, false, false] rfl rfl (by kernel_rfl) (fun _ _ _ h => h) (Or.inl ⟨by rfl, ?_⟩) hHeld ?_ ?_
        rotate_left
        · rintro w' ⟨s0, s1, s2, s3, s4, s5, s6, s7, s8, s9, s10⟩
          go_simp
          with_reducible rfl
        rotate_left
        · simp only [Act.put, List.setIfInBounds_toArray, List.set_cons_zero, List.set_cons_succ, i64_w, i32_w]
          rfl
        refine one_ (i := 4) (N := some 85) #[true, true, true, true, true, false, false, true, true, true, true, false, false, false] rfl rfl (by kernel_rfl) (by decide) (fun K hK => ?_)
        refine goes_ Tryd.func76 (by kernel_rfl) rfl #[.int .i64 f8] (by rfl) rfl rfl (by simp only [List.map_toArray, List.map_cons, List.map_nil]; rfl) ?_
        with_reducible refine (number_says f8 (by omega) (by omega) _).mono ?_
        rintro e w3 ⟨r1, rfl, hr, hd⟩
        refine ⟨_, rfl, ?_⟩
        have B3 := Lib.hid (below_step BD.out hd)
        have HR1 := Lib.hid hr
        have hrs1 : r1.size ≤ 21 := by rw [size_bl, hr]; exact HIT.out
        have hs3 : ¬ 9223372036854775807 < s.size + 7 + r1.size := by omega
        have hs4 : ¬ 9223372036854775807 < s.size + 7 + r1.size + 1 := by omega
        refine hK.out _ _ ⟨(blk_cell (XS2.out _ B3.out) 8), (blk_cell (XS2.out _ B3.out) 5), (HU.out _ B3.out).1, (HU.out _ B3.out).2.1, (HU.out _ B3.out).2.2.1, (HU.out _ B3.out).2.2.2.1, (HU.out _ B3.out).2.2.2.2.1, (HU.out _ B3.out).2.2.2.2.2.1, (HU.out _ B3.out).2.2.2.2.2.2.1, (HU.out _ B3.out).2.2.2.2.2.2.2.1, (HU.out _ B3.out).2.2.2.2.2.2.2.2⟩ (fun hHeld => ?_)
        clear hK K
        refine norm_ (a' := ?_) ?_ ?_
        rotate_left
        · show Act.put _ (some 85) _ = _
          simp only [Act.put, List.setIfInBounds_toArray, List.set_cons_zero, List.set_cons_succ, i64_w, i32_w]
          rfl
        refine pure_ (i := 5) (N := some 86) (v := ?_) (a' := ?_) #[true, true, true, true, true, true, false, true, true, true, true, false, false, false] rfl rfl (by kernel_rfl) (fun _ _ _ h => h) (Or.inl ⟨by rfl, ?_⟩) ?_ ?_
        rotate_left
        · intro w'
          go_simp
          with_reducible rfl
        rotate_left
        · simp only [Act.put, List.setIfInBounds_toArray, List.set_cons_zero, List.set_cons_succ, i64_w, i32_w]
          rfl
        refine pure_ (i := 6) (N := some 87) (v := ?_) (a' := ?_) #[true, true, true, true, true, true, true, true, true, true, true, false, false, false] rfl rfl (by kernel_rfl) (fun _ _ _ h => h) (Or.inl ⟨by rfl, ?_⟩) ?_ ?_
        rotate_left
        · intro w'
          go_simp
          with_reducible rfl
        rotate_left
        · simp only [Act.put, List.setIfInBounds_toArray, List.set_cons_zero, List.set_cons_succ, i64_w, i32_w]
          rfl
        refine one_ (i := 11) (N := some 92) #[true, true, true, true, true, true, true, true, true, true, true, true, false, false] rfl rfl (by kernel_rfl) (by decide) (fun K hK => ?_)
        refine goes_ Tryd.func30 (by kernel_rfl) rfl #[.agg #[.slice B0 p.f0.length b0, .int .i64 p.f1, .int .i64 p.f2, .string p.f3, .slice B4 p.f4.length b4, .slice B5 p.f5.length b5, .slice B6 p.f6.length b6, .bool p.f7, .int .i64 p.f8]] (by rfl) rfl rfl (by simp only [List.map_toArray, List.map_cons, List.map_nil]; rfl) ?_
        with_reducible refine (HEp.out B0 b0 B4 b4 B5 b5 B6 b6 _ (HBP.out.below B3.out) HXp.out).mono ?_
        rintro e w5 ⟨r2, rfl, hr2, hd2⟩
        refine ⟨_, rfl, ?_⟩
        have B5_ := Lib.hid (below_step B3.out hd2)
        have HR2 := Lib.hid hr2
        have hrs2 : r2.size ≤ 140737488355328 := by rw [size_bl, hr2]; exact HXp.out
        have hs5 : ¬ 9223372036854775807 < s.size + 7 + r1.size + 1 + r2.size := by omega
        refine hK.out _ _ ⟨(blk_cell (XS2.out _ B5_.out) 8), (blk_cell (XS2.out _ B5_.out) 5), (HU.out _ B5_.out).1, (HU.out _ B5_.out).2.1, (HU.out _ B5_.out).2.2.1, (HU.out _ B5_.out).2.2.2.1, (HU.out _ B5_.out).2.2.2.2.1, (HU.out _ B5_.out).2.2.2.2.2.1, (HU.out _ B5_.out).2.2.2.2.2.2.1, (HU.out _ B5_.out).2.2.2.2.2.2.2.1, (HU.out _ B5_.out).2.2.2.2.2.2.2.2⟩ (fun hHeld => ?_)
        clear hK K
        refine norm_ (a' := ?_) ?_ ?_
        rotate_left
        · show Act.put _ (some 92) _ = _
          simp only [Act.put, List.setIfInBounds_toArray, List.set_cons_zero, List.set_cons_succ, i64_w, i32_w]
          rfl
        refine pure_ (i := 12) (N := some 93) (v := ?_) (a' := ?_) #[true, true, true, true, true, true, true, true, true, true, true, true, true, false] rfl rfl (by kernel_rfl) (fun _ _ _ h => h) (Or.inl ⟨by rfl, ?_⟩) ?_ ?_
        rotate_left
        · intro w'
          go_simp
          with_reducible rfl
        rotate_left
        · simp only [Act.put, List.setIfInBounds_toArray, List.set_cons_zero, List.set_cons_succ, i64_w, i32_w]
          rfl
        refine pure_ (i := 13) (N := some 3) (v := ?_) (a' := ?_) #[true, true, true, true, true, true, true, true, true, true, true, true, true, true] rfl rfl (by kernel_rfl) (fun _ _ _ h => h) (Or.inl ⟨by rfl, ?_⟩) ?_ ?_
        rotate_left
        · intro w'
          go_simp
          with_reducible rfl
        rotate_left
        · simp only [Act.put, List.setIfInBounds_toArray, List.set_cons_zero, List.set_cons_succ, i64_w, i32_w]
          rfl
        refine done_ (by kernel_rfl) ?_
        clear hHeld
        have hs9 : ¬ 9223372036854775807 < s.size + 7 + r1.size + 1 + r2.size + 2 := by omega
        go_wp2
        go_ret
        exact SaysS.mk' (by rw [HP2.out]; simp only [bl_app, bl_mk, HG_.out, HR1.out, HR2.out]; simp) (below_step BQ.out B5_.out)
end Go.Proofs.YtjboncbmeanlgaaDoor.Tr
