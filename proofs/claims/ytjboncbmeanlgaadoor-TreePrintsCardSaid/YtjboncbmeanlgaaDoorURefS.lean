/- RefS -/
import Derived.Test.YtjboncbmeanlgaaDoorURefP
/- The document's text of statements. -/
set_option linter.unusedVariables false
set_option linter.unusedSimpArgs false
namespace Go.Proofs.YtjboncbmeanlgaaDoor.Tr
open Go.RowKit Go.Proofs Go.Proofs.YtjboncbmeanlgaaDoor.PTreePrints Go.Proofs.YtjboncbmeanlgaaDoorW.PrintWords Go.Proofs.YtjboncbmeanlgaaDoorW.PrintMore Go.Proofs.YtjboncbmeanlgaaDoorW.PrintLast
/-- A statement's text, but for the blank behind it. -/
def prS0 (x : S37) : List UInt8 :=
  (if x.f0 = 1 then [108, 101, 116, 32] ++ (bl x.f2 ++ ([32, 61, 32] ++ prH x.f4)) else if x.f0 = 2 then [108, 101, 116, 32] ++ (bl x.f2 ++ ([32, 61, 32, 115, 112, 97, 119, 110, 32] ++ (bl x.f3 ++ (40 :: (prEL x.f4 ++ [41]))))) else if x.f0 = 3 then [115, 101, 110, 100, 32] ++ prEL x.f4 else [111, 117, 116, 32] ++ prH x.f4) ++ [59]
theorem prS_eq (x : S37) : prS x = prS0 x ++ [32] := by unfold prS prS0; rw [List.append_assoc]; rfl
set_option maxRecDepth 100000 in
set_option maxHeartbeats 16000000 in
theorem XS_call (x : S37) (hG : goodSt x = true) (A : Option Addr) (c : Nat) (w : World) (hC : Kd.C k31 w A x.f4.length x.f4) (hc : x.f4.length ≤ c) (hl : (prS0 x).length ≤ 140737488355328) :
    Calls Tryd.prog 56 #[.agg #[.int .i64 x.f0, .int .i64 x.f1, .string x.f2, .string x.f3, .slice A x.f4.length c]] w (SaysS (prS0 x) w) := by
  obtain ⟨xk, xa, xs, xt, args⟩ := x
  simp only at hC hc ⊢
  have hlen := C_len hC
  have HC0 := Lib.hid hC
  have HL := Lib.hid hl
  clear hC hl
  go_enter Tryd.func56, Tryd.ntmps56
  have hal := below_alloc (Below.refl _ w) (.cells #[.int .i64 xk, .int .i64 xa, .string xs, .string xt, .slice A args.length c] 37)
  have XB := Lib.hid (blk_new w (.cells #[.int .i64 xk, .int .i64 xa, .string xs, .string xt, .slice A args.length c] 37))
  have B2 := Lib.hid hal
  have HC := Lib.hid (Kd.C_below HC0.out hal)
  clear hal HC0
  go_upto_region 1 with fail
  generalize w.alloc (.cells #[.int .i64 xk, .int .i64 xa, .string xs, .string xt, .slice A args.length c] 37) = w2 at *
  generalize hgx : w.heap.size = gx at *
  have BW := Lib.hid (show Below w.heap.size w w2 by rw [hgx]; exact B2.out)
  clear B2 hgx
  have y0 := blk_cell XB.out 0
  have y2 := blk_cell XB.out 2
  have y3 := blk_cell XB.out 3
  have y4 := blk_cell XB.out 4
  have XS := Lib.hid (fun (W' : World) (h : Below w2.heap.size w2 W') => blk_below XB.out h)
  rcases goodSt_cases hG with ⟨rfl, h0, p, rfl, hgp⟩ | ⟨rfl, h0, h0', hgl⟩ | ⟨rfl, hgl⟩ | ⟨rfl, p, rfl, hgp⟩
  · -- let
    have HP := Lib.hid (show prS0 ⟨1, xa, xs, xt, [p]⟩ = ([108, 101, 116, 32] ++ (bl xs ++ ([32, 61, 32] ++ prE p))) ++ [59] by unfold prS0; first | rfl | (rw [if_pos rfl]; rfl))
    have HX := Lib.hid (show (prE p).length ≤ 140737488355328 by have h := HL.out; rw [HP.out] at h; simp only [List.length_cons, List.length_append, List.length_nil] at h; omega)
    obtain ⟨ad, A5, c5, hA, hc5, hC5, hU⟩ := first31 HC.out
    subst hA
    have HU := Lib.hid hU
    have HC5 := Lib.hid hC5
    clear hU hC5
    simp only [List.length_cons, List.length_nil, Nat.zero_add] at *
    have HEp := Lib.hid (XE_call p hgp)
    have hs1 : ¬ 9223372036854775807 < 4 + xs.size := by omega
    have hs2 : ¬ 9223372036854775807 < 4 + xs.size + 3 := by omega
    go_upto_region 3 with fail
    clear y0 y2 y3 y4
    have BD := Lib.hid (Below.refl w2.heap.size w2).drew
    refine start_ (n := 12) (S := fun w' => w'.cell? ⟨gx, 2, none⟩ = some (.string xs) ∧ w'.cell? ⟨gx, 4, none⟩ = some (.slice (some ad) 1 c) ∧ w'.cell? ad = some (.int .i64 p.f0) ∧ w'.cell? ⟨ad.block, ad.off + 1, none⟩ = some (.int .i64 p.f1) ∧ w'.cell? ⟨ad.block, ad.off + 2, none⟩ = some (.int .i64 p.f2) ∧ w'.cell? ⟨ad.block, ad.off + 3, none⟩ = some (.string p.f3) ∧ w'.cell? ⟨ad.block, ad.off + 4, none⟩ = some (.slice A5 p.f4.length c5)) (ds := []) #[false, false, false, false, false, false, false, false, false, false, false, false] (by kernel_rfl) rfl rfl ⟨(blk_cell (XS.out _ BD.out) 2), (blk_cell (XS.out _ BD.out) 4), (HU.out _ BD.out).1, (HU.out _ BD.out).2.1, (HU.out _ BD.out).2.2.1, (HU.out _ BD.out).2.2.2.1, (HU.out _ BD.out).2.2.2.2⟩ (fun hHeld => ?_)
    generalize w2.drew = WD at *
    refine pure_ (i := 0) (N := some 7) (v := ?_) (a' := ?_) #[true, false, false, false, false, false, false, false, false, false, false, false] rfl rfl (by kernel_rfl) (fun _ _ _ h => h) (Or.inl ⟨by rfl, ?_⟩) ?_ ?_
    rotate_left
    · intro w'
      go_simp
      with_reducible rfl
    rotate_left
    · simp only [Act.put, List.setIfInBounds_toArray, List.set_cons_zero, List.set_cons_succ, i64_w, i32_w]
      rfl
    refine pure_ (i := 4) (N := some 11) (v := ?_) (a' := ?_) #[true, false, false, false, true, false, false, false, false, false, false, false] rfl rfl (by kernel_rfl) (fun _ _ _ h => h) (Or.inl ⟨by rfl, ?_⟩) ?_ ?_
    rotate_left
    · intro w'
      go_simp
      with_reducible rfl
    rotate_left
    · simp only [Act.put, List.setIfInBounds_toArray, List.set_cons_zero, List.set_cons_succ, i64_w, i32_w]
      rfl
    refine take_ (i := 1) (N := some 8) (v := ?_) (a' := ?_) #[true, true, false, false, true, false, false, false, false, false, false, false] rfl rfl (by kernel_rfl) (fun _ _ _ h => h) (Or.inl ⟨by rfl, ?_⟩) hHeld ?_ ?_
    rotate_left
    · rintro w' ⟨s0, s1, s2, s3, s4, s5, s6⟩
      go_simp
      with_reducible rfl
    rotate_left
    · simp only [Act.put, List.setIfInBounds_toArray, List.set_cons_zero, List.set_cons_succ, i64_w, i32_w]
      rfl
    refine pure_ (i := 2) (N := some 9) (v := ?_) (a' := ?_) #[true, true, true, false, true, false, false, false, false, false, false, false] rfl rfl (by kernel_rfl) (fun _ _ _ h => h) (Or.inl ⟨by rfl, ?_⟩) ?_ ?_
    rotate_left
    · intro w'
      go_simp
      with_reducible rfl
    rotate_left
    · simp only [Act.put, List.setIfInBounds_toArray, List.set_cons_zero, List.set_cons_succ, i64_w, i32_w]
      rfl
    refine pure_ (i := 3) (N := some 10) (v := ?_) (a' := ?_) #[true, true, true, true, true, false, false, false, false, false, false, false] rfl rfl (by kernel_rfl) (fun _ _ _ h => h) (Or.inl ⟨by rfl, ?_⟩) ?_ ?_
    rotate_left
    · intro w'
      go_simp
      with_reducible rfl
    rotate_left
    · simp only [Act.put, List.setIfInBounds_toArray, List.set_cons_zero, List.set_cons_succ, i64_w, i32_w]
      rfl
    refine take_ (i := 5) (N := some 12) (v := ?_) (a' := ?_) #[true, true, true, true, true, true, false, false, false, false, false, false] rfl rfl (by kernel_rfl) (fun _ _ _ h => h) (Or.inl ⟨by rfl, ?_⟩) hHeld ?_ ?_
    rotate_left
    · rintro w' ⟨s0, s1, s2, s3, s4, s5, s6⟩
      go_simp
      with_reducible rfl
    rotate_left
    · simp only [Act.put, List.setIfInBounds_toArray, List.set_cons_zero, List.set_cons_succ, i64_w, i32_w]
      rfl
    refine pure_ (i := 6) (N := some 13) (v := ?_) (a' := ?_) #[true, true, true, true, true, true, true, false, false, false, false, false] rfl rfl (by kernel_rfl) (fun _ _ _ h => h) (Or.inl ⟨by rfl, ?_⟩) ?_ ?_
    rotate_left
    · intro w'
      go_simp
      with_reducible rfl
    rotate_left
    · simp only [Act.put, List.setIfInBounds_toArray, List.set_cons_zero, List.set_cons_succ, i64_w, i32_w]
      rfl
    refine take_ (i := 7) (N := some 14) (v := ?_) (a' := ?_) #[true, true, true, true, true, true, true, true, false, false, false, false] rfl rfl (by kernel_rfl) (fun _ _ _ h => h) (Or.inl ⟨by rfl, ?_⟩) hHeld ?_ ?_
    rotate_left
    · rintro w' ⟨s0, s1, s2, s3, s4, s5, s6⟩
      go_simp
      with_reducible rfl
    rotate_left
    · simp only [Act.put, List.setIfInBounds_toArray, List.set_cons_zero, List.set_cons_succ, i64_w, i32_w]
      rfl
    refine one_ (i := 8) (N := some 15) #[true, true, true, true, true, true, true, true, true, false, false, false] rfl rfl (by kernel_rfl) (by decide) (fun K hK => ?_)
    refine goes_ Tryd.func58 (by kernel_rfl) rfl #[.agg #[.int .i64 p.f0, .int .i64 p.f1, .int .i64 p.f2, .string p.f3, .slice A5 p.f4.length c5]] (by rfl) rfl rfl (by simp only [List.map_toArray, List.map_cons, List.map_nil]; rfl) ?_
    with_reducible refine (HEp.out A5 c5 _ (Kd.C_below HC5.out BD.out) hc5 HX.out).mono ?_
    rintro e w3 ⟨r, rfl, hr, hd⟩
    refine ⟨_, rfl, ?_⟩
    have B3 := Lib.hid (below_step BD.out hd)
    have HR := Lib.hid hr
    have hrs : r.size ≤ 140737488355328 := by rw [size_bl, hr]; exact HX.out
    have hs3 : ¬ 9223372036854775807 < 4 + xs.size + 3 + r.size := by omega
    have hs4 : ¬ 9223372036854775807 < 4 + xs.size + 3 + r.size + 1 := by omega
    refine hK.out _ _ ⟨(blk_cell (XS.out _ B3.out) 2), (blk_cell (XS.out _ B3.out) 4), (HU.out _ B3.out).1, (HU.out _ B3.out).2.1, (HU.out _ B3.out).2.2.1, (HU.out _ B3.out).2.2.2.1, (HU.out _ B3.out).2.2.2.2⟩ (fun hHeld => ?_)
    clear hK K
    refine norm_ (a' := ?_) ?_ ?_
    rotate_left
    · show Act.put _ (some 15) _ = _
      simp only [Act.put, List.setIfInBounds_toArray, List.set_cons_zero, List.set_cons_succ, i64_w, i32_w]
      rfl
    refine pure_ (i := 9) (N := some 16) (v := ?_) (a' := ?_) #[true, true, true, true, true, true, true, true, true, true, false, false] rfl rfl (by kernel_rfl) (fun _ _ _ h => h) (Or.inl ⟨by rfl, ?_⟩) ?_ ?_
    rotate_left
    · intro w'
      go_simp
      with_reducible rfl
    rotate_left
    · simp only [Act.put, List.setIfInBounds_toArray, List.set_cons_zero, List.set_cons_succ, i64_w, i32_w]
      rfl
    refine pure_ (i := 10) (N := some 17) (v := ?_) (a' := ?_) #[true, true, true, true, true, true, true, true, true, true, true, false] rfl rfl (by kernel_rfl) (fun _ _ _ h => h) (Or.inl ⟨by rfl, ?_⟩) ?_ ?_
    rotate_left
    · intro w'
      go_simp
      with_reducible rfl
    rotate_left
    · simp only [Act.put, List.setIfInBounds_toArray, List.set_cons_zero, List.set_cons_succ, i64_w, i32_w]
      rfl
    refine pure_ (i := 11) (N := some 2) (v := ?_) (a' := ?_) #[true, true, true, true, true, true, true, true, true, true, true, true] rfl rfl (by kernel_rfl) (fun _ _ _ h => h) (Or.inl ⟨by rfl, ?_⟩) ?_ ?_
    rotate_left
    · intro w'
      go_simp
      with_reducible rfl
    rotate_left
    · simp only [Act.put, List.setIfInBounds_toArray, List.set_cons_zero, List.set_cons_succ, i64_w, i32_w]
      rfl
    refine done_ (by kernel_rfl) ?_
    clear hHeld
    go_wp2
    go_ret
    exact SaysS.mk' (by rw [HP.out]; simp only [bl_app, bl_mk, HR.out]; try simp) (below_step BW.out B3.out)
  · -- spawn
    have HP := Lib.hid (show prS0 ⟨2, xa, xs, xt, args⟩ = ([108, 101, 116, 32] ++ (bl xs ++ ([32, 61, 32, 115, 112, 97, 119, 110, 32] ++ (bl xt ++ (40 :: (prEL args ++ [41])))))) ++ [59] by unfold prS0; rw [if_neg (show ¬ (2 : Int) = 1 by decide)]; first | rfl | (rw [if_pos rfl]; rfl))
    have HX := Lib.hid (show (prEL args).length ≤ 140737488355328 by have h := HL.out; rw [HP.out] at h; simp only [List.length_cons, List.length_append, List.length_nil] at h; omega)
    have hs1 : ¬ 9223372036854775807 < 4 + xs.size := by omega
    have hs2 : ¬ 9223372036854775807 < 4 + xs.size + 9 := by omega
    have hs3 : ¬ 9223372036854775807 < 4 + xs.size + 9 + xt.size := by omega
    have hs4 : ¬ 9223372036854775807 < 4 + xs.size + 9 + xt.size + 1 := by omega
    go_upto_region 5 with fail
    clear y0 y2 y3 y4
    have BD := Lib.hid (Below.refl w2.heap.size w2).drew
    refine start_ (n := 14) (S := fun w' => w'.cell? ⟨gx, 2, none⟩ = some (.string xs) ∧ w'.cell? ⟨gx, 3, none⟩ = some (.string xt) ∧ w'.cell? ⟨gx, 4, none⟩ = some (.slice A args.length c)) (ds := []) #[false, false, false, false, false, false, false, false, false, false, false, false, false, false] (by kernel_rfl) rfl rfl ⟨(blk_cell (XS.out _ BD.out) 2), (blk_cell (XS.out _ BD.out) 3), (blk_cell (XS.out _ BD.out) 4)⟩ (fun hHeld => ?_)
    generalize w2.drew = WD at *
    refine pure_ (i := 0) (N := some 20) (v := ?_) (a' := ?_) #[true, false, false, false, false, false, false, false, false, false, false, false, false, false] rfl rfl (by kernel_rfl) (fun _ _ _ h => h) (Or.inl ⟨by rfl, ?_⟩) ?_ ?_
    rotate_left
    · intro w'
      go_simp
      with_reducible rfl
    rotate_left
    · simp only [Act.put, List.setIfInBounds_toArray, List.set_cons_zero, List.set_cons_succ, i64_w, i32_w]
      rfl
    refine pure_ (i := 4) (N := some 24) (v := ?_) (a' := ?_) #[true, false, false, false, true, false, false, false, false, false, false, false, false, false] rfl rfl (by kernel_rfl) (fun _ _ _ h => h) (Or.inl ⟨by rfl, ?_⟩) ?_ ?_
    rotate_left
    · intro w'
      go_simp
      with_reducible rfl
    rotate_left
    · simp only [Act.put, List.setIfInBounds_toArray, List.set_cons_zero, List.set_cons_succ, i64_w, i32_w]
      rfl
    refine pure_ (i := 8) (N := some 28) (v := ?_) (a' := ?_) #[true, false, false, false, true, false, false, false, true, false, false, false, false, false] rfl rfl (by kernel_rfl) (fun _ _ _ h => h) (Or.inl ⟨by rfl, ?_⟩) ?_ ?_
    rotate_left
    · intro w'
      go_simp
      with_reducible rfl
    rotate_left
    · simp only [Act.put, List.setIfInBounds_toArray, List.set_cons_zero, List.set_cons_succ, i64_w, i32_w]
      rfl
    refine take_ (i := 1) (N := some 21) (v := ?_) (a' := ?_) #[true, true, false, false, true, false, false, false, true, false, false, false, false, false] rfl rfl (by kernel_rfl) (fun _ _ _ h => h) (Or.inl ⟨by rfl, ?_⟩) hHeld ?_ ?_
    rotate_left
    · rintro w' ⟨s0, s1, s2⟩
      go_simp
      with_reducible rfl
    rotate_left
    · simp only [Act.put, List.setIfInBounds_toArray, List.set_cons_zero, List.set_cons_succ, i64_w, i32_w]
      rfl
    refine pure_ (i := 2) (N := some 22) (v := ?_) (a' := ?_) #[true, true, true, false, true, false, false, false, true, false, false, false, false, false] rfl rfl (by kernel_rfl) (fun _ _ _ h => h) (Or.inl ⟨by rfl, ?_⟩) ?_ ?_
    rotate_left
    · intro w'
      go_simp
      with_reducible rfl
    rotate_left
    · simp only [Act.put, List.setIfInBounds_toArray, List.set_cons_zero, List.set_cons_succ, i64_w, i32_w]
      rfl
    refine pure_ (i := 3) (N := some 23) (v := ?_) (a' := ?_) #[true, true, true, true, true, false, false, false, true, false, false, false, false, false] rfl rfl (by kernel_rfl) (fun _ _ _ h => h) (Or.inl ⟨by rfl, ?_⟩) ?_ ?_
    rotate_left
    · intro w'
      go_simp
      with_reducible rfl
    rotate_left
    · simp only [Act.put, List.setIfInBounds_toArray, List.set_cons_zero, List.set_cons_succ, i64_w, i32_w]
      rfl
    refine take_ (i := 5) (N := some 25) (v := ?_) (a' := ?_) #[true, true, true, true, true, true, false, false, true, false, false, false, false, false] rfl rfl (by kernel_rfl) (fun _ _ _ h => h) (Or.inl ⟨by rfl, ?_⟩) hHeld ?_ ?_
    rotate_left
    · rintro w' ⟨s0, s1, s2⟩
      go_simp
      with_reducible rfl
    rotate_left
    · simp only [Act.put, List.setIfInBounds_toArray, List.set_cons_zero, List.set_cons_succ, i64_w, i32_w]
      rfl
    refine pure_ (i := 6) (N := some 26) (v := ?_) (a' := ?_) #[true, true, true, true, true, true, true, false, true, false, false, false, false, false] rfl rfl (by kernel_rfl) (fun _ _ _ h => h) (Or.inl ⟨by rfl, ?_⟩) ?_ ?_
    rotate_left
    · intro w'
      go_simp
      with_reducible rfl
    rotate_left
    · simp only [Act.put, List.setIfInBounds_toArray, List.set_cons_zero, List.set_cons_succ, i64_w, i32_w]
      rfl
    refine pure_ (i := 7) (N := some 27) (v := ?_) (a' := ?_) #[true, true, true, true, true, true, true, true, true, false, false, false, false, false] rfl rfl (by kernel_rfl) (fun _ _ _ h => h) (Or.inl ⟨by rfl, ?_⟩) ?_ ?_
    rotate_left
    · intro w'
      go_simp
      with_reducible rfl
    rotate_left
    · simp only [Act.put, List.setIfInBounds_toArray, List.set_cons_zero, List.set_cons_succ, i64_w, i32_w]
      rfl
    refine take_ (i := 9) (N := some 29) (v := ?_) (a' := ?_) #[true, true, true, true, true, true, true, true, true, true, false, false, false, false] rfl rfl (by kernel_rfl) (fun _ _ _ h => h) (Or.inl ⟨by rfl, ?_⟩) hHeld ?_ ?_
    rotate_left
    · rintro w' ⟨s0, s1, s2⟩
      go_simp
      with_reducible rfl
    rotate_left
    · simp only [Act.put, List.setIfInBounds_toArray, List.set_cons_zero, List.set_cons_succ, i64_w, i32_w]
      rfl
    refine one_ (i := 10) (N := some 30) #[true, true, true, true, true, true, true, true, true, true, true, false, false, false] rfl rfl (by kernel_rfl) (by decide) (fun K hK => ?_)
    refine goes_ Tryd.func31 (by kernel_rfl) rfl #[.slice A args.length c] (by rfl) rfl rfl (by simp only [List.map_toArray, List.map_cons, List.map_nil]; rfl) ?_
    with_reducible refine (XE_list args (fun x _ => XE_call x) hgl A c _ (Kd.C_below HC.out BD.out) hc HX.out).mono ?_
    rintro e w3 ⟨r, rfl, hr, hd⟩
    refine ⟨_, rfl, ?_⟩
    have B3 := Lib.hid (below_step BD.out hd)
    have HR := Lib.hid hr
    have hrs : r.size ≤ 140737488355328 := by rw [size_bl, hr]; exact HX.out
    have hs5 : ¬ 9223372036854775807 < 4 + xs.size + 9 + xt.size + 1 + r.size := by omega
    have hs6 : ¬ 9223372036854775807 < 4 + xs.size + 9 + xt.size + 1 + r.size + 2 := by omega
    refine hK.out _ _ ⟨(blk_cell (XS.out _ B3.out) 2), (blk_cell (XS.out _ B3.out) 3), (blk_cell (XS.out _ B3.out) 4)⟩ (fun hHeld => ?_)
    clear hK K
    refine norm_ (a' := ?_) ?_ ?_
    rotate_left
    · show Act.put _ (some 30) _ = _
      simp only [Act.put, List.setIfInBounds_toArray, List.set_cons_zero, List.set_cons_succ, i64_w, i32_w]
      rfl
    refine pure_ (i := 11) (N := some 31) (v := ?_) (a' := ?_) #[true, true, true, true, true, true, true, true, true, true, true, true, false, false] rfl rfl (by kernel_rfl) (fun _ _ _ h => h) (Or.inl ⟨by rfl, ?_⟩) ?_ ?_
    rotate_left
    · intro w'
      go_simp
      with_reducible rfl
    rotate_left
    · simp only [Act.put, List.setIfInBounds_toArray, List.set_cons_zero, List.set_cons_succ, i64_w, i32_w]
      rfl
    refine pure_ (i := 12) (N := some 32) (v := ?_) (a' := ?_) #[true, true, true, true, true, true, true, true, true, true, true, true, true, false] rfl rfl (by kernel_rfl) (fun _ _ _ h => h) (Or.inl ⟨by rfl, ?_⟩) ?_ ?_
    rotate_left
    · intro w'
      go_simp
      with_reducible rfl
    rotate_left
    · simp only [Act.put, List.setIfInBounds_toArray, List.set_cons_zero, List.set_cons_succ, i64_w, i32_w]
      rfl
    refine pure_ (i := 13) (N := some 2) (v := ?_) (a' := ?_) #[true, true, true, true, true, true, true, true, true, true, true, true, true, true] rfl rfl (by kernel_rfl) (fun _ _ _ h => h) (Or.inl ⟨by rfl, ?_⟩) ?_ ?_
    rotate_left
    · intro w'
      go_simp
      with_reducible rfl
    rotate_left
    · simp only [Act.put, List.setIfInBounds_toArray, List.set_cons_zero, List.set_cons_succ, i64_w, i32_w]
      rfl
    refine done_ (by kernel_rfl) ?_
    clear hHeld
    go_wp2
    go_ret
    exact SaysS.mk' (by rw [HP.out]; simp only [bl_app, bl_mk, HR.out]; try simp) (below_step BW.out B3.out)
  · -- send
    have HP := Lib.hid (show prS0 ⟨3, xa, xs, xt, args⟩ = ([115, 101, 110, 100, 32] ++ prEL args) ++ [59] by unfold prS0; rw [if_neg (show ¬ (3 : Int) = 1 by decide)]; rw [if_neg (show ¬ (3 : Int) = 2 by decide)]; first | rfl | (rw [if_pos rfl]; rfl))
    have HX := Lib.hid (show (prEL args).length ≤ 140737488355328 by have h := HL.out; rw [HP.out] at h; simp only [List.length_cons, List.length_append, List.length_nil] at h; omega)
    go_wp2_with (go_at_call 31; refine (XE_list args (fun x _ => XE_call x) hgl A c _ HC.out hc HX.out).mono ?_; rintro e w3 ⟨r, rfl, hr, hd⟩; have B3 := Lib.hid hd; have HR := Lib.hid hr; have hrs : r.size ≤ 140737488355328 := (by rw [size_bl, hr]; exact HX.out); have hs0 : ¬ 9223372036854775807 < 5 + r.size := (by omega); have hs1 : ¬ 9223372036854775807 < 5 + r.size + 1 := (by omega); clear hd hr)
    go_ret
    exact SaysS.mk' (by rw [HP.out]; simp only [bl_app, bl_mk, HR.out]; try simp) (below_step BW.out B3.out)
  · -- out
    have HP := Lib.hid (show prS0 ⟨4, xa, xs, xt, [p]⟩ = ([111, 117, 116, 32] ++ prE p) ++ [59] by unfold prS0; rw [if_neg (show ¬ (4 : Int) = 1 by decide)]; rw [if_neg (show ¬ (4 : Int) = 2 by decide)]; rw [if_neg (show ¬ (4 : Int) = 3 by decide)]; first | rfl | (rw [if_pos rfl]; rfl))
    have HX := Lib.hid (show (prE p).length ≤ 140737488355328 by have h := HL.out; rw [HP.out] at h; simp only [List.length_cons, List.length_append, List.length_nil] at h; omega)
    obtain ⟨ad, A5, c5, hA, hc5, hC5, hU⟩ := first31 HC.out
    subst hA
    have HU := Lib.hid hU
    have HC5 := Lib.hid hC5
    clear hU hC5
    simp only [List.length_cons, List.length_nil, Nat.zero_add] at *
    obtain ⟨u0, u1, u2, u3, u4⟩ := HU.out _ (Below.refl _ _)
    go_wp2_with (go_at_call 58; refine (XE_call p hgp A5 c5 _ HC5.out hc5 HX.out).mono ?_; rintro e w3 ⟨r, rfl, hr, hd⟩; have B3 := Lib.hid hd; have HR := Lib.hid hr; have hrs : r.size ≤ 140737488355328 := (by rw [size_bl, hr]; exact HX.out); have hs0 : ¬ 9223372036854775807 < 4 + r.size := (by omega); have hs1 : ¬ 9223372036854775807 < 4 + r.size + 1 := (by omega); clear hd hr)
    go_ret
    exact SaysS.mk' (by rw [HP.out]; simp only [bl_app, bl_mk, HR.out]; try simp) (below_step BW.out B3.out)
end Go.Proofs.YtjboncbmeanlgaaDoor.Tr
