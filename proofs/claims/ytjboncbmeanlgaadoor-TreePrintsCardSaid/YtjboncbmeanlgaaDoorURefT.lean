/- RefT -/
import Derived.Test.YtjboncbmeanlgaaDoorURefD
import Derived.Test.YtjboncbmeanlgaaDoorURefH
/- The document's text of expressions and patterns. -/
set_option linter.unusedVariables false
set_option linter.unusedSimpArgs false
namespace Go.Proofs.YtjboncbmeanlgaaDoor.Tr
open Go.RowKit Go.Proofs Go.Proofs.YtjboncbmeanlgaaDoor.PTreePrints Go.Proofs.YtjboncbmeanlgaaDoorW.PrintWords Go.Proofs.YtjboncbmeanlgaaDoorW.PrintMore Go.Proofs.YtjboncbmeanlgaaDoorW.PrintLast
/-- A text, told. -/
def SaysS (l : List UInt8) (w : World) (e : Ending) (w' : World) : Prop := ∃ r : ByteArray, e = .returned (.string r) ∧ bl r = l ∧ Below w.heap.size w w'
theorem SaysS.mk' {l : List UInt8} {w w' : World} {s : ByteArray} (h : bl s = l) (hb : Below w.heap.size w w') : SaysS l w (.returned (.string s)) w' := ⟨s, rfl, h, hb⟩
theorem number_says (n : Int) (h0 : -2305843009213693951 ≤ n) (h1 : n ≤ 2305843009213693951) (w : World) : Calls Tryd.prog 76 #[.int .i64 n] w (SaysS (Lib.itoa n) w) :=
  (number_call n h0 h1 w).mono fun e w' h => ⟨_, h.1, rfl, h.2⟩
/-- What is to be shown of an expression. -/
def XE (x : S31) : Prop := goodE x = true → ∀ (A : Option Addr) (c : Nat) (w : World), Kd.C k31 w A x.f4.length x.f4 → x.f4.length ≤ c → (prE x).length ≤ 140737488355328 → Calls Tryd.prog 58 #[.agg #[.int .i64 x.f0, .int .i64 x.f1, .int .i64 x.f2, .string x.f3, .slice A x.f4.length c]] w (SaysS (prE x) w)
set_option maxRecDepth 100000 in
set_option maxHeartbeats 16000000 in
theorem XE_list (l : List S31) (hI : ∀ x, x ∈ l → XE x) (hG : goodEL l = true) (A : Option Addr) (c : Nat) (w : World) (hC : Kd.C k31 w A l.length l) (hc : l.length ≤ c) (hl : (prEL l).length ≤ 140737488355328) :
    Calls Tryd.prog 31 #[.slice A l.length c] w (SaysS (prEL l) w) := by
  have hlen := C_len hC
  have HI := Lib.hid hI
  have HG := Lib.hid hG
  have HC := Lib.hid hC
  have HL := Lib.hid hl
  clear hI hG hC hl
  go_enter Tryd.func31, Tryd.ntmps31
  go_wp2
  go_loopw [4, 3] (fun vi vs wr => ∃ (i : Nat) (s : ByteArray), vi = .int .i64 i ∧ vs = .string s ∧ i ≤ l.length ∧ Hid (bl s = prEL (l.take i)) ∧ Hid (Below w.heap.size w wr)) (fun vi _ _ => l.length - (intOf vi).toNat)
  case atStart => exact ⟨0, ⟨#[]⟩, by go_num, rfl, Nat.zero_le _, Lib.hid (by simp [prEL]), Lib.hid (Below.refl _ _)⟩
  case round =>
    obtain ⟨i, s, rfl, rfl, hil, HS, HB⟩ := hrel
    obtain ⟨wq, hwq⟩ : ∃ wq, wq = wr := ⟨_, rfl⟩
    subst hwq
    by_cases hlt : i < l.length
    · have q1 : (i : Int) < (l.length : Int) := by omega
      have q0 : (0 : Int) ≤ (i : Int) := by omega
      obtain ⟨ad, A5, c5, hA, u0, u1, u2, u3, u4, hc5, hC5⟩ := at_T31 (Kd.C_below HC.out HB.out) (i : Int) q0 q1
      subst hA
      rw [rd31 l i hlt, Int.toNat_natCast] at u0 u1 u2 u3 u4
      rw [rd31 l i hlt] at hc5 hC5
      have HE := Lib.hid (HI.out l[i] (List.getElem_mem hlt) (goodEL_mem l _ HG.out (List.getElem_mem hlt)))
      have hsn : prEL (l.take (i + 1)) = prEL (l.take i) ++ ((if l.take i = [] then [] else [44, 32]) ++ prE l[i]) := by rw [List.take_succ_eq_append_getElem hlt, prEL_snoc]
      have hle := prEL_take l (i + 1)
      have HT := Lib.hid hsn
      have hnil : l.take i = [] ↔ i = 0 := by
        cases l with
        | nil => simp at hlt
        | cons y r => simp
      have hb1 : (prEL (l.take i)).length + (prE l[i]).length ≤ 140737488355328 := by have h := HL.out; rw [hsn, List.length_append, List.length_append] at hle; omega
      have HX := Lib.hid (show (prE l[i]).length ≤ 140737488355328 by omega)
      have HXS := Lib.hid (show s.size ≤ 140737488355328 by rw [size_bl, HS.out]; omega)
      have HC5 := Lib.hid hC5
      clear hC5 hsn hle hb1
      generalize l[i] = x at *
      have hs0 : s.size ≤ 140737488355328 := HXS.out
      have hs1 : ¬ 9223372036854775807 < s.size + 2 := by omega
      by_cases h0 : i = 0
      · have hi0 : ¬ (i : Int) > 0 := by omega
        have e1 := HT.out
        rw [if_pos (hnil.2 h0), List.nil_append] at e1
        have HT2 := Lib.hid e1
        clear e1 h0 hnil
        go_wp2_with (go_at_call 58; refine (HE.out A5 c5 _ HC5.out hc5 HX.out).mono ?_; rintro e w3 ⟨r, rfl, hr, hd⟩; have B3 := Lib.hid (below_step HB.out hd); have HR := Lib.hid hr; have hrs : r.size ≤ 140737488355328 := (by rw [size_bl, hr]; exact HX.out); have hs2 : ¬ 9223372036854775807 < s.size + r.size := (by omega); clear hd hr)
        go_roundw
        case rel => first | exact ⟨i + 1, _, by go_num, rfl, hlt, Lib.hid (by rw [bl_app, HS.out, HR.out, HT2.out]), B3⟩ | exact ⟨i + 1, by go_num, ⟨_, rfl⟩, hlt, Lib.hid (by rw [bl_app, HS.out, HR.out, HT2.out]), B3⟩
        case measure => simp [intOf]; omega
      · have hi0 : (i : Int) > 0 := by omega
        have e1 := HT.out
        rw [if_neg (fun h => h0 (hnil.1 h))] at e1
        have HT2 := Lib.hid e1
        clear e1
        go_wp2_with (go_at_call 58; refine (HE.out A5 c5 _ HC5.out hc5 HX.out).mono ?_; rintro e w3 ⟨r, rfl, hr, hd⟩; have B3 := Lib.hid (below_step HB.out hd); have HR := Lib.hid hr; have hrs : r.size ≤ 140737488355328 := (by rw [size_bl, hr]; exact HX.out); have hs2 : ¬ 9223372036854775807 < s.size + 2 + r.size := (by omega); clear hd hr)
        go_roundw
        case rel => first | exact ⟨i + 1, _, by go_num, rfl, hlt, Lib.hid (by rw [bl_app, bl_app, HS.out, HR.out, HT2.out]; simp [bl]), B3⟩ | exact ⟨i + 1, by go_num, ⟨_, rfl⟩, hlt, Lib.hid (by rw [bl_app, bl_app, HS.out, HR.out, HT2.out]; simp [bl]), B3⟩
        case measure => simp [intOf]; omega
    · obtain rfl : i = l.length := by omega
      have hg_ := HS.out
      rw [List.take_length] at hg_
      have HG_ := Lib.hid hg_
      clear hg_
      go_wp2
      go_ret
      exact SaysS.mk' HG_.out HB.out
set_option maxRecDepth 100000 in
set_option maxHeartbeats 16000000 in
theorem XE_ok (x : S31) (hI : ∀ y, y ∈ x.f4 → XE y) : XE x := by
  obtain ⟨xk, xa, xn, xs, args⟩ := x
  intro hG A c w hC hc hl
  simp only at hI hC hc ⊢
  have hlen := C_len hC
  have HI := Lib.hid hI
  have HC0 := Lib.hid hC
  have HL := Lib.hid hl
  clear hI hC hl
  go_enter Tryd.func58, Tryd.ntmps58
  have hal := below_alloc (Below.refl _ w) (.cells #[.int .i64 xk, .int .i64 xa, .int .i64 xn, .string xs, .slice A args.length c] 31)
  have XB := Lib.hid (blk_new w (.cells #[.int .i64 xk, .int .i64 xa, .int .i64 xn, .string xs, .slice A args.length c] 31))
  have B2 := Lib.hid hal
  have HC := Lib.hid (Kd.C_below HC0.out hal)
  clear hal HC0
  go_upto_region 1 with fail
  generalize w.alloc (.cells #[.int .i64 xk, .int .i64 xa, .int .i64 xn, .string xs, .slice A args.length c] 31) = w2 at *
  generalize hgx : w.heap.size = gx at *
  have BW := Lib.hid (show Below w.heap.size w w2 by rw [hgx]; exact B2.out)
  clear B2 hgx
  have y0 := blk_cell XB.out 0
  have y2 := blk_cell XB.out 2
  have y3 := blk_cell XB.out 3
  have y4 := blk_cell XB.out 4
  rcases goodE_cases hG with ⟨rfl, h0, h1⟩ | ⟨rfl, h0⟩ | ⟨rfl, h0⟩ | rfl | ⟨rfl, hgl⟩ | ⟨rfl, h0, hgl, h2⟩
  · -- a number
    have HP := Lib.hid (show prE ⟨1, xa, xn, xs, args⟩ = Lib.itoa xn by rw [prE, if_pos rfl])
    go_wp2_with (go_at_call 76; refine (number_says xn (by omega) (by omega) _).mono ?_; rintro e w3 ⟨r, rfl, hr, hd⟩; have B3 := Lib.hid (below_step BW.out hd); have HR := Lib.hid hr; clear hd hr)
    go_ret
    exact SaysS.mk' (by rw [HP.out, HR.out]) B3.out
  · -- plain
    have HP := Lib.hid (show prE ⟨2, xa, xn, xs, args⟩ = 39 :: bl xs by rw [prE, if_neg (by decide), if_pos rfl])
    have hsz : ¬ 9223372036854775807 < 1 + xs.size := by omega
    go_wp2
    go_ret
    exact SaysS.mk' (by rw [HP.out]; rw [bl_app]; rfl) BW.out
  · -- plain
    have HP := Lib.hid (show prE ⟨3, xa, xn, xs, args⟩ = bl xs by rw [prE, if_neg (by decide), if_neg (by decide), if_pos rfl])
    skip
    go_wp2
    go_ret
    exact SaysS.mk' (by rw [HP.out]) BW.out
  · -- plain
    have HP := Lib.hid (show prE ⟨4, xa, xn, xs, args⟩ = [115, 101, 108, 102] by rw [prE, if_neg (by decide), if_neg (by decide), if_neg (by decide), if_pos rfl])
    skip
    go_wp2
    go_ret
    exact SaysS.mk' (by rw [HP.out]) BW.out
  · -- a tuple
    have HP := Lib.hid (show prE ⟨5, xa, xn, xs, args⟩ = 123 :: (prEL args ++ [125]) by rw [prE, if_neg (by decide), if_neg (by decide), if_neg (by decide), if_neg (by decide), if_pos rfl])
    have HX := Lib.hid (show (prEL args).length ≤ 140737488355328 by have h := HL.out; rw [HP.out] at h; simp only [List.length_cons, List.length_append, List.length_nil] at h; omega)
    go_wp2_with (go_at_call 31; refine (XE_list args HI.out hgl A c _ HC.out hc HX.out).mono ?_; rintro e w3 ⟨r, rfl, hr, hd⟩; have B3 := Lib.hid (below_step BW.out hd); have HR := Lib.hid hr; have hrs : r.size ≤ 140737488355328 := (by rw [size_bl, hr]; exact HX.out); have hs2 : ¬ 9223372036854775807 < 1 + r.size := (by omega); have hs3 : ¬ 9223372036854775807 < 1 + r.size + 1 := (by omega); clear hd hr)
    go_ret
    exact SaysS.mk' (by rw [HP.out, bl_app, bl_app, HR.out]; simp [bl]) B3.out
  · -- a sum, a test
    obtain ⟨p, q, hpq⟩ : ∃ p q, args = [p, q] := by
      cases args with
      | nil => simp at h2
      | cons p r =>
        cases r with
        | nil => simp at h2
        | cons q t =>
          cases t with
          | nil => exact ⟨p, q, rfl⟩
          | cons _ _ => simp at h2
    subst hpq
    have HP := Lib.hid (show prE ⟨6, xa, xn, xs, [p, q]⟩ = 40 :: (prE p ++ ((32 :: (bl xs ++ [32])) ++ (prE q ++ [41]))) by rw [prE, if_neg (by decide), if_neg (by decide), if_neg (by decide), if_neg (by decide), if_neg (by decide)]; simp only [prA, prC])
    have HXp := Lib.hid (show (prE p).length ≤ 140737488355328 by have h := HL.out; rw [HP.out] at h; simp only [List.length_cons, List.length_append, List.length_nil] at h; omega)
    have HXq := Lib.hid (show (prE q).length ≤ 140737488355328 by have h := HL.out; rw [HP.out] at h; simp only [List.length_cons, List.length_append, List.length_nil] at h; omega)
    obtain ⟨ad, A5, c5, hA, hc5, hC5, hU⟩ := first31 HC.out
    obtain ⟨ad', A6, c6, hA', v0, v1, v2, v3, v4, hc6, hC6⟩ := at_T31 HC.out 1 (by omega) (by simp)
    subst hA
    injection hA' with hA'
    subst hA'
    have r1 : rd_T31 [p, q] 1 = q := rfl
    rw [r1] at v0 v1 v2 v3 v4 hc6 hC6
    have e1 : ad.add ((1 : Int).toNat * 5) = ad.add 5 := rfl
    rw [e1] at v0 v1 v2 v3 v4
    replace v0 : w2.cell? ⟨ad.block, ad.off + 5, none⟩ = _ := v0
    replace v1 : w2.cell? ⟨ad.block, ad.off + 5 + 1, none⟩ = _ := v1
    replace v2 : w2.cell? ⟨ad.block, ad.off + 5 + 2, none⟩ = _ := v2
    replace v3 : w2.cell? ⟨ad.block, ad.off + 5 + 3, none⟩ = _ := v3
    replace v4 : w2.cell? ⟨ad.block, ad.off + 5 + 4, none⟩ = _ := v4
    have HU := Lib.hid hU
    have HV := Lib.hid (fun (W' : World) (h : Below w2.heap.size w2 W') => And.intro ((h.cell (World.block_lt_of_cell? w2 _ v0)).trans v0) (And.intro ((h.cell (World.block_lt_of_cell? w2 _ v1)).trans v1) (And.intro ((h.cell (World.block_lt_of_cell? w2 _ v2)).trans v2) (And.intro ((h.cell (World.block_lt_of_cell? w2 _ v3)).trans v3) ((h.cell (World.block_lt_of_cell? w2 _ v4)).trans v4)))))
    have XS := Lib.hid (fun (W' : World) (h : Below w2.heap.size w2 W') => blk_below XB.out h)
    have HC5 := Lib.hid hC5
    have HC6 := Lib.hid hC6
    have HEp := Lib.hid (HI.out p (by simp) (goodEL_mem _ p hgl (by simp)))
    have HEq := Lib.hid (HI.out q (by simp) (goodEL_mem _ q hgl (by simp)))
    clear v0 v1 v2 v3 v4 hC5 hC6 e1 r1 hU y2 y3 y4
    simp only [List.length_cons, List.length_nil, Nat.zero_add, Nat.reduceAdd] at *
    go_upto_region 12 with fail
    have BD := Lib.hid (Below.refl w2.heap.size w2).drew
    refine start_ (n := 19) (S := fun w' => w'.cell? ⟨gx, 3, none⟩ = some (.string xs) ∧ w'.cell? ⟨gx, 4, none⟩ = some (.slice (some ad) 2 c) ∧ w'.cell? ad = some (.int .i64 p.f0) ∧ w'.cell? ⟨ad.block, ad.off + 1, none⟩ = some (.int .i64 p.f1) ∧ w'.cell? ⟨ad.block, ad.off + 2, none⟩ = some (.int .i64 p.f2) ∧ w'.cell? ⟨ad.block, ad.off + 3, none⟩ = some (.string p.f3) ∧ w'.cell? ⟨ad.block, ad.off + 4, none⟩ = some (.slice A5 p.f4.length c5) ∧ w'.cell? ⟨ad.block, ad.off + 5, none⟩ = some (.int .i64 q.f0) ∧ w'.cell? ⟨ad.block, ad.off + 5 + 1, none⟩ = some (.int .i64 q.f1) ∧ w'.cell? ⟨ad.block, ad.off + 5 + 2, none⟩ = some (.int .i64 q.f2) ∧ w'.cell? ⟨ad.block, ad.off + 5 + 3, none⟩ = some (.string q.f3) ∧ w'.cell? ⟨ad.block, ad.off + 5 + 4, none⟩ = some (.slice A6 q.f4.length c6)) (ds := []) #[false, false, false, false, false, false, false, false, false, false, false, false, false, false, false, false, false, false, false] (by kernel_rfl) rfl rfl ⟨(blk_cell (XS.out _ BD.out) 3), (blk_cell (XS.out _ BD.out) 4), (HU.out _ BD.out).1, (HU.out _ BD.out).2.1, (HU.out _ BD.out).2.2.1, (HU.out _ BD.out).2.2.2.1, (HU.out _ BD.out).2.2.2.2, (HV.out _ BD.out).1, (HV.out _ BD.out).2.1, (HV.out _ BD.out).2.2.1, (HV.out _ BD.out).2.2.2.1, (HV.out _ BD.out).2.2.2.2⟩ (fun hHeld => ?_)
    generalize w2.drew = WD at *
    refine pure_ (i := 0) (N := some 28) (v := ?_) (a' := ?_) #[true, false, false, false, false, false, false, false, false, false, false, false, false, false, false, false, false, false, false] rfl rfl (by kernel_rfl) (fun _ _ _ h => h) (Or.inl ⟨by rfl, ?_⟩) ?_ ?_
    rotate_left
    · intro w'
      go_simp
      with_reducible rfl
    rotate_left
    · simp only [Act.put, List.setIfInBounds_toArray, List.set_cons_zero, List.set_cons_succ, i64_w, i32_w]
      rfl
    refine pure_ (i := 7) (N := some 35) (v := ?_) (a' := ?_) #[true, false, false, false, false, false, false, true, false, false, false, false, false, false, false, false, false, false, false] rfl rfl (by kernel_rfl) (fun _ _ _ h => h) (Or.inl ⟨by rfl, ?_⟩) ?_ ?_
    rotate_left
    · intro w'
      go_simp
      with_reducible rfl
    rotate_left
    · simp only [Act.put, List.setIfInBounds_toArray, List.set_cons_zero, List.set_cons_succ, i64_w, i32_w]
      rfl
    refine pure_ (i := 11) (N := some 39) (v := ?_) (a' := ?_) #[true, false, false, false, false, false, false, true, false, false, false, true, false, false, false, false, false, false, false] rfl rfl (by kernel_rfl) (fun _ _ _ h => h) (Or.inl ⟨by rfl, ?_⟩) ?_ ?_
    rotate_left
    · intro w'
      go_simp
      with_reducible rfl
    rotate_left
    · simp only [Act.put, List.setIfInBounds_toArray, List.set_cons_zero, List.set_cons_succ, i64_w, i32_w]
      rfl
    refine take_ (i := 1) (N := some 29) (v := ?_) (a' := ?_) #[true, true, false, false, false, false, false, true, false, false, false, true, false, false, false, false, false, false, false] rfl rfl (by kernel_rfl) (fun _ _ _ h => h) (Or.inl ⟨by rfl, ?_⟩) hHeld ?_ ?_
    rotate_left
    · rintro w' ⟨s0, s1, s2, s3, s4, s5, s6, s7, s8, s9, s10, s11⟩
      go_simp
      with_reducible rfl
    rotate_left
    · simp only [Act.put, List.setIfInBounds_toArray, List.set_cons_zero, List.set_cons_succ, i64_w, i32_w]
      rfl
    refine pure_ (i := 2) (N := some 30) (v := ?_) (a' := ?_) #[true, true, true, false, false, false, false, true, false, false, false, true, false, false, false, false, false, false, false] rfl rfl (by kernel_rfl) (fun _ _ _ h => h) (Or.inl ⟨by rfl, ?_⟩) ?_ ?_
    rotate_left
    · intro w'
      go_simp
      with_reducible rfl
    rotate_left
    · simp only [Act.put, List.setIfInBounds_toArray, List.set_cons_zero, List.set_cons_succ, i64_w, i32_w]
      rfl
    refine take_ (i := 3) (N := some 31) (v := ?_) (a' := ?_) #[true, true, true, true, false, false, false, true, false, false, false, true, false, false, false, false, false, false, false] rfl rfl (by kernel_rfl) (fun _ _ _ h => h) (Or.inl ⟨by rfl, ?_⟩) hHeld ?_ ?_
    rotate_left
    · rintro w' ⟨s0, s1, s2, s3, s4, s5, s6, s7, s8, s9, s10, s11⟩
      go_simp
      with_reducible rfl
    rotate_left
    · simp only [Act.put, List.setIfInBounds_toArray, List.set_cons_zero, List.set_cons_succ, i64_w, i32_w]
      rfl
    refine take_ (i := 8) (N := some 36) (v := ?_) (a' := ?_) #[true, true, true, true, false, false, false, true, true, false, false, true, false, false, false, false, false, false, false] rfl rfl (by kernel_rfl) (fun _ _ _ h => h) (Or.inl ⟨by rfl, ?_⟩) hHeld ?_ ?_
    rotate_left
    · rintro w' ⟨s0, s1, s2, s3, s4, s5, s6, s7, s8, s9, s10, s11⟩
      go_simp
      with_reducible rfl
    rotate_left
    · simp only [Act.put, List.setIfInBounds_toArray, List.set_cons_zero, List.set_cons_succ, i64_w, i32_w]
      rfl
    refine take_ (i := 12) (N := some 40) (v := ?_) (a' := ?_) #[true, true, true, true, false, false, false, true, true, false, false, true, true, false, false, false, false, false, false] rfl rfl (by kernel_rfl) (fun _ _ _ h => h) (Or.inl ⟨by rfl, ?_⟩) hHeld ?_ ?_
    rotate_left
    · rintro w' ⟨s0, s1, s2, s3, s4, s5, s6, s7, s8, s9, s10, s11⟩
      go_simp
      with_reducible rfl
    rotate_left
    · simp only [Act.put, List.setIfInBounds_toArray, List.set_cons_zero, List.set_cons_succ, i64_w, i32_w]
      rfl
    refine pure_ (i := 13) (N := some 41) (v := ?_) (a' := ?_) #[true, true, true, true, false, false, false, true, true, false, false, true, true, true, false, false, false, false, false] rfl rfl (by kernel_rfl) (fun _ _ _ h => h) (Or.inl ⟨by rfl, ?_⟩) ?_ ?_
    rotate_left
    · intro w'
      go_simp
      with_reducible rfl
    rotate_left
    · simp only [Act.put, List.setIfInBounds_toArray, List.set_cons_zero, List.set_cons_succ, i64_w, i32_w]
      rfl
    refine take_ (i := 14) (N := some 42) (v := ?_) (a' := ?_) #[true, true, true, true, false, false, false, true, true, false, false, true, true, true, true, false, false, false, false] rfl rfl (by kernel_rfl) (fun _ _ _ h => h) (Or.inl ⟨by rfl, ?_⟩) hHeld ?_ ?_
    rotate_left
    · rintro w' ⟨s0, s1, s2, s3, s4, s5, s6, s7, s8, s9, s10, s11⟩
      go_simp
      with_reducible rfl
    rotate_left
    · simp only [Act.put, List.setIfInBounds_toArray, List.set_cons_zero, List.set_cons_succ, i64_w, i32_w]
      rfl
    refine one_ (i := 4) (N := some 32) #[true, true, true, true, true, false, false, true, true, false, false, true, true, true, true, false, false, false, false] rfl rfl (by kernel_rfl) (by decide) (fun K hK => ?_)
    refine goes_ Tryd.func58 (by kernel_rfl) rfl #[.agg #[.int .i64 p.f0, .int .i64 p.f1, .int .i64 p.f2, .string p.f3, .slice A5 p.f4.length c5]] (by rfl) rfl rfl (by simp only [List.map_toArray, List.map_cons, List.map_nil]; rfl) ?_
    with_reducible refine (HEp.out A5 c5 _ (Kd.C_below HC5.out BD.out) hc5 HXp.out).mono ?_
    rintro e w3 ⟨r, rfl, hr, hd⟩
    refine ⟨_, rfl, ?_⟩
    have B3 := Lib.hid (below_step BD.out hd)
    have HR := Lib.hid hr
    have hrs : r.size ≤ 140737488355328 := by rw [size_bl, hr]; exact HXp.out
    have hs0 : ¬ 9223372036854775807 < 1 + r.size := by omega
    have hs1 : ¬ 9223372036854775807 < 1 + r.size + 1 := by omega
    have hs2 : ¬ 9223372036854775807 < 1 + r.size + 1 + xs.size := by omega
    have hs3 : ¬ 9223372036854775807 < 1 + r.size + 1 + xs.size + 1 := by omega
    refine hK.out _ _ ⟨(blk_cell (XS.out _ B3.out) 3), (blk_cell (XS.out _ B3.out) 4), (HU.out _ B3.out).1, (HU.out _ B3.out).2.1, (HU.out _ B3.out).2.2.1, (HU.out _ B3.out).2.2.2.1, (HU.out _ B3.out).2.2.2.2, (HV.out _ B3.out).1, (HV.out _ B3.out).2.1, (HV.out _ B3.out).2.2.1, (HV.out _ B3.out).2.2.2.1, (HV.out _ B3.out).2.2.2.2⟩ (fun hHeld => ?_)
    clear hK K
    refine norm_ (a' := ?_) ?_ ?_
    rotate_left
    · show Act.put _ (some 32) _ = _
      simp only [Act.put, List.setIfInBounds_toArray, List.set_cons_zero, List.set_cons_succ, i64_w, i32_w]
      rfl
    refine pure_ (i := 5) (N := some 33) (v := ?_) (a' := ?_) #[true, true, true, true, true, true, false, true, true, false, false, true, true, true, true, false, false, false, false] rfl rfl (by kernel_rfl) (fun _ _ _ h => h) (Or.inl ⟨by rfl, ?_⟩) ?_ ?_
    rotate_left
    · intro w'
      go_simp
      with_reducible rfl
    rotate_left
    · simp only [Act.put, List.setIfInBounds_toArray, List.set_cons_zero, List.set_cons_succ, i64_w, i32_w]
      rfl
    refine pure_ (i := 6) (N := some 34) (v := ?_) (a' := ?_) #[true, true, true, true, true, true, true, true, true, false, false, true, true, true, true, false, false, false, false] rfl rfl (by kernel_rfl) (fun _ _ _ h => h) (Or.inl ⟨by rfl, ?_⟩) ?_ ?_
    rotate_left
    · intro w'
      go_simp
      with_reducible rfl
    rotate_left
    · simp only [Act.put, List.setIfInBounds_toArray, List.set_cons_zero, List.set_cons_succ, i64_w, i32_w]
      rfl
    refine pure_ (i := 9) (N := some 37) (v := ?_) (a' := ?_) #[true, true, true, true, true, true, true, true, true, true, false, true, true, true, true, false, false, false, false] rfl rfl (by kernel_rfl) (fun _ _ _ h => h) (Or.inl ⟨by rfl, ?_⟩) ?_ ?_
    rotate_left
    · intro w'
      go_simp
      with_reducible rfl
    rotate_left
    · simp only [Act.put, List.setIfInBounds_toArray, List.set_cons_zero, List.set_cons_succ, i64_w, i32_w]
      rfl
    refine pure_ (i := 10) (N := some 38) (v := ?_) (a' := ?_) #[true, true, true, true, true, true, true, true, true, true, true, true, true, true, true, false, false, false, false] rfl rfl (by kernel_rfl) (fun _ _ _ h => h) (Or.inl ⟨by rfl, ?_⟩) ?_ ?_
    rotate_left
    · intro w'
      go_simp
      with_reducible rfl
    rotate_left
    · simp only [Act.put, List.setIfInBounds_toArray, List.set_cons_zero, List.set_cons_succ, i64_w, i32_w]
      rfl
    refine one_ (i := 15) (N := some 43) #[true, true, true, true, true, true, true, true, true, true, true, true, true, true, true, true, false, false, false] rfl rfl (by kernel_rfl) (by decide) (fun K hK => ?_)
    refine goes_ Tryd.func58 (by kernel_rfl) rfl #[.agg #[.int .i64 q.f0, .int .i64 q.f1, .int .i64 q.f2, .string q.f3, .slice A6 q.f4.length c6]] (by rfl) rfl rfl (by simp only [List.map_toArray, List.map_cons, List.map_nil]; rfl) ?_
    with_reducible refine (HEq.out A6 c6 _ (Kd.C_below HC6.out B3.out) hc6 HXq.out).mono ?_
    rintro e w5 ⟨r2, rfl, hr2, hd2⟩
    refine ⟨_, rfl, ?_⟩
    have B5 := Lib.hid (below_step B3.out hd2)
    have HR2 := Lib.hid hr2
    have hrs2 : r2.size ≤ 140737488355328 := by rw [size_bl, hr2]; exact HXq.out
    have hs4 : ¬ 9223372036854775807 < 1 + r.size + 1 + xs.size + 1 + r2.size := by omega
    have hs5 : ¬ 9223372036854775807 < 1 + r.size + 1 + xs.size + 1 + r2.size + 1 := by omega
    refine hK.out _ _ ⟨(blk_cell (XS.out _ B5.out) 3), (blk_cell (XS.out _ B5.out) 4), (HU.out _ B5.out).1, (HU.out _ B5.out).2.1, (HU.out _ B5.out).2.2.1, (HU.out _ B5.out).2.2.2.1, (HU.out _ B5.out).2.2.2.2, (HV.out _ B5.out).1, (HV.out _ B5.out).2.1, (HV.out _ B5.out).2.2.1, (HV.out _ B5.out).2.2.2.1, (HV.out _ B5.out).2.2.2.2⟩ (fun hHeld => ?_)
    clear hK K
    refine norm_ (a' := ?_) ?_ ?_
    rotate_left
    · show Act.put _ (some 43) _ = _
      simp only [Act.put, List.setIfInBounds_toArray, List.set_cons_zero, List.set_cons_succ, i64_w, i32_w]
      rfl
    refine pure_ (i := 16) (N := some 44) (v := ?_) (a' := ?_) #[true, true, true, true, true, true, true, true, true, true, true, true, true, true, true, true, true, false, false] rfl rfl (by kernel_rfl) (fun _ _ _ h => h) (Or.inl ⟨by rfl, ?_⟩) ?_ ?_
    rotate_left
    · intro w'
      go_simp
      with_reducible rfl
    rotate_left
    · simp only [Act.put, List.setIfInBounds_toArray, List.set_cons_zero, List.set_cons_succ, i64_w, i32_w]
      rfl
    refine pure_ (i := 17) (N := some 45) (v := ?_) (a' := ?_) #[true, true, true, true, true, true, true, true, true, true, true, true, true, true, true, true, true, true, false] rfl rfl (by kernel_rfl) (fun _ _ _ h => h) (Or.inl ⟨by rfl, ?_⟩) ?_ ?_
    rotate_left
    · intro w'
      go_simp
      with_reducible rfl
    rotate_left
    · simp only [Act.put, List.setIfInBounds_toArray, List.set_cons_zero, List.set_cons_succ, i64_w, i32_w]
      rfl
    refine pure_ (i := 18) (N := some 2) (v := ?_) (a' := ?_) #[true, true, true, true, true, true, true, true, true, true, true, true, true, true, true, true, true, true, true] rfl rfl (by kernel_rfl) (fun _ _ _ h => h) (Or.inl ⟨by rfl, ?_⟩) ?_ ?_
    rotate_left
    · intro w'
      go_simp
      with_reducible rfl
    rotate_left
    · simp only [Act.put, List.setIfInBounds_toArray, List.set_cons_zero, List.set_cons_succ, i64_w, i32_w]
      rfl
    refine done_ (by kernel_rfl) ?_
    clear hHeld
    go_wp2
    go_ret
    exact SaysS.mk' (by rw [HP.out, bl_app, bl_app, bl_app, bl_app, bl_app, bl_app, HR.out, HR2.out]; simp [bl]) (below_step BW.out B5.out)
theorem XE_any : ∀ (n : Nat) (x : S31), SizeOf.sizeOf x ≤ n → XE x := by
  intro n
  induction n with
  | zero =>
    intro e he
    cases e
    simp at he
  | succ n ih =>
    intro e he
    refine XE_ok e (fun x hx => ih x ?_)
    have h1 := List.sizeOf_lt_of_mem hx
    cases e
    simp at he
    simp only at h1
    omega
theorem XE_call (x : S31) : XE x := XE_any _ x (Nat.le_refl _)
end Go.Proofs.YtjboncbmeanlgaaDoor.Tr
