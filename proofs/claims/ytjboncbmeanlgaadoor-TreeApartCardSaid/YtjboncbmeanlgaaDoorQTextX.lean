/- TextX -/
import Derived.Test.YtjboncbmeanlgaaDoorQTextL
/- What the tree's text functions write: an expression, a pattern. -/
set_option linter.unusedVariables false
set_option linter.unusedSimpArgs false
namespace Go.Proofs.YtjboncbmeanlgaaDoor.Tr
open Go.RowKit Go.Proofs Go.Proofs.YtjboncbmeanlgaaDoor.PTreePrints Go.Proofs.YtjboncbmeanlgaaDoorW.PrintWords Go.Proofs.YtjboncbmeanlgaaDoorW.PrintMore Go.Proofs.YtjboncbmeanlgaaDoorW.PrintLast
theorem nameOk_le {s : ByteArray} (h : nameOk s = true) : s.size ≤ 32 := by
  unfold nameOk at h
  simp only [Bool.and_eq_true, decide_eq_true_eq] at h
  exact h.2.1
theorem toList_bl (s : ByteArray) : s.toList = bl s := ByteArray.toList_eq s
theorem sign_le {s : ByteArray} (h : signB s = true) : s.size ≤ 2 := by
  unfold signB at h
  simp only [Bool.or_eq_true, beq_iff_eq, toList_bl] at h
  rw [size_bl]
  rcases h with h | h | h | h | h <;> rw [h] <;> decide
theorem goodE_cases {k a n : Int} {s : ByteArray} {args : List S31} (h : goodE ⟨k, a, n, s, args⟩ = true) :
    (k = 1 ∧ 0 ≤ n ∧ n ≤ 2305843009213693951) ∨ (k = 2 ∧ s.size ≤ 32) ∨ (k = 3 ∧ s.size ≤ 32) ∨ k = 4 ∨ (k = 5 ∧ goodEL args = true) ∨ (k = 6 ∧ s.size ≤ 2 ∧ goodEL args = true ∧ args.length = 2) := by
  rw [goodE] at h
  by_cases h1 : k = 1
  · rw [if_pos h1] at h
    simp only [Bool.and_eq_true, decide_eq_true_eq, withinB] at h
    exact .inl ⟨h1, by omega, by omega⟩
  · rw [if_neg h1, Bool.and_eq_true] at h
    have h := h.2
    by_cases h2 : k = 2 ∨ k = 3
    · rw [if_pos h2, Bool.and_eq_true] at h
      rcases h2 with h2 | h2
      · exact .inr (.inl ⟨h2, nameOk_le h.2⟩)
      · exact .inr (.inr (.inl ⟨h2, nameOk_le h.2⟩))
    · rw [if_neg h2] at h
      by_cases h4 : k = 4
      · exact .inr (.inr (.inr (.inl h4)))
      · rw [if_neg h4] at h
        by_cases h5 : k = 5
        · rw [if_pos h5, Bool.and_eq_true, Bool.and_eq_true] at h
          exact .inr (.inr (.inr (.inr (.inl ⟨h5, h.2.1⟩))))
        · rw [if_neg h5] at h
          by_cases h6 : k = 6
          · rw [if_pos h6] at h
            simp only [Bool.and_eq_true, decide_eq_true_eq, withinB] at h
            exact .inr (.inr (.inr (.inr (.inr ⟨h6, sign_le h.1, h.2.1, by omega⟩))))
          · rw [if_neg h6] at h
            exact absurd h (by decide)
theorem goodP_cases {k a n : Int} {s : ByteArray} {args : List S83} (h : goodP ⟨k, a, n, s, args⟩ = true) :
    k = 1 ∨ (k = 2 ∧ -2305843009213693951 ≤ n ∧ n ≤ 2305843009213693951) ∨ (k = 3 ∧ s.size ≤ 32) ∨ (k = 4 ∧ s.size ≤ 32) ∨ (k = 5 ∧ goodPL args = true) := by
  rw [goodP] at h
  by_cases h5 : k = 5
  · rw [if_pos h5] at h
    simp only [Bool.and_eq_true] at h
    exact .inr (.inr (.inr (.inr ⟨h5, h.2.1⟩)))
  · rw [if_neg h5, Bool.and_eq_true] at h
    have h := h.2
    by_cases h2 : k = 2
    · rw [if_pos h2] at h
      simp only [Bool.and_eq_true, decide_eq_true_eq, withinB] at h
      exact .inr (.inl ⟨h2, by omega, by omega⟩)
    · rw [if_neg h2, Bool.and_eq_true] at h
      have h := h.2
      by_cases h1 : k = 1
      · exact .inl h1
      · rw [if_neg h1] at h
        by_cases h3 : k = 3 ∨ k = 4
        · rw [if_pos h3] at h
          rcases h3 with h3 | h3
          · exact .inr (.inr (.inl ⟨h3, nameOk_le h⟩))
          · exact .inr (.inr (.inr (.inl ⟨h3, nameOk_le h⟩)))
        · rw [if_neg h3] at h
          exact absurd h (by decide)
set_option maxRecDepth 100000 in
set_option maxHeartbeats 16000000 in
theorem TE_ok (w0 : World) (x : S31) (hI : ∀ y, y ∈ x.f4 → TE w0 y) : TE w0 x := by
  obtain ⟨xk, xa, xn, xs, args⟩ := x
  intro hG B b A c l W hS hC hc hl
  simp only at hI hC hc ⊢
  have hlen := C_len hC
  have HI := Lib.hid hI
  have HC := Lib.hid hC
  have SP0 := Lib.hid hS
  have HL := Lib.hid hl
  clear hI hC hS hl
  go_enter Tryd.func28, Tryd.ntmps28
  have hal := below_alloc (Below.refl _ W) (.cells #[.int .i64 xk, .int .i64 xa, .int .i64 xn, .string xs, .slice A args.length c] 31)
  have XB := Lib.hid (blk_new W (.cells #[.int .i64 xk, .int .i64 xa, .int .i64 xn, .string xs, .slice A args.length c] 31))
  have hnb : W.heap.size ≠ b := by have := SP0.out.ne; omega
  have SP := Lib.hid (SP0.out.below hal)
  clear hal SP0
  go_upto_region 1 with fail
  generalize W.alloc (.cells #[.int .i64 xk, .int .i64 xa, .int .i64 xn, .string xs, .slice A args.length c] 31) = wp at *
  generalize W.heap.size = gx at *
  have y0 := blk_cell XB.out 0
  have y2 := blk_cell XB.out 2
  have y3 := blk_cell XB.out 3
  have y4 := blk_cell XB.out 4
  have HTAB := Lib.hid (SP.out.tab.below SP.out.o)
  rcases goodE_cases hG with ⟨rfl, h0, h1⟩ | ⟨rfl, h0⟩ | ⟨rfl, h0⟩ | rfl | ⟨rfl, hgl⟩ | ⟨rfl, h0, hgl, h2⟩
  · -- a number
    have HP := Lib.hid (show prE ⟨1, xa, xn, xs, args⟩ = Lib.itoa xn by rw [prE, if_pos rfl])
    have HB := Lib.hid (show l.length + (⟨(Lib.itoa xn).toArray⟩ : ByteArray).size ≤ 140737488355328 by have h := HL.out; rw [HP.out] at h; rw [size_of]; exact h)
    go_wp2_with (first | (go_at_call 55; refine (itoa_call xn (by omega) (by omega) _ HTAB.out).mono ?_; rintro e w3 ⟨rfl, hd⟩; have S3 := Lib.hid (SP.out.below hd); clear hd) | (go_at_call 24; refine (write_call S3.out _ HB.out).mono ?_; rintro e w4 ⟨rfl, hs, hk⟩; have S4 := Lib.hid hs; clear hs hk))
    go_end0
    exact S4.out.tell (by rw [HP.out])
  · -- an atom
    have HP := Lib.hid (show prE ⟨2, xa, xn, xs, args⟩ = 39 :: bl xs by rw [prE, if_neg (by decide), if_pos rfl])
    have HB := Lib.hid (show l.length + ((⟨#[39]⟩ ++ xs) : ByteArray).size ≤ 140737488355328 by have h := HL.out; rw [HP.out] at h; rw [size_bl, bl_app, List.length_append]; simp only [List.length_cons] at h; have h3 : (bl ⟨#[39]⟩).length = 1 := rfl; omega)
    have hsz : ¬ 9223372036854775807 < 1 + xs.size := by omega
    go_wp2_with (go_at_call 24; refine (write_call SP.out _ HB.out).mono ?_; rintro e w4 ⟨rfl, hs, hk⟩; have S4 := Lib.hid hs; clear hs hk)
    all_goals first
      | omega
      | (go_end0; exact S4.out.tell (by rw [HP.out]; rw [bl_app]; rfl))
  · -- a variable
    have HP := Lib.hid (show prE ⟨3, xa, xn, xs, args⟩ = bl xs by rw [prE, if_neg (by decide), if_neg (by decide), if_pos rfl])
    have HB := Lib.hid (show l.length + (xs : ByteArray).size ≤ 140737488355328 by have h := HL.out; rw [HP.out] at h; rw [size_bl]; exact h)
    skip
    go_wp2_with (go_at_call 24; refine (write_call SP.out _ HB.out).mono ?_; rintro e w4 ⟨rfl, hs, hk⟩; have S4 := Lib.hid hs; clear hs hk)
    all_goals first
      | omega
      | (go_end0; exact S4.out.tell (by rw [HP.out]))
  · -- self
    have HP := Lib.hid (show prE ⟨4, xa, xn, xs, args⟩ = [115, 101, 108, 102] by rw [prE, if_neg (by decide), if_neg (by decide), if_neg (by decide), if_pos rfl])
    have HB := Lib.hid (show l.length + (⟨#[115, 101, 108, 102]⟩ : ByteArray).size ≤ 140737488355328 by have h := HL.out; rw [HP.out] at h; rw [size_bl]; exact h)
    skip
    go_wp2_with (go_at_call 24; refine (write_call SP.out _ HB.out).mono ?_; rintro e w4 ⟨rfl, hs, hk⟩; have S4 := Lib.hid hs; clear hs hk)
    all_goals first
      | omega
      | (go_end0; exact S4.out.tell (by rw [HP.out]))
  · -- a tuple
    have HP := Lib.hid (show prE ⟨5, xa, xn, xs, args⟩ = 123 :: (prEL args ++ [125]) by rw [prE, if_neg (by decide), if_neg (by decide), if_neg (by decide), if_neg (by decide), if_pos rfl])
    have HH := Lib.hid (show l.length + ((prEL args).length + 2) ≤ 140737488355328 by have h := HL.out; rw [HP.out] at h; simp only [List.length_cons, List.length_append, List.length_nil] at h; omega)
    have HB1 := Lib.hid (show l.length + (⟨#[123]⟩ : ByteArray).size ≤ 140737488355328 by have h := HH.out; have h3 : (⟨#[123]⟩ : ByteArray).size = 1 := rfl; omega)
    have HB2 := Lib.hid (show (l ++ bl ⟨#[123]⟩).length + (prEL args).length ≤ 140737488355328 by have h := HH.out; rw [List.length_append]; have h3 : (bl ⟨#[123]⟩).length = 1 := rfl; omega)
    have HB3 := Lib.hid (show ((l ++ bl ⟨#[123]⟩) ++ prEL args).length + (⟨#[125]⟩ : ByteArray).size ≤ 140737488355328 by have h := HH.out; rw [List.length_append, List.length_append]; have h3 : (bl ⟨#[123]⟩).length = 1 := rfl; have h4 : (⟨#[125]⟩ : ByteArray).size = 1 := rfl; omega)
    clear y2 y3
    go_upto_region 13 with (go_at_call 24; refine (write_call SP.out _ HB1.out).mono ?_; rintro e w4 ⟨rfl, hs, hk⟩; have S4 := Lib.hid hs; have X4 := Lib.hid (TS.blk hk XB.out hnb (by decide)); clear hs hk y0 y4; have y4 := blk_cell X4.out 4)
    go_wp2_with (first | (go_at_call 27; refine (TE_list w0 args HI.out hgl B b A c _ _ S4.out.self HC.out hc HB2.out).mono ?_; rintro e w5 ⟨rfl, ht, hf, hk⟩; have S5 := Lib.hid (S4.out.wrote ht hf hk); clear ht hf hk) | (go_at_call 24; refine (write_call S5.out _ HB3.out).mono ?_; rintro e w6 ⟨rfl, hs, hk⟩; have S6 := Lib.hid hs; clear hs hk))
    go_end0
    exact S6.out.tell (by rw [HP.out]; simp [bl])
  · -- a sum, a test
    obtain ⟨p, q, hpq⟩ : ∃ p q, args = [p, q] := by
      cases args with
      | nil => simp at h2
      | cons p r =>
        cases r with
        | nil => simp at h2
        | cons q t =>
          cases t with
          | nil => exact ⟨p, q, rfl⟩
          | cons _ _ => simp at h2
    subst hpq
    have HP := Lib.hid (show prE ⟨6, xa, xn, xs, [p, q]⟩ = 40 :: (prE p ++ ((32 :: (bl xs ++ [32])) ++ (prE q ++ [41]))) by rw [prE, if_neg (by decide), if_neg (by decide), if_neg (by decide), if_neg (by decide), if_neg (by decide)]; simp only [prA, prC])
    have hsx := size_bl xs
    have HH := Lib.hid (show l.length + ((prE p).length + (prE q).length + (bl xs).length + 4) ≤ 140737488355328 by have h := HL.out; rw [HP.out] at h; simp only [List.length_cons, List.length_append, List.length_nil] at h; omega)
    have hb1 : (bl ⟨#[40]⟩).length = 1 := rfl
    have hb2 : (bl ((⟨#[32]⟩ ++ xs) ++ ⟨#[32]⟩)).length = (bl xs).length + 2 := by rw [bl_app, bl_app, List.length_append, List.length_append]; have h3 : (bl ⟨#[32]⟩).length = 1 := rfl; omega
    have HB1 := Lib.hid (show l.length + (⟨#[40]⟩ : ByteArray).size ≤ 140737488355328 by have h := HH.out; have h3 : (⟨#[40]⟩ : ByteArray).size = 1 := rfl; omega)
    have HB2 := Lib.hid (show (l ++ bl ⟨#[40]⟩).length + (prE p).length ≤ 140737488355328 by have h := HH.out; rw [List.length_append]; omega)
    have HB3 := Lib.hid (show ((l ++ bl ⟨#[40]⟩) ++ prE p).length + ((⟨#[32]⟩ ++ xs) ++ ⟨#[32]⟩ : ByteArray).size ≤ 140737488355328 by have h := HH.out; rw [size_bl, List.length_append, List.length_append]; omega)
    have HB4 := Lib.hid (show (((l ++ bl ⟨#[40]⟩) ++ prE p) ++ bl ((⟨#[32]⟩ ++ xs) ++ ⟨#[32]⟩)).length + (prE q).length ≤ 140737488355328 by have h := HH.out; rw [List.length_append, List.length_append, List.length_append]; omega)
    have HB5 := Lib.hid (show ((((l ++ bl ⟨#[40]⟩) ++ prE p) ++ bl ((⟨#[32]⟩ ++ xs) ++ ⟨#[32]⟩)) ++ prE q).length + (⟨#[41]⟩ : ByteArray).size ≤ 140737488355328 by have h := HH.out; rw [List.length_append, List.length_append, List.length_append, List.length_append]; have h3 : (⟨#[41]⟩ : ByteArray).size = 1 := rfl; omega)
    obtain ⟨ad, A5, c5, hA, u0, u1, u2, u3, u4, hc5, hC5⟩ := at_T31 HC.out 0 (by omega) (by simp)
    obtain ⟨ad', A6, c6, hA', v0, v1, v2, v3, v4, hc6, hC6⟩ := at_T31 HC.out 1 (by omega) (by simp)
    subst hA
    injection hA' with hA'
    subst hA'
    have r0 : rd_T31 [p, q] 0 = p := rfl
    have r1 : rd_T31 [p, q] 1 = q := rfl
    rw [r0] at u0 u1 u2 u3 u4 hc5 hC5
    rw [r1] at v0 v1 v2 v3 v4 hc6 hC6
    have e0 : ad.add ((0 : Int).toNat * 5) = ad := by cases ad; simp [Addr.add]
    have e1 : ad.add ((1 : Int).toNat * 5) = ad.add 5 := rfl
    rw [e0] at u0 u1 u2 u3 u4
    rw [e1] at v0 v1 v2 v3 v4
    replace v0 : w0.cell? ⟨ad.block, ad.off + 5, none⟩ = _ := v0
    replace v1 : w0.cell? ⟨ad.block, ad.off + 5 + 1, none⟩ = _ := v1
    replace v2 : w0.cell? ⟨ad.block, ad.off + 5 + 2, none⟩ = _ := v2
    replace v3 : w0.cell? ⟨ad.block, ad.off + 5 + 3, none⟩ = _ := v3
    replace v4 : w0.cell? ⟨ad.block, ad.off + 5 + 4, none⟩ = _ := v4
    have HU := Lib.hid (fun (W' : World) (h : Below w0.heap.size w0 W') => And.intro ((h.cell (World.block_lt_of_cell? w0 _ u0)).trans u0) (And.intro ((h.cell (World.block_lt_of_cell? w0 _ u1)).trans u1) (And.intro ((h.cell (World.block_lt_of_cell? w0 _ u2)).trans u2) (And.intro ((h.cell (World.block_lt_of_cell? w0 _ u3)).trans u3) ((h.cell (World.block_lt_of_cell? w0 _ u4)).trans u4)))))
    have HV := Lib.hid (fun (W' : World) (h : Below w0.heap.size w0 W') => And.intro ((h.cell (World.block_lt_of_cell? w0 _ v0)).trans v0) (And.intro ((h.cell (World.block_lt_of_cell? w0 _ v1)).trans v1) (And.intro ((h.cell (World.block_lt_of_cell? w0 _ v2)).trans v2) (And.intro ((h.cell (World.block_lt_of_cell? w0 _ v3)).trans v3) ((h.cell (World.block_lt_of_cell? w0 _ v4)).trans v4)))))
    have HC5 := Lib.hid hC5
    have HC6 := Lib.hid hC6
    have HEp := Lib.hid (HI.out p (by simp) (goodEL_mem _ p hgl (by simp)))
    have HEq := Lib.hid (HI.out q (by simp) (goodEL_mem _ q hgl (by simp)))
    clear u0 u1 u2 u3 u4 v0 v1 v2 v3 v4 hC5 hC6 e0 e1 r0 r1 hb1 hb2 y2 y3 hsx
    have hs1 : ¬ 9223372036854775807 < 1 + xs.size := by omega
    have hs2 : ¬ 9223372036854775807 < 1 + xs.size + 1 := by omega
    go_upto_region 17 with (go_at_call 24; refine (write_call SP.out _ HB1.out).mono ?_; rintro e w4 ⟨rfl, hs, hk⟩; have S4 := Lib.hid hs; have X4 := Lib.hid (TS.blk hk XB.out hnb (by decide)); clear hs hk y0 y4)
    have y4 := blk_cell X4.out 4
    obtain ⟨u0, u1, u2, u3, u4⟩ := HU.out _ S4.out.o
    go_upto_region 18 with (go_at_call 28; refine (HEp.out B b A5 c5 _ _ S4.out.self HC5.out hc5 HB2.out).mono ?_; rintro e w5 ⟨rfl, ht, hf, hk⟩; have S5 := Lib.hid (S4.out.wrote ht hf hk); have X5 := Lib.hid (TS.blk hk X4.out hnb (by decide)); clear ht hf hk y4 u0 u1 u2 u3 u4)
    have y3 := blk_cell X5.out 3
    go_upto_region 19 with (go_at_call 24; refine (write_call S5.out _ HB3.out).mono ?_; rintro e w6 ⟨rfl, hs, hk⟩; have S6 := Lib.hid hs; have X6 := Lib.hid (TS.blk hk X5.out hnb (by decide)); clear hs hk y3)
    all_goals try omega
    have y4 := blk_cell X6.out 4
    obtain ⟨v0, v1, v2, v3, v4⟩ := HV.out _ S6.out.o
    go_upto_region 20 with (go_at_call 28; refine (HEq.out B b A6 c6 _ _ S6.out.self HC6.out hc6 HB4.out).mono ?_; rintro e w7 ⟨rfl, ht, hf, hk⟩; have S7 := Lib.hid (S6.out.wrote ht hf hk); clear ht hf hk y4 v0 v1 v2 v3 v4)
    go_wp2_with (go_at_call 24; refine (write_call S7.out _ HB5.out).mono ?_; rintro e w8 ⟨rfl, hs, hk⟩; have S8 := Lib.hid hs; clear hs hk)
    go_end0
    exact S8.out.tell (by rw [HP.out, bl_app, bl_app]; simp [bl])
theorem TE_any (w0 : World) : ∀ (n : Nat) (x : S31), SizeOf.sizeOf x ≤ n → TE w0 x := by
  intro n
  induction n with
  | zero =>
    intro e he
    cases e
    simp at he
  | succ n ih =>
    intro e he
    refine TE_ok w0 e (fun x hx => ih x ?_)
    have h1 := List.sizeOf_lt_of_mem hx
    cases e
    simp at he
    simp only at h1
    omega
theorem TE_call (w0 : World) (x : S31) : TE w0 x := TE_any w0 _ x (Nat.le_refl _)
set_option maxRecDepth 100000 in
set_option maxHeartbeats 16000000 in
theorem TP_ok (w0 : World) (x : S83) (hI : ∀ y, y ∈ x.f4 → TP w0 y) : TP w0 x := by
  obtain ⟨xk, xa, xn, xs, args⟩ := x
  intro hG B b A c l W hS hC hc hl
  simp only at hI hC hc ⊢
  have hlen := C_len hC
  have HI := Lib.hid hI
  have HC := Lib.hid hC
  have SP0 := Lib.hid hS
  have HL := Lib.hid hl
  clear hI hC hS hl
  go_enter Tryd.func73, Tryd.ntmps73
  have hal := below_alloc (Below.refl _ W) (.cells #[.int .i64 xk, .int .i64 xa, .int .i64 xn, .string xs, .slice A args.length c] 83)
  have XB := Lib.hid (blk_new W (.cells #[.int .i64 xk, .int .i64 xa, .int .i64 xn, .string xs, .slice A args.length c] 83))
  have hnb : W.heap.size ≠ b := by have := SP0.out.ne; omega
  have SP := Lib.hid (SP0.out.below hal)
  clear hal SP0
  go_upto_region 1 with fail
  generalize W.alloc (.cells #[.int .i64 xk, .int .i64 xa, .int .i64 xn, .string xs, .slice A args.length c] 83) = wp at *
  generalize W.heap.size = gx at *
  have y0 := blk_cell XB.out 0
  have y2 := blk_cell XB.out 2
  have y3 := blk_cell XB.out 3
  have y4 := blk_cell XB.out 4
  have HTAB := Lib.hid (SP.out.tab.below SP.out.o)
  rcases goodP_cases hG with rfl | ⟨rfl, h0, h1⟩ | ⟨rfl, h0⟩ | ⟨rfl, h0⟩ | ⟨rfl, hgl⟩
  · -- any
    have HP := Lib.hid (show prP ⟨1, xa, xn, xs, args⟩ = [95] by rw [prP, if_pos rfl])
    have HB := Lib.hid (show l.length + (⟨#[95]⟩ : ByteArray).size ≤ 140737488355328 by have h := HL.out; rw [HP.out] at h; rw [size_bl]; exact h)
    skip
    go_wp2_with (go_at_call 24; refine (write_call SP.out _ HB.out).mono ?_; rintro e w4 ⟨rfl, hs, hk⟩; have S4 := Lib.hid hs; clear hs hk)
    all_goals first
      | omega
      | (go_end0; exact S4.out.tell (by rw [HP.out]))
  · -- a number
    have HP := Lib.hid (show prP ⟨2, xa, xn, xs, args⟩ = Lib.itoa xn by rw [prP, if_neg (by decide), if_pos rfl])
    have HB := Lib.hid (show l.length + (⟨(Lib.itoa xn).toArray⟩ : ByteArray).size ≤ 140737488355328 by have h := HL.out; rw [HP.out] at h; rw [size_of]; exact h)
    go_wp2_with (first | (go_at_call 55; refine (itoa_call xn (by omega) (by omega) _ HTAB.out).mono ?_; rintro e w3 ⟨rfl, hd⟩; have S3 := Lib.hid (SP.out.below hd); clear hd) | (go_at_call 24; refine (write_call S3.out _ HB.out).mono ?_; rintro e w4 ⟨rfl, hs, hk⟩; have S4 := Lib.hid hs; clear hs hk))
    go_end0
    exact S4.out.tell (by rw [HP.out])
  · -- an atom
    have HP := Lib.hid (show prP ⟨3, xa, xn, xs, args⟩ = 39 :: bl xs by rw [prP, if_neg (by decide), if_neg (by decide), if_pos rfl])
    have HB := Lib.hid (show l.length + ((⟨#[39]⟩ ++ xs) : ByteArray).size ≤ 140737488355328 by have h := HL.out; rw [HP.out] at h; rw [size_bl, bl_app, List.length_append]; simp only [List.length_cons] at h; have h3 : (bl ⟨#[39]⟩).length = 1 := rfl; omega)
    have hsz : ¬ 9223372036854775807 < 1 + xs.size := by omega
    go_wp2_with (go_at_call 24; refine (write_call SP.out _ HB.out).mono ?_; rintro e w4 ⟨rfl, hs, hk⟩; have S4 := Lib.hid hs; clear hs hk)
    all_goals first
      | omega
      | (go_end0; exact S4.out.tell (by rw [HP.out]; rw [bl_app]; rfl))
  · -- a variable
    have HP := Lib.hid (show prP ⟨4, xa, xn, xs, args⟩ = bl xs by rw [prP, if_neg (by decide), if_neg (by decide), if_neg (by decide), if_pos rfl])
    have HB := Lib.hid (show l.length + (xs : ByteArray).size ≤ 140737488355328 by have h := HL.out; rw [HP.out] at h; rw [size_bl]; exact h)
    skip
    go_wp2_with (go_at_call 24; refine (write_call SP.out _ HB.out).mono ?_; rintro e w4 ⟨rfl, hs, hk⟩; have S4 := Lib.hid hs; clear hs hk)
    all_goals first
      | omega
      | (go_end0; exact S4.out.tell (by rw [HP.out]))
  · -- a tuple
    have HP := Lib.hid (show prP ⟨5, xa, xn, xs, args⟩ = 123 :: (prPL args ++ [125]) by rw [prP, if_neg (by decide), if_neg (by decide), if_neg (by decide), if_neg (by decide)])
    have HH := Lib.hid (show l.length + ((prPL args).length + 2) ≤ 140737488355328 by have h := HL.out; rw [HP.out] at h; simp only [List.length_cons, List.length_append, List.length_nil] at h; omega)
    have HB1 := Lib.hid (show l.length + (⟨#[123]⟩ : ByteArray).size ≤ 140737488355328 by have h := HH.out; have h3 : (⟨#[123]⟩ : ByteArray).size = 1 := rfl; omega)
    have HB2 := Lib.hid (show (l ++ bl ⟨#[123]⟩).length + (prPL args).length ≤ 140737488355328 by have h := HH.out; rw [List.length_append]; have h3 : (bl ⟨#[123]⟩).length = 1 := rfl; omega)
    have HB3 := Lib.hid (show ((l ++ bl ⟨#[123]⟩) ++ prPL args).length + (⟨#[125]⟩ : ByteArray).size ≤ 140737488355328 by have h := HH.out; rw [List.length_append, List.length_append]; have h3 : (bl ⟨#[123]⟩).length = 1 := rfl; have h4 : (⟨#[125]⟩ : ByteArray).size = 1 := rfl; omega)
    clear y2 y3
    go_upto_region 13 with (go_at_call 24; refine (write_call SP.out _ HB1.out).mono ?_; rintro e w4 ⟨rfl, hs, hk⟩; have S4 := Lib.hid hs; have X4 := Lib.hid (TS.blk hk XB.out hnb (by decide)); clear hs hk y0 y4; have y4 := blk_cell X4.out 4)
    go_wp2_with (first | (go_at_call 82; refine (TP_list w0 args HI.out hgl B b A c _ _ S4.out.self HC.out hc HB2.out).mono ?_; rintro e w5 ⟨rfl, ht, hf, hk⟩; have S5 := Lib.hid (S4.out.wrote ht hf hk); clear ht hf hk) | (go_at_call 24; refine (write_call S5.out _ HB3.out).mono ?_; rintro e w6 ⟨rfl, hs, hk⟩; have S6 := Lib.hid hs; clear hs hk))
    go_end0
    exact S6.out.tell (by rw [HP.out]; simp [bl])
theorem TP_any (w0 : World) : ∀ (n : Nat) (x : S83), SizeOf.sizeOf x ≤ n → TP w0 x := by
  intro n
  induction n with
  | zero =>
    intro e he
    cases e
    simp at he
  | succ n ih =>
    intro e he
    refine TP_ok w0 e (fun x hx => ih x ?_)
    have h1 := List.sizeOf_lt_of_mem hx
    cases e
    simp at he
    simp only at h1
    omega
theorem TP_call (w0 : World) (x : S83) : TP w0 x := TP_any w0 _ x (Nat.le_refl _)
end Go.Proofs.YtjboncbmeanlgaaDoor.Tr
