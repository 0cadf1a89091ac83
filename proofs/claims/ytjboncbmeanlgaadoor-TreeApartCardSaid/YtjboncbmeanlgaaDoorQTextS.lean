/- TextS -/
import Derived.Test.YtjboncbmeanlgaaDoorQTextX
/- What the tree's text functions write: a statement. -/
set_option linter.unusedVariables false
set_option linter.unusedSimpArgs false
namespace Go.Proofs.YtjboncbmeanlgaaDoor.Tr
open Go.RowKit Go.Proofs Go.Proofs.YtjboncbmeanlgaaDoor.PTreePrints Go.Proofs.YtjboncbmeanlgaaDoorW.PrintWords Go.Proofs.YtjboncbmeanlgaaDoorW.PrintMore Go.Proofs.YtjboncbmeanlgaaDoorW.PrintLast
theorem bl_lit (a : Array UInt8) : (bl ⟨a⟩).length = a.size := by simp [bl]
theorem bl_mk (l : List UInt8) : bl ⟨l.toArray⟩ = l := rfl
/-- The first expression's text. -/
def prH : List S31 → List UInt8
  | [] => []
  | x :: _ => prE x
/-- A statement's text, and what stands behind it. -/
def prS (x : S37) : List UInt8 :=
  (if x.f0 = 1 then [108, 101, 116, 32] ++ (bl x.f2 ++ ([32, 61, 32] ++ prH x.f4)) else if x.f0 = 2 then [108, 101, 116, 32] ++ (bl x.f2 ++ ([32, 61, 32, 115, 112, 97, 119, 110, 32] ++ (bl x.f3 ++ (40 :: (prEL x.f4 ++ [41]))))) else if x.f0 = 3 then [115, 101, 110, 100, 32] ++ prEL x.f4 else [111, 117, 116, 32] ++ prH x.f4) ++ [59, 32]
theorem goodSt_cases {k a : Int} {s t : ByteArray} {args : List S31} (h : goodSt ⟨k, a, s, t, args⟩ = true) :
    (k = 1 ∧ s.size ≤ 32 ∧ ∃ x, args = [x] ∧ goodE x = true) ∨ (k = 2 ∧ s.size ≤ 32 ∧ t.size ≤ 32 ∧ goodEL args = true) ∨ (k = 3 ∧ goodEL args = true) ∨ (k = 4 ∧ ∃ x, args = [x] ∧ goodE x = true) := by
  have one : (goodEL args && withinB args.length 1 1) = true → ∃ x, args = [x] ∧ goodE x = true := fun h => by
    simp only [Bool.and_eq_true, decide_eq_true_eq, withinB] at h
    match args, h with
    | [], h => simp at h
    | [x], h => exact ⟨x, rfl, goodEL_mem _ x h.1 (by simp)⟩
    | x :: y :: r, h => simp only [List.length_cons] at h; omega
  unfold goodSt at h
  simp only at h
  by_cases h1 : k = 1
  · rw [if_pos h1, Bool.and_eq_true, Bool.and_eq_true] at h
    exact .inl ⟨h1, nameOk_le h.1, one h.2.2⟩
  · rw [if_neg h1] at h
    by_cases h2 : k = 2
    · rw [if_pos h2, Bool.and_eq_true, Bool.and_eq_true, Bool.and_eq_true] at h
      exact .inr (.inl ⟨h2, nameOk_le h.1, nameOk_le h.2.1, h.2.2.1⟩)
    · rw [if_neg h2] at h
      by_cases h3 : k = 3
      · rw [if_pos h3, Bool.and_eq_true, Bool.and_eq_true, Bool.and_eq_true] at h
        exact .inr (.inr (.inl ⟨h3, h.2.2.1⟩))
      · rw [if_neg h3] at h
        by_cases h4 : k = 4
        · rw [if_pos h4, Bool.and_eq_true, Bool.and_eq_true] at h
          exact .inr (.inr (.inr ⟨h4, one h.2.2⟩))
        · rw [if_neg h4] at h
          exact absurd h (by decide)
/-- The first expression of some, as it is read. -/
theorem first31 {w0 : World} {A : Option Addr} {p : S31} {r : List S31} (hC : Kd.C k31 w0 A (p :: r).length (p :: r)) : ∃ ad A5 c5, A = some ad ∧ p.f4.length ≤ c5 ∧ k31.C w0 A5 p.f4.length p.f4 ∧ ∀ W' : World, Below w0.heap.size w0 W' → W'.cell? ad = some (.int .i64 p.f0) ∧ W'.cell? ⟨ad.block, ad.off + 1, none⟩ = some (.int .i64 p.f1) ∧ W'.cell? ⟨ad.block, ad.off + 2, none⟩ = some (.int .i64 p.f2) ∧ W'.cell? ⟨ad.block, ad.off + 3, none⟩ = some (.string p.f3) ∧ W'.cell? ⟨ad.block, ad.off + 4, none⟩ = some (.slice A5 p.f4.length c5) := by
  obtain ⟨ad, A5, c5, hA, u0, u1, u2, u3, u4, hc5, hC5⟩ := at_T31 hC 0 (by omega) (by simp only [List.length_cons]; omega)
  have e0 : ad.add ((0 : Int).toNat * 5) = ad := by cases ad; simp [Addr.add]
  have r0 : rd_T31 (p :: r) 0 = p := rfl
  rw [r0] at u0 u1 u2 u3 u4 hc5 hC5
  rw [e0] at u0 u1 u2 u3 u4
  exact ⟨ad, A5, c5, hA, hc5, hC5, fun W' h => ⟨(h.cell (World.block_lt_of_cell? w0 _ u0)).trans u0, (h.cell (World.block_lt_of_cell? w0 _ u1)).trans u1, (h.cell (World.block_lt_of_cell? w0 _ u2)).trans u2, (h.cell (World.block_lt_of_cell? w0 _ u3)).trans u3, (h.cell (World.block_lt_of_cell? w0 _ u4)).trans u4⟩⟩
set_option maxRecDepth 100000 in
set_option maxHeartbeats 16000000 in
/-- A statement is written. -/
theorem TS_call (w0 : World) (x : S37) (hG : goodSt x = true) (B b : Nat) (A : Option Addr) (c : Nat) (l : List UInt8) (W : World) (hS : TS w0 B b W W l) (hC : Kd.C k31 w0 A x.f4.length x.f4) (hc : x.f4.length ≤ c) (hl : l.length + (prS x).length ≤ 140737488355328) :
    Calls Tryd.prog 53 #[.pointer (some ⟨b, 0, none⟩), .agg #[.int .i64 x.f0, .int .i64 x.f1, .string x.f2, .string x.f3, .slice A x.f4.length c]] W (Wrote B b (l ++ prS x) W) := by
  obtain ⟨xk, xa, xs, xt, args⟩ := x
  simp only at hC hc ⊢
  have hlen := C_len hC
  have HC := Lib.hid hC
  have SP0 := Lib.hid hS
  have HL := Lib.hid hl
  clear hC hS hl
  go_enter Tryd.func53, Tryd.ntmps53
  have hal := below_alloc (Below.refl _ W) (.cells #[.int .i64 xk, .int .i64 xa, .string xs, .string xt, .slice A args.length c] 37)
  have X1 := Lib.hid (blk_new W (.cells #[.int .i64 xk, .int .i64 xa, .string xs, .string xt, .slice A args.length c] 37))
  have hnb : W.heap.size ≠ b := by have := SP0.out.ne; omega
  have S1 := Lib.hid (SP0.out.below hal)
  clear hal SP0
  go_upto_region 1 with fail
  generalize W.alloc (.cells #[.int .i64 xk, .int .i64 xa, .string xs, .string xt, .slice A args.length c] 37) = wp at *
  generalize W.heap.size = gx at *
  have y0 := blk_cell X1.out 0
  have y2 := blk_cell X1.out 2
  have y3 := blk_cell X1.out 3
  have y4 := blk_cell X1.out 4
  rcases goodSt_cases hG with ⟨rfl, h0, p, rfl, hgp⟩ | ⟨rfl, h0, h0', hgl⟩ | ⟨rfl, hgl⟩ | ⟨rfl, p, rfl, hgp⟩
  · -- let
    have HP := Lib.hid (show prS ⟨1, xa, xs, xt, [p]⟩ = ([108, 101, 116, 32] ++ (bl xs ++ ([32, 61, 32] ++ prE p))) ++ [59, 32] by unfold prS; first | rfl | (rw [if_pos rfl]; rfl))
    obtain ⟨ad, A5, c5, hA, hc5, hC5, hU⟩ := first31 HC.out
    subst hA
    have HU := Lib.hid hU
    have HC5 := Lib.hid hC5
    clear hU hC5
    simp only [List.length_cons, List.length_nil, Nat.zero_add] at *
    have hs1 : ¬ 9223372036854775807 < 4 + xs.size := by omega
    have hs2 : ¬ 9223372036854775807 < 4 + xs.size + 3 := by omega
    go_upto_region 5 with (go_at_call 24; refine (write_call S1.out _ (by have h_ := HL.out; rw [HP.out] at h_; simp only [size_bl, bl_app, bl_lit, List.size_toArray, List.length_append, List.length_cons, List.length_nil] at h_ ⊢; omega)).mono ?_; rintro e w2 ⟨rfl, hs, hk⟩; have S2 := Lib.hid hs; have X2 := Lib.hid (TS.blk hk X1.out hnb (by decide)); clear hs hk)
    clear y0 y2 y3 y4
    have y4 := blk_cell X2.out 4
    obtain ⟨u0, u1, u2, u3, u4⟩ := HU.out _ S2.out.o
    go_upto_region 16 with (go_at_call 28; refine (TE_call w0 p hgp B b A5 c5 _ _ S2.out.self HC5.out hc5 (by have h_ := HL.out; rw [HP.out] at h_; simp only [size_bl, bl_app, bl_lit, List.size_toArray, List.length_append, List.length_cons, List.length_nil] at h_ ⊢; omega)).mono ?_; rintro e w3 ⟨rfl, ht, hf, hk⟩; have S3 := Lib.hid (S2.out.wrote ht hf hk); clear ht hf hk)
    go_wp2_with (go_at_call 24; refine (write_call S3.out _ (by have h_ := HL.out; rw [HP.out] at h_; simp only [size_bl, bl_app, bl_lit, List.size_toArray, List.length_append, List.length_cons, List.length_nil] at h_ ⊢; omega)).mono ?_; rintro e w4 ⟨rfl, hs, hk⟩; have S4 := Lib.hid hs; clear hs hk)
    go_end0
    exact S4.out.tell (by rw [HP.out]; simp only [bl_app, bl_mk, List.append_assoc, List.cons_append, List.nil_append, List.append_nil])
  · -- spawn
    have HP := Lib.hid (show prS ⟨2, xa, xs, xt, args⟩ = ([108, 101, 116, 32] ++ (bl xs ++ ([32, 61, 32, 115, 112, 97, 119, 110, 32] ++ (bl xt ++ (40 :: (prEL args ++ [41])))))) ++ [59, 32] by unfold prS; rw [if_neg (show ¬ (2 : Int) = 1 by decide)]; first | rfl | (rw [if_pos rfl]; rfl))
    have hs1 : ¬ 9223372036854775807 < 4 + xs.size := by omega
    have hs2 : ¬ 9223372036854775807 < 4 + xs.size + 9 := by omega
    have hs3 : ¬ 9223372036854775807 < 4 + xs.size + 9 + xt.size := by omega
    have hs4 : ¬ 9223372036854775807 < 4 + xs.size + 9 + xt.size + 1 := by omega
    go_upto_region 8 with (go_at_call 24; refine (write_call S1.out _ (by have h_ := HL.out; rw [HP.out] at h_; simp only [size_bl, bl_app, bl_lit, List.size_toArray, List.length_append, List.length_cons, List.length_nil] at h_ ⊢; omega)).mono ?_; rintro e w2 ⟨rfl, hs, hk⟩; have S2 := Lib.hid hs; have X2 := Lib.hid (TS.blk hk X1.out hnb (by decide)); clear hs hk)
    clear y0 y2 y3 y4
    have y4 := blk_cell X2.out 4
    go_upto_region 9 with (go_at_call 27; refine (TE_list w0 args (fun x _ => TE_call w0 x) hgl B b A c _ _ S2.out.self HC.out hc (by have h_ := HL.out; rw [HP.out] at h_; simp only [size_bl, bl_app, bl_lit, List.size_toArray, List.length_append, List.length_cons, List.length_nil] at h_ ⊢; omega)).mono ?_; rintro e w3 ⟨rfl, ht, hf, hk⟩; have S3 := Lib.hid (S2.out.wrote ht hf hk); clear ht hf hk)
    go_upto_region 16 with (go_at_call 24; refine (write_call S3.out _ (by have h_ := HL.out; rw [HP.out] at h_; simp only [size_bl, bl_app, bl_lit, List.size_toArray, List.length_append, List.length_cons, List.length_nil] at h_ ⊢; omega)).mono ?_; rintro e w4 ⟨rfl, hs, hk⟩; have S4 := Lib.hid hs; clear hs hk)
    go_wp2_with (go_at_call 24; refine (write_call S4.out _ (by have h_ := HL.out; rw [HP.out] at h_; simp only [size_bl, bl_app, bl_lit, List.size_toArray, List.length_append, List.length_cons, List.length_nil] at h_ ⊢; omega)).mono ?_; rintro e w5 ⟨rfl, hs, hk⟩; have S5 := Lib.hid hs; clear hs hk)
    go_end0
    exact S5.out.tell (by rw [HP.out]; simp only [bl_app, bl_mk, List.append_assoc, List.cons_append, List.nil_append, List.append_nil])
  · -- send
    have HP := Lib.hid (show prS ⟨3, xa, xs, xt, args⟩ = ([115, 101, 110, 100, 32] ++ prEL args) ++ [59, 32] by unfold prS; rw [if_neg (show ¬ (3 : Int) = 1 by decide)]; rw [if_neg (show ¬ (3 : Int) = 2 by decide)]; first | rfl | (rw [if_pos rfl]; rfl))
    go_upto_region 12 with (go_at_call 24; refine (write_call S1.out _ (by have h_ := HL.out; rw [HP.out] at h_; simp only [size_bl, bl_app, bl_lit, List.size_toArray, List.length_append, List.length_cons, List.length_nil] at h_ ⊢; omega)).mono ?_; rintro e w2 ⟨rfl, hs, hk⟩; have S2 := Lib.hid hs; have X2 := Lib.hid (TS.blk hk X1.out hnb (by decide)); clear hs hk)
    clear y0 y2 y3 y4
    have y4 := blk_cell X2.out 4
    go_upto_region 16 with (go_at_call 27; refine (TE_list w0 args (fun x _ => TE_call w0 x) hgl B b A c _ _ S2.out.self HC.out hc (by have h_ := HL.out; rw [HP.out] at h_; simp only [size_bl, bl_app, bl_lit, List.size_toArray, List.length_append, List.length_cons, List.length_nil] at h_ ⊢; omega)).mono ?_; rintro e w3 ⟨rfl, ht, hf, hk⟩; have S3 := Lib.hid (S2.out.wrote ht hf hk); clear ht hf hk)
    go_wp2_with (go_at_call 24; refine (write_call S3.out _ (by have h_ := HL.out; rw [HP.out] at h_; simp only [size_bl, bl_app, bl_lit, List.size_toArray, List.length_append, List.length_cons, List.length_nil] at h_ ⊢; omega)).mono ?_; rintro e w4 ⟨rfl, hs, hk⟩; have S4 := Lib.hid hs; clear hs hk)
    go_end0
    exact S4.out.tell (by rw [HP.out]; simp only [bl_app, bl_mk, List.append_assoc, List.cons_append, List.nil_append, List.append_nil])
  · -- out
    have HP := Lib.hid (show prS ⟨4, xa, xs, xt, [p]⟩ = ([111, 117, 116, 32] ++ prE p) ++ [59, 32] by unfold prS; rw [if_neg (show ¬ (4 : Int) = 1 by decide)]; rw [if_neg (show ¬ (4 : Int) = 2 by decide)]; rw [if_neg (show ¬ (4 : Int) = 3 by decide)]; first | rfl | (rw [if_pos rfl]; rfl))
    obtain ⟨ad, A5, c5, hA, hc5, hC5, hU⟩ := first31 HC.out
    subst hA
    have HU := Lib.hid hU
    have HC5 := Lib.hid hC5
    clear hU hC5
    simp only [List.length_cons, List.length_nil, Nat.zero_add] at *
    go_upto_region 15 with (go_at_call 24; refine (write_call S1.out _ (by have h_ := HL.out; rw [HP.out] at h_; simp only [size_bl, bl_app, bl_lit, List.size_toArray, List.length_append, List.length_cons, List.length_nil] at h_ ⊢; omega)).mono ?_; rintro e w2 ⟨rfl, hs, hk⟩; have S2 := Lib.hid hs; have X2 := Lib.hid (TS.blk hk X1.out hnb (by decide)); clear hs hk)
    clear y0 y2 y3 y4
    have y4 := blk_cell X2.out 4
    obtain ⟨u0, u1, u2, u3, u4⟩ := HU.out _ S2.out.o
    go_upto_region 16 with (go_at_call 28; refine (TE_call w0 p hgp B b A5 c5 _ _ S2.out.self HC5.out hc5 (by have h_ := HL.out; rw [HP.out] at h_; simp only [size_bl, bl_app, bl_lit, List.size_toArray, List.length_append, List.length_cons, List.length_nil] at h_ ⊢; omega)).mono ?_; rintro e w3 ⟨rfl, ht, hf, hk⟩; have S3 := Lib.hid (S2.out.wrote ht hf hk); clear ht hf hk)
    go_wp2_with (go_at_call 24; refine (write_call S3.out _ (by have h_ := HL.out; rw [HP.out] at h_; simp only [size_bl, bl_app, bl_lit, List.size_toArray, List.length_append, List.length_cons, List.length_nil] at h_ ⊢; omega)).mono ?_; rintro e w4 ⟨rfl, hs, hk⟩; have S4 := Lib.hid hs; clear hs hk)
    go_end0
    exact S4.out.tell (by rw [HP.out]; simp only [bl_app, bl_mk, List.append_assoc, List.cons_append, List.nil_append, List.append_nil])
end Go.Proofs.YtjboncbmeanlgaaDoor.Tr
