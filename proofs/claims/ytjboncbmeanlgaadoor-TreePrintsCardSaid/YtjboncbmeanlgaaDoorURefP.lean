/- RefP -/
import Derived.Test.YtjboncbmeanlgaaDoorURefT
/- The document's text of patterns. -/
set_option linter.unusedVariables false
set_option linter.unusedSimpArgs false
namespace Go.Proofs.YtjboncbmeanlgaaDoor.Tr
open Go.RowKit Go.Proofs Go.Proofs.YtjboncbmeanlgaaDoor.PTreePrints Go.Proofs.YtjboncbmeanlgaaDoorW.PrintWords Go.Proofs.YtjboncbmeanlgaaDoorW.PrintMore Go.Proofs.YtjboncbmeanlgaaDoorW.PrintLast
/-- What is to be shown of a pattern. -/
def XP (x : S83) : Prop := goodP x = true → ∀ (A : Option Addr) (c : Nat) (w : World), Kd.C k83 w A x.f4.length x.f4 → x.f4.length ≤ c → (prP x).length ≤ 140737488355328 → Calls Tryd.prog 75 #[.agg #[.int .i64 x.f0, .int .i64 x.f1, .int .i64 x.f2, .string x.f3, .slice A x.f4.length c]] w (SaysS (prP x) w)
set_option maxRecDepth 100000 in
set_option maxHeartbeats 16000000 in
theorem XP_ok (x : S83) (hI : ∀ y, y ∈ x.f4 → XP y) : XP x := by
  obtain ⟨xk, xa, xn, xs, args⟩ := x
  intro hG A c w hC hc hl
  simp only at hI hC hc ⊢
  have hlen := C_len hC
  have HI := Lib.hid hI
  have HC0 := Lib.hid hC
  have HL := Lib.hid hl
  clear hI hC hl
  go_enter Tryd.func75, Tryd.ntmps75
  have hal := below_alloc (Below.refl _ w) (.cells #[.int .i64 xk, .int .i64 xa, .int .i64 xn, .string xs, .slice A args.length c] 83)
  have XB := Lib.hid (blk_new w (.cells #[.int .i64 xk, .int .i64 xa, .int .i64 xn, .string xs, .slice A args.length c] 83))
  have B2 := Lib.hid hal
  have HC := Lib.hid (Kd.C_below HC0.out hal)
  clear hal HC0
  go_upto_region 1 with fail
  generalize w.alloc (.cells #[.int .i64 xk, .int .i64 xa, .int .i64 xn, .string xs, .slice A args.length c] 83) = w2 at *
  generalize hgx : w.heap.size = gx at *
  have BW := Lib.hid (show Below w.heap.size w w2 by rw [hgx]; exact B2.out)
  clear B2 hgx
  have y0 := blk_cell XB.out 0
  have y2 := blk_cell XB.out 2
  have y3 := blk_cell XB.out 3
  have y4 := blk_cell XB.out 4
  rcases goodP_cases hG with rfl | ⟨rfl, h0, h1⟩ | ⟨rfl, h0⟩ | ⟨rfl, h0⟩ | ⟨rfl, hgl⟩
  · -- plain
    have HP := Lib.hid (show prP ⟨1, xa, xn, xs, args⟩ = [95] by rw [prP, if_pos rfl])
    skip
    go_wp2
    go_ret
    exact SaysS.mk' (by rw [HP.out]; try rfl) BW.out
  · -- a number
    have HP := Lib.hid (show prP ⟨2, xa, xn, xs, args⟩ = Lib.itoa xn by rw [prP, if_neg (by decide), if_pos rfl])
    go_wp2_with (go_at_call 76; refine (number_says xn (by omega) (by omega) _).mono ?_; rintro e w3 ⟨r, rfl, hr, hd⟩; have B3 := Lib.hid (below_step BW.out hd); have HR := Lib.hid hr; clear hd hr)
    go_ret
    exact SaysS.mk' (by rw [HP.out, HR.out]) B3.out
  · -- plain
    have HP := Lib.hid (show prP ⟨3, xa, xn, xs, args⟩ = 39 :: bl xs by rw [prP, if_neg (by decide), if_neg (by decide), if_pos rfl])
    have hsz : ¬ 9223372036854775807 < 1 + xs.size := by omega
    go_wp2
    go_ret
    exact SaysS.mk' (by rw [HP.out]; rw [bl_app]; rfl) BW.out
  · -- plain
    have HP := Lib.hid (show prP ⟨4, xa, xn, xs, args⟩ = bl xs by rw [prP, if_neg (by decide), if_neg (by decide), if_neg (by decide), if_pos rfl])
    skip
    go_wp2
    go_ret
    exact SaysS.mk' (by rw [HP.out]) BW.out
  · -- a tuple
    have HP := Lib.hid (show prP ⟨5, xa, xn, xs, args⟩ = 123 :: (prPL args ++ [125]) by rw [prP, if_neg (by decide), if_neg (by decide), if_neg (by decide), if_neg (by decide)])
    have HLL := Lib.hid (show (prPL args).length + 2 ≤ 140737488355328 by have h := HL.out; rw [HP.out] at h; simp only [List.length_cons, List.length_append, List.length_nil] at h; omega)
    have XS := Lib.hid (fun (W' : World) (h : Below w2.heap.size w2 W') => blk_below XB.out h)
    clear y2 y3
    go_wp2
    go_loopw [4, 3] (fun vi vs wr => ∃ (i : Nat) (s : ByteArray), vi = .int .i64 i ∧ vs = .string s ∧ i ≤ args.length ∧ Hid (bl s = prPL (args.take i)) ∧ Hid (Below w2.heap.size w2 wr)) (fun vi _ _ => args.length - (intOf vi).toNat)
    case atStart => exact ⟨0, ⟨#[]⟩, by go_num, rfl, Nat.zero_le _, Lib.hid (by simp [prPL]), Lib.hid (Below.refl _ _)⟩
    case round =>
    obtain ⟨i, s, rfl, rfl, hil, HS, HB⟩ := hrel
    obtain ⟨wq, hwq⟩ : ∃ wq, wq = wr := ⟨_, rfl⟩
    subst hwq
    clear y0 y4
    have y4 := blk_cell (XS.out _ HB.out) 4
    by_cases hlt : i < args.length
    · have q1 : (i : Int) < (args.length : Int) := by omega
      have q0 : (0 : Int) ≤ (i : Int) := by omega
      obtain ⟨ad, A5, c5, hA, u0, u1, u2, u3, u4, hc5, hC5⟩ := at_T83 (Kd.C_below HC.out HB.out) (i : Int) q0 q1
      subst hA
      rw [rd83 args i hlt, Int.toNat_natCast] at u0 u1 u2 u3 u4
      rw [rd83 args i hlt] at hc5 hC5
      have HE := Lib.hid (HI.out args[i] (List.getElem_mem hlt) (goodPL_mem args _ hgl (List.getElem_mem hlt)))
      have hsn : prPL (args.take (i + 1)) = prPL (args.take i) ++ ((if args.take i = [] then [] else [44, 32]) ++ prP args[i]) := by rw [List.take_succ_eq_append_getElem hlt, prPL_snoc]
      have hle := prPL_take args (i + 1)
      have HT := Lib.hid hsn
      have hnil : args.take i = [] ↔ i = 0 := by
        cases args with
        | nil => simp at hlt
        | cons y r => simp
      have hb1 : (prPL (args.take i)).length + (prP args[i]).length ≤ 140737488355328 := by have h := HLL.out; rw [hsn, List.length_append, List.length_append] at hle; omega
      have HX := Lib.hid (show (prP args[i]).length ≤ 140737488355328 by omega)
      have HXS := Lib.hid (show s.size ≤ 140737488355328 by rw [size_bl, HS.out]; omega)
      have HC5 := Lib.hid hC5
      clear hC5 hsn hle hb1
      generalize args[i] = x at *
      have hs0 : s.size ≤ 140737488355328 := HXS.out
      have hs1 : ¬ 9223372036854775807 < s.size + 2 := by omega
      by_cases h0 : i = 0
      · have hi0 : ¬ (i : Int) > 0 := by omega
        have e1 := HT.out
        rw [if_pos (hnil.2 h0), List.nil_append] at e1
        have HT2 := Lib.hid e1
        clear e1 h0 hnil
        go_wp2_with (go_at_call 75; refine (HE.out A5 c5 _ HC5.out hc5 HX.out).mono ?_; rintro e w3 ⟨r, rfl, hr, hd⟩; have B3 := Lib.hid (below_step HB.out hd); have HR := Lib.hid hr; have hrs : r.size ≤ 140737488355328 := (by rw [size_bl, hr]; exact HX.out); have hs2 : ¬ 9223372036854775807 < s.size + r.size := (by omega); clear hd hr)
        go_roundw
        case rel => first | exact ⟨i + 1, _, by go_num, rfl, hlt, Lib.hid (by rw [bl_app, HS.out, HR.out, HT2.out]), B3⟩ | exact ⟨i + 1, by go_num, ⟨_, rfl⟩, hlt, Lib.hid (by rw [bl_app, HS.out, HR.out, HT2.out]), B3⟩
        case measure => simp [intOf]; omega
      · have hi0 : (i : Int) > 0 := by omega
        have e1 := HT.out
        rw [if_neg (fun h => h0 (hnil.1 h))] at e1
        have HT2 := Lib.hid e1
        clear e1 hnil
        go_wp2_with (go_at_call 75; refine (HE.out A5 c5 _ HC5.out hc5 HX.out).mono ?_; rintro e w3 ⟨r, rfl, hr, hd⟩; have B3 := Lib.hid (below_step HB.out hd); have HR := Lib.hid hr; have hrs : r.size ≤ 140737488355328 := (by rw [size_bl, hr]; exact HX.out); have hs2 : ¬ 9223372036854775807 < s.size + 2 + r.size := (by omega); clear hd hr)
        go_roundw
        case rel => first | exact ⟨i + 1, _, by go_num, rfl, hlt, Lib.hid (by rw [bl_app, bl_app, HS.out, HR.out, HT2.out]; simp [bl]), B3⟩ | exact ⟨i + 1, by go_num, ⟨_, rfl⟩, hlt, Lib.hid (by rw [bl_app, bl_app, HS.out, HR.out, HT2.out]; simp [bl]), B3⟩
        case measure => simp [intOf]; omega
    · obtain rfl : i = args.length := by omega
      have hg_ := HS.out
      rw [List.take_length] at hg_
      have hs0 : s.size ≤ 140737488355328 := by rw [size_bl, hg_]; have := HLL.out; omega
      have hs1 : ¬ 9223372036854775807 < 1 + s.size := by omega
      have hs2 : ¬ 9223372036854775807 < 1 + s.size + 1 := by omega
      have HG_ := Lib.hid hg_
      clear hg_
      go_wp2
      go_ret
      exact SaysS.mk' (by rw [HP.out, bl_app, bl_app, HG_.out]; simp [bl]) (below_step BW.out HB.out)
theorem XP_any : ∀ (n : Nat) (x : S83), SizeOf.sizeOf x ≤ n → XP x := by
  intro n
  induction n with
  | zero =>
    intro e he
    cases e
    simp at he
  | succ n ih =>
    intro e he
    refine XP_ok e (fun x hx => ih x ?_)
    have h1 := List.sizeOf_lt_of_mem hx
    cases e
    simp at he
    simp only at h1
    omega
theorem XP_call (x : S83) : XP x := XP_any _ x (Nat.le_refl _)
end Go.Proofs.YtjboncbmeanlgaaDoor.Tr
