/- RefF -/
import Derived.Test.YtjboncbmeanlgaaDoorURefE
/- The document's text of bodies, closed. -/
set_option linter.unusedVariables false
set_option linter.unusedSimpArgs false
namespace Go.Proofs.YtjboncbmeanlgaaDoor.Tr
open Go.RowKit Go.Proofs Go.Proofs.YtjboncbmeanlgaaDoor.PTreePrints Go.Proofs.YtjboncbmeanlgaaDoorW.PrintWords Go.Proofs.YtjboncbmeanlgaaDoorW.PrintMore Go.Proofs.YtjboncbmeanlgaaDoorW.PrintLast
set_option maxRecDepth 100000 in
set_option maxHeartbeats 16000000 in
theorem XB_ok (x : S42) (hI : ∀ y, y ∈ x.f5 → XB y) (hJ : ∀ y, y ∈ x.f6 → XB y.2.2) : XB x := by
  intro hG A0 c0 A4 c4 A5 c5 A6 c6 w hB hl
  have hEn : (prEn x).length ≤ 140737488355328 := by rw [prB_eq] at hl; simp only [List.length_append] at hl; omega
  have HEn := Lib.hid (fun (W' : World) (h : BodyC W' x A0 c0 A4 c4 A5 c5 A6 c6) => XEn_ok x hI hJ hG A0 c0 A4 c4 A5 c5 A6 c6 W' h hEn)
  clear hI hJ
  obtain ⟨f0, f1, f2, f3, f4, f5, f6, f7, f8⟩ := x
  obtain ⟨hgS, _, _, _⟩ := goodB_cases hG
  have hln0 := C_len hB.g0
  simp only at hln0
  have HP := Lib.hid (show prB ⟨f0, f1, f2, f3, f4, f5, f6, f7, f8⟩ = [123, 32] ++ (prSL f0 ++ (prEn ⟨f0, f1, f2, f3, f4, f5, f6, f7, f8⟩ ++ [32, 125])) from prB_eq _)
  have HL := Lib.hid hl
  have HB0 := Lib.hid hB
  have HGS := Lib.hid hgS
  have HXn := Lib.hid hEn
  clear hl hB hgS hEn hG
  unfold bodyV at HEn ⊢
  simp only at HEn ⊢
  go_enter Tryd.func30, Tryd.ntmps30
  have hal := below_alloc (Below.refl _ w) (.cells #[.slice A0 f0.length c0, .int .i64 f1, .int .i64 f2, .string f3, .slice A4 f4.length c4, .slice A5 f5.length c5, .slice A6 f6.length c6, .bool f7, .int .i64 f8] 42)
  have XB_ := Lib.hid (blk_new w (.cells #[.slice A0 f0.length c0, .int .i64 f1, .int .i64 f2, .string f3, .slice A4 f4.length c4, .slice A5 f5.length c5, .slice A6 f6.length c6, .bool f7, .int .i64 f8] 42))
  have B2 := Lib.hid hal
  have HB := Lib.hid (HB0.out.below hal)
  clear hal HB0
  go_upto_region 1 with fail
  generalize w.alloc (.cells #[.slice A0 f0.length c0, .int .i64 f1, .int .i64 f2, .string f3, .slice A4 f4.length c4, .slice A5 f5.length c5, .slice A6 f6.length c6, .bool f7, .int .i64 f8] 42) = w2 at *
  generalize hgx : w.heap.size = gx at *
  have BW := Lib.hid (show Below w.heap.size w w2 by rw [hgx]; exact B2.out)
  clear B2 hgx
  have y0 := blk_cell XB_.out 0
  have XS := Lib.hid (fun (W' : World) (h : Below w2.heap.size w2 W') => blk_below XB_.out h)
  go_wp2
  go_loopw [4, 3] (fun vi vs wr => ∃ (i : Nat) (s : ByteArray), vi = .int .i64 i ∧ vs = .string s ∧ i ≤ f0.length ∧ Hid (bl s = [123, 32] ++ prSL (f0.take i)) ∧ Hid (Below w2.heap.size w2 wr)) (fun vi _ _ => f0.length - (intOf vi).toNat)
  case atStart => exact ⟨0, ⟨#[123, 32]⟩, by go_num, rfl, Nat.zero_le _, Lib.hid (by simp [prSL, bl]), Lib.hid (Below.refl _ _)⟩
  case round =>
    obtain ⟨i, s, rfl, rfl, hil, HS, HQ⟩ := hrel
    obtain ⟨wq, hwq⟩ : ∃ wq, wq = wr := ⟨_, rfl⟩
    subst hwq
    clear y0
    have y0 := blk_cell (XS.out _ HQ.out) 0
    by_cases hlt : i < f0.length
    · have q1 : (i : Int) < (f0.length : Int) := by omega
      have q0 : (0 : Int) ≤ (i : Int) := by omega
      obtain ⟨ad_, A9, c9, hA_, u0, u1, u2, u3, u4, hX_⟩ := at_T37 (HB.out.below HQ.out).g0 (i : Int) q0 q1
      subst hA_
      rw [rd37 f0 i hlt, Int.toNat_natCast] at u0 u1 u2 u3 u4
      rw [rd37 f0 i hlt] at hX_
      obtain ⟨ht1, ht2⟩ := pre_take prSL prSL_app f0 i hlt
      have hone : prSL [f0[i]] = prS f0[i] := by simp [prSL]
      rw [hone] at ht1 ht2
      have HT := Lib.hid ht1
      have hsz : s.size = 2 + (prSL (f0.take i)).length := by rw [size_bl, HS.out, List.length_append]; rfl
      have hle : 2 + (prSL f0).length ≤ 140737488355328 := by have h_ := HL.out; rw [HP.out] at h_; simp only [List.length_append, List.length_cons, List.length_nil] at h_; omega
      have hps : (prS f0[i]).length = (prS0 f0[i]).length + 1 := by rw [prS_eq, List.length_append]; rfl
      have HX := Lib.hid (show (prS0 f0[i]).length ≤ 140737488355328 by omega)
      have hs0 : s.size ≤ 140737488355328 := by omega
      have hgs := goodSL_mem f0 f0[i] HGS.out (List.getElem_mem hlt)
      have HZ := Lib.hid hX_
      clear hX_ ht1 ht2 hone hsz hle hps
      generalize f0[i] = x at *
      go_wp2_with (go_at_call 56; refine (XS_call x hgs A9 c9 _ HZ.out.2 HZ.out.1 HX.out).mono ?_; rintro e w3 ⟨r, rfl, hr, hd⟩; have Q3 := Lib.hid (below_step HQ.out hd); have HR := Lib.hid hr; have hrs : r.size ≤ 140737488355328 := (by rw [size_bl, hr]; exact HX.out); have hz1 : ¬ 9223372036854775807 < s.size + r.size := (by omega); have hz2 : ¬ 9223372036854775807 < s.size + r.size + 1 := (by omega); clear hd hr)
      go_roundw
      case rel => first | exact ⟨i + 1, _, by go_num, rfl, hlt, Lib.hid (by rw [bl_app, bl_app, HS.out, HR.out, HT.out, prS_eq]; simp [bl]), Q3⟩ | exact ⟨i + 1, by go_num, ⟨_, rfl⟩, hlt, Lib.hid (by rw [bl_app, bl_app, HS.out, HR.out, HT.out, prS_eq]; simp [bl]), Q3⟩
      case measure => simp [intOf]; omega
    · obtain rfl : i = f0.length := by omega
      have hg_ := HS.out
      rw [List.take_length] at hg_
      have HG_ := Lib.hid hg_
      have hsz : s.size = 2 + (prSL f0).length := by rw [size_bl, hg_, List.length_append]; rfl
      have hle : 2 + (prSL f0).length ≤ 140737488355328 := by have h_ := HL.out; rw [HP.out] at h_; simp only [List.length_append, List.length_cons, List.length_nil] at h_; omega
      have hs0 : s.size ≤ 140737488355328 := by omega
      clear hg_ HS hsz hle
      have XQ := Lib.hid (XS.out _ HQ.out)
      have y1 := blk_cell XQ.out 1
      have y2 := blk_cell XQ.out 2
      have y3 := blk_cell XQ.out 3
      have y4 := blk_cell XQ.out 4
      have y5 := blk_cell XQ.out 5
      have y6 := blk_cell XQ.out 6
      have y7 := blk_cell XQ.out 7
      have y8 := blk_cell XQ.out 8
      have CB := Lib.hid (HB.out.below HQ.out)
      go_wp2_with (go_at_call 57; refine (HEn.out _ CB.out).mono ?_; rintro e w3 ⟨r, rfl, hr, hd⟩; have Q3 := Lib.hid (below_step HQ.out hd); have HR := Lib.hid hr; have hrs : r.size ≤ 140737488355328 := (by rw [size_bl, hr]; exact HXn.out); have hz1 : ¬ 9223372036854775807 < s.size + r.size := (by omega); have hz2 : ¬ 9223372036854775807 < s.size + r.size + 2 := (by omega); clear hd hr)
      go_ret
      exact SaysS.mk' (by rw [HP.out, bl_app, bl_app, HG_.out, HR.out]; simp [bl]) (below_step BW.out Q3.out)
theorem XB_any : ∀ (n : Nat) (x : S42), SizeOf.sizeOf x ≤ n → XB x := by
  intro n
  induction n with
  | zero =>
    intro x hx
    cases x
    simp at hx
  | succ n ih =>
    intro x hx
    refine XB_ok x (fun y hy => ih y ?_) (fun y hy => ih y.2.2 ?_)
    · have h1 := List.sizeOf_lt_of_mem hy
      cases x
      simp at hx
      simp only at h1
      omega
    · have h1 := List.sizeOf_lt_of_mem hy
      obtain ⟨p, q, b⟩ := y
      cases x
      simp at hx
      simp at h1 ⊢
      omega
theorem XB_call (x : S42) : XB x := XB_any _ x (Nat.le_refl _)
end Go.Proofs.YtjboncbmeanlgaaDoor.Tr
