/- WalkD -/
import Derived.Test.YtjboncbmeanlgaaDoorQWalkA
/- The walk through a tree, Depth: its closures. -/
set_option linter.unusedVariables false
set_option linter.unusedSimpArgs false
namespace Go.Proofs.YtjboncbmeanlgaaDoor.Tr
open Go.RowKit Go.Proofs Go.Proofs.YtjboncbmeanlgaaDoor.PTreePrints Go.Proofs.YtjboncbmeanlgaaDoorW.PrintWords Go.Proofs.YtjboncbmeanlgaaDoorW.PrintMore Go.Proofs.YtjboncbmeanlgaaDoorW.PrintLast
/-- What is to be shown of some expressions. -/
def WE_35 (w0 : World) (g b72 b95 b96 b94 : Nat) (l : List S31) : Prop := ∀ (A : Option Addr) (c : Nat) (lv : Nat) (m : Int) (W : World), Below w0.heap.size w0 W → NB g W m → BoxW 35 g b72 b95 b96 b94 W → Kd.C k31 w0 A l.length l → l.length ≤ c → lv ≤ 66 →
  Calls Tryd.prog 60 #[.slice A l.length c, .int .i64 (lv : Int), .pointer (some ⟨b72, 0, none⟩), .pointer (some ⟨b95, 0, none⟩)] W (Told g (walkEL stD l lv m) W)
set_option maxRecDepth 100000 in
set_option maxHeartbeats 16000000 in
theorem WE_35_ok (w0 : World) (g b72 b95 b96 b94 : Nat) (hg : w0.heap.size ≤ g) (l : List S31) (hI : ∀ x, x ∈ l → WE_35 w0 g b72 b95 b96 b94 x.f4) : WE_35 w0 g b72 b95 b96 b94 l := by
  intro A c lv m W hW hN hX hC hc hlv
  have hlen := C_len hC
  have HI := Lib.hid hI
  have HC := Lib.hid hC
  have HW := Lib.hid hW
  have HN := Lib.hid hN
  have HX := Lib.hid hX
  have hwl : wrap64 ((lv : Int) + 1) = ((lv + 1 : Nat) : Int) := w_inc lv (by omega)
  clear hI hC hW hN hX
  go_enter Tryd.func60, Tryd.ntmps60
  go_wp2
  go_loopw [10] (fun vi wr => ∃ i : Nat, vi = .int .i64 i ∧ i ≤ l.length ∧ Hid (NB g wr (walkEL stD (l.take i) lv m)) ∧ Hid (KX g W wr)) (fun vi _ => l.length - (intOf vi).toNat)
  case atStart => exact ⟨0, by go_num, Nat.zero_le _, Lib.hid HN.out, Lib.hid (KX.refl _ _)⟩
  case round =>
    obtain ⟨i, rfl, hil, HNI, HK⟩ := hrel
    obtain ⟨wq, hwq⟩ : ∃ wq, wq = wr := ⟨_, rfl⟩
    subst hwq
    by_cases hlt : i < l.length
    · have q1 : (i : Int) < (l.length : Int) := by omega
      have q0 : (0 : Int) ≤ (i : Int) := by omega
      have BQ := Lib.hid (HW.out.trans (HK.out.below hg HW.out.size))
      obtain ⟨ad, A5, c5, hA, u0, u1, u2, u3, u4, hc5, hC5⟩ := at_T31 HC.out (i : Int) q0 q1
      subst hA
      rw [rd31 l i hlt, Int.toNat_natCast] at u0 u1 u2 u3 u4
      rw [rd31 l i hlt] at hc5 hC5
      replace u0 := (BQ.out.cell (World.block_lt_of_cell? w0 _ u0)).trans u0
      replace u1 := (BQ.out.cell (World.block_lt_of_cell? w0 _ u1)).trans u1
      replace u2 := (BQ.out.cell (World.block_lt_of_cell? w0 _ u2)).trans u2
      replace u3 := (BQ.out.cell (World.block_lt_of_cell? w0 _ u3)).trans u3
      replace u4 := (BQ.out.cell (World.block_lt_of_cell? w0 _ u4)).trans u4
      have HE := Lib.hid (HI.out l[i] (List.getElem_mem hlt))
      have HT := Lib.hid (show ∀ v, v = walkE stD l[i] lv (walkEL stD (l.take i) lv m) → v = walkEL stD (l.take (i + 1)) lv m from fun v hv => by rw [List.take_succ_eq_append_getElem hlt, walkEL_snoc]; exact hv)
      have HC5 := Lib.hid hC5
      have XQ := Lib.hid (HX.out.keep HN.out HK.out)
      clear hC5
      generalize l[i] = x at *
      generalize walkEL stD (l.take i) lv m = mi at *
      go_upto_region 3 with fail
      have hal := below_alloc (Below.refl _ wq) (.cells #[.int .i64 x.f0, .int .i64 x.f1, .int .i64 x.f2, .string x.f3, .slice A5 x.f4.length c5] 31)
      have XC := Lib.hid (blk_new wq (.cells #[.int .i64 x.f0, .int .i64 x.f1, .int .i64 x.f2, .string x.f3, .slice A5 x.f4.length c5] 31))
      have N4 := Lib.hid (HNI.out.below hal)
      have X4 := Lib.hid (XQ.out.below hal)
      have B4 := Lib.hid (below_step BQ.out hal)
      have K4 := Lib.hid (HK.out.trans (KX.of_below hal))
      clear hal u0 u1 u2 u3 u4 XQ HNI
      generalize wq.alloc (.cells #[.int .i64 x.f0, .int .i64 x.f1, .int .i64 x.f2, .string x.f3, .slice A5 x.f4.length c5] 31) = w4 at *
      generalize wq.heap.size = gq at *
      by_cases h65 : lv ≤ 65
      · have h65' : (lv : Int) ≤ 65 := by omega
        have ka := blk_cell X4.out.a 0
        go_upto_region 5 with (go_at_call 35; refine (cb35 g _ mi (lv : Int) N4.out).mono ?_; rintro e w5 ⟨rfl, hn5, hk5⟩; have N5 := Lib.hid hn5; have X5 := Lib.hid (X4.out.keep N4.out hk5); have C5_ := Lib.hid (hk5.blk XC.out (ne_blk XC.out N4.out (by decide))); have B5 := Lib.hid (B4.out.trans (hk5.below hg B4.out.size)); have K5 := Lib.hid (K4.out.trans hk5); clear hn5 hk5)
        have ke := blk_cell X5.out.e 0
        have z4 := blk_cell C5_.out 4
        go_wp2_with (go_at_call 60; refine (HE.out A5 c5 (lv + 1) _ _ B5.out N5.out X5.out HC5.out hc5 (by omega)).mono ?_; rintro e w6 ⟨rfl, hn6, hk6⟩; have N6 := Lib.hid hn6; have K6 := Lib.hid (K5.out.trans hk6); clear hn6 hk6)
        go_roundw
        case rel => exact ⟨i + 1, by go_num, hlt, Lib.hid (NB.cast (HT.out _ (by cases x; simp only [walkE]; rw [if_pos h65])) N6.out), K6⟩
        case measure => simp [intOf]; omega
      · have h65' : ¬ (lv : Int) ≤ 65 := by omega
        go_wp2
        go_roundw
        case rel => exact ⟨i + 1, by go_num, hlt, Lib.hid (NB.cast (HT.out _ (by cases x; simp only [walkE]; rw [if_neg h65])) N4.out), K4⟩
        case measure => simp [intOf]; omega
    · obtain rfl : i = l.length := by omega
      go_wp2
      go_end0
      have hn := HNI.out
      rw [List.take_length] at hn
      exact ⟨rfl, hn, HK.out⟩
theorem WE_35_any (w0 : World) (g b72 b95 b96 b94 : Nat) (hg : w0.heap.size ≤ g) : ∀ (n : Nat) (l : List S31), SizeOf.sizeOf l ≤ n → WE_35 w0 g b72 b95 b96 b94 l := by
  intro n
  induction n with
  | zero =>
    intro l hl
    cases l <;> simp at hl
  | succ n ih =>
    intro l hl
    refine WE_35_ok w0 g b72 b95 b96 b94 hg l (fun x hx => ih x.f4 ?_)
    have h1 := List.sizeOf_lt_of_mem hx
    cases x
    simp at h1 ⊢
    omega
/-- What is to be shown of some patterns. -/
def WP_35 (w0 : World) (g b72 b95 b96 b94 : Nat) (l : List S83) : Prop := ∀ (A : Option Addr) (c : Nat) (lv : Nat) (m : Int) (W : World), Below w0.heap.size w0 W → NB g W m → BoxW 35 g b72 b95 b96 b94 W → RdP w0 g W A l → l.length ≤ 9223372036854775807 → l.length ≤ c → lv ≤ 66 →
  Calls Tryd.prog 61 #[.slice A l.length c, .int .i64 (lv : Int), .pointer (some ⟨b72, 0, none⟩), .pointer (some ⟨b96, 0, none⟩)] W (Told g (walkPL stD l lv m) W)
set_option maxRecDepth 100000 in
set_option maxHeartbeats 16000000 in
theorem WP_35_ok (w0 : World) (g b72 b95 b96 b94 : Nat) (hg : w0.heap.size ≤ g) (l : List S83) (hI : ∀ x, x ∈ l → WP_35 w0 g b72 b95 b96 b94 x.f4) : WP_35 w0 g b72 b95 b96 b94 l := by
  intro A c lv m W hW hN hX hC hlen hc hlv
  have HI := Lib.hid hI
  have HC := Lib.hid hC
  have HW := Lib.hid hW
  have HN := Lib.hid hN
  have HX := Lib.hid hX
  have hwl : wrap64 ((lv : Int) + 1) = ((lv + 1 : Nat) : Int) := w_inc lv (by omega)
  clear hI hC hW hN hX
  go_enter Tryd.func61, Tryd.ntmps61
  go_wp2
  go_loopw [10] (fun vi wr => ∃ i : Nat, vi = .int .i64 i ∧ i ≤ l.length ∧ Hid (NB g wr (walkPL stD (l.take i) lv m)) ∧ Hid (KX g W wr)) (fun vi _ => l.length - (intOf vi).toNat)
  case atStart => exact ⟨0, by go_num, Nat.zero_le _, Lib.hid HN.out, Lib.hid (KX.refl _ _)⟩
  case round =>
    obtain ⟨i, rfl, hil, HNI, HK⟩ := hrel
    obtain ⟨wq, hwq⟩ : ∃ wq, wq = wr := ⟨_, rfl⟩
    subst hwq
    by_cases hlt : i < l.length
    · have q1 : (i : Int) < (l.length : Int) := by omega
      have q0 : (0 : Int) ≤ (i : Int) := by omega
      have BQ := Lib.hid (HW.out.trans (HK.out.below hg HW.out.size))
      obtain ⟨ad, A5, c5, hA, u0, u1, u2, u3, u4, hc5, hC5⟩ := HC.out wq HK.out i hlt
      subst hA
      have HE := Lib.hid (HI.out l[i] (List.getElem_mem hlt))
      have HT := Lib.hid (show ∀ v, v = walkP stD l[i] lv (walkPL stD (l.take i) lv m) → v = walkPL stD (l.take (i + 1)) lv m from fun v hv => by rw [List.take_succ_eq_append_getElem hlt, walkPL_snoc]; exact hv)
      have HC5 := Lib.hid hC5
      have XQ := Lib.hid (HX.out.keep HN.out HK.out)
      clear hC5
      generalize l[i] = x at *
      generalize walkPL stD (l.take i) lv m = mi at *
      go_upto_region 3 with fail
      have hal := below_alloc (Below.refl _ wq) (.cells #[.int .i64 x.f0, .int .i64 x.f1, .int .i64 x.f2, .string x.f3, .slice A5 x.f4.length c5] 83)
      have XC := Lib.hid (blk_new wq (.cells #[.int .i64 x.f0, .int .i64 x.f1, .int .i64 x.f2, .string x.f3, .slice A5 x.f4.length c5] 83))
      have N4 := Lib.hid (HNI.out.below hal)
      have X4 := Lib.hid (XQ.out.below hal)
      have B4 := Lib.hid (below_step BQ.out hal)
      have K4 := Lib.hid (HK.out.trans (KX.of_below hal))
      clear hal u0 u1 u2 u3 u4 XQ HNI
      generalize wq.alloc (.cells #[.int .i64 x.f0, .int .i64 x.f1, .int .i64 x.f2, .string x.f3, .slice A5 x.f4.length c5] 83) = w4 at *
      generalize wq.heap.size = gq at *
      by_cases h65 : lv ≤ 65
      · have h65' : (lv : Int) ≤ 65 := by omega
        have ka := blk_cell X4.out.a 0
        go_upto_region 5 with (go_at_call 35; refine (cb35 g _ mi (lv : Int) N4.out).mono ?_; rintro e w5 ⟨rfl, hn5, hk5⟩; have N5 := Lib.hid hn5; have X5 := Lib.hid (X4.out.keep N4.out hk5); have C5_ := Lib.hid (hk5.blk XC.out (ne_blk XC.out N4.out (by decide))); have B5 := Lib.hid (B4.out.trans (hk5.below hg B4.out.size)); have K5 := Lib.hid (K4.out.trans hk5); clear hn5 hk5)
        have ke := blk_cell X5.out.p 0
        have z4 := blk_cell C5_.out 4
        go_wp2_with (go_at_call 61; refine (HE.out A5 c5 (lv + 1) _ _ B5.out N5.out X5.out (RdP.of_C B5.out hg HC5.out) (C_len HC5.out) hc5 (by omega)).mono ?_; rintro e w6 ⟨rfl, hn6, hk6⟩; have N6 := Lib.hid hn6; have K6 := Lib.hid (K5.out.trans hk6); clear hn6 hk6)
        go_roundw
        case rel => exact ⟨i + 1, by go_num, hlt, Lib.hid (NB.cast (HT.out _ (by cases x; simp only [walkP]; rw [if_pos h65])) N6.out), K6⟩
        case measure => simp [intOf]; omega
      · have h65' : ¬ (lv : Int) ≤ 65 := by omega
        go_wp2
        go_roundw
        case rel => exact ⟨i + 1, by go_num, hlt, Lib.hid (NB.cast (HT.out _ (by cases x; simp only [walkP]; rw [if_neg h65])) N4.out), K4⟩
        case measure => simp [intOf]; omega
    · obtain rfl : i = l.length := by omega
      go_wp2
      go_end0
      have hn := HNI.out
      rw [List.take_length] at hn
      exact ⟨rfl, hn, HK.out⟩
theorem WP_35_any (w0 : World) (g b72 b95 b96 b94 : Nat) (hg : w0.heap.size ≤ g) : ∀ (n : Nat) (l : List S83), SizeOf.sizeOf l ≤ n → WP_35 w0 g b72 b95 b96 b94 l := by
  intro n
  induction n with
  | zero =>
    intro l hl
    cases l <;> simp at hl
  | succ n ih =>
    intro l hl
    refine WP_35_ok w0 g b72 b95 b96 b94 hg l (fun x hx => ih x.f4 ?_)
    have h1 := List.sizeOf_lt_of_mem hx
    cases x
    simp at h1 ⊢
    omega
end Go.Proofs.YtjboncbmeanlgaaDoor.Tr
