/- The plan's next: where a test of a pattern goes that does not fit. -/
import Derived.Test.YtelheeekbihfcaaTests
set_option linter.unusedVariables false
set_option linter.unusedSimpArgs false
namespace Go.Proofs.Ytelheeekbihfcaa.Pt
open Go.RowKit Go.Proofs Go.Proofs.Ytelheeekbihfcaa.PPatternFirst Go.Proofs.YtelheeekbihfcaaW.PrintWords Go.Proofs.YtelheeekbihfcaaW.PrintMore Go.Proofs.YtelheeekbihfcaaW.PrintLast

/-- The very same test? -/
def sameT (a b : S39) : Bool := a.f1 == b.f1 && (a.f2 == b.f2 && a.f0 == b.f0)
theorem sameT_iff (a b : S39) : sameT a b = true ↔ a = b := by
  cases a
  cases b
  simp only [sameT, Bool.and_eq_true, beq_iff_eq, S39.mk.injEq]
  constructor
  · rintro ⟨rfl, rfl, rfl⟩; exact ⟨rfl, rfl, rfl⟩
  · rintro ⟨rfl, rfl, rfl⟩; exact ⟨rfl, rfl, rfl⟩
theorem rd_get (l : List Int) (i : Nat) (h : i < l.length) : rd l (i : Int) = l[i] := by
  unfold rd
  rw [Int.toNat_natCast, List.getD_eq_getElem?_getD, List.getElem?_eq_getElem h]
  rfl
theorem w_inc (i : Nat) (h : i ≤ 1000000) : wrap64 ((i : Int) + 1) = ((i + 1 : Nat) : Int) := by rw [w_small _ (by omega) (by omega)]; omega
theorem same_l0 (a b : List Int) (a1 a2 b1 b2 : Int) (hl : a.length = b.length) (hn : a.length ≤ 1000000) : ∀ (d i : Nat), a.length - i = d → i ≤ a.length → pattern_same.l0 (d + 1) a.length i a a1 a2 b b1 b2 = some (decide (a.drop i = b.drop i)) := by
  intro d
  induction d with
  | zero =>
    intro i hd hi
    obtain rfl : i = a.length := by omega
    rw [pattern_same.l0, if_neg (by omega), List.drop_length, hl, List.drop_length]
    rfl
  | succ d ih =>
    intro i hd hi
    have hlt : i < a.length := by omega
    have hlt2 : i < b.length := by omega
    have h1 := ih (i + 1) (by omega) (by omega)
    have e1 := w_inc i (by omega)
    rw [pattern_same.l0, if_pos (by omega), if_pos (by omega), if_pos (by omega), if_pos (by omega), rd_get a i hlt, rd_get b i hlt2, e1, h1, List.drop_eq_getElem_cons hlt, List.drop_eq_getElem_cons hlt2]
    by_cases h : a[i] = b[i]
    · rw [if_pos h]
      simp only [List.cons.injEq, h, true_and]
    · rw [if_neg h]
      simp only [List.cons.injEq, h, false_and, decide_false]
theorem same_f (a b : S39) (hn : a.f0.length ≤ 1000000) : ∃ k, pattern_same.f k a.f0 a.f1 a.f2 b.f0 b.f1 b.f2 = some (sameT a b) := by
  refine ⟨a.f0.length + 2, ?_⟩
  unfold pattern_same.f
  have hj : ∀ q : Bool, q = true → sameT a b = false → pattern_same.j0 (a.f0.length + 2) q a.f0 a.f1 a.f2 b.f0 b.f1 b.f2 = some (sameT a b) := fun q hq hs => by rw [pattern_same.j0, if_pos hq, hs]
  by_cases h1 : a.f1 = b.f1
  · rw [if_pos h1]
    by_cases h2 : a.f2 = b.f2
    · rw [if_pos h2]
      by_cases h3 : a.f0.length = b.f0.length
      · have h4 := same_l0 a.f0 b.f0 a.f1 a.f2 b.f1 b.f2 h3 hn a.f0.length 0 rfl (Nat.zero_le _)
        rw [pattern_same.j0, if_neg (by simp [h3])]
        rw [show ((0 : Nat) : Int) = 0 from rfl] at h4
        rw [h4]
        simp only [List.drop_zero, sameT, h1, h2, beq_self_eq_true, Bool.true_and]
        congr 1
        rw [Bool.eq_iff_iff]
        simp
      · refine hj _ (by simp; omega) ?_
        simp only [sameT, h1, h2, beq_self_eq_true, Bool.true_and, beq_eq_false_iff_ne]
        intro h
        exact h3 (by rw [h])
    · rw [if_neg h2]
      exact hj true rfl (by simp [sameT, h2])
  · rw [if_neg h1]
    exact hj true rfl (by simp [sameT, h1])

def hasT (l : List S39) (t : S39) : Bool := l.any (sameT t)
/-- Where a test goes that does not fit: to the first of the next pattern that has it not. -/
def nextG (allT : List (List S39)) (firsts : List Int) (e : Int) (t : S39) : Nat → Nat → Int
  | 0, _ => e
  | d + 1, j => if hasT (allT.getD j []) t = true then nextG allT firsts e t d (j + 1) else firsts.getD j 0
/-- A row of rows of tests. -/
abbrev kTT : Kd (List S39) := Kd.slice 39 k39
theorem at_TT {w : World} {A : Option Addr} {n : Nat} {xs : List (List S39)} (h : Kd.C kTT w A n xs) (i : Nat) (h1 : i < xs.length) (hn : xs.length = n) : ∃ ad A0 c0, A = some ad ∧ w.cell? (ad.add i) = some (.slice A0 xs[i].length c0) ∧ xs[i].length ≤ c0 ∧ k39.C w A0 xs[i].length xs[i] := by
  obtain ⟨ad, c, e, _, hK, hc0⟩ := Kd.C_get h ([] : List S39) (i : Int) (by omega) (by omega)
  have hc : ∀ j u, c[j]? = some u → w.cell? (ad.add ((i : Int).toNat * 1 + j)) = some u := hc0
  rw [Int.toNat_natCast, List.getD_eq_getElem?_getD, List.getElem?_eq_getElem h1] at hK
  obtain ⟨A0, c0, rfl, l0, g0⟩ := hK
  exact ⟨ad, A0, c0, e, by have hq := hc 0 _ rfl; rwa [Int.toNat_natCast, Nat.mul_one, Nat.add_zero] at hq, l0, g0⟩

set_option maxRecDepth 100000 in
set_option maxHeartbeats 8000000 in
theorem next_call (bl ba bf be : Nat) (Al : Option Addr) (cl : Nat) (Aa : Option Addr) (ca : Nat) (Af : Option Addr) (cf : Nat) (allT : List (List S39)) (firsts : List Int) (en : Int) (k : Nat) (t : S39) (Ap : Option Addr) (cp : Nat) (W : World)
    (h1 : W.heap[bl]? = some (.cells #[.slice Al allT.length cl] 22 (0, 0))) (h2 : W.heap[ba]? = some (.cells #[.slice Aa allT.length ca] 74 (0, 0))) (h3 : W.heap[bf]? = some (.cells #[.slice Af firsts.length cf] 31 (0, 0))) (h4 : W.heap[be]? = some (.cells #[.int .i64 en] 3 (0, 0)))
    (hC : Kd.C kTT W Aa allT.length allT) (hCf : Kd.C (Kd.int .i64) W Af firsts.length firsts) (hCp : Kd.C (Kd.int .i64) W Ap t.f0.length t.f0) (hcp : t.f0.length ≤ cp) (hlp : t.f0.length ≤ 1000000) (hlf : firsts.length = allT.length) (hn : allT.length ≤ 100000) (hm : ∀ x, x ∈ allT → x.length ≤ 1000000) (hk : k < allT.length) :
    Calls Try.prog 20 #[.int .i64 (k : Int), .agg #[.slice Ap t.f0.length cp, .int .i64 t.f1, .int .i64 t.f2], .pointer (some ⟨bl, 0, none⟩), .pointer (some ⟨ba, 0, none⟩), .pointer (some ⟨bf, 0, none⟩), .pointer (some ⟨be, 0, none⟩)] W fun e W' => e = .returned (.int .i64 (nextG allT firsts en t (allT.length - (k + 1)) (k + 1))) ∧ Below W.heap.size W W' := by
  have H1 := Lib.hid h1
  have H2 := Lib.hid h2
  have H3 := Lib.hid h3
  have H4 := Lib.hid h4
  have HC := Lib.hid hC
  have HF := Lib.hid hCf
  have HP := Lib.hid hCp
  clear h1 h2 h3 h4 hC hCf hCp
  have hw1 : wrap64 ((k : Int) + 1) = ((k + 1 : Nat) : Int) := w_inc k (by omega)
  go_enter Try.func20, Try.ntmps20
  have hbl := below_alloc (Below.refl _ W) (.cells #[.slice Ap t.f0.length cp, .int .i64 t.f1, .int .i64 t.f2] 39)
  have X0 := Lib.hid (blk_new W (.cells #[.slice Ap t.f0.length cp, .int .i64 t.f1, .int .i64 t.f2] 39))
  have B1 := Lib.hid hbl
  go_upto_region 1 with fail
  generalize W.alloc (.cells #[.slice Ap t.f0.length cp, .int .i64 t.f1, .int .i64 t.f2] 39) = W1 at *
  generalize hgt : W.heap.size = gt at *
  clear hbl
  go_step3
  go_wp2
  go_step3
  go_wp2
  go_loopw [9] (fun v9 wr => ∃ j : Nat, v9 = .int .i64 j ∧ k + 1 ≤ j ∧ j ≤ allT.length ∧ Hid (nextG allT firsts en t (allT.length - (k + 1)) (k + 1) = nextG allT firsts en t (allT.length - j) j) ∧ Hid (Below W1.heap.size W1 wr)) (fun v9 _ => allT.length - (intOf v9).toNat)
  case atStart => exact ⟨k + 1, by go_num, Nat.le_refl _, hk, Lib.hid rfl, Lib.hid (Below.refl _ _)⟩
  case round =>
    obtain ⟨j, rfl, hj1, hj2, HN, HBR⟩ := hrel
    clear hw1
    obtain ⟨wo, hwo⟩ : ∃ wo, wo = wr := ⟨_, rfl⟩
    subst hwo
    have HB := Lib.hid (show Below W.heap.size W wo from below_step (by rw [hgt]; exact B1.out) HBR.out)
    have k1 := blk_cell (blk_below H1.out HB.out) 0
    have k2 := blk_cell (blk_below H2.out HB.out) 0
    have k3 := blk_cell (blk_below H3.out HB.out) 0
    have k4 := blk_cell (blk_below H4.out HB.out) 0
    by_cases hlt : j < allT.length
    · obtain ⟨ad, A0, c0, hAa, u, hc0, hC0⟩ := at_TT (Kd.C_below HC.out HB.out) j hlt rfl
      subst hAa
      have HC0 := Lib.hid hC0
      have q0 : (0 : Int) ≤ (j : Int) := by omega
      have q1 : (j : Int) < (allT.length : Int) := by omega
      have hml := hm allT[j] (List.getElem_mem hlt)
      have hgn : nextG allT firsts en t (allT.length - j) j = if hasT allT[j] t = true then nextG allT firsts en t (allT.length - (j + 1)) (j + 1) else firsts.getD j 0 := by
        obtain ⟨d, hd⟩ : ∃ d, allT.length - j = d + 1 := ⟨allT.length - j - 1, by omega⟩
        rw [hd, nextG, List.getD_eq_getElem?_getD, List.getElem?_eq_getElem hlt, show allT.length - (j + 1) = d by omega]
        rfl
      have HGN := Lib.hid hgn
      clear hC0 hgn
      go_wp2
      go_loopw [25] (fun v25 wq => ∃ i : Nat, v25 = .int .i64 i ∧ i ≤ allT[j].length ∧ Hid (hasT (allT[j].take i) t = false) ∧ Hid (Below wo.heap.size wo wq)) (fun v25 _ => allT[j].length - (intOf v25).toNat)
      case atStart => exact ⟨0, by go_num, Nat.zero_le _, Lib.hid rfl, Lib.hid (Below.refl _ _)⟩
      case round =>
        obtain ⟨i, rfl, hi, HH, HBQ⟩ := hrel
        obtain ⟨wq, hwq⟩ : ∃ wq, wq = wr := ⟨_, rfl⟩
        subst hwq
        by_cases hlt2 : i < allT[j].length
        · have q2 : (0 : Int) ≤ (i : Int) := by omega
          have q3 : (i : Int) < (allT[j].length : Int) := by omega
          obtain ⟨ad0, A1, c1, hA0, u0, u1, u2, hc1, hC1⟩ := at_T39 (Kd.C_below HC0.out HBQ.out) (i : Int) q2 q3
          subst hA0
          have hrd : rd_T39 allT[j] (i : Int) = allT[j][i] := by
            unfold rd_T39
            rw [Int.toNat_natCast, List.getD_eq_getElem?_getD, List.getElem?_eq_getElem hlt2]
            rfl
          rw [hrd, Int.toNat_natCast] at u0 u1 u2
          rw [hrd] at hc1 hC1
          obtain ⟨ks, hks⟩ := same_f t allT[j][i] hlp
          have HS := Lib.hid fun (Wx : World) (h : Below wq.heap.size wq Wx) => pattern_same.calls ks Ap cp t.f0 t.f1 t.f2 A1 c1 allT[j][i].f0 allT[j][i].f1 allT[j][i].f2 (sameT t allT[j][i]) Wx (Kd.C_below HP.out (below_step HB.out (below_step HBQ.out h))) hcp (Kd.C_below hC1 h) hc1 hks
          have XT := Lib.hid (blk_below X0.out (below_step HBR.out HBQ.out))
          clear hC1 hks k1 k2 k3 k4 u
          go_upto_region 7 with fail
          have hbl := below_alloc (Below.refl _ wq) (.cells #[.slice A1 allT[j][i].f0.length c1, .int .i64 allT[j][i].f1, .int .i64 allT[j][i].f2] 39)
          have XU := Lib.hid (blk_new wq (.cells #[.slice A1 allT[j][i].f0.length c1, .int .i64 allT[j][i].f1, .int .i64 allT[j][i].f2] 39))
          have XT2 := Lib.hid (blk_below XT.out hbl)
          have BU := Lib.hid hbl
          have BQU := Lib.hid (below_step HBQ.out hbl)
          clear hbl u0 u1 u2
          generalize wq.alloc (.cells #[.slice A1 allT[j][i].f0.length c1, .int .i64 allT[j][i].f1, .int .i64 allT[j][i].f2] 39) = wu at *
          generalize wq.heap.size = gu at *
          have t0 := blk_cell XT2.out 0
          have t1 := blk_cell XT2.out 1
          have t2 := blk_cell XT2.out 2
          have v0 := blk_cell XU.out 0
          have v1 := blk_cell XU.out 1
          have v2 := blk_cell XU.out 2
          cases hs : sameT t allT[j][i] with
          | true =>
            rw [hs] at HS
            have hhas : hasT allT[j] t = true := List.any_eq_true.2 ⟨allT[j][i], List.getElem_mem hlt2, hs⟩
            have HH2 := Lib.hid hhas
            clear hhas
            go_wp2_with (go_at_call 21; refine (HS.out _ BU.out).mono ?_; rintro e w9 ⟨rfl, hd⟩; clear t0 t1 t2 v0 v1 v2; have B9 := Lib.hid (below_step BQU.out hd); clear hd)
            go_roundw
            case rel => exact ⟨j + 1, by go_num, by omega, hlt, Lib.hid (by rw [HN.out, HGN.out, if_pos HH2.out]), Lib.hid (below_step HBR.out B9.out)⟩
            case measure => simp [intOf]; omega
          | false =>
            rw [hs] at HS
            have hhas : hasT (allT[j].take (i + 1)) t = false := by
              unfold hasT at *
              rw [List.take_succ_eq_append_getElem hlt2, List.any_append, HH.out, Bool.false_or]
              simp [hs]
            have HH2 := Lib.hid hhas
            clear hhas
            go_wp2_with (go_at_call 21; refine (HS.out _ BU.out).mono ?_; rintro e w9 ⟨rfl, hd⟩; clear t0 t1 t2 v0 v1 v2; have B9 := Lib.hid (below_step BQU.out hd); clear hd)
            go_roundw
            case rel => exact ⟨i + 1, by go_num, hlt2, HH2, B9⟩
            case measure => simp [intOf]; omega
        · obtain rfl : i = allT[j].length := by omega
          have hno : hasT allT[j] t = false := by have := HH.out; rwa [List.take_length] at this
          have hres : nextG allT firsts en t (allT.length - (k + 1)) (k + 1) = firsts[j]'(by omega) := by
            rw [HN.out, HGN.out, hno, if_neg (by decide), List.getD_eq_getElem?_getD, List.getElem?_eq_getElem (by omega)]
            rfl
          have HRES := Lib.hid hres
          have HBF := Lib.hid (below_step HB.out HBQ.out)
          obtain ⟨adf, hAf, hfj⟩ := Kd.at_int (Kd.C_below HF.out HBF.out) (j : Int) q0 (by omega)
          subst hAf
          rw [rd_get firsts j (by omega), Int.toNat_natCast] at hfj
          have kf := blk_cell (blk_below H3.out HBF.out) 0
          have qf : (j : Int) < (firsts.length : Int) := by omega
          clear hno hres k1 k2 k3 k4 u
          go_wp2
          try rw [Exit.noGoto_ret]
          go_ret
          exact ⟨by rw [HRES.out]; rfl, HBF.out⟩
    · obtain rfl : j = allT.length := by omega
      have hres : nextG allT firsts en t (allT.length - (k + 1)) (k + 1) = en := by rw [HN.out, Nat.sub_self]; rfl
      have HRES := Lib.hid hres
      clear hres
      go_wp2
      try rw [Exit.noGoto_ret]
      go_ret
      exact ⟨by rw [HRES.out]; rfl, HB.out⟩
end Go.Proofs.Ytelheeekbihfcaa.Pt
