/- Next; PlanN; PlanA -/
import Derived.Test.YtelheeekbihfcaaTestsA
section
/- The plan's next: where a test of a pattern goes that does not fit. -/
set_option linter.unusedVariables false
set_option linter.unusedSimpArgs false
namespace Go.Proofs.Ytelheeekbihfcaa.Pt
open Go.RowKit Go.Proofs Go.Proofs.Ytelheeekbihfcaa.PPatternFirst Go.Proofs.YtelheeekbihfcaaW.PrintWords Go.Proofs.YtelheeekbihfcaaW.PrintMore Go.Proofs.YtelheeekbihfcaaW.PrintLast
/-- The very same test? -/
def sameT (a b : S39) : Bool := a.f1 == b.f1 && (a.f2 == b.f2 && a.f0 == b.f0)
theorem sameT_iff (a b : S39) : sameT a b = true ↔ a = b := by
  cases a
  cases b
  simp only [sameT, Bool.and_eq_true, beq_iff_eq, S39.mk.injEq]
  constructor
  · rintro ⟨rfl, rfl, rfl⟩; exact ⟨rfl, rfl, rfl⟩
  · rintro ⟨rfl, rfl, rfl⟩; exact ⟨rfl, rfl, rfl⟩
theorem rd_get (l : List Int) (i : Nat) (h : i < l.length) : rd l (i : Int) = l[i] := by
  unfold rd
  rw [Int.toNat_natCast, List.getD_eq_getElem?_getD, List.getElem?_eq_getElem h]
  rfl
theorem w_inc (i : Nat) (h : i ≤ 1000000) : wrap64 ((i : Int) + 1) = ((i + 1 : Nat) : Int) := by rw [w_small _ (by omega) (by omega)]; omega
theorem same_l0 (a b : List Int) (a1 a2 b1 b2 : Int) (hl : a.length = b.length) (hn : a.length ≤ 1000000) : ∀ (d i : Nat), a.length - i = d → i ≤ a.length → pattern_same.l0 (d + 1) a.length i a a1 a2 b b1 b2 = some (decide (a.drop i = b.drop i)) := by
  intro d
  induction d with
  | zero =>
    intro i hd hi
    obtain rfl : i = a.length := by omega
    rw [pattern_same.l0, if_neg (by omega), List.drop_length, hl, List.drop_length]
    rfl
  | succ d ih =>
    intro i hd hi
    have hlt : i < a.length := by omega
    have hlt2 : i < b.length := by omega
    have h1 := ih (i + 1) (by omega) (by omega)
    have e1 := w_inc i (by omega)
    rw [pattern_same.l0, if_pos (by omega), if_pos (by omega), if_pos (by omega), if_pos (by omega), rd_get a i hlt, rd_get b i hlt2, e1, h1, List.drop_eq_getElem_cons hlt, List.drop_eq_getElem_cons hlt2]
    by_cases h : a[i] = b[i]
    · rw [if_pos h]
      simp only [List.cons.injEq, h, true_and]
    · rw [if_neg h]
      simp only [List.cons.injEq, h, false_and, decide_false]
theorem same_f (a b : S39) (hn : a.f0.length ≤ 1000000) : ∃ k, pattern_same.f k a.f0 a.f1 a.f2 b.f0 b.f1 b.f2 = some (sameT a b) := by
  refine ⟨a.f0.length + 2, ?_⟩
  unfold pattern_same.f
  have hj : ∀ q : Bool, q = true → sameT a b = false → pattern_same.j0 (a.f0.length + 2) q a.f0 a.f1 a.f2 b.f0 b.f1 b.f2 = some (sameT a b) := fun q hq hs => by rw [pattern_same.j0, if_pos hq, hs]
  by_cases h1 : a.f1 = b.f1
  · rw [if_pos h1]
    by_cases h2 : a.f2 = b.f2
    · rw [if_pos h2]
      by_cases h3 : a.f0.length = b.f0.length
      · have h4 := same_l0 a.f0 b.f0 a.f1 a.f2 b.f1 b.f2 h3 hn a.f0.length 0 rfl (Nat.zero_le _)
        rw [pattern_same.j0, if_neg (by simp [h3])]
        rw [show ((0 : Nat) : Int) = 0 from rfl] at h4
        rw [h4]
        simp only [List.drop_zero, sameT, h1, h2, beq_self_eq_true, Bool.true_and]
        congr 1
        rw [Bool.eq_iff_iff]
        simp
      · refine hj _ (by simp; omega) ?_
        simp only [sameT, h1, h2, beq_self_eq_true, Bool.true_and, beq_eq_false_iff_ne]
        intro h
        exact h3 (by rw [h])
    · rw [if_neg h2]
      exact hj true rfl (by simp [sameT, h2])
  · rw [if_neg h1]
    exact hj true rfl (by simp [sameT, h1])
def hasT (l : List S39) (t : S39) : Bool := l.any (sameT t)
/-- Where a test goes that does not fit: to the first of the next pattern that has it not. -/
def nextG (allT : List (List S39)) (firsts : List Int) (e : Int) (t : S39) : Nat → Nat → Int
  | 0, _ => e
  | d + 1, j => if hasT (allT.getD j []) t = true then nextG allT firsts e t d (j + 1) else firsts.getD j 0
/-- A row of rows of tests. -/
abbrev kTT : Kd (List S39) := Kd.slice 39 k39
theorem at_TT {w : World} {A : Option Addr} {n : Nat} {xs : List (List S39)} (h : Kd.C kTT w A n xs) (i : Nat) (h1 : i < xs.length) (hn : xs.length = n) : ∃ ad A0 c0, A = some ad ∧ w.cell? (ad.add i) = some (.slice A0 xs[i].length c0) ∧ xs[i].length ≤ c0 ∧ k39.C w A0 xs[i].length xs[i] := by
  obtain ⟨ad, c, e, _, hK, hc0⟩ := Kd.C_get h ([] : List S39) (i : Int) (by omega) (by omega)
  have hc : ∀ j u, c[j]? = some u → w.cell? (ad.add ((i : Int).toNat * 1 + j)) = some u := hc0
  rw [Int.toNat_natCast, List.getD_eq_getElem?_getD, List.getElem?_eq_getElem h1] at hK
  obtain ⟨A0, c0, rfl, l0, g0⟩ := hK
  exact ⟨ad, A0, c0, e, by have hq := hc 0 _ rfl; rwa [Int.toNat_natCast, Nat.mul_one, Nat.add_zero] at hq, l0, g0⟩
set_option maxRecDepth 100000 in
set_option maxHeartbeats 8000000 in
theorem next_call (bl ba bf be : Nat) (Al : Option Addr) (cl : Nat) (Aa : Option Addr) (ca : Nat) (Af : Option Addr) (cf : Nat) (allT : List (List S39)) (firsts : List Int) (en : Int) (k : Nat) (t : S39) (Ap : Option Addr) (cp : Nat) (W : World)
    (h1 : W.heap[bl]? = some (.cells #[.slice Al allT.length cl] 22 (0, 0))) (h2 : W.heap[ba]? = some (.cells #[.slice Aa allT.length ca] 74 (0, 0))) (h3 : W.heap[bf]? = some (.cells #[.slice Af firsts.length cf] 31 (0, 0))) (h4 : W.heap[be]? = some (.cells #[.int .i64 en] 3 (0, 0)))
    (hC : Kd.C kTT W Aa allT.length allT) (hCf : Kd.C (Kd.int .i64) W Af firsts.length firsts) (hCp : Kd.C (Kd.int .i64) W Ap t.f0.length t.f0) (hcp : t.f0.length ≤ cp) (hlp : t.f0.length ≤ 1000000) (hlf : firsts.length = allT.length) (hn : allT.length ≤ 100000) (hm : ∀ x, x ∈ allT → x.length ≤ 1000000) (hk : k < allT.length) :
    Calls Try.prog 20 #[.int .i64 (k : Int), .agg #[.slice Ap t.f0.length cp, .int .i64 t.f1, .int .i64 t.f2], .pointer (some ⟨bl, 0, none⟩), .pointer (some ⟨ba, 0, none⟩), .pointer (some ⟨bf, 0, none⟩), .pointer (some ⟨be, 0, none⟩)] W fun e W' => e = .returned (.int .i64 (nextG allT firsts en t (allT.length - (k + 1)) (k + 1))) ∧ Below W.heap.size W W' := by
  have H1 := Lib.hid h1
  have H2 := Lib.hid h2
  have H3 := Lib.hid h3
  have H4 := Lib.hid h4
  have HC := Lib.hid hC
  have HF := Lib.hid hCf
  have HP := Lib.hid hCp
  clear h1 h2 h3 h4 hC hCf hCp
  have hw1 : wrap64 ((k : Int) + 1) = ((k + 1 : Nat) : Int) := w_inc k (by omega)
  go_enter Try.func20, Try.ntmps20
  have hbl := below_alloc (Below.refl _ W) (.cells #[.slice Ap t.f0.length cp, .int .i64 t.f1, .int .i64 t.f2] 39)
  have X0 := Lib.hid (blk_new W (.cells #[.slice Ap t.f0.length cp, .int .i64 t.f1, .int .i64 t.f2] 39))
  have B1 := Lib.hid hbl
  go_upto_region 1 with fail
  generalize W.alloc (.cells #[.slice Ap t.f0.length cp, .int .i64 t.f1, .int .i64 t.f2] 39) = W1 at *
  generalize hgt : W.heap.size = gt at *
  clear hbl
  go_step3
  go_wp2
  go_step3
  go_wp2
  go_loopw [9] (fun v9 wr => ∃ j : Nat, v9 = .int .i64 j ∧ k + 1 ≤ j ∧ j ≤ allT.length ∧ Hid (nextG allT firsts en t (allT.length - (k + 1)) (k + 1) = nextG allT firsts en t (allT.length - j) j) ∧ Hid (Below W1.heap.size W1 wr)) (fun v9 _ => allT.length - (intOf v9).toNat)
  case atStart => exact ⟨k + 1, by go_num, Nat.le_refl _, hk, Lib.hid rfl, Lib.hid (Below.refl _ _)⟩
  case round =>
    obtain ⟨j, rfl, hj1, hj2, HN, HBR⟩ := hrel
    clear hw1
    obtain ⟨wo, hwo⟩ : ∃ wo, wo = wr := ⟨_, rfl⟩
    subst hwo
    have HB := Lib.hid (show Below W.heap.size W wo from below_step (by rw [hgt]; exact B1.out) HBR.out)
    have k1 := blk_cell (blk_below H1.out HB.out) 0
    have k2 := blk_cell (blk_below H2.out HB.out) 0
    have k3 := blk_cell (blk_below H3.out HB.out) 0
    have k4 := blk_cell (blk_below H4.out HB.out) 0
    by_cases hlt : j < allT.length
    · obtain ⟨ad, A0, c0, hAa, u, hc0, hC0⟩ := at_TT (Kd.C_below HC.out HB.out) j hlt rfl
      subst hAa
      have HC0 := Lib.hid hC0
      have q0 : (0 : Int) ≤ (j : Int) := by omega
      have q1 : (j : Int) < (allT.length : Int) := by omega
      have hml := hm allT[j] (List.getElem_mem hlt)
      have hgn : nextG allT firsts en t (allT.length - j) j = if hasT allT[j] t = true then nextG allT firsts en t (allT.length - (j + 1)) (j + 1) else firsts.getD j 0 := by
        obtain ⟨d, hd⟩ : ∃ d, allT.length - j = d + 1 := ⟨allT.length - j - 1, by omega⟩
        rw [hd, nextG, List.getD_eq_getElem?_getD, List.getElem?_eq_getElem hlt, show allT.length - (j + 1) = d by omega]
        rfl
      have HGN := Lib.hid hgn
      clear hC0 hgn
      go_wp2
      go_loopw [25] (fun v25 wq => ∃ i : Nat, v25 = .int .i64 i ∧ i ≤ allT[j].length ∧ Hid (hasT (allT[j].take i) t = false) ∧ Hid (Below wo.heap.size wo wq)) (fun v25 _ => allT[j].length - (intOf v25).toNat)
      case atStart => exact ⟨0, by go_num, Nat.zero_le _, Lib.hid rfl, Lib.hid (Below.refl _ _)⟩
      case round =>
        obtain ⟨i, rfl, hi, HH, HBQ⟩ := hrel
        obtain ⟨wq, hwq⟩ : ∃ wq, wq = wr := ⟨_, rfl⟩
        subst hwq
        by_cases hlt2 : i < allT[j].length
        · have q2 : (0 : Int) ≤ (i : Int) := by omega
          have q3 : (i : Int) < (allT[j].length : Int) := by omega
          obtain ⟨ad0, A1, c1, hA0, u0, u1, u2, hc1, hC1⟩ := at_T39 (Kd.C_below HC0.out HBQ.out) (i : Int) q2 q3
          subst hA0
          have hrd : rd_T39 allT[j] (i : Int) = allT[j][i] := by
            unfold rd_T39
            rw [Int.toNat_natCast, List.getD_eq_getElem?_getD, List.getElem?_eq_getElem hlt2]
            rfl
          rw [hrd, Int.toNat_natCast] at u0 u1 u2
          rw [hrd] at hc1 hC1
          obtain ⟨ks, hks⟩ := same_f t allT[j][i] hlp
          have HS := Lib.hid fun (Wx : World) (h : Below wq.heap.size wq Wx) => pattern_same.calls ks Ap cp t.f0 t.f1 t.f2 A1 c1 allT[j][i].f0 allT[j][i].f1 allT[j][i].f2 (sameT t allT[j][i]) Wx (Kd.C_below HP.out (below_step HB.out (below_step HBQ.out h))) hcp (Kd.C_below hC1 h) hc1 hks
          have XT := Lib.hid (blk_below X0.out (below_step HBR.out HBQ.out))
          clear hC1 hks k1 k2 k3 k4 u
          go_upto_region 7 with fail
          have hbl := below_alloc (Below.refl _ wq) (.cells #[.slice A1 allT[j][i].f0.length c1, .int .i64 allT[j][i].f1, .int .i64 allT[j][i].f2] 39)
          have XU := Lib.hid (blk_new wq (.cells #[.slice A1 allT[j][i].f0.length c1, .int .i64 allT[j][i].f1, .int .i64 allT[j][i].f2] 39))
          have XT2 := Lib.hid (blk_below XT.out hbl)
          have BU := Lib.hid hbl
          have BQU := Lib.hid (below_step HBQ.out hbl)
          clear hbl u0 u1 u2
          generalize wq.alloc (.cells #[.slice A1 allT[j][i].f0.length c1, .int .i64 allT[j][i].f1, .int .i64 allT[j][i].f2] 39) = wu at *
          generalize wq.heap.size = gu at *
          have t0 := blk_cell XT2.out 0
          have t1 := blk_cell XT2.out 1
          have t2 := blk_cell XT2.out 2
          have v0 := blk_cell XU.out 0
          have v1 := blk_cell XU.out 1
          have v2 := blk_cell XU.out 2
          cases hs : sameT t allT[j][i] with
          | true =>
            rw [hs] at HS
            have hhas : hasT allT[j] t = true := List.any_eq_true.2 ⟨allT[j][i], List.getElem_mem hlt2, hs⟩
            have HH2 := Lib.hid hhas
            clear hhas
            go_wp2_with (go_at_call 21; refine (HS.out _ BU.out).mono ?_; rintro e w9 ⟨rfl, hd⟩; clear t0 t1 t2 v0 v1 v2; have B9 := Lib.hid (below_step BQU.out hd); clear hd)
            go_roundw
            case rel => exact ⟨j + 1, by go_num, by omega, hlt, Lib.hid (by rw [HN.out, HGN.out, if_pos HH2.out]), Lib.hid (below_step HBR.out B9.out)⟩
            case measure => simp [intOf]; omega
          | false =>
            rw [hs] at HS
            have hhas : hasT (allT[j].take (i + 1)) t = false := by
              unfold hasT at *
              rw [List.take_succ_eq_append_getElem hlt2, List.any_append, HH.out, Bool.false_or]
              simp [hs]
            have HH2 := Lib.hid hhas
            clear hhas
            go_wp2_with (go_at_call 21; refine (HS.out _ BU.out).mono ?_; rintro e w9 ⟨rfl, hd⟩; clear t0 t1 t2 v0 v1 v2; have B9 := Lib.hid (below_step BQU.out hd); clear hd)
            go_roundw
            case rel => exact ⟨i + 1, by go_num, hlt2, HH2, B9⟩
            case measure => simp [intOf]; omega
        · obtain rfl : i = allT[j].length := by omega
          have hno : hasT allT[j] t = false := by have := HH.out; rwa [List.take_length] at this
          have hres : nextG allT firsts en t (allT.length - (k + 1)) (k + 1) = firsts[j]'(by omega) := by
            rw [HN.out, HGN.out, hno, if_neg (by decide), List.getD_eq_getElem?_getD, List.getElem?_eq_getElem (by omega)]
            rfl
          have HRES := Lib.hid hres
          have HBF := Lib.hid (below_step HB.out HBQ.out)
          obtain ⟨adf, hAf, hfj⟩ := Kd.at_int (Kd.C_below HF.out HBF.out) (j : Int) q0 (by omega)
          subst hAf
          rw [rd_get firsts j (by omega), Int.toNat_natCast] at hfj
          have kf := blk_cell (blk_below H3.out HBF.out) 0
          have qf : (j : Int) < (firsts.length : Int) := by omega
          clear hno hres k1 k2 k3 k4 u
          go_wp2
          try rw [Exit.noGoto_ret]
          go_ret
          exact ⟨by rw [HRES.out]; rfl, HBF.out⟩
    · obtain rfl : j = allT.length := by omega
      have hres : nextG allT firsts en t (allT.length - (k + 1)) (k + 1) = en := by rw [HN.out, Nat.sub_self]; rfl
      have HRES := Lib.hid hres
      clear hres
      go_wp2
      try rw [Exit.noGoto_ret]
      go_ret
      exact ⟨by rw [HRES.out]; rfl, HB.out⟩
end Go.Proofs.Ytelheeekbihfcaa.Pt
end
section
/- The plan's nodes. -/
set_option linter.unusedVariables false
set_option linter.unusedSimpArgs false
namespace Go.Proofs.Ytelheeekbihfcaa.Pt
open Go.RowKit Go.Proofs Go.Proofs.Ytelheeekbihfcaa.PPatternFirst Go.Proofs.YtelheeekbihfcaaW.PrintWords Go.Proofs.YtelheeekbihfcaaW.PrintMore Go.Proofs.YtelheeekbihfcaaW.PrintLast
/-- The node of a test that stands at pos. -/
def nodeOf (allT : List (List S39)) (firsts : List Int) (e : Int) (n k pos : Nat) (t : S39) : S41 := ⟨t, (pos : Int) + 1, nextG allT firsts e t (n - (k + 1)) (k + 1), -1⟩
/-- The nodes of some tests, from pos on. -/
def blockOf (allT : List (List S39)) (firsts : List Int) (e : Int) (n k : Nat) : List S39 → Nat → List S41
  | [], _ => []
  | t :: r, pos => nodeOf allT firsts e n k pos t :: blockOf allT firsts e n k r (pos + 1)
def leafOf (a : Int) : S41 := ⟨⟨[], 0, 0⟩, 0, 0, a⟩
/-- The nodes of the patterns from the k-th on, from pos on. -/
def nodesOf (allT : List (List S39)) (firsts : List Int) (e : Int) (n : Nat) : List (List S39) → Nat → Nat → List S41
  | [], _, _ => []
  | ts :: r, k, pos => blockOf allT firsts e n k ts pos ++ (leafOf k :: nodesOf allT firsts e n r (k + 1) (pos + (ts.length + 1)))
theorem blockOf_len (allT : List (List S39)) (firsts : List Int) (e : Int) (n k : Nat) : ∀ (ts : List S39) (pos : Nat), (blockOf allT firsts e n k ts pos).length = ts.length
  | [], _ => rfl
  | t :: r, pos => by simp [blockOf, blockOf_len allT firsts e n k r]
theorem blockOf_snoc (allT : List (List S39)) (firsts : List Int) (e : Int) (n k : Nat) : ∀ (ts : List S39) (t : S39) (pos : Nat), blockOf allT firsts e n k (ts ++ [t]) pos = blockOf allT firsts e n k ts pos ++ [nodeOf allT firsts e n k (pos + ts.length) t]
  | [], t, pos => by simp [blockOf]
  | s :: r, t, pos => by
    have ih := blockOf_snoc allT firsts e n k r t (pos + 1)
    rw [List.cons_append, blockOf, ih, blockOf, List.cons_append, List.length_cons, show pos + 1 + r.length = pos + (r.length + 1) by omega]
/-- How many nodes some patterns have. -/
def endOf : List (List S39) → Nat
  | [] => 0
  | x :: r => x.length + 1 + endOf r
theorem nodesOf_len (allT : List (List S39)) (firsts : List Int) (e : Int) (n : Nat) : ∀ (l : List (List S39)) (k pos : Nat), (nodesOf allT firsts e n l k pos).length = endOf l
  | [], _, _ => rfl
  | x :: r, k, pos => by simp [nodesOf, endOf, nodesOf_len allT firsts e n r, blockOf_len]; omega
theorem nodesOf_snoc (allT : List (List S39)) (firsts : List Int) (e : Int) (n : Nat) : ∀ (l : List (List S39)) (x : List S39) (k pos : Nat), nodesOf allT firsts e n (l ++ [x]) k pos = nodesOf allT firsts e n l k pos ++ (blockOf allT firsts e n (k + l.length) x (pos + endOf l) ++ [leafOf ((k + l.length : Nat) : Int)])
  | [], x, k, pos => by simp [nodesOf, endOf]
  | y :: l, x, k, pos => by
    have ih := nodesOf_snoc allT firsts e n l x (k + 1) (pos + (y.length + 1))
    rw [List.cons_append, nodesOf, ih, nodesOf, endOf, List.length_cons, show k + 1 + l.length = k + (l.length + 1) by omega, show pos + (y.length + 1) + endOf l = pos + (y.length + 1 + endOf l) by omega]
    simp only [List.append_assoc, List.cons_append]
/-- A row of nodes of the call's own, each readable in the world Wb. -/
def NodeRow (Wb wr : World) (v : Value) (nodes : List S41) : Prop := ∃ cells, wr.ownsRow Wb.heap.size 41 6 v nodes.length cells ∧ Reps (fun (x : S41) (cs : List Value) => k41.K Wb x cs) 6 nodes cells
theorem NodeRow.below {Wb wr w1 : World} {v : Value} {nodes : List S41} (h : NodeRow Wb wr v nodes) (hb : Below wr.heap.size wr w1) : NodeRow Wb w1 v nodes := by
  obtain ⟨cells, h1, h2⟩ := h
  exact ⟨cells, own_move h1 (fun k hk => hb.block k (own_lt h1 k hk)), h2⟩
theorem NodeRow.nil (Wb wr : World) : NodeRow Wb wr (.slice none 0 0) [] := ⟨[], own_nil _ _ _ _, Reps.none _ _⟩
theorem NodeRow.slice {Wb wr : World} {v : Value} {nodes : List S41} (h : NodeRow Wb wr v nodes) : ∃ A c, v = .slice A nodes.length c := by
  obtain ⟨cells, h1, _⟩ := h
  exact own_slice h1
/-- A row of nodes is read. -/
theorem NodeRow.reads {Wb wr : World} {A : Option Addr} {n c : Nat} {nodes : List S41} (h : NodeRow Wb wr (.slice A n c) nodes) (hB : Below Wb.heap.size Wb wr) : n = nodes.length ∧ n ≤ c ∧ Kd.C k41 wr A nodes.length nodes := by
  obtain ⟨cells, h1, h2⟩ := h
  obtain ⟨A', c', he, hr⟩ := own_reads_row h1 h2 rfl
  injection he with e1 e2 e3
  subst e1 e2 e3
  exact ⟨rfl, own_cap h1, hr.imp_ (Below.refl _ _) (fun p cs hp => k41.K_below hB hp)⟩
mutual
/-- A test's path is no longer than the pattern is deep. -/
theorem testsP_path (at_ : List ByteArray) : ∀ (p : S53) (path : List Int) (t : S39), t ∈ testsP at_ p path → t.f0.length ≤ path.length + nodesP p
  | ⟨k, a, n, nm, args⟩, path, t, h => by
    have hl := testsL_path at_ args path 0 t
    have ho : t ∈ ownT at_ ⟨k, a, n, nm, args⟩ path → t.f0 = path := by
      unfold ownT
      repeat' split
      all_goals (intro h; simp at h)
      all_goals (subst h; rfl)
    unfold testsP at h
    unfold nodesP
    rcases List.mem_append.1 h with h | h
    · rw [ho h]; omega
    · split at h
      · have := hl h; omega
      · simp at h
theorem testsL_path (at_ : List ByteArray) : ∀ (l : List S53) (path : List Int) (i : Nat) (t : S39), t ∈ testsL at_ l path i → t.f0.length ≤ path.length + 1 + nodesL l
  | [], _, _, _, h => by simp [testsL] at h
  | x :: r, path, i, t, h => by
    have h1 := testsP_path at_ x (path ++ [(i : Int)]) t
    have h2 := testsL_path at_ r path (i + 1) t
    simp only [testsL, nodesL, List.mem_append, List.length_append, List.length_singleton] at h h1 ⊢
    rcases h with h | h
    · have := h1 h; omega
    · have := h2 h; omega
end
/-- One node more. -/
theorem NodeRow.snoc {Wb w6 : World} {v1 : Value} {nodes : List S41} {cells cs : List Value} {x : S41} (ho : w6.ownsRow Wb.heap.size 41 6 v1 (nodes.length + 1) (cells ++ cs)) (hr : Reps (fun (x : S41) (cs : List Value) => k41.K Wb x cs) 6 nodes cells) (hx : k41.K Wb x cs) (hc : cs.length = 6) : NodeRow Wb w6 v1 (nodes ++ [x]) :=
  ⟨cells ++ cs, by rw [List.length_append, List.length_singleton]; exact ho, Reps.snoc hr hx hc⟩
/-- A store of what stood there already. -/
theorem below_same {Wb w6 : World} {base g : Nat} {t : TypeId} {v : Value} (h : Below base Wb w6) (hg : w6.heap[g]? = some (.cells #[v] t (0, 0))) : Below base Wb (w6.setCell ⟨g, 0, none⟩ v) :=
  ⟨h.os, h.tape, h.output, by simpa using h.size, fun k hk => by
    by_cases hkg : k = g
    · subst hkg
      have h1 := blk_set hg 0 v
      simp only [List.setIfInBounds_toArray, List.set_cons_zero] at h1
      rw [h1, ← hg]
      exact h.block k hk
    · exact (Below.heap_setCell w6 ⟨g, 0, none⟩ v k hkg).trans (h.block k hk)⟩
/-- A row of nodes stays where an older box is stored. -/
theorem NodeRow.far {Wb wr : World} {v : Value} {nodes : List S41} (h : NodeRow Wb wr v nodes) {p : Addr} (hp : p.block < Wb.heap.size) (u : Value) : NodeRow Wb (wr.setCell p u) v nodes := by
  obtain ⟨cells, h1, h2⟩ := h
  exact ⟨cells, own_move h1 (fun k hk => Below.heap_setCell wr p u k (fun e => by have := own_base h1 k hk; omega)), h2⟩
theorem info41' : (Try.prog.info? 41).map (fun i => (i.zero, i.size, i.bytes)) = some (some (.agg #[.slice none 0 0, .int .i64 0, .int .i64 0, .int .i64 0, .int .i64 0, .int .i64 0]), 6, 64) := by kernel_rfl
theorem load31 (w : World) (g : Nat) (v : Value) (h : w.heap[g]? = some (.cells #[v] 31 (0, 0))) : (loadVar 31 ⟨g, 0, none⟩).run Try.prog w = .ok v w := by
  have k := blk_cell h 0
  go_simp
theorem results8 (tmps : Array Value) (w : World) (g : Nat) (v : Value) (hp : tmps.getD 5 undef = .pointer (some ⟨g, 0, none⟩)) (h : w.heap[g]? = some (.cells #[v] 31 (0, 0))) : (results Try.f8 tmps).run Try.prog w = .ok (.tuple #[tmps.getD 4 undef, v]) w := by
  have hp' : tmps[5]?.getD undef = .pointer (some ⟨g, 0, none⟩) := by simpa using hp
  have hr : Try.f8.results = #[.tmp 4, .cell 5 31] := rfl
  simp [results, hr, hp', asAddr, load31 w g v h]
end Go.Proofs.Ytelheeekbihfcaa.Pt
end
section
/- The plan: all patterns' tests, and where each pattern's first node is. -/
set_option linter.unusedVariables false
set_option linter.unusedSimpArgs false
namespace Go.Proofs.Ytelheeekbihfcaa.Pt
open Go.RowKit Go.Proofs Go.Proofs.Ytelheeekbihfcaa.PPatternFirst Go.Proofs.YtelheeekbihfcaaW.PrintWords Go.Proofs.YtelheeekbihfcaaW.PrintMore Go.Proofs.YtelheeekbihfcaaW.PrintLast
/-- All patterns' tests. -/
def allOf (at_ : List ByteArray) (l : List S53) : List (List S39) := l.map fun p => testsP at_ p []
/-- Where each pattern's first node is. -/
def firstsOf : List (List S39) → Nat → List Int
  | [], _ => []
  | x :: r, n => (n : Int) :: firstsOf r (n + (x.length + 1))
theorem endOf_app : ∀ a b, endOf (a ++ b) = endOf a + endOf b
  | [], b => by simp [endOf]
  | x :: a, b => by simp [endOf, endOf_app a b]; omega
theorem firstsOf_snoc : ∀ (a : List (List S39)) (x : List S39) (n : Nat), firstsOf (a ++ [x]) n = firstsOf a n ++ [((n + endOf a : Nat) : Int)]
  | [], x, n => by simp [firstsOf, endOf]
  | y :: a, x, n => by
    have ih := firstsOf_snoc a x (n + (y.length + 1))
    rw [List.cons_append, firstsOf, ih, firstsOf, endOf, List.cons_append, show n + (y.length + 1) + endOf a = n + (y.length + 1 + endOf a) by omega]
theorem firstsOf_len : ∀ (a : List (List S39)) (n : Nat), (firstsOf a n).length = a.length
  | [], _ => rfl
  | x :: r, n => by simp [firstsOf, firstsOf_len r]
theorem endOf_nodes (at_ : List ByteArray) : ∀ l : List S53, endOf (allOf at_ l) ≤ nodesL l + l.length
  | [] => Nat.le_refl _
  | x :: r => by
    have ih := endOf_nodes at_ r
    have h := testsP_len at_ x []
    simp only [allOf, List.map_cons, endOf, nodesL, List.length_cons] at ih ⊢
    omega
theorem endOf_take (a : List (List S39)) (i : Nat) : endOf (a.take i) ≤ endOf a := by
  conv => rhs; rw [← List.take_append_drop i a, endOf_app]
  omega
theorem info50' : (Try.prog.info? 50).map (fun i => (i.zero, i.size, i.bytes)) = some (some (.slice none 0 0), 1, 24) := by kernel_rfl
theorem tests_callP (at_ : List ByteArray) (Aa : Option Addr) (ca : Nat) (p : S53) (A4 : Option Addr) (c4 : Nat) (w : World) (hCa : Kd.C Kd.string w Aa at_.length at_) (hca : at_.length ≤ ca) (hal : at_.length ≤ 1000000)
    (hC : Kd.C k53 w A4 p.f4.length p.f4) (hc4 : p.f4.length ≤ c4) (hn : nodesP p ≤ 1000000) :
    Calls Try.prog 14 #[.agg #[.int .i64 p.f0, .int .i64 p.f1, .int .i64 p.f2, .string p.f3, .slice A4 p.f4.length c4], .slice Aa at_.length ca] w fun e w' => ∃ v, e = .returned v ∧ Kd.R k39 39 w' w.heap.size (fun _ => True) v (testsP at_ p []) ∧ Below w.heap.size w w' := by
  cases p
  exact tests_call at_ Aa ca _ _ _ _ _ A4 c4 w hCa hca hal hC hc4 hn
theorem next_callN (bl ba bf be : Nat) (Al : Option Addr) (cl : Nat) (Aa : Option Addr) (ca : Nat) (Af : Option Addr) (cf : Nat) (allT : List (List S39)) (firsts : List Int) (en : Int) (k : Nat) (t : S39) (Ap : Option Addr) (cp n : Nat) (hln : allT.length = n) (W : World)
    (h1 : W.heap[bl]? = some (.cells #[.slice Al n cl] 22 (0, 0))) (h2 : W.heap[ba]? = some (.cells #[.slice Aa n ca] 74 (0, 0))) (h3 : W.heap[bf]? = some (.cells #[.slice Af firsts.length cf] 31 (0, 0))) (h4 : W.heap[be]? = some (.cells #[.int .i64 en] 3 (0, 0)))
    (hC : Kd.C kTT W Aa allT.length allT) (hCf : Kd.C (Kd.int .i64) W Af firsts.length firsts) (hCp : Kd.C (Kd.int .i64) W Ap t.f0.length t.f0) (hcp : t.f0.length ≤ cp) (hlp : t.f0.length ≤ 1000000) (hlf : firsts.length = allT.length) (hn : allT.length ≤ 100000) (hm : ∀ x, x ∈ allT → x.length ≤ 1000000) (hk : k < allT.length) :
    Calls Try.prog 20 #[.int .i64 (k : Int), .agg #[.slice Ap t.f0.length cp, .int .i64 t.f1, .int .i64 t.f2], .pointer (some ⟨bl, 0, none⟩), .pointer (some ⟨ba, 0, none⟩), .pointer (some ⟨bf, 0, none⟩), .pointer (some ⟨be, 0, none⟩)] W fun e W' => e = .returned (.int .i64 (nextG allT firsts en t (n - (k + 1)) (k + 1))) ∧ Below W.heap.size W W' := by
  subst hln
  exact next_call bl ba bf be Al cl Aa ca Af cf allT firsts en k t Ap cp W h1 h2 h3 h4 hC hCf hCp hcp hlp hlf hn hm hk
/-- The plan's nodes. -/
def planN (at_ : List ByteArray) (l : List S53) : List S41 := nodesOf (allOf at_ l) (firstsOf (allOf at_ l) 0) (endOf (allOf at_ l) : Nat) l.length (allOf at_ l) 0 0 ++ [leafOf (-2)]
/-- What the first loop has behind i patterns. -/
structure L1 (w : World) (n0 nF nA nE : Nat) (Al : Option Addr) (n cl : Nat) (vA : Value) (allT : List (List S39)) (i : Nat) (vF : Value) (wr : World) : Prop where
  a : Kd.R kTT 50 wr w.heap.size (fun k => k ≠ nE ∧ some k ≠ vF.ownBlock) vA (allT.take i ++ List.replicate (n - i) [])
  f : Kd.R (Kd.int .i64) 3 wr w.heap.size (fun _ => True) vF (firstsOf (allT.take i) 0)
  bf : wr.heap[nF]? = some (.cells #[vF] 31 (0, 0))
  ba : wr.heap[nA]? = some (.cells #[vA] 74 (0, 0))
  be : wr.heap[nE]? = some (.cells #[.int .i64 ((endOf (allT.take i) : Nat) : Int)] 3 (0, 0))
  b0 : wr.heap[n0]? = some (.cells #[.slice Al n cl] 22 (0, 0))
  b : Below w.heap.size w wr
  ne : some nE ≠ vF.ownBlock
theorem L1.below {w : World} {n0 nF nA nE : Nat} {Al : Option Addr} {n cl : Nat} {vA : Value} {allT : List (List S39)} {i : Nat} {vF : Value} {wr w1 : World} (h : L1 w n0 nF nA nE Al n cl vA allT i vF wr) (hb : Below wr.heap.size wr w1) : L1 w n0 nF nA nE Al n cl vA allT i vF w1 :=
  ⟨Kd.R_below h.a hb, Kd.R_below h.f hb, blk_below h.bf hb, blk_below h.ba hb, blk_below h.be hb, blk_below h.b0 hb, below_step h.b hb, h.ne⟩
theorem fill_step {α : Type} (a : List (List α)) (i n : Nat) (h : i < n) (hn : a.length = n) (x : List α) (hx : a[i]'(by omega) = x) : (a.take i ++ List.replicate (n - i) []).set i x = a.take (i + 1) ++ List.replicate (n - (i + 1)) [] := by
  obtain ⟨d, hd⟩ : ∃ d, n - i = d + 1 := ⟨n - i - 1, by omega⟩
  rw [hd, show n - (i + 1) = d by omega, List.replicate_succ, List.set_append_right _ _ (by rw [List.length_take]; omega), List.length_take, Nat.min_eq_left (by omega), Nat.sub_self, List.set_cons_zero, List.take_succ_eq_append_getElem (by omega : i < a.length), hx, List.append_assoc]
  rfl
set_option maxRecDepth 100000 in
set_option maxHeartbeats 8000000 in
theorem plan_one (at_ : List ByteArray) (Aa : Option Addr) (ca : Nat) (Al : Option Addr) (l : List S53) (cl : Nat) (w : World) (hCa : Kd.C Kd.string w Aa at_.length at_) (hca : at_.length ≤ ca) (hal : at_.length ≤ 1000000)
    (hC : Kd.C k53 w Al l.length l) (hcl : l.length ≤ cl) (hl : l.length ≤ 1000) (hn : nodesL l ≤ 900000) :
    Calls Try.prog 8 #[.slice Al l.length cl, .slice Aa at_.length ca] w fun e w' => ∃ A c Af cf, e = .returned (.tuple #[.slice A (planN at_ l).length c, .slice Af (firstsOf (allOf at_ l) 0).length cf]) ∧ (planN at_ l).length ≤ c ∧ Kd.C k41 w' A (planN at_ l).length (planN at_ l) ∧ (firstsOf (allOf at_ l) 0).length ≤ cf ∧ Kd.C (Kd.int .i64) w' Af (firstsOf (allOf at_ l) 0).length (firstsOf (allOf at_ l) 0) ∧ Below w.heap.size w w' := by
  have HC := Lib.hid hC
  have HCA := Lib.hid hCa
  clear hC hCa
  go_enter Try.func8, Try.ntmps8
  go_upto_region 1 with fail
  have s1 : (w.alloc (.cells #[.slice Al l.length cl] 22)).heap.size = w.heap.size + 1 := by simp
  have X2 := blk_new (w.alloc (.cells #[.slice Al l.length cl] 22)) (.cells #[.slice none 0 0] 31)
  have X1 := blk_alloc (blk_new w (.cells #[.slice Al l.length cl] 22)) (.cells #[.slice none 0 0] 31)
  rw [s1] at X2
  have hbl := below_alloc (below_alloc (Below.refl _ w) (.cells #[.slice Al l.length cl] 22)) (.cells #[.slice none 0 0] 31)
  have XF := Lib.hid X2
  have X0 := Lib.hid X1
  have B1 := Lib.hid hbl
  generalize (w.alloc (.cells #[.slice Al l.length cl] 22)).alloc (.cells #[.slice none 0 0] 31) = W1 at *
  have k0 := blk_cell X1 0
  have hb1 : w.heap.size ≤ W1.heap.size := B1.out.size
  clear s1 hbl X1 X2
  go_upto_region 2 with (refine Kd.R_make kTT (w0 := w) w.heap.size 50 (by rfl) (by rfl) 74 _ _ rfl (l.length : Int) (by go_simp) (by go_simp) Try.underlying74 (.slice none 0 0) 24 info50' rfl (by decide) (by decide) [] (ok := fun k => True ∧ some k ≠ (Value.slice none 0 0).ownBlock) (okp := fun _ => False) ⟨_, rfl, Kd.R_nil _ _ _ _ _⟩ (fun _ h => h.elim) ⟨trivial, by simp [Value.ownBlock]⟩ (by omega) (by omega) B1.out hb1 ?_; intro vA w2 hr2 hb2 hg2 hat2; have HA := Lib.hid hr2; have B2 := Lib.hid hb2; have XF2 := Lib.hid (blk_grown XF.out hg2 (by simp)); have X02 := Lib.hid (blk_grown X0.out hg2 (by simp)); obtain ⟨AA, cA, rfl⟩ := Kd.R_slice hr2; rw [List.length_replicate, Int.toNat_natCast] at HA; clear hr2 hb2 hg2 hat2 k0)
  have hb2 : w.heap.size ≤ w2.heap.size := B2.out.size
  have s1 : (w2.alloc (.cells #[.slice AA l.length cA] 74)).heap.size = w2.heap.size + 1 := by simp
  have XE := blk_new (w2.alloc (.cells #[.slice AA l.length cA] 74)) (.cells #[.int .i64 0] 3)
  have XA := blk_alloc (blk_new w2 (.cells #[.slice AA l.length cA] 74)) (.cells #[.int .i64 0] 3)
  rw [s1] at XE
  have hbl := below_alloc (below_alloc (Below.refl _ w2) (.cells #[.slice AA l.length cA] 74)) (.cells #[.int .i64 0] 3)
  obtain ⟨allT, hAT⟩ : ∃ allT, allOf at_ l = allT := ⟨_, rfl⟩
  have hlenT : allT.length = l.length := by rw [← hAT]; simp [allOf]
  have HL := Lib.hid (show L1 w w.heap.size (w.heap.size + 1) w2.heap.size (w2.heap.size + 1) Al l.length cl (.slice AA l.length cA) allT 0 (.slice none 0 0) ((w2.alloc (.cells #[.slice AA l.length cA] 74)).alloc (.cells #[.int .i64 0] 3)) from
    ⟨by simpa using Kd.R_below (Kd.R_mono (Kd.R_bound HA.out) (fun k hk => show k ≠ w2.heap.size + 1 ∧ some k ≠ (Value.slice none 0 0).ownBlock from ⟨by have := hk.2.2.1; omega, hk.1.2⟩)) hbl, by rw [List.take_zero]; exact Kd.R_nil _ _ _ _ _, blk_below XF2.out hbl, XA, XE, blk_below X02.out hbl, below_step B2.out hbl, by simp [Value.ownBlock]⟩)
  have HNT := Lib.hid (show endOf allT ≤ 901000 by rw [← hAT]; have := endOf_nodes at_ l; omega)
  have HAT := Lib.hid hAT
  clear s1 XE XA hbl HA X02 XF2 B2 B1 XF X0 hAT
  go_upto_region 3 with fail
  generalize (w2.alloc (.cells #[.slice AA l.length cA] 74)).alloc (.cells #[.int .i64 0] 3) = W3 at *
  generalize w2.heap.size = nA at *
  have k0 := blk_cell HL.out.b0 0
  go_wp2
  go_loopw [19] (fun v19 wr => ∃ (i : Nat) (vF : Value), v19 = .int .i64 i ∧ i ≤ l.length ∧ Hid (L1 w w.heap.size (w.heap.size + 1) nA (nA + 1) Al l.length cl (.slice AA l.length cA) allT i vF wr)) (fun v19 _ => l.length - (intOf v19).toNat)
  case atStart => exact ⟨0, _, by go_num, Nat.zero_le _, HL⟩
  case round =>
    obtain ⟨i, vF, rfl, hi, HLI⟩ := hrel
    clear HL k0
    by_cases hlt : i < l.length
    · have q0 : (0 : Int) ≤ (i : Int) := by omega
      have q1 : (i : Int) < (l.length : Int) := by omega
      obtain ⟨ad, A5, c5, hA4, u0, u1, u2, u3, u4, hc5, hC5⟩ := at_T53 HC.out (i : Int) q0 q1
      subst hA4
      rw [rd53 l i hlt, Int.toNat_natCast] at u0 u1 u2 u3 u4
      rw [rd53 l i hlt] at hc5 hC5
      replace u0 := (HLI.out.b.cell (World.block_lt_of_cell? w _ u0)).trans u0
      replace u1 := (HLI.out.b.cell (World.block_lt_of_cell? w _ u1)).trans u1
      replace u2 := (HLI.out.b.cell (World.block_lt_of_cell? w _ u2)).trans u2
      replace u3 := (HLI.out.b.cell (World.block_lt_of_cell? w _ u3)).trans u3
      replace u4 := (HLI.out.b.cell (World.block_lt_of_cell? w _ u4)).trans u4
      have HC5 := Lib.hid hC5
      have hng := nodesL_get hlt
      have hnp : nodesP l[i] ≤ 1000000 := by omega
      have hti : allT[i]'(by omega) = testsP at_ l[i] [] := by
        have := HAT.out
        subst this
        simp [allOf]
      have HTI := Lib.hid hti
      obtain ⟨gA, cA2, hAA, hgA, _⟩ := Kd.R_form HLI.out.a (by simp; omega)
      injection hAA with e1 e2 e3
      subst e1 e3
      clear e2 hC5 hng hti
      obtain ⟨Af, cf, hvF⟩ := Kd.R_slice HLI.out.f
      subst hvF
      go_upto_region 6 with fail
      have hbl := below_alloc (Below.refl _ wr) (.cells #[.int .i64 l[i].f0, .int .i64 l[i].f1, .int .i64 l[i].f2, .string l[i].f3, .slice A5 l[i].f4.length c5] 53)
      have LD := Lib.hid (HLI.out.below (below_drew1 hbl))
      have XD := Lib.hid (blk_drew (blk_new wr (.cells #[.int .i64 l[i].f0, .int .i64 l[i].f1, .int .i64 l[i].f2, .string l[i].f3, .slice A5 l[i].f4.length c5] 53)))
      have hWb : w.heap.size ≤ (wr.alloc (.cells #[.int .i64 l[i].f0, .int .i64 l[i].f1, .int .i64 l[i].f2, .string l[i].f3, .slice A5 l[i].f4.length c5] 53)).drew.heap.size := LD.out.b.size
      clear hbl HLI u0 u1 u2 u3 u4
      generalize wr.alloc (.cells #[.int .i64 l[i].f0, .int .i64 l[i].f1, .int .i64 l[i].f2, .string l[i].f3, .slice A5 l[i].f4.length c5] 53) = wb at *
      generalize wr.heap.size = gp at *
      generalize hp : l[i] = p at *
      refine start_ (n := 7) (S := fun w' => w'.cell? ⟨nA, 0, none⟩ = some (.slice (some ⟨gA, 0, none⟩) l.length cA) ∧ w'.cell? ⟨gp, 0, none⟩ = some (.int .i64 p.f0) ∧ w'.cell? ⟨gp, 1, none⟩ = some (.int .i64 p.f1) ∧ w'.cell? ⟨gp, 2, none⟩ = some (.int .i64 p.f2) ∧ w'.cell? ⟨gp, 3, none⟩ = some (.string p.f3) ∧ w'.cell? ⟨gp, 4, none⟩ = some (.slice A5 p.f4.length c5)) (ds := [6]) #[false, false, false, false, false, false, false] (by kernel_rfl) rfl rfl ⟨blk_cell LD.out.ba 0, blk_cell XD.out 0, blk_cell XD.out 1, blk_cell XD.out 2, blk_cell XD.out 3, blk_cell XD.out 4⟩ (fun hHeld => ?_)
      refine pure_ (i := 1) (N := some 25) (v := ?_) (a' := ?_) #[false, true, false, false, false, false, false] rfl rfl (by kernel_rfl) (fun _ _ _ h => h) (Or.inl ⟨by rfl, ?_⟩) ?_ ?_
      rotate_left
      · intro w'
        go_simp
        with_reducible rfl
      rotate_left
      · simp only [Act.put, List.setIfInBounds_toArray, List.set_cons_zero, List.set_cons_succ, i64_w, i32_w]
        rfl
      refine pure_ (i := 3) (N := some 27) (v := ?_) (a' := ?_) #[false, true, false, true, false, false, false] rfl rfl (by kernel_rfl) (fun _ _ _ h => h) (Or.inl ⟨by rfl, ?_⟩) ?_ ?_
      rotate_left
      · intro w'
        go_simp
        with_reducible rfl
      rotate_left
      · simp only [Act.put, List.setIfInBounds_toArray, List.set_cons_zero, List.set_cons_succ, i64_w, i32_w]
        rfl
      refine take_ (i := 0) (N := some 24) (v := ?_) (a' := ?_) #[true, true, false, true, false, false, false] rfl rfl (by kernel_rfl) (fun _ _ _ h => h) (Or.inl ⟨by rfl, ?_⟩) hHeld ?_ ?_
      rotate_left
      · rintro w' ⟨s0, s1, s2, s3, s4, s5⟩
        go_simp
        with_reducible rfl
      rotate_left
      · simp only [Act.put, List.setIfInBounds_toArray, List.set_cons_zero, List.set_cons_succ, i64_w, i32_w]
        rfl
      refine take_ (i := 2) (N := some 26) (v := ?_) (a' := ?_) #[true, true, true, true, false, false, false] rfl rfl (by kernel_rfl) (fun _ _ _ h => h) (Or.inl ⟨by rfl, ?_⟩) hHeld ?_ ?_
      rotate_left
      · rintro w' ⟨s0, s1, s2, s3, s4, s5⟩
        go_simp
        with_reducible rfl
      rotate_left
      · simp only [Act.put, List.setIfInBounds_toArray, List.set_cons_zero, List.set_cons_succ, i64_w, i32_w]
        rfl
      refine one_ (i := 4) (N := some 28) #[true, true, true, true, true, false, false] rfl rfl (by kernel_rfl) (by decide) (fun K hK => ?_)
      refine goes_ Try.func14 (by kernel_rfl) rfl #[.agg #[.int .i64 p.f0, .int .i64 p.f1, .int .i64 p.f2, .string p.f3, .slice A5 p.f4.length c5], .slice Aa at_.length ca] (by rfl) rfl rfl (by simp only [List.map_toArray, List.map_cons, List.map_nil]; rfl) ?_
      with_reducible refine (tests_callP at_ Aa ca p A5 c5 _ (Kd.C_below HCA.out LD.out.b) hca hal (Kd.C_below HC5.out LD.out.b) hc5 hnp).mono ?_
      rintro e w4 ⟨vt, rfl, ht, hd⟩
      refine ⟨_, rfl, ?_⟩
      obtain ⟨At, ct, rfl⟩ := Kd.R_slice ht
      have LE := Lib.hid (LD.out.below hd)
      have XE := Lib.hid (blk_below XD.out hd)
      have HT := Lib.hid ht
      have hgw : gA < wb.drew.heap.size := Kd.R_lt LD.out.a gA (by simp [Value.ownBlock])
      have hEw : nA + 1 < wb.drew.heap.size := blk_lt LD.out.be
      have hFw : ∀ k, (Value.slice Af (firstsOf (allT.take i) 0).length cf).ownBlock = some k → k < wb.drew.heap.size := Kd.R_lt LD.out.f
      obtain ⟨cc, hcc1, hcc2, hcc3, hcc4⟩ := Kd.R_elem LE.out.a ([] : List S39) (i : Int) q0 q1
      obtain ⟨vc, rfl, hvc⟩ := hcc2
      have kc := hcc3 0 vc rfl
      have kfz := hcc4 0
      have ei : (i : Int).toNat * kTT.sz + 0 = i := by rw [Int.toNat_natCast]; exact Nat.mul_one i
      rw [ei] at kc kfz
      have hseg := (Kd.R_seg LE.out.a (i : Int) q0 q1 (c := [vc]) (seg := [.slice At (testsP at_ p []).length ct]) (j := 0) rfl hcc3 (Nat.le_refl 1) (x' := testsP at_ p []) (okp := fun k => (k ≠ nA + 1 ∧ some k ≠ (Value.slice Af (firstsOf (allT.take i) 0).length cf).ownBlock) ∧ k ≠ gA) ⟨_, rfl, Kd.R_mono (Kd.R_lower (Kd.R_bound ht) hWb) (fun k hk => ⟨⟨fun h => by omega, fun h => by have := hFw k h.symm; omega⟩, fun h => by omega⟩)⟩ (fun k hk => hk))
      rw [ei, Int.toNat_natCast] at hseg
      have HSEG := Lib.hid hseg
      clear hseg ei ht hd hcc1 hcc3 hcc4 hvc hgw hFw hEw
      refine hK.out _ _ ⟨blk_cell LE.out.ba 0, blk_cell XE.out 0, blk_cell XE.out 1, blk_cell XE.out 2, blk_cell XE.out 3, blk_cell XE.out 4⟩ (fun hHeld => ?_)
      clear hK K
      refine norm_ (a' := ?_) ?_ ?_
      rotate_left
      · show Act.put _ (some 28) _ = _
        simp only [Act.put, List.setIfInBounds_toArray, List.set_cons_zero, List.set_cons_succ, i64_w, i32_w]
        rfl
      refine pure_ (i := 5) (N := some 29) (v := ?_) (a' := ?_) #[true, true, true, true, true, true, false] rfl rfl (by kernel_rfl) (fun _ _ _ h => h) (Or.inl ⟨by rfl, ?_⟩) ?_ ?_
      rotate_left
      · intro w'
        go_simp
        with_reducible rfl
      rotate_left
      · simp only [Act.put, List.setIfInBounds_toArray, List.set_cons_zero, List.set_cons_succ, i64_w, i32_w]
        rfl
      refine last_ (i := 6) (N := none) #[true, true, true, true, true, true, true] rfl rfl (by kernel_rfl) (by decide) (fun K hK => ?_)
      refine skip_ (w1 := ?_) (by rfl) rfl ?_ ?_
      rotate_left
      · go_simp
        rfl
      refine hK.out _ _ ?_
      clear hK K
      refine done_ (by kernel_rfl) ?_
      clear hHeld
      have hst := HSEG.out.1
      rw [fill_step allT i l.length hlt hlenT _ HTI.out] at hst
      change Kd.R kTT 50 (w4.setCell ⟨gA, i, none⟩ (.slice At (testsP at_ p []).length ct)) _ _ _ _ at hst
      have A6 := Lib.hid hst
      have hg50 : ∃ cells, w4.heap[gA]? = some (.cells cells 50 (0, 0)) := Kd.R_typed LE.out.a gA (by simp [Value.ownBlock])
      obtain ⟨cA0, hg50⟩ := hg50
      have F6 := Lib.hid (Kd.R_set LE.out.f hg50 (by decide) i (.slice At (testsP at_ p []).length ct))
      have nb : ∀ (k : Nat) (cs : Array Value) (t : TypeId), w4.heap[k]? = some (.cells cs t (0, 0)) → t ≠ 50 → (w4.setCell ⟨gA, i, none⟩ (.slice At (testsP at_ p []).length ct)).heap[k]? = some (.cells cs t (0, 0)) := fun k cs t hk ht => (Below.heap_setCell w4 ⟨gA, i, none⟩ _ k (ne_blk hk hg50 ht)).trans hk
      have BF6 := Lib.hid (nb _ _ _ LE.out.bf (by decide))
      have BA6 := Lib.hid (nb _ _ _ LE.out.ba (by decide))
      have BE6 := Lib.hid (nb _ _ _ LE.out.be (by decide))
      have B06 := Lib.hid (nb _ _ _ LE.out.b0 (by decide))
      have B6 := Lib.hid (LE.out.b.setCell (p := ⟨gA, i, none⟩) hgA (.slice At (testsP at_ p []).length ct))
      have NE6 := Lib.hid LE.out.ne
      clear hst nb hg50 HSEG LD LE XD XE HT kc kfz
      generalize w4.setCell ⟨gA, i, none⟩ (.slice At (testsP at_ p []).length ct) = w6 at *
      have hb6 : w.heap.size ≤ w6.heap.size := B6.out.size
      have kF := blk_cell BF6.out 0
      have kE := blk_cell BE6.out 0
      go_upto_region 8 with ((with_reducible refine gate_builtin (b := .append) (xs := #[.tmp 30, .tmp 32]) rfl ?_); at_builtin; refine Kd.R_append (Kd.int .i64) (w0 := w) w.heap.size (by rfl) (.tmp 30) (.tmp 32) 31 3 (.int .i64 0) 8 rfl Try.underlying31 info3' rfl (by decide) (by decide) (.slice Af (firstsOf (allT.take i) 0).length cf) (firstsOf (allT.take i) 0) ((endOf (allT.take i) : Nat) : Int) [.int .i64 ((endOf (allT.take i) : Nat) : Int)] (fun _ => True) (fun _ => False) (by go_simp) (by rfl) rfl (fun _ h => h.elim) (fun _ _ => trivial) F6.out B6.out hb6 (by rw [firstsOf_len, List.length_take]; omega) ?_; intro v1 w7 hr1 hb1 hg1 hat1; obtain ⟨A1, c1, rfl⟩ := Kd.R_slice hr1; rw [List.length_append, List.length_singleton] at hr1 hat1; have A7 := Lib.hid (Kd.R_after A6.out hg1 hat1); have F7 := Lib.hid hr1; have BF7 := Lib.hid (blk_grown BF6.out hg1 (Kd.R_ne F6.out BF6.out (by decide))); have BA7 := Lib.hid (blk_grown BA6.out hg1 (Kd.R_ne F6.out BA6.out (by decide))); have B07 := Lib.hid (blk_grown B06.out hg1 (Kd.R_ne F6.out B06.out (by decide))); have BE7 := Lib.hid (blk_grown BE6.out hg1 NE6.out); have HAT1 := Lib.hid hat1; have hE6 := blk_lt BE6.out; have B7 := Lib.hid hb1; clear hr1 hb1 hg1 hat1 kF kE; have kF := blk_cell BF7.out 0; have kf := blk_frozen BF7.out 0)
      have VV : ∀ q : Value, q = .slice A1 ((firstsOf (allT.take i) 0).length + 1) c1 → True := fun _ _ => trivial
      have A8 := Lib.hid (Kd.R_set A7.out BF7.out (by decide) 0 (.slice A1 ((firstsOf (allT.take i) 0).length + 1) c1))
      have F8 := Lib.hid (Kd.R_set F7.out BF7.out (by decide) 0 (.slice A1 ((firstsOf (allT.take i) 0).length + 1) c1))
      have nb : ∀ (k : Nat) (cs : Array Value) (t : TypeId), w7.heap[k]? = some (.cells cs t (0, 0)) → t ≠ 31 → (w7.setCell ⟨w.heap.size + 1, 0, none⟩ (.slice A1 ((firstsOf (allT.take i) 0).length + 1) c1)).heap[k]? = some (.cells cs t (0, 0)) := fun k cs t hk ht => (Below.heap_setCell w7 ⟨w.heap.size + 1, 0, none⟩ _ k (ne_blk hk BF7.out ht)).trans hk
      have BA8 := Lib.hid (nb _ _ _ BA7.out (by decide))
      have BE8 := Lib.hid (nb _ _ _ BE7.out (by decide))
      have B08 := Lib.hid (nb _ _ _ B07.out (by decide))
      have hbf := blk_set BF7.out 0 (.slice A1 ((firstsOf (allT.take i) 0).length + 1) c1)
      simp only [List.setIfInBounds_toArray, List.set_cons_zero] at hbf
      have BF8 := Lib.hid hbf
      have B8 := Lib.hid (B7.out.setCell (p := ⟨w.heap.size + 1, 0, none⟩) (show w.heap.size ≤ w.heap.size + 1 by omega) (.slice A1 ((firstsOf (allT.take i) 0).length + 1) c1))
      have NE8 := Lib.hid (show some (nA + 1) ≠ (Value.slice A1 ((firstsOf (allT.take i) 0).length + 1) c1).ownBlock from fun h => by
        rcases HAT1.out with h' | ⟨b, h1, h2⟩
        · exact NE6.out (h.trans h')
        · rw [h1] at h
          injection h with h
          omega)
      clear nb hbf VV A7 F7 BA7 BE7 B07 BF7 B7 kF kf HAT1 NE6 A6 F6 BF6 BA6 BE6 B06 B6 hb6
      generalize w7.setCell ⟨w.heap.size + 1, 0, none⟩ (.slice A1 ((firstsOf (allT.take i) 0).length + 1) c1) = w8 at *
      obtain ⟨cc, hcc1, hcc2, hcc3, _⟩ := Kd.R_elem A8.out ([] : List S39) (i : Int) q0 q1
      have hget : (allT.take (i + 1) ++ List.replicate (l.length - (i + 1)) ([] : List S39)).getD (i : Int).toNat [] = testsP at_ p [] := by
        rw [Int.toNat_natCast, List.getD_eq_getElem?_getD, List.getElem?_append_left (by rw [List.length_take]; omega), List.getElem?_take_of_lt (by omega), List.getElem?_eq_getElem (by omega), HTI.out]
        rfl
      rw [hget] at hcc2
      obtain ⟨v9, rfl, hv9⟩ := hcc2
      obtain ⟨A9, c9, rfl⟩ := Kd.R_slice hv9
      have k9 := hcc3 0 _ rfl
      have ei : (i : Int).toNat * kTT.sz + 0 = i := by rw [Int.toNat_natCast]; exact Nat.mul_one i
      rw [ei] at k9
      have hE0 := blk_frozen BE8.out 0
      have kE := blk_cell BE8.out 0
      have hend : ((endOf (allT.take i) : Nat) : Int) ≤ 901000 := by have := endOf_take allT i; have := HNT.out; omega
      have htl := testsP_len at_ p []
      clear hcc1 hcc3 hv9 ei hget
      refine start_ (n := 9) (S := fun w' => w'.cell? ⟨nA + 1, 0, none⟩ = some (.int .i64 ((endOf (allT.take i) : Nat) : Int)) ∧ w'.cell? ⟨nA, 0, none⟩ = some (.slice (some ⟨gA, 0, none⟩) l.length cA) ∧ w'.cell? ⟨gA, i, none⟩ = some (.slice A9 (testsP at_ p []).length c9)) (ds := [8]) #[false, false, false, false, false, false, false, false, false] (by kernel_rfl) rfl rfl ⟨blk_cell (blk_drew BE8.out) 0, blk_cell (blk_drew BA8.out) 0, k9⟩ (fun hHeld => ?_)
      refine pure_ (i := 2) (N := some 36) (v := ?_) (a' := ?_) #[false, false, true, false, false, false, false, false, false] rfl rfl (by kernel_rfl) (fun _ _ _ h => h) (Or.inl ⟨by rfl, ?_⟩) ?_ ?_
      rotate_left
      · intro w'
        go_simp
        with_reducible rfl
      rotate_left
      · simp only [Act.put, List.setIfInBounds_toArray, List.set_cons_zero, List.set_cons_succ, i64_w, i32_w]
        rfl
      refine take_ (i := 0) (N := some 34) (v := ?_) (a' := ?_) #[true, false, true, false, false, false, false, false, false] rfl rfl (by kernel_rfl) (fun _ _ _ h => h) (Or.inl ⟨by rfl, ?_⟩) hHeld ?_ ?_
      rotate_left
      · rintro w' ⟨s0, s1, s2⟩
        go_simp
        with_reducible rfl
      rotate_left
      · simp only [Act.put, List.setIfInBounds_toArray, List.set_cons_zero, List.set_cons_succ, i64_w, i32_w]
        rfl
      refine take_ (i := 1) (N := some 35) (v := ?_) (a' := ?_) #[true, true, true, false, false, false, false, false, false] rfl rfl (by kernel_rfl) (fun _ _ _ h => h) (Or.inl ⟨by rfl, ?_⟩) hHeld ?_ ?_
      rotate_left
      · rintro w' ⟨s0, s1, s2⟩
        go_simp
        with_reducible rfl
      rotate_left
      · simp only [Act.put, List.setIfInBounds_toArray, List.set_cons_zero, List.set_cons_succ, i64_w, i32_w]
        rfl
      refine pure_ (i := 3) (N := some 37) (v := ?_) (a' := ?_) #[true, true, true, true, false, false, false, false, false] rfl rfl (by kernel_rfl) (fun _ _ _ h => h) (Or.inl ⟨by rfl, ?_⟩) ?_ ?_
      rotate_left
      · intro w'
        go_simp
        with_reducible rfl
      rotate_left
      · simp only [Act.put, List.setIfInBounds_toArray, List.set_cons_zero, List.set_cons_succ, i64_w, i32_w]
        rfl
      refine take_ (i := 4) (N := some 38) (v := ?_) (a' := ?_) #[true, true, true, true, true, false, false, false, false] rfl rfl (by kernel_rfl) (fun _ _ _ h => h) (Or.inl ⟨by rfl, ?_⟩) hHeld ?_ ?_
      rotate_left
      · rintro w' ⟨s0, s1, s2⟩
        go_simp
        with_reducible rfl
      rotate_left
      · simp only [Act.put, List.setIfInBounds_toArray, List.set_cons_zero, List.set_cons_succ, i64_w, i32_w]
        rfl
      refine pure_ (i := 5) (N := some 39) (v := ?_) (a' := ?_) #[true, true, true, true, true, true, false, false, false] rfl rfl (by kernel_rfl) (fun _ _ _ h => h) (Or.inl ⟨by rfl, ?_⟩) ?_ ?_
      rotate_left
      · intro w'
        go_simp
        with_reducible rfl
      rotate_left
      · simp only [Act.put, List.setIfInBounds_toArray, List.set_cons_zero, List.set_cons_succ, i64_w, i32_w]
        rfl
      refine pure_ (i := 6) (N := some 40) (v := ?_) (a' := ?_) #[true, true, true, true, true, true, true, false, false] rfl rfl (by kernel_rfl) (fun _ _ _ h => h) (Or.inl ⟨by rfl, ?_⟩) ?_ ?_
      rotate_left
      · intro w'
        go_simp
        with_reducible rfl
      rotate_left
      · simp only [Act.put, List.setIfInBounds_toArray, List.set_cons_zero, List.set_cons_succ, i64_w, i32_w]
        rfl
      refine pure_ (i := 7) (N := some 41) (v := ?_) (a' := ?_) #[true, true, true, true, true, true, true, true, false] rfl rfl (by kernel_rfl) (fun _ _ _ h => h) (Or.inl ⟨by rfl, ?_⟩) ?_ ?_
      rotate_left
      · intro w'
        go_simp
        with_reducible rfl
      rotate_left
      · simp only [Act.put, List.setIfInBounds_toArray, List.set_cons_zero, List.set_cons_succ, i64_w, i32_w]
        rfl
      refine last_ (i := 8) (N := none) #[true, true, true, true, true, true, true, true, true] rfl rfl (by kernel_rfl) (by decide) (fun K hK => ?_)
      refine skip_ (w1 := ?_) (by rfl) rfl ?_ ?_
      rotate_left
      · go_simp
        rfl
      refine hK.out _ _ ?_
      clear hK K
      refine done_ (by kernel_rfl) ?_
      clear hHeld
      have htk : allT.take (i + 1) = allT.take i ++ [testsP at_ p []] := by rw [List.take_succ_eq_append_getElem (by omega : i < allT.length), HTI.out]
      have hnew : wrap64 (((endOf (allT.take i) : Nat) : Int) + wrap64 (((testsP at_ p []).length : Int) + 1)) = ((endOf (allT.take (i + 1)) : Nat) : Int) := by
        rw [htk, endOf_app, w_small (((testsP at_ p []).length : Int) + 1) (by omega) (by omega), w_small _ (by omega) (by omega)]
        simp only [endOf]
        omega
      have nb : ∀ (k : Nat) (cs : Array Value) (t : TypeId), w8.heap[k]? = some (.cells cs t (0, 0)) → t ≠ 3 → (w8.setCell ⟨nA + 1, 0, none⟩ (.int .i64 ((endOf (allT.take (i + 1)) : Nat) : Int))).heap[k]? = some (.cells cs t (0, 0)) := fun k cs t hk ht => (Below.heap_setCell w8 ⟨nA + 1, 0, none⟩ _ k (ne_blk hk BE8.out ht)).trans hk
      have hff : firstsOf (allT.take i) 0 ++ [((endOf (allT.take i) : Nat) : Int)] = firstsOf (allT.take (i + 1)) 0 := by rw [htk, firstsOf_snoc, Nat.zero_add]
      have f8 := F8.out
      rw [hff] at f8
      have hbe := blk_set BE8.out 0 (.int .i64 ((endOf (allT.take (i + 1)) : Nat) : Int))
      simp only [List.setIfInBounds_toArray, List.set_cons_zero] at hbe
      have HLN := Lib.hid (show L1 w w.heap.size (w.heap.size + 1) nA (nA + 1) (some ad) l.length cl (.slice (some ⟨gA, 0, none⟩) l.length cA) allT (i + 1) (.slice A1 ((firstsOf (allT.take i) 0).length + 1) c1) (w8.setCell ⟨nA + 1, 0, none⟩ (.int .i64 ((endOf (allT.take (i + 1)) : Nat) : Int))) from
        ⟨Kd.R_far (p := ⟨nA + 1, 0, none⟩) A8.out (fun k hk => hk.1) _, Kd.R_of_own (h1 := fun _ => rfl) (own_setCell (Kd.own_of_R (h1 := fun _ => rfl) f8) (p := ⟨nA + 1, 0, none⟩) NE8.out _) (fun _ _ => trivial), nb _ _ _ BF8.out (by decide), nb _ _ _ BA8.out (by decide), hbe, nb _ _ _ B08.out (by decide), B8.out.setCell (p := ⟨nA + 1, 0, none⟩) (show w.heap.size ≤ nA + 1 by omega) _, NE8.out⟩)
      clear nb hbe f8 hff htk htl hend k9 hE0 kE A8 F8 BA8 BE8 B08 BF8 B8 NE8
      rw [hnew]
      clear hnew
      go_wp2
      go_roundw
      case rel => exact ⟨i + 1, _, by go_num, hlt, Lib.hid (HLN.out.below (below_drew1 (Below.refl _ _)))⟩
      case measure => simp [intOf]; omega
    · obtain rfl : i = l.length := by omega
      have htk : allT.take l.length = allT := List.take_of_length_le (by omega)
      have hA := HLI.out.a
      rw [htk, Nat.sub_self, List.replicate_zero, List.append_nil] at hA
      obtain ⟨hzz, hcA, hCA⟩ := Kd.R_reads' hA
      clear hzz
      have hF := HLI.out.f
      rw [htk] at hF
      obtain ⟨Af, cf, hvF⟩ := Kd.R_slice hF
      subst hvF
      have hCF := (Kd.R_reads' hF).2.2
      have hbe := HLI.out.be
      rw [htk] at hbe
      obtain ⟨Wb, hWb⟩ : ∃ Wb, Wb = wr := ⟨_, rfl⟩
      subst hWb
      have HCT := Lib.hid hCA
      have HCF := Lib.hid hCF
      have HBE := Lib.hid hbe
      have HRF := Lib.hid hF
      have hlf := firstsOf_len allT 0
      have hlnT : ∀ x, x ∈ allT → x.length ≤ 1000000 := fun x hx => by
        have := HAT.out
        subst this
        obtain ⟨p, hp, rfl⟩ := List.mem_map.1 hx
        have h1 := testsP_len at_ p []
        obtain ⟨j, hj, rfl⟩ := List.getElem_of_mem hp
        have h2 := nodesL_get hj
        omega
      have HLT := Lib.hid hlnT
      have hlnT2 : ∀ x, x ∈ allT → ∀ t, t ∈ x → t.f0.length ≤ 1000000 := fun x hx t ht => by
        have := HAT.out
        subst this
        obtain ⟨p, hp, rfl⟩ := List.mem_map.1 hx
        have h1 := testsP_path at_ p [] t ht
        obtain ⟨j, hj, rfl⟩ := List.getElem_of_mem hp
        have h2 := nodesL_get hj
        simp only [List.length_nil] at h1
        omega
      have HLT2 := Lib.hid hlnT2
      clear hlnT2
      clear htk hA hCA hF hCF hbe hlnT
      have k0 := blk_cell HLI.out.b0 0
      go_wp2
      go_loopw [46, 4] (fun v46 v4 wq => ∃ k : Nat, v46 = .int .i64 k ∧ k ≤ l.length ∧ Hid (NodeRow Wb wq v4 (nodesOf allT (firstsOf allT 0) (endOf allT : Nat) l.length (allT.take k) 0 0)) ∧ Hid (Below Wb.heap.size Wb wq)) (fun v46 _ _ => l.length - (intOf v46).toNat)
      case atStart => exact ⟨0, by go_num, Nat.zero_le _, Lib.hid (NodeRow.nil _ _), Lib.hid (Below.refl _ _)⟩
      case round =>
        obtain ⟨k, rfl, hk, HN, HBQ⟩ := hrel
        obtain ⟨wo, hwo⟩ : ∃ wo, wo = wr := ⟨_, rfl⟩
        subst hwo
        by_cases hlk : k < l.length
        · have q0 : (0 : Int) ≤ (k : Int) := by omega
          have q1 : (k : Int) < (l.length : Int) := by omega
          have kA := blk_cell (blk_below HLI.out.ba HBQ.out) 0
          obtain ⟨adT, A0, c0, hAa, u, hc0, hC0⟩ := at_TT HCT.out k (by omega) rfl
          subst hAa
          replace u := (HBQ.out.cell (World.block_lt_of_cell? Wb _ u)).trans u
          have HC0 := Lib.hid hC0
          have hek := endOf_take allT k
          have hlts : (allT[k]'(by omega)).length ≤ 901000 := by
            have h1 := endOf_take allT (k + 1)
            rw [List.take_succ_eq_append_getElem (by omega : k < allT.length), endOf_app] at h1
            simp only [endOf] at h1
            have := HNT.out
            omega
          have HTP := Lib.hid (HLT2.out _ (List.getElem_mem (by omega : k < allT.length)))
          have htk1 : allT.take (k + 1) = allT.take k ++ [allT[k]'(by omega)] := List.take_succ_eq_append_getElem (by omega)
          have HTK1 := Lib.hid htk1
          have HEK := Lib.hid (show endOf (allT.take k) ≤ 901000 from Nat.le_trans hek HNT.out)
          clear hC0 hek htk1
          generalize hts : allT[k]'(by omega) = ts at *
          clear hts
          have hnlk := nodesOf_len allT (firstsOf allT 0) (endOf allT : Nat) l.length (allT.take k) 0 0
          go_wp2
          go_loopw [54, 4] (fun v54 v4 wq => ∃ i : Nat, v54 = .int .i64 i ∧ i ≤ ts.length ∧ Hid (NodeRow Wb wq v4 (nodesOf allT (firstsOf allT 0) (endOf allT : Nat) l.length (allT.take k) 0 0 ++ blockOf allT (firstsOf allT 0) (endOf allT : Nat) l.length k (ts.take i) (endOf (allT.take k)))) ∧ Hid (Below Wb.heap.size Wb wq)) (fun v54 _ _ => ts.length - (intOf v54).toNat)
          case atStart => exact ⟨0, by go_num, Nat.zero_le _, Lib.hid (by simpa [blockOf] using HN.out), HBQ⟩
          case round =>
            obtain ⟨i, rfl, hi2, HNI, HBI⟩ := hrel
            obtain ⟨wq, hwq⟩ : ∃ wq, wq = wr := ⟨_, rfl⟩
            subst hwq
            obtain ⟨Av, cv, hv4⟩ := HNI.out.slice
            subst hv4
            have hnl0 : (nodesOf allT (firstsOf allT 0) (endOf allT : Nat) l.length (allT.take k) 0 0 ++ blockOf allT (firstsOf allT 0) (endOf allT : Nat) l.length k (ts.take i) (endOf (allT.take k))).length = endOf (allT.take k) + i := by
              rw [List.length_append, hnlk, blockOf_len, List.length_take, Nat.min_eq_left hi2]
            by_cases hlt2 : i < ts.length
            · have q2 : (0 : Int) ≤ (i : Int) := by omega
              have q3 : (i : Int) < (ts.length : Int) := by omega
              obtain ⟨ad0, A1, c1, hA0, u0, u1, u2, hc1, hC1⟩ := at_T39 HC0.out (i : Int) q2 q3
              subst hA0
              have hrd : rd_T39 ts (i : Int) = ts[i] := by
                unfold rd_T39
                rw [Int.toNat_natCast, List.getD_eq_getElem?_getD, List.getElem?_eq_getElem hlt2]
                rfl
              rw [hrd, Int.toNat_natCast] at u0 u1 u2
              rw [hrd] at hc1 hC1
              replace u0 := (HBI.out.cell (World.block_lt_of_cell? Wb _ u0)).trans u0
              replace u1 := (HBI.out.cell (World.block_lt_of_cell? Wb _ u1)).trans u1
              replace u2 := (HBI.out.cell (World.block_lt_of_cell? Wb _ u2)).trans u2
              have HC1 := Lib.hid hC1
              clear hC1 hrd
              generalize hti : ts[i] = t at *
              have HTI := Lib.hid hti
              clear hti
              have hltf : t.f0.length ≤ 1000000 := by exact HTP.out t (HTI.out ▸ List.getElem_mem _)
              have HNX := Lib.hid fun (W : World) (h : Below Wb.heap.size Wb W) => next_callN w.heap.size nA (w.heap.size + 1) (nA + 1) Al cl (some adT) cA Af cf allT (firstsOf allT 0) ((endOf allT : Nat) : Int) k t A1 c1 l.length hlenT W (blk_below HLI.out.b0 h) (blk_below HLI.out.ba h) (blk_below HLI.out.bf h) (blk_below HBE.out h) (Kd.C_below HCT.out h) (Kd.C_below HCF.out h) (Kd.C_below HC1.out h) hc1 hltf hlf (by omega) HLT.out (by omega)
              generalize hnodes : (nodesOf allT (firstsOf allT 0) (endOf allT : Nat) l.length (allT.take k) 0 0 ++ blockOf allT (firstsOf allT 0) (endOf allT : Nat) l.length k (ts.take i) (endOf (allT.take k))) = nodes at *
              have hnl : (nodes.length + 1) * 64 ≤ 140737488355328 := by have := HEK.out; omega
              have HNODES := Lib.hid hnodes
              have HNL := Lib.hid hnl0
              clear hnodes hnl0
              go_upto_region 17 with fail
              have hbl := below_alloc (Below.refl _ wq) (.cells #[.slice A1 t.f0.length c1, .int .i64 t.f1, .int .i64 t.f2] 39)
              have XD := Lib.hid (blk_drew (blk_new wq (.cells #[.slice A1 t.f0.length c1, .int .i64 t.f1, .int .i64 t.f2] 39)))
              have ND := Lib.hid (HNI.out.below (below_drew1 hbl))
              have BD := Lib.hid (below_step HBI.out (below_drew1 hbl))
              clear hbl u0 u1 u2
              generalize wq.alloc (.cells #[.slice A1 t.f0.length c1, .int .i64 t.f1, .int .i64 t.f2] 39) = wb at *
              generalize wq.heap.size = gt at *
              refine start_ (n := 13) (S := fun w' => w'.cell? ⟨gt, 0, none⟩ = some (.slice A1 t.f0.length c1) ∧ w'.cell? ⟨gt, 1, none⟩ = some (.int .i64 t.f1) ∧ w'.cell? ⟨gt, 2, none⟩ = some (.int .i64 t.f2)) (ds := []) #[false, false, false, false, false, false, false, false, false, false, false, false, false] (by kernel_rfl) rfl rfl ⟨blk_cell (XD.out) 0, blk_cell (XD.out) 1, blk_cell (XD.out) 2⟩ (fun hHeld => ?_)
              refine pure_ (i := 0) (N := some 58) (v := ?_) (a' := ?_) #[true, false, false, false, false, false, false, false, false, false, false, false, false] rfl rfl (by kernel_rfl) (fun _ _ _ h => h) (Or.inl ⟨by rfl, ?_⟩) ?_ ?_
              rotate_left
              · intro w'
                go_simp
                with_reducible rfl
              rotate_left
              · simp only [Act.put, List.setIfInBounds_toArray, List.set_cons_zero, List.set_cons_succ, i64_w, i32_w]
                rfl
              refine pure_ (i := 2) (N := some 60) (v := ?_) (a' := ?_) #[true, false, true, false, false, false, false, false, false, false, false, false, false] rfl rfl (by kernel_rfl) (fun _ _ _ h => h) (Or.inl ⟨by rfl, ?_⟩) ?_ ?_
              rotate_left
              · intro w'
                go_simp
                with_reducible rfl
              rotate_left
              · simp only [Act.put, List.setIfInBounds_toArray, List.set_cons_zero, List.set_cons_succ, i64_w, i32_w]
                rfl
              refine pure_ (i := 3) (N := some 61) (v := ?_) (a' := ?_) #[true, false, true, true, false, false, false, false, false, false, false, false, false] rfl rfl (by kernel_rfl) (fun _ _ _ h => h) (Or.inl ⟨by rfl, ?_⟩) ?_ ?_
              rotate_left
              · intro w'
                go_simp
                with_reducible rfl
              rotate_left
              · simp only [Act.put, List.setIfInBounds_toArray, List.set_cons_zero, List.set_cons_succ, i64_w, i32_w]
                rfl
              refine pure_ (i := 4) (N := some 62) (v := ?_) (a' := ?_) #[true, false, true, true, true, false, false, false, false, false, false, false, false] rfl rfl (by kernel_rfl) (fun _ _ _ h => h) (Or.inl ⟨by rfl, ?_⟩) ?_ ?_
              rotate_left
              · intro w'
                go_simp
                with_reducible rfl
              rotate_left
              · simp only [Act.put, List.setIfInBounds_toArray, List.set_cons_zero, List.set_cons_succ, i64_w, i32_w]
                rfl
              refine pure_ (i := 5) (N := some 63) (v := ?_) (a' := ?_) #[true, false, true, true, true, true, false, false, false, false, false, false, false] rfl rfl (by kernel_rfl) (fun _ _ _ h => h) (Or.inl ⟨by rfl, ?_⟩) ?_ ?_
              rotate_left
              · intro w'
                go_simp
                with_reducible rfl
              rotate_left
              · simp only [Act.put, List.setIfInBounds_toArray, List.set_cons_zero, List.set_cons_succ, i64_w, i32_w]
                rfl
              refine pure_ (i := 6) (N := some 64) (v := ?_) (a' := ?_) #[true, false, true, true, true, true, true, false, false, false, false, false, false] rfl rfl (by kernel_rfl) (fun _ _ _ h => h) (Or.inl ⟨by rfl, ?_⟩) ?_ ?_
              rotate_left
              · intro w'
                go_simp
                with_reducible rfl
              rotate_left
              · simp only [Act.put, List.setIfInBounds_toArray, List.set_cons_zero, List.set_cons_succ, i64_w, i32_w]
                rfl
              refine take_ (i := 1) (N := some 59) (v := ?_) (a' := ?_) #[true, true, true, true, true, true, true, false, false, false, false, false, false] rfl rfl (by kernel_rfl) (fun _ _ _ h => h) (Or.inl ⟨by rfl, ?_⟩) hHeld ?_ ?_
              rotate_left
              · rintro w' ⟨s0, s1, s2⟩
                go_simp
                with_reducible rfl
              rotate_left
              · simp only [Act.put, List.setIfInBounds_toArray, List.set_cons_zero, List.set_cons_succ, i64_w, i32_w]
                rfl
              refine take_ (i := 7) (N := some 65) (v := ?_) (a' := ?_) #[true, true, true, true, true, true, true, true, false, false, false, false, false] rfl rfl (by kernel_rfl) (fun _ _ _ h => h) (Or.inl ⟨by rfl, ?_⟩) hHeld ?_ ?_
              rotate_left
              · rintro w' ⟨s0, s1, s2⟩
                go_simp
                with_reducible rfl
              rotate_left
              · simp only [Act.put, List.setIfInBounds_toArray, List.set_cons_zero, List.set_cons_succ, i64_w, i32_w]
                rfl
              refine one_ (i := 8) (N := some 66) #[true, true, true, true, true, true, true, true, true, false, false, false, false] rfl rfl (by kernel_rfl) (by decide) (fun K hK => ?_)
              refine call_ 20 #[.int .i64 (k : Int), .agg #[.slice A1 t.f0.length c1, .int .i64 t.f1, .int .i64 t.f2], .pointer (some ⟨w.heap.size, 0, none⟩), .pointer (some ⟨nA, 0, none⟩), .pointer (some ⟨w.heap.size + 1, 0, none⟩), .pointer (some ⟨nA + 1, 0, none⟩)] (by rfl) rfl (by go_simp) ?_
              refine (HNX.out _ BD.out).mono ?_
              rintro e w5 ⟨rfl, hd⟩
              refine ⟨_, rfl, ?_⟩
              have XE := Lib.hid (blk_below XD.out hd)
              have NE := Lib.hid (ND.out.below hd)
              have BE := Lib.hid (below_step BD.out hd)
              have hbE : Wb.heap.size ≤ w5.heap.size := BE.out.size
              obtain ⟨cellsN, ownN, repN⟩ := NE.out
              clear hd
              refine hK.out _ _ ⟨blk_cell (XE.out) 0, blk_cell (XE.out) 1, blk_cell (XE.out) 2⟩ (fun hHeld => ?_)
              clear hK K
              refine norm_ (a' := ?_) ?_ ?_
              rotate_left
              · show Act.put _ (some 66) _ = _
                simp only [Act.put, List.setIfInBounds_toArray, List.set_cons_zero, List.set_cons_succ, i64_w, i32_w]
                rfl
              refine pure_ (i := 9) (N := some 67) (v := ?_) (a' := ?_) #[true, true, true, true, true, true, true, true, true, true, false, false, false] rfl rfl (by kernel_rfl) (fun _ _ _ h => h) (Or.inl ⟨by rfl, ?_⟩) ?_ ?_
              rotate_left
              · intro w'
                go_simp
                with_reducible rfl
              rotate_left
              · simp only [Act.put, List.setIfInBounds_toArray, List.set_cons_zero, List.set_cons_succ, i64_w, i32_w]
                rfl
              refine one_ (i := 10) (N := some 68) #[true, true, true, true, true, true, true, true, true, true, true, false, false] rfl rfl (by kernel_rfl) (by decide) (fun K hK => ?_)
              refine value_ (w1 := ?_) (v := ?_) (by rfl) rfl ?_ ?_
              rotate_left 2
              · go_simp
                constructor
                · rfl
                · rfl
              refine hK.out _ _ ⟨blk_cell (blk_alloc XE.out _) 0, blk_cell (blk_alloc XE.out _) 1, blk_cell (blk_alloc XE.out _) 2⟩ (fun hHeld => ?_)
              clear hK K
              refine norm_ (a' := ?_) ?_ ?_
              rotate_left
              · show Act.put _ (some 68) _ = _
                simp only [Act.put, List.setIfInBounds_toArray, List.set_cons_zero, List.set_cons_succ, i64_w, i32_w]
                rfl
              refine one_ (i := 11) (N := some 69) #[true, true, true, true, true, true, true, true, true, true, true, true, false] rfl rfl (by kernel_rfl) (by decide) (fun K hK => ?_)
              refine step_append_cells (W := w5) (w0 := Wb) Wb.heap.size (by rfl) (.tmp 58) (.tmp 68) 24 41 (.agg #[.slice none 0 0, .int .i64 0, .int .i64 0, .int .i64 0, .int .i64 0, .int .i64 0]) 6 64 rfl Try.underlying24 info41' rfl (by decide) (by decide) (.slice Av nodes.length cv) nodes.length cellsN [.slice A1 t.f0.length c1, .int .i64 t.f1, .int .i64 t.f2, .int .i64 (wrap64 ((nodes.length : Int) + 1)), .int .i64 (nextG allT (firstsOf allT 0) (endOf allT : Nat) t (l.length - (k + 1)) (k + 1)), .int .i64 (-1)] (by go_simp) (by rfl) rfl (by intro u hu; simp at hu; rcases hu with rfl | rfl | rfl | rfl | rfl | rfl <;> rfl) ownN BE.out hbE hnl ?_
              intro v1 w6 ho hb hgr hat
              have O6 := Lib.hid ho
              have B6 := Lib.hid hb
              have X6 := Lib.hid (blk_grown XE.out hgr (own_ne ownN XE.out (by decide)))
              clear ho hb hgr hat
              refine hK.out _ _ ⟨blk_cell (X6.out) 0, blk_cell (X6.out) 1, blk_cell (X6.out) 2⟩ (fun hHeld => ?_)
              clear hK K
              refine norm_ (a' := ?_) ?_ ?_
              rotate_left
              · show Act.put _ (some 69) _ = _
                simp only [Act.put, List.setIfInBounds_toArray, List.set_cons_zero, List.set_cons_succ, i64_w, i32_w]
                rfl
              refine pure_ (i := 12) (N := some 4) (v := ?_) (a' := ?_) #[true, true, true, true, true, true, true, true, true, true, true, true, true] rfl rfl (by kernel_rfl) (fun _ _ _ h => h) (Or.inl ⟨by rfl, ?_⟩) ?_ ?_
              rotate_left
              · intro w'
                go_simp
                with_reducible rfl
              rotate_left
              · simp only [Act.put, List.setIfInBounds_toArray, List.set_cons_zero, List.set_cons_succ, i64_w, i32_w]
                rfl
              refine done_ (by kernel_rfl) ?_
              clear hHeld
              have hti := HTI.out
              have hsn : blockOf allT (firstsOf allT 0) (endOf allT : Nat) l.length k (ts.take (i + 1)) (endOf (allT.take k)) = blockOf allT (firstsOf allT 0) (endOf allT : Nat) l.length k (ts.take i) (endOf (allT.take k)) ++ [nodeOf allT (firstsOf allT 0) (endOf allT : Nat) l.length k (endOf (allT.take k) + i) t] := by
                rw [List.take_succ_eq_append_getElem hlt2, hti, blockOf_snoc, List.length_take, Nat.min_eq_left hi2]
              have hw : wrap64 ((nodes.length : Int) + 1) = ((endOf (allT.take k) + i : Nat) : Int) + 1 := by
                have h1 := HNL.out
                have h2 := HEK.out
                rw [w_small _ (by omega) (by omega), h1]
              have O7 := O6.out
              rw [hw] at O7
              have NN := Lib.hid (NodeRow.snoc O7 repN (k41_mk Wb (nodeOf allT (firstsOf allT 0) (endOf allT : Nat) l.length k (endOf (allT.take k) + i) t) hc1 HC1.out) rfl)
              rw [← HNODES.out, List.append_assoc, ← hsn] at NN
              clear O7 hw hsn hti O6 ownN repN X6 XE NE
              go_wp2
              go_roundw
              case rel => exact ⟨i + 1, by go_num, hlt2, NN, B6⟩
              case measure => simp [intOf]; omega
            · obtain rfl : i = ts.length := by omega
              have hN := HNI.out
              rw [List.take_length] at hN hnl0
              obtain ⟨nodes, hnodes⟩ : ∃ nodes, nodesOf allT (firstsOf allT 0) (endOf allT : Nat) l.length (allT.take k) 0 0 ++ blockOf allT (firstsOf allT 0) (endOf allT : Nat) l.length k ts (endOf (allT.take k)) = nodes := ⟨_, rfl⟩
              rw [hnodes] at hN hnl0
              have hnn := HNI.out
              rw [List.take_length, hnodes] at hnn
              have HNODES := Lib.hid hnodes
              obtain ⟨cellsN, ownN, repN⟩ := hnn
              have hnl : (nodes.length + 1) * 64 ≤ 140737488355328 := by have := HEK.out; omega
              have HNL := Lib.hid hnl0
              have hbE : Wb.heap.size ≤ wq.heap.size := HBI.out.size
              have hsl : Value.slice Av (nodesOf allT (firstsOf allT 0) (endOf allT : Nat) l.length (allT.take k) 0 0 ++ blockOf allT (firstsOf allT 0) (endOf allT : Nat) l.length k (ts.take ts.length) (endOf (allT.take k))).length cv = Value.slice Av nodes.length cv := by rw [List.take_length, hnodes]
              rw [hsl]
              clear hnodes hnl0 hN hsl hnlk HNI
              go_wp2_with ((with_reducible refine gate_builtin (b := .append) (xs := #[.tmp 71, .tmp 74]) rfl ?_); at_builtin; refine print_append_cells (w0 := Wb) Wb.heap.size (by rfl) (.tmp 71) (.tmp 74) 24 41 (.agg #[.slice none 0 0, .int .i64 0, .int .i64 0, .int .i64 0, .int .i64 0, .int .i64 0]) 6 64 rfl Try.underlying24 info41' rfl (by decide) (by decide) (.slice Av nodes.length cv) nodes.length cellsN [.slice none 0 0, .int .i64 0, .int .i64 0, .int .i64 0, .int .i64 0, .int .i64 (k : Int)] (by go_simp) (by rfl) rfl (by intro u hu; simp at hu; rcases hu with rfl | rfl | rfl <;> rfl) ownN HBI.out hbE hnl ?_; intro v1 w6 ho hb hgr hat; have O6 := Lib.hid ho; have B6 := Lib.hid hb; clear ho hb hgr hat)
              have O7 := O6.out
              have NN := Lib.hid (NodeRow.snoc (x := leafOf (k : Int)) O7 repN (k41_mk Wb (leafOf (k : Int)) (A0 := none) (c0 := 0) (Nat.le_refl _) (Kd.C_nil _ _)) rfl)
              have hsn : nodes ++ [leafOf (k : Int)] = nodesOf allT (firstsOf allT 0) (endOf allT : Nat) l.length (allT.take (k + 1)) 0 0 := by
                rw [HTK1.out, nodesOf_snoc, ← HNODES.out, List.length_take, Nat.min_eq_left (by omega : k ≤ allT.length), Nat.zero_add, Nat.zero_add, List.append_assoc]
              rw [hsn] at NN
              clear O7 hsn O6 ownN repN
              go_roundw
              case rel => exact ⟨k + 1, by go_num, hlk, NN, B6⟩
              case measure => simp [intOf]; omega
        · obtain rfl : k = l.length := by omega
          have htk : allT.take l.length = allT := List.take_of_length_le (by omega)
          rw [htk] at HN
          obtain ⟨Av, cv, hv4⟩ := HN.out.slice
          subst hv4
          have hnl0 := nodesOf_len allT (firstsOf allT 0) (endOf allT : Nat) l.length allT 0 0
          generalize hnodes : nodesOf allT (firstsOf allT 0) (endOf allT : Nat) l.length allT 0 0 = nodes at *
          have hnl : (nodes.length + 1) * 64 ≤ 140737488355328 := by have := HNT.out; omega
          have HNODES := Lib.hid hnodes
          clear hnodes hnl0
          obtain ⟨cellsN, ownN0, repN⟩ := HN.out
          have hbd := below_drew1 (Below.refl wo.heap.size wo)
          have ownN := (show wo.drew.ownsRow Wb.heap.size 41 6 (Value.slice Av nodes.length cv) nodes.length cellsN from own_move ownN0 (fun k hk => hbd.block k (own_lt ownN0 k hk)))
          have BD := Lib.hid (below_drew1 HBQ.out)
          have hbE : Wb.heap.size ≤ wo.drew.heap.size := BD.out.size
          have BF := Lib.hid HLI.out.bf
          have BF0 := Lib.hid (blk_below BF.out BD.out)
          have HLF := Lib.hid hlf
          clear hbd ownN0 hlf
          go_upto_region 21 with fail
          refine start_ (n := 7) (S := fun w' => w'.cell? ⟨w.heap.size + 1, 0, none⟩ = some (.slice Af (firstsOf allT 0).length cf)) (ds := [6]) #[false, false, false, false, false, false, false] (by kernel_rfl) rfl rfl (blk_cell (BF0.out) 0) (fun hHeld => ?_)
          refine pure_ (i := 0) (N := some 77) (v := ?_) (a' := ?_) #[true, false, false, false, false, false, false] rfl rfl (by kernel_rfl) (fun _ _ _ h => h) (Or.inl ⟨by rfl, ?_⟩) ?_ ?_
          rotate_left
          · intro w'
            go_simp
            with_reducible rfl
          rotate_left
          · simp only [Act.put, List.setIfInBounds_toArray, List.set_cons_zero, List.set_cons_succ, i64_w, i32_w]
            rfl
          refine pure_ (i := 1) (N := some 78) (v := ?_) (a' := ?_) #[true, true, false, false, false, false, false] rfl rfl (by kernel_rfl) (fun _ _ _ h => h) (Or.inl ⟨by rfl, ?_⟩) ?_ ?_
          rotate_left
          · intro w'
            go_simp
            with_reducible rfl
          rotate_left
          · simp only [Act.put, List.setIfInBounds_toArray, List.set_cons_zero, List.set_cons_succ, i64_w, i32_w]
            rfl
          refine take_ (i := 4) (N := some 81) (v := ?_) (a' := ?_) #[true, true, false, false, true, false, false] rfl rfl (by kernel_rfl) (fun _ _ _ h => h) (Or.inl ⟨by rfl, ?_⟩) hHeld ?_ ?_
          rotate_left
          · intro w' s0
            go_simp
            with_reducible rfl
          rotate_left
          · simp only [Act.put, List.setIfInBounds_toArray, List.set_cons_zero, List.set_cons_succ, i64_w, i32_w]
            rfl
          refine one_ (i := 2) (N := some 79) #[true, true, true, false, true, false, false] rfl rfl (by kernel_rfl) (by decide) (fun K hK => ?_)
          refine value_ (w1 := ?_) (v := ?_) (by rfl) rfl ?_ ?_
          rotate_left 2
          · go_simp
            constructor
            · rfl
            · rfl
          refine hK.out _ _ (blk_cell (blk_alloc BF0.out _) 0) (fun hHeld => ?_)
          clear hK K
          refine norm_ (a' := ?_) ?_ ?_
          rotate_left
          · show Act.put _ (some 79) _ = _
            simp only [Act.put, List.setIfInBounds_toArray, List.set_cons_zero, List.set_cons_succ, i64_w, i32_w]
            rfl
          refine one_ (i := 3) (N := some 80) #[true, true, true, true, true, false, false] rfl rfl (by kernel_rfl) (by decide) (fun K hK => ?_)
          refine step_append_cells (W := wo.drew) (w0 := Wb) Wb.heap.size (by rfl) (.tmp 77) (.tmp 79) 24 41 (.agg #[.slice none 0 0, .int .i64 0, .int .i64 0, .int .i64 0, .int .i64 0, .int .i64 0]) 6 64 rfl Try.underlying24 info41' rfl (by decide) (by decide) (.slice Av nodes.length cv) nodes.length cellsN [.slice none 0 0, .int .i64 0, .int .i64 0, .int .i64 0, .int .i64 0, .int .i64 (-2)] (by go_simp) (by rfl) rfl (by intro u hu; simp at hu; rcases hu with rfl | rfl | rfl <;> rfl) ownN BD.out hbE hnl ?_
          intro v1 w6 ho hb hgr hat
          have O6 := Lib.hid ho
          have B6 := Lib.hid hb
          have X6 := Lib.hid (blk_below BF.out hb)
          have XF := blk_frozen X6.out 0
          have KF := blk_cell X6.out 0
          clear ho hb hgr hat
          refine hK.out _ _ (blk_cell (X6.out) 0) (fun hHeld => ?_)
          clear hK K
          refine norm_ (a' := ?_) ?_ ?_
          rotate_left
          · show Act.put _ (some 80) _ = _
            simp only [Act.put, List.setIfInBounds_toArray, List.set_cons_zero, List.set_cons_succ, i64_w, i32_w]
            rfl
          refine pure_ (i := 5) (N := some 4) (v := ?_) (a' := ?_) #[true, true, true, true, true, true, false] rfl rfl (by kernel_rfl) (fun _ _ _ h => h) (Or.inl ⟨by rfl, ?_⟩) ?_ ?_
          rotate_left
          · intro w'
            go_simp
            with_reducible rfl
          rotate_left
          · simp only [Act.put, List.setIfInBounds_toArray, List.set_cons_zero, List.set_cons_succ, i64_w, i32_w]
            rfl
          refine last_ (i := 6) (N := none) #[true, true, true, true, true, true, true] rfl rfl (by kernel_rfl) (by decide) (fun K hK => ?_)
          refine skip_ (w1 := ?_) (by rfl) rfl ?_ ?_
          rotate_left
          · go_simp
            rfl
          refine hK.out _ _ ?_
          clear hK K
          refine done_ (by kernel_rfl) ?_
          have F7 := Lib.hid (show (w6.setCell ⟨w.heap.size + 1, 0, none⟩ (.slice Af (firstsOf allT 0).length cf)).heap[w.heap.size + 1]? = some (.cells #[.slice Af (firstsOf allT 0).length cf] 31 (0, 0)) from by
            have h1 := blk_set X6.out 0 (.slice Af (firstsOf allT 0).length cf)
            simpa only [List.setIfInBounds_toArray, List.set_cons_zero] using h1)
          have B7 := Lib.hid (below_same B6.out X6.out)
          have hlW : w.heap.size + 1 < Wb.heap.size := blk_lt BF.out
          have NN := NodeRow.snoc (x := leafOf (-2)) O6.out repN (k41_mk Wb (leafOf (-2)) (A0 := none) (c0 := 0) (Nat.le_refl _) (Kd.C_nil _ _)) rfl
          have NN2 := Lib.hid (NN.far (p := ⟨w.heap.size + 1, 0, none⟩) hlW (.slice Af (firstsOf allT 0).length cf))
          have HR7 := Lib.hid (Kd.R_below HRF.out B7.out)
          have BB := Lib.hid (below_step HLI.out.b B7.out)
          clear NN O6 ownN repN KF XF X6 hHeld B6
          generalize w6.setCell ⟨w.heap.size + 1, 0, none⟩ (.slice Af (firstsOf allT 0).length cf) = w7 at *
          have k7 := blk_cell F7.out 0
          obtain ⟨A1, c1, hv1⟩ := NN2.out.slice
          subst hv1
          have hall : planN at_ l = nodes ++ [leafOf (-2)] := by unfold planN; rw [HAT.out, HNODES.out]
          have hfall : firstsOf (allOf at_ l) 0 = firstsOf allT 0 := by rw [HAT.out]
          obtain ⟨hr1, hr2, hr3⟩ := NN2.out.reads B7.out
          obtain ⟨hf1, hf2, hf3⟩ := Kd.R_reads' HR7.out
          rw [← hall] at hr2 hr3
          rw [← hfall] at hf2 hf3
          rw [← hall, ← hfall]
          have HALL := Lib.hid hr3
          have HFAL := Lib.hid hf3
          clear hr1 hr3 hf1 hf3 hall hfall HRF HR7 NN2 B7 HN
          go_wp2
          refine bodyPost_ret (results8 _ _ _ _ rfl F7.out) rfl ?_
          exact ⟨A1, c1, Af, cf, by rw [HAT.out]; rfl, hr2, HALL.out, hf2, HFAL.out, BB.out⟩
end Go.Proofs.Ytelheeekbihfcaa.Pt
end
