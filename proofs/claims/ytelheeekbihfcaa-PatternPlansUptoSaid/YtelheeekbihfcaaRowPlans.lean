/- The law PatternPlans of the package pattern: whatever the patterns, the atoms, the nodes, the number and the value, it returns true, and the input reads behind the call as it read before. Conditions: what comes in is of bulk at most 1048576 (the statement PatternPlansUptoSaid). -/
import Derived.Test.YtelheeekbihfcaaRows
import Derived.Test.YtelheeekbihfcaaPlansW
import Derived.Test.YtelheeekbihfcaaOpenB
import Derived.WalkKit
import Derived.ProofKit
import Derived.OpenShut
import Derived.ShutString
import Derived.ChangeOld
import Derived.Below
import Derived.Deep.CondSized
/- The law PatternPlans of the package pattern: whatever the patterns, the atoms, the nodes, the number and the value, it returns true, and the input reads behind the call as it read before. Conditions: what comes in is of bulk at most 1048576 (the statement PatternPlansUptoSaid). -/
namespace Go.Proofs.Ytelheeekbihfcaa.patternPlans
open Go.ChangeShapes Go.WideShapes Go.ChangeAt Go.RowKit
set_option linter.unusedVariables false
theorem own : ownKnob Try.prog.godebug = none := by kernel_rfl
theorem laidOut : laidOutB Try.prog = true := by kernel_rfl
theorem bound {H : Type} {d0 d1 d2 d3 d4 : DataW H} (hk : Rows.uptoSmall H ([d0, d1, d2, d3, d4] ++ []) = true) : Rows.uptoBulk d0 + Rows.uptoBulk d1 + Rows.uptoBulk d2 + Rows.uptoBulk d3 + Rows.uptoBulk d4 ≤ 1048576 := by
  have h : Rows.uptoBulkAll ([d0, d1, d2, d3, d4] ++ []) ≤ 1048576 := of_decide_eq_true hk
  simp only [List.append_nil, Rows.uptoBulkAll] at h
  omega
set_option maxRecDepth 100000 in
set_option maxHeartbeats 8000000 in
theorem lifted (os : Os) (started : os.Started) (H : Type) (enc : TypeId × Value → H) (F : Stop.Interp) :
    ReturnsInHanded {} Try.checked os 3 .any ((Rows.OpenSpec.upto Rows.patternPlansSpec).pre6 enc Try.prog Try.f3 Rows.patternPlansUptoRow.domain false) (((Rows.OpenSpec.upto Rows.patternPlansSpec).at F).post enc Try.prog Try.f3 false true false false) := by
  refine returnsInHanded_of_cond_sized (C := Try.checked) (s := Rows.OpenSpec.upto Rows.patternPlansSpec) (k := Rows.uptoSmall) rfl own started (by kernel_rfl) Try.func3
    (OpenSpec.witness (enc := enc) (C := Try.checked) (s := Rows.OpenSpec.upto Rows.patternPlansSpec) (k := Rows.uptoSmall) rfl false ⟨#[], #[.slice none 0 0, .slice none 0 0, .slice none 0 0, .int .i64 0, .agg #[.int .i64 0, .int .i64 0, .slice none 0 0]], []⟩ 8 (by kernel_rfl) (by kernel_rfl) (by kernel_rfl)
      (x := ([.nil, .nil, .nil, .lit (.int .i64 0), .agg [.lit (.int .i64 0), .lit (.int .i64 0), .nil]], [], [])) (by kernel_rfl) rfl (by kernel_rfl)) ?_
  intro W base args ds gs before hval0 hW hcnd hk hsz0 _
  have hval : ∀ (j : Nat) t v, Try.f3.params[j]? = some t → args[j]? = some v → Value.okWide Try.prog W .any base t v := hval0
  have hW' := hW
  obtain ⟨p, q, hA0, hV, rfl, hfz, hnd⟩ := hW
  have hA : DataW.TrodAll enc Try.prog W 0 (fun _ => true) true Try.f3.params.toList args.toList ds p := hA0
  rw [Try.params3] at hA hval
  obtain ⟨v0, vs0, d0, ds0, p0, q0, hargs, rfl, rfl, h0, r0⟩ := trodAll_cons hA
  obtain ⟨v1, vs1, d1, ds1, p1, q1, rfl, rfl, rfl, h1, r1⟩ := trodAll_cons r0
  obtain ⟨v2, vs2, d2, ds2, p2, q2, rfl, rfl, rfl, h2, r2⟩ := trodAll_cons r1
  obtain ⟨v3, vs3, d3, ds3, p3, q3, rfl, rfl, rfl, h3, r3⟩ := trodAll_cons r2
  obtain ⟨v4, vs4, d4, ds4, p4, q4, rfl, rfl, rfl, h4, r4⟩ := trodAll_cons r3
  obtain ⟨rfl, rfl, rfl⟩ := trodAll_nil r4
  obtain rfl : args = #[v0, v1, v2, v3, v4] := by cases args; simp_all
  obtain ⟨rfl, rfl⟩ := trodVars_none hV
  have hbd := bound hk
  obtain ⟨a0, len0, cap0, rfl⟩ := okWide_slice Try.underlying22 (hval 0 22 v0 rfl rfl)
  obtain ⟨a1, len1, cap1, rfl⟩ := okWide_slice Try.underlying23 (hval 1 23 v1 rfl rfl)
  obtain ⟨a2, len2, cap2, rfl⟩ := okWide_slice Try.underlying24 (hval 2 24 v2 rfl rfl)
  obtain ⟨cs, rfl, hcs⟩ := okWide_struct Try.underlying27 (hval 4 27 v4 rfl rfl)
  have k0 := h0
  have k1 := h1
  have k2 := h2
  have k4 := h4
  have lt0 : ∀ x ∈ p0, x.block < W.heap.size := by obtain ⟨m, hm⟩ := k0; exact DataW.trod_lt m _ _ _ hm
  have lt1 : ∀ x ∈ p1, x.block < W.heap.size := by obtain ⟨m, hm⟩ := k1; exact DataW.trod_lt m _ _ _ hm
  have lt2 : ∀ x ∈ p2, x.block < W.heap.size := by obtain ⟨m, hm⟩ := k2; exact DataW.trod_lt m _ _ _ hm
  have lt4 : ∀ x ∈ p4, x.block < W.heap.size := by obtain ⟨m, hm⟩ := k4; exact DataW.trod_lt m _ _ _ hm
  obtain ⟨A0, c0, l, e0, hl0, hC0, hb0⟩ : ∃ (A : Option Addr) (cap : Nat) (l : List PPatternFirst.S53), [Value.slice a0 len0 cap0] = [.slice A l.length cap] ∧ l.length ≤ cap ∧ YtelheeekbihfcaaW.PrintWords.Kd.C PPatternFirst.k53 W A l.length l ∧ 6 * Pt.nodesL l + 1 ≤ Rows.uptoBulk d0 := by
    obtain ⟨fuel, hf⟩ := h0
    exact Pt.open_pats hf
  injection e0 with e0
  injection e0 with e1 e2 e3
  subst e1 e2 e3
  obtain ⟨A1, c1, at_, e1, hl1, hC1⟩ : ∃ (A : Option Addr) (cap : Nat) (l : List ByteArray), [Value.slice a1 len1 cap1] = [.slice A l.length cap] ∧ l.length ≤ cap ∧ YtelheeekbihfcaaW.PrintWords.Kd.C YtelheeekbihfcaaW.PrintWords.Kd.string W A l.length l := by
    obtain ⟨fuel, hf⟩ := h1
    exact Pt.open_strs hf
  injection e1 with e1
  injection e1 with e1 e2 e3
  subst e1 e2 e3
  obtain ⟨A2, c2, ns, e1, hl2, hC2⟩ : ∃ (A : Option Addr) (cap : Nat) (l : List PPatternFirst.S41), [Value.slice a2 len2 cap2] = [.slice A l.length cap] ∧ l.length ≤ cap ∧ YtelheeekbihfcaaW.PrintWords.Kd.C PPatternFirst.k41 W A l.length l := by
    obtain ⟨fuel, hf⟩ := h2
    exact Pt.open_nodes hf
  injection e1 with e1
  injection e1 with e1 e2 e3
  subst e1 e2 e3
  obtain ⟨v, hK, hbv⟩ : ∃ v : PPatternFirst.S27, PPatternFirst.k27.K W v cs.toList ∧ 4 * Pt.nodesV v ≤ Rows.uptoBulk d4 := by
    obtain ⟨fuel, hf⟩ := h4
    exact Pt.open_val fuel fuel (Nat.le_refl _) _ _ hf
  obtain ⟨A4, c4, hcs2, hl4, hC4⟩ := PPatternFirst.k27_open hK
  obtain rfl : cs = #[.int .i64 v.f0, .int .i64 v.f1, .slice A4 v.f2.length c4] := by cases cs; simp_all
  obtain ⟨a3, rfl, rfl, rfl, w3⟩ := open_int Try.underlying3 (hval 3 3 v3 rfl rfl) h3
  clear hA0 hval0 hsz0
  refine (Pt.plans_true a0 l cap0 a1 at_ cap1 a2 ns cap2 a3 v A4 c4 W hC0 hl0 hC1 hl1 hC2 hl2 hC4 hl4 (by omega) (by omega)).mono fun e W' ⟨he, bel⟩ => ?_
  subst he
  exact ⟨_, rfl, _, _, _, [], _, [], hW', trodAll_mk1 (shut_bool Try.underlying4 _), (trodAll_cons_mk (Below.trod laidOut (by kernel_rfl) (of_decide_eq_true (by kernel_rfl)) k0 bel lt0) (trodAll_cons_mk (Below.trod laidOut (by kernel_rfl) (of_decide_eq_true (by kernel_rfl)) k1 bel lt1) (trodAll_cons_mk (Below.trod laidOut (by kernel_rfl) (of_decide_eq_true (by kernel_rfl)) k2 bel lt2) (trodAll_cons_mk (shut_int Try.underlying3 w3) (trodAll_cons_mk (Below.trod laidOut (by kernel_rfl) (of_decide_eq_true (by kernel_rfl)) k4 bel lt4) trodAll_mk0))))), rfl, bel.frame _, fun h => by cases h⟩
theorem over : Rows.patternPlansUptoRow.holds Try.pinned (Rows.OpenSpec.upto Rows.patternPlansSpec) :=
  OpenClaim.holds_of_cond 3 Try.f3 rfl rfl rfl rfl rfl rfl rfl ⟨rfl, rfl, rfl, rfl, rfl⟩ rfl rfl rfl rfl rfl (by kernel_rfl) Try.func3 (by kernel_rfl)
    (of_decide_eq_true (by kernel_rfl)) (by unfold Func.isWrapper; first | (rw [if_pos (by decide +kernel)]; kernel_rfl) | (rw [if_neg (by decide +kernel)]; exact ⟨rfl, rfl⟩))
    (fun os started H enc _ F => lifted os started H enc F)
theorem proved : Rows.PatternPlansUptoSaid := over
end Go.Proofs.Ytelheeekbihfcaa.patternPlans
namespace Go.Proofs.Ytelheeekbihfcaa
/-- The row, under a short name, for the claim. -/
theorem patternPlans_holds : Rows.PatternPlansUptoSaid := patternPlans.proved
end Go.Proofs.Ytelheeekbihfcaa
