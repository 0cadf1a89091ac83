/- The law ObjectReads of the package object: whatever the bytes, it returns true, and the input reads behind the call as it read before. Conditions: none (the full statement ObjectReadsSaid). -/
import Derived.Test.YtelheeekbihfcabRows
import Derived.Test.YtelheeekbihfcabReadsW
import Derived.Test.YtelheeekbihfcabWriteO
import Derived.Test.YtelheeekbihfcabOpenO
import Derived.WalkKit
import Derived.ProofKit
import Derived.OpenShut
import Derived.ShutString
import Derived.ChangeOld
import Derived.Below
import Derived.SizedLaws
namespace Go.Proofs.Ytelheeekbihfcab.Ob
open Go.RowKit Go.ChangeShapes Go.WideShapes Go.ChangeAt Go.Proofs Go.Proofs.Ytelheeekbihfcab.PObjectReads Go.Proofs.YtelheeekbihfcabW.PrintWords
theorem wf_u8 {x : Int} (h : (Lit.int .u8 x).wf = true) : 0 ≤ x ∧ x < 256 := by
  have h1 : IntKind.u8.min = 0 := by decide
  have h2 : IntKind.u8.max = 255 := by decide
  simp [Lit.wf, h1, h2] at h
  omega
theorem open_bytes {H : Type} {enc : TypeId × Value → H} {W : World} {base : Nat} {spare : Nat → Bool} {held : Bool} {fuel : Nat} {v : Value} {x : DataW H × List MemPlace}
    (h : DataW.trod enc Try.prog W base spare held fuel 29 [v] = some x) : ∃ (a : Option Addr) (cap : Nat) (l : List Int), v = .slice a l.length cap ∧ Kd.C (Kd.int .u8) W a l.length l ∧ l.length ≤ cap ∧ Byt l := by
  rcases open_ints Try.underlying29 Try.underlying5 (by kernel_rfl) h with ⟨hcs, _⟩ | ⟨ad, len, cap, zs, hcs, _, hl, hm, hz, _, hx, hw⟩
  · injection hcs with hcs _
    exact ⟨none, 0, [], hcs, ⟨rfl, by simp, fun h => absurd h (by simp)⟩, Nat.le_refl _, fun q hq => by cases hq⟩
  · injection hcs with hcs _
    have hlm : len ≤ zs.length := by rw [hz]; split <;> omega
    have hll : (zs.take len).length = len := by rw [List.length_take]; omega
    refine ⟨some ad, cap, zs.take len, by rw [hll]; exact hcs, ⟨rfl, by rw [hll]; have := hm; simp only [maxLen] at this; omega, fun _ => ⟨ad, rfl, fun j p hj => ⟨[.int .u8 p], rfl, rfl, fun i u hu => ?_⟩⟩⟩, by rw [hll]; exact hl, fun q hq => wf_u8 (hw q (List.mem_of_mem_take hq))⟩
    have hj' := (List.getElem?_eq_some_iff.1 hj).1
    rw [hll] at hj'
    have h1 := hx j (by omega)
    rw [List.getElem?_take_of_lt hj'] at hj
    rw [List.getD_eq_getElem?_getD, hj] at h1
    rcases i with _ | i
    · simp at hu
      subst hu
      show W.cell? (ad.add (j * 1 + 0)) = _
      simpa using h1
    · simp at hu
end Go.Proofs.Ytelheeekbihfcab.Ob
namespace Go.Proofs.Ytelheeekbihfcab.objectReads
open Go.ChangeShapes Go.WideShapes Go.ChangeAt Go.RowKit
set_option linter.unusedVariables false
theorem own : ownKnob Try.prog.godebug = none := by kernel_rfl
theorem laidOut : laidOutB Try.prog = true := by kernel_rfl
set_option maxRecDepth 100000 in
theorem lifted (os : Os) (started : os.Started) (H : Type) (enc : TypeId × Value → H) :
    ReturnsInHanded {} Try.checked os 4 .any (Rows.objectReadsSpec.pre6 enc Try.prog Try.f4 Rows.objectReadsRow.domain false) (Rows.objectReadsSpec.post enc Try.prog Try.f4 false true false false) := by
  refine returnsInHanded_of_change_sized (C := Try.checked) own started (by kernel_rfl) Try.func4
    (ChangeSpec.witness6 (enc := enc) (C := Try.checked) false ⟨#[], #[.slice none 0 0], []⟩ 8 (by kernel_rfl) (by kernel_rfl) (by kernel_rfl) (by kernel_rfl)) ?_
  intro W base args ds gs before hval0 hW hcnd hsz0 _
  have hval : ∀ (j : Nat) t v, Try.f4.params[j]? = some t → args[j]? = some v → Value.okWide Try.prog W .any base t v := hval0
  have hW' := hW
  obtain ⟨p, q, hA0, hV, rfl, hfz, hnd⟩ := hW
  have hA : DataW.TrodAll enc Try.prog W 0 (fun _ => true) true Try.f4.params.toList args.toList ds p := hA0
  rw [Try.params4] at hA hval
  obtain ⟨v0, vs0, d0, ds0, p0, q0, hargs, rfl, rfl, h0, r0⟩ := trodAll_cons hA
  obtain ⟨rfl, rfl, rfl⟩ := trodAll_nil r0
  obtain rfl : args = #[v0] := by cases args; simp_all
  obtain ⟨rfl, rfl⟩ := trodVars_none hV
  obtain ⟨a0, len0, cap0, rfl⟩ := okWide_slice Try.underlying29 (hval 0 29 v0 rfl rfl)
  have k0 := h0
  have lt0 : ∀ x ∈ p0, x.block < W.heap.size := by obtain ⟨m, hm⟩ := k0; exact DataW.trod_lt m _ _ _ hm
  obtain ⟨fuel, hf⟩ := h0
  obtain ⟨A, c, l, hv, hC, hl, hb⟩ := Ob.open_bytes hf
  injection hv with e1 e2 e3
  subst e1 e2 e3
  clear hA0 hval0 hsz0
  refine (Ob.object_reads (fun e s A2 c2 ws A3 c3 ls w h1 h2 h3 h4 hF => Ob.writeO e s A2 c2 ws A3 c3 ls w h1 h2 h3 h4 hF) a0 cap0 l W hC hl hb).mono fun e W' ⟨he, bel⟩ => ?_
  subst he
  exact ⟨_, rfl, _, _, _, [], _, [], hW', trodAll_mk1 (shut_bool Try.underlying4 _), (trodAll_cons_mk (Below.trod laidOut (by kernel_rfl) (of_decide_eq_true (by kernel_rfl)) k0 bel lt0) trodAll_mk0), rfl, bel.frame _, fun h => by cases h⟩
theorem over : Rows.objectReadsRow.holds Try.pinned (OpenSpec.ofChange Rows.objectReadsSpec) :=
  OpenClaim.holds_of_wide 4 Try.f4 rfl rfl rfl rfl rfl rfl rfl ⟨rfl, rfl, rfl, rfl, rfl⟩ rfl rfl rfl rfl rfl (by kernel_rfl) Try.func4 (by kernel_rfl)
    (of_decide_eq_true (by kernel_rfl)) (by unfold Func.isWrapper; first | (rw [if_pos (by decide +kernel)]; kernel_rfl) | (rw [if_neg (by decide +kernel)]; exact ⟨rfl, rfl⟩))
    (fun os started H enc _ => lifted os started H enc)
theorem proved : Rows.ObjectReadsSaid := over
#print axioms proved
end Go.Proofs.Ytelheeekbihfcab.objectReads
namespace Go.Proofs.Ytelheeekbihfcab
/-- The row, under a short name, for the claim. -/
theorem objectReads_holds : Rows.ObjectReadsSaid := objectReads.proved
end Go.Proofs.Ytelheeekbihfcab
