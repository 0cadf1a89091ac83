/- The law TreeApart: whatever the two programs, it returns true, and the input reads behind the call as it read before. Conditions: none but that the library's tables hold what the program's text lays (the tied card). -/
import Derived.Test.YtjboncbmeanlgaaDoorRows
import Derived.Test.YtjboncbmeanlgaaDoorCards
import Derived.Test.YtjboncbmeanlgaaDoorTie
import Derived.Test.YtjboncbmeanlgaaDoorQApartW
import Derived.Test.YtjboncbmeanlgaaDoorQOpenP
import Derived.WalkKit
import Derived.ProofKit
import Derived.OpenShut
import Derived.ShutString
import Derived.ChangeOld
import Derived.Below
import Derived.SizedLaws
import Derived.LaidMore
import Derived.Stop.Joined
import Derived.SevenTiedAt
/- The law TreeApart: whatever the two programs, it returns true, and the input reads behind the call as it read before. Conditions: none but that the library's tables hold what the program's text lays (the tied card). -/
namespace Go.Proofs.YtjboncbmeanlgaaDoor.treeApart
open Go.ChangeShapes Go.WideShapes Go.ChangeAt Go.RowKit
set_option linter.unusedVariables false
theorem own : ownKnob Tryd.prog.godebug = none := by kernel_rfl
theorem laidOut : laidOutB Tryd.prog = true := by kernel_rfl
/-- The door's own heap meets the condition. -/
theorem door_met (os : Os) (args : Array Value) : laidMetH Tryd.prog Rows.treeApartRow.laid ((World.doorLaid Tryd.prog 400 os).forCall (fun _ _ => 0) ⟨#[], args, []⟩).memory :=
  laidMetH_of_parts3 (fuel := 8) (laidMet_of_run' 8 (by kernel_rfl) (by kernel_rfl)) (by kernel_rfl) (by kernel_rfl)
theorem gTab : (Tryd.prog.globalNamed "internal/strconv.uint64pow10").map (fun g => (Tryd.prog.globals[g]?).map (·.type)) = some (some 115) := by kernel_rfl
/-- The table, out of what is laid. -/
theorem tab_of {W : World} (h : laidMetH Tryd.prog Rows.treeApartRow.laid W) : Tr.Tab W := by
  rw [MakeChecks.laidMetH_plain _ _ _ (by kernel_rfl)] at h
  obtain ⟨ps, ⟨g0, t0, cs0, f0, p0, q0, hg0, ht0, hv0, hd0, ⟨g1, t1, cs1, f1, p1, q1, hg1, ht1, hv1, hd1, ⟨g2, t2, cs2, f2, p2, q2, hg2, ht2, hv2, hd2, _, _⟩, _⟩, _⟩, _, _⟩ := h
  have hq := gTab
  rw [hg2] at hq
  simp only [Option.map_some, Option.some.injEq] at hq
  obtain rfl := Option.some.inj (ht2.symm.trans hq)
  show W.var? Tryd.prog "internal/strconv.uint64pow10" = _
  rw [hv2, ← Lib.cells_of_tab (k := .u64) (zs := Lib.pow10Tab) Tryd.underlying115 Tryd.underlying108 (by kernel_rfl) (by kernel_rfl) hd2]
set_option maxRecDepth 100000 in
set_option maxHeartbeats 8000000 in
theorem lifted (os : Os) (started : os.Started) (H : Type) (enc : TypeId × Value → H) :
    ReturnsInHanded {} Tryd.checked os 5 .any (fun w args => (Rows.treeApartSpec.pre enc Tryd.prog Tryd.f5 [] false w args ∧ laidMetH Tryd.prog Rows.treeApartRow.laid w) ∧ sizedMet enc Tryd.prog Tryd.f5 (OpenSpec.ofChange Rows.treeApartSpec) false w args)
      (Rows.treeApartSpec.post enc Tryd.prog Tryd.f5 false true false false) := by
  refine returnsInHanded_of_change_and (C := Tryd.checked) (X := fun w _ => laidMetH Tryd.prog Rows.treeApartRow.laid w) (fun _ _ _ hh h => h.of_heap hh) own started (by kernel_rfl) Tryd.func5
    (ChangeSpec.witness_shaped (enc := enc) (C := Tryd.checked) (os := os) (X := fun w _ => laidMetH Tryd.prog Rows.treeApartRow.laid w) false (World.doorLaid Tryd.prog 400 os) #[.agg #[.slice none 0 0, .int .i64 0, .string ⟨#[]⟩, .slice none 0 0], .agg #[.slice none 0 0, .int .i64 0, .string ⟨#[]⟩, .slice none 0 0]] 8 rfl (World.shaped_of_RefB (by kernel_rfl) (by kernel_rfl)) (by kernel_rfl) (by kernel_rfl) (by kernel_rfl) (door_met os _)) ?_
  intro W base args ds gs before hval0 hW _ _ hL _
  have hT := tab_of hL
  have hval : ∀ (j : Nat) t v, Tryd.f5.params[j]? = some t → args[j]? = some v → Value.okWide Tryd.prog W .any base t v := hval0
  have hW' := hW
  obtain ⟨p, q, hA0, hV, rfl, hfz, hnd⟩ := hW
  have hA : DataW.TrodAll enc Tryd.prog W 0 (fun _ => true) true Tryd.f5.params.toList args.toList ds p := hA0
  rw [Tryd.params5] at hA hval
  obtain ⟨v0, vs0, d0, ds0, p0, q0, hargs, rfl, rfl, h0, r0⟩ := trodAll_cons hA
  obtain ⟨v1, vs1, d1, ds1, p1, q1, rfl, rfl, rfl, h1, r1⟩ := trodAll_cons r0
  obtain ⟨rfl, rfl, rfl⟩ := trodAll_nil r1
  obtain rfl : args = #[v0, v1] := by cases args; simp_all
  obtain ⟨rfl, rfl⟩ := trodVars_none hV
  obtain ⟨cs0, rfl, hcs0⟩ := okWide_struct Tryd.underlying25 (hval 0 25 v0 rfl rfl)
  have k0 := h0
  have lt0 : ∀ x ∈ p0, x.block < W.heap.size := by obtain ⟨m, hm⟩ := k0; exact DataW.trod_lt m _ _ _ hm
  obtain ⟨x0, AD0, cD0, AX0, cX0, e0, hP0⟩ : ∃ (p : Go.Proofs.YtjboncbmeanlgaaDoor.Tr.S25) (AD : Option Addr) (cD : Nat) (AX : Option Addr) (cX : Nat), cs0.toList = [.slice AD p.f0.length cD, .int .i64 p.f1, .string p.f2, .slice AX p.f3.length cX] ∧ Tr.ProgC W p AD cD AX cX := by
    obtain ⟨fuel, hf⟩ := h0
    exact Tr.open_prog hf
  obtain rfl : cs0 = #[.slice AD0 x0.f0.length cD0, .int .i64 x0.f1, .string x0.f2, .slice AX0 x0.f3.length cX0] := by cases cs0; simp_all
  obtain ⟨cs1, rfl, hcs1⟩ := okWide_struct Tryd.underlying25 (hval 1 25 v1 rfl rfl)
  have k1 := h1
  have lt1 : ∀ x ∈ p1, x.block < W.heap.size := by obtain ⟨m, hm⟩ := k1; exact DataW.trod_lt m _ _ _ hm
  obtain ⟨x1, AD1, cD1, AX1, cX1, e1, hP1⟩ : ∃ (p : Go.Proofs.YtjboncbmeanlgaaDoor.Tr.S25) (AD : Option Addr) (cD : Nat) (AX : Option Addr) (cX : Nat), cs1.toList = [.slice AD p.f0.length cD, .int .i64 p.f1, .string p.f2, .slice AX p.f3.length cX] ∧ Tr.ProgC W p AD cD AX cX := by
    obtain ⟨fuel, hf⟩ := h1
    exact Tr.open_prog hf
  obtain rfl : cs1 = #[.slice AD1 x1.f0.length cD1, .int .i64 x1.f1, .string x1.f2, .slice AX1 x1.f3.length cX1] := by cases cs1; simp_all
  clear hA0 hval0
  refine (Tr.apart_true x0 x1 AD0 cD0 AX0 cX0 AD1 cD1 AX1 cX1 W hP0 hP1 hT).mono fun e W' ⟨he, bel⟩ => ?_
  subst he
  exact ⟨_, rfl, _, _, _, [], _, [], hW', trodAll_mk1 (shut_bool Tryd.underlying4 _), (trodAll_cons_mk (Below.trod laidOut (by kernel_rfl) (of_decide_eq_true (by kernel_rfl)) k0 bel lt0) (trodAll_cons_mk (Below.trod laidOut (by kernel_rfl) (of_decide_eq_true (by kernel_rfl)) k1 bel lt1) trodAll_mk0)), rfl, bel.frame _, fun h => by cases h⟩
theorem over : Rows.treeApartRow.holds Tryd.pinned (OpenSpec.ofChange Rows.treeApartSpec) :=
  OpenClaim.holds_of_wide 5 Tryd.f5 rfl rfl rfl rfl rfl rfl rfl ⟨rfl, rfl, rfl, rfl, rfl⟩ rfl rfl rfl rfl rfl (by kernel_rfl) Tryd.func5 (by kernel_rfl)
    (of_decide_eq_true (by kernel_rfl)) (by unfold Func.isWrapper; first | (rw [if_pos (by decide +kernel)]; kernel_rfl) | (rw [if_neg (by decide +kernel)]; exact ⟨rfl, rfl⟩))
    (fun os started H enc _ => lifted os started H enc)
/-- The tied card. -/
theorem card : Rows.TreeApartCardSaid :=
  Claim7.holds_tied_plain_at .later [] [.data, .data, .data] true (true, "8e68d24237359e0c384e9ab371bebf5f642cd83890c7bdb8984624a6ba059aa7") false
    over (fun _ h => by cases h) (by kernel_rfl) (fun _ h => by cases h) treeApart_row_tie rfl ⟨rfl, rfl⟩ (by kernel_rfl) rfl
    (fun f fn hf hfn => by
      obtain rfl : f = 5 := Option.some.inj ((show Tryd.prog.funcNamed "postbag/postbaglaw12.TreeApart" = some 5 by kernel_rfl).symm.trans hf) |>.symm
      obtain rfl : fn = Tryd.f5 := (Option.some.inj (Tryd.func5.symm.trans hfn)).symm
      exact ⟨by kernel_rfl, fun j t ht => by
        rw [Tryd.params5] at ht
        have hm : t ∈ [25, 25] := by simpa using Array.mem_of_getElem? ht
        have hall : ([25, 25].all fun u => !Tryd.prog.wantsStandIn u) = true := by kernel_rfl
        exact (show Tryd.prog.wantsStandIn t = false by simpa using List.all_eq_true.1 hall t hm)⟩)
    (by kernel_rfl)
end Go.Proofs.YtjboncbmeanlgaaDoor.treeApart
namespace Go.Proofs.YtjboncbmeanlgaaDoor
/-- The card, under a short name, for the claim. -/
theorem treeApart_holds : Rows.TreeApartCardSaid := treeApart.card
end Go.Proofs.YtjboncbmeanlgaaDoor
