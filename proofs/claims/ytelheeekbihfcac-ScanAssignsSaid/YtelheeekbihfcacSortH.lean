/- sort.SliceStable of the program's own row of places, by the beginnings of lives. -/
import Derived.Test.YtelheeekbihfcacSortG
import Derived.Test.YtelheeekbihfcacPScanAssignsx1
import Derived.Shelf.GgSortFunc.Small
import Derived.Deep.QuietTactic
import Derived.BigQuiet
set_option linter.unusedVariables false
set_option linter.unusedSimpArgs false
namespace Go.Proofs.Ytelheeekbihfcac.Srt
open Go.RowKit Go.Sort Go.Proofs Go.Lib Go.Proofs.Ytelheeekbihfcac.PScanAssigns Go.Proofs.YtelheeekbihfcacW.PrintWords

set_option maxHeartbeats 1000000 in
set_option maxRecDepth 100000 in
theorem insertion_none (lf : Fn) (la lb : Array Value) (f : Nat) (sb : Array Value) (n : Nat) (hn : n ≤ 1) (w : World) :
    Calls Try.prog 39 #[.agg #[.func lf la lb, .func (.func f) #[] sb], .int .i64 0, .int .i64 n] w fun e w' => e = .returned (.tuple #[]) ∧ w.alloc (.cells #[.func lf la lb, .func (.func f) #[] sb] 62) = w' := by
  have h1 : ¬ (1 : Int) < n := by omega
  go_enter Try.func39, Try.ntmps39
  go_wp2
  refine wp_loop_rounds 1 ?_
  rw [rounds_succ]
  go_wp2
  go_end0
  exact ⟨rfl, rfl⟩

set_option maxHeartbeats 1000000 in
set_option maxRecDepth 100000 in
theorem stable_tiny (lf : Fn) (la lb : Array Value) (f : Nat) (sb : Array Value) (n : Nat) (hn : n ≤ 1) (w : World) :
    Calls Try.prog 28 #[.agg #[.func lf la lb, .func (.func f) #[] sb], .int .i64 n] w fun e w' => e = .returned (.tuple #[]) ∧ ∃ os, w' = grow w os := by
  have h1 : ¬ (20 : Int) ≤ n := by omega
  have h2 : ¬ (20 : Int) < n := by omega
  go_enter Try.func28, Try.ntmps28
  go_wp2
  refine wp_loop_rounds 1 ?_
  rw [rounds_succ]
  go_wp2_with (go_at_call 39; refine (insertion_none lf la lb f sb n hn _).mono ?_; rintro e w1 ⟨rfl, rfl⟩)
  refine wp_loop_rounds 1 ?_
  rw [rounds_succ]
  go_wp2
  go_end0
  exact ⟨rfl, _, by rw [alloc_eq_grow, alloc_eq_grow, grow_grow]⟩

noncomputable def siT : TypeInfo := (Try.prog.info? 24).get (by kernel_rfl)
noncomputable def siE : TypeInfo := (Try.prog.info? 3).get (by kernel_rfl)
theorem siT_info : Try.prog.info? 24 = some siT := by kernel_rfl
theorem siE_info : Try.prog.info? 3 = some siE := by kernel_rfl
theorem siT_desc : siT.desc = .slice 3 := by kernel_rfl
theorem siT_packed : Try.prog.packed 24 = false := by kernel_rfl
theorem siE_kind (w : World) : (Extern.Rtype.kind 3).run Try.prog w = .ok 2 w := by kernel_rfl
theorem siK (n : Nat) (h2 : 2 ≤ n) : Lib.swapperK n siE 2 = 5 := by
  have a : siE.hasPointers = false := by kernel_rfl
  have b : siE.bytes = 8 := by kernel_rfl
  have c : (n == 0) = false := by simp; omega
  have d : (n == 1) = false := by simp; omega
  simp [Lib.swapperK, a, b, c, d]

/-- The world in which stable_func is called: two new blocks. -/
noncomputable def stW (p : Option Addr) (n c : Nat) (w : World) : World :=
  (w.alloc (.cells #[.slice p n c] 24)).alloc (.cells #[.pointer (some ⟨0, 24, none⟩), .pointer (some ⟨w.heap.size, 0, none⟩), .int .u64 151] 56)

set_option maxHeartbeats 1000000 in
set_option maxRecDepth 100000 in
theorem sliceStable_of (p : Option Addr) (n c : Nat) (hn : n < 4611686018427387904) (f : Nat) (hf : Try.prog.funcs.findIdx? (·.name == "internal/reflectlite" ++ ".Swapper$" ++ toString (swapperK n siE 2)) = some f) (lf : Fn) (la lb : Array Value) (w : World) (R : World → Prop)
    (hp : Calls Try.prog 28 #[.agg #[.func lf la lb, .func (.func f) #[] (sliceBound Try.prog 3 siE 2 p n c)], .int .i64 n] (stW p n c w) fun e w' => e = .returned (.tuple #[]) ∧ R w') :
    Calls Try.prog 24 #[.iface 24 (.slice p n c), .func lf la lb] w fun e w' => e = .returned (.tuple #[]) ∧ R w' := by
  have hv := run_valueOf_slice (P := Try.prog) 24 3 siT siT_info siT_desc p n c w
  have hs := fun w => run_swapper_slice (P := Try.prog) 24 3 siT siE siT_info siT_desc siE_info 2 siE_kind p n c f hf w
  have hl := fun a w ha => run_valueLen_slice (P := Try.prog) 24 3 siT siT_info siT_desc siT_packed a p n c w ha
  unfold sliceBound stW at hp
  generalize (if swapperK n siE 2 ≤ 2 then (#[] : Array Value) else #[.slice p n c, typeHandle Try.prog 3]) = B at hs hp
  have hz : Try.prog.globals.size = 0 := by kernel_rfl
  simp only [typeHandle, hz] at hv hl
  have e28 : ∀ args w, (callFunc 28 args).run Try.prog w = .ok (.enter 28 args) w := enters_of Try.func28 (by kernel_rfl) rfl
  go_enter Try.func24, Try.ntmps24
  go_wp2
  rw [run_callFunc_extern Try.func26 (by kernel_rfl) (by kernel_rfl) (by kernel_rfl) (e := fun args => Extern.ReflectliteValue.unpack (args.getD 0 (.tuple #[]))) (by kernel_rfl),
    show Sem.run Try.prog ((fun args : Array Value => Extern.ReflectliteValue.unpack (args.getD 0 (.tuple #[]))) #[.iface 24 (.slice p n c)]) w = _ from hv]
  simp only [Result.andThen]
  rw [Oper.upon_value]
  go_wp2
  rw [run_callFunc_extern Try.func27 (by kernel_rfl) (by kernel_rfl) (by kernel_rfl) (e := Extern.ReflectliteSwapper.swapper "internal/reflectlite" (Extern.ReflectliteValue.valueError "Swapper")) (by kernel_rfl), hs]
  simp only [Result.andThen]
  rw [Oper.upon_value]
  go_wp2
  rw [run_callFunc_extern Try.func29 (by kernel_rfl) (by kernel_rfl) (by kernel_rfl) (e := Extern.ReflectliteValue.method (Extern.ReflectliteValue.valueError "reflectlite.Value.Len" 0) Extern.ReflectliteValue.len) (by kernel_rfl),
    hl _ _ (by simp)]
  simp only [Result.andThen]
  rw [Oper.upon_value]
  go_wp2_with (go_at_call 28; refine hp.mono ?_; rintro e w' ⟨rfl, hR⟩)
  go_end0
  exact ⟨rfl, hR⟩

set_option maxHeartbeats 2000000 in
/-- The program's own 'less': it reads the two boxes, two places of the row, two beginnings. -/
theorem less_any (blk lb ob n c0 c : Nat) (ad : Addr) (l : List S40) (W : World) (G : Nat → Nat)
    (hl : W.cell? ⟨lb, 0, none⟩ = some (.slice (some ad) n c0)) (ho : W.cell? ⟨ob, 0, none⟩ = some (.slice (some ⟨blk, 0, none⟩) n c))
    (hf : ∀ k : Nat, k < n → W.cell? (ad.add (k * 2)) = some (.int .i64 (rd_T40 l k).f0)) (hG : ∀ t, t < n → G t < n)
    (hc : ∀ t, t < n → W.cell? ⟨blk, t, none⟩ = some (.int .i64 (G t))) (hsz : n < 4611686018427387904) (i j : Nat) (hi : i < n) (hj : j < n) :
    Calls Try.prog 25 #[.int .i64 i, .int .i64 j, .pointer (some ⟨lb, 0, none⟩), .pointer (some ⟨ob, 0, none⟩)] W fun e w' => e = .returned (.bool (decide ((rd_T40 l (G i)).f0 < (rd_T40 l (G j)).f0))) ∧ ∃ q, w' = W.drewN q := by
  have ci := hc i hi
  have cj := hc j hj
  have fi := hf (G i) (hG i hi)
  have fj := hf (G j) (hG j hj)
  have gi := hG i hi
  have gj := hG j hj
  clear hc hf hG
  generalize (rd_T40 l (G i)).f0 = x at *
  generalize (rd_T40 l (G j)).f0 = y at *
  generalize G i = gi' at *
  generalize G j = gj' at *
  go_enter Try.func25, Try.ntmps25
  go_wp2
  go_quiet (fail)
  go_wp2
  go_ret
  exact ⟨rfl, nq, rfl⟩
end Go.Proofs.Ytelheeekbihfcac.Srt
