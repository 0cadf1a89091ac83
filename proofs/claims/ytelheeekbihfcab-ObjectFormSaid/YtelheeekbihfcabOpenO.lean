/- An object that came in, read. -/
import Derived.Test.YtelheeekbihfcabFilesW
import Derived.Deep.SlicePairs
import Derived.Lib.SmallJoins
import Derived.ProofKit
set_option linter.unusedVariables false
namespace Go.Proofs.Ytelheeekbihfcab.Ob
open Go.RowKit Go.ChangeShapes Go.WideShapes Go.ChangeAt Go.Proofs Go.Proofs.Ytelheeekbihfcab.PObjectReads Go.Proofs.YtelheeekbihfcabW.PrintWords

theorem pick_list {P : Nat → S47 → Prop} : ∀ n, (∀ i, i < n → ∃ q, P i q) → ∃ l : List S47, l.length = n ∧ ∀ i q, l[i]? = some q → P i q
  | 0, _ => ⟨[], rfl, fun i q hi => by simp at hi⟩
  | n + 1, h => by
    obtain ⟨l, h1, h2⟩ := pick_list n (fun i hi => h i (by omega))
    obtain ⟨q, hq⟩ := h n (by omega)
    refine ⟨l ++ [q], by simp [h1], fun i q' hi => ?_⟩
    rcases Nat.lt_or_ge i l.length with h3 | h3
    · rw [List.getElem?_append_left h3] at hi
      exact h2 i q' hi
    · have hlt := (List.getElem?_eq_some_iff.1 hi).1
      simp at hlt
      obtain rfl : i = n := by omega
      rw [List.getElem?_append_right h3, show i - l.length = 0 by omega] at hi
      injection hi with hi
      subst hi
      exact hq
theorem wf_u64 {x : Int} (h : (Lit.int .u64 x).wf = true) : 0 ≤ x ∧ x < 18446744073709551616 := by
  have h1 : IntKind.u64.min = 0 := by decide
  have h2 : IntKind.u64.max = 18446744073709551615 := by decide
  simp [Lit.wf, h1, h2] at h
  omega
theorem wf_u32 {x : Int} (h : (Lit.int .u32 x).wf = true) : 0 ≤ x ∧ x < 4294967296 := by
  have h1 : IntKind.u32.min = 0 := by decide
  have h2 : IntKind.u32.max = 4294967295 := by decide
  simp [Lit.wf, h1, h2] at h
  omega

theorem open_labels {H : Type} {enc : TypeId × Value → H} {W : World} {base : Nat} {spare : Nat → Bool} {held : Bool} {fuel : Nat} {cs : List Value} {x : DataW H × List MemPlace}
    (h : DataW.trod enc Try.prog W base spare held fuel 24 cs = some x) : ∃ (a : Option Addr) (cap : Nat) (l : List S47), cs = [.slice a l.length cap] ∧ l.length ≤ cap ∧ Kd.C k47 W a l.length l ∧ ∀ q, q ∈ l → 0 ≤ q.f1 ∧ q.f1 < 18446744073709551616 := by
  rcases _root_.Go.Deep.open_slice_pairs Try.underlying24 Try.underlying47 (by kernel_rfl) rfl rfl (by kernel_rfl) (by kernel_rfl) h with ⟨hcs, _⟩ | ⟨ad, len, cap, m, n, V0, V1, D0, D1, P0, P1, hcs, _, hl, hm, hmm, _, hx⟩
  · exact ⟨none, 0, [], hcs, Nat.le_refl _, ⟨rfl, by simp, fun h => absurd h (by simp)⟩, fun q hq => by cases hq⟩
  · have hlm : len ≤ m := by rw [hmm]; split <;> omega
    have hv : ∀ i, i < len → ∃ q : S47, V0 i = .string q.f0 ∧ V1 i = .int .u64 q.f1 ∧ 0 ≤ q.f1 ∧ q.f1 < 18446744073709551616 := fun i hi => by
      obtain ⟨h1, h2, h3, h4⟩ := hx i (by omega)
      obtain ⟨y, e0, _, _⟩ := DataW.trod_string Try.underlying9 h3
      obtain ⟨x1, e1, _, hw⟩ := DataW.trod_int Try.underlying22 h4
      injection e0 with e0
      injection e1 with e1
      exact ⟨⟨y, x1⟩, e0, e1, wf_u64 hw⟩
    obtain ⟨l, hll, hlq⟩ := pick_list len hv
    subst hll
    refine ⟨some ad, cap, l, hcs, hl, ⟨rfl, by have := hm; simp only [maxLen] at this; omega, fun _ => ⟨ad, rfl, fun j p hj => ⟨[.string p.f0, .int .u64 p.f1], rfl, k47_mk W p, fun i u hu => ?_⟩⟩⟩, fun q hq => ?_⟩
    · have hj' := (List.getElem?_eq_some_iff.1 hj).1
      obtain ⟨h1, h2, _⟩ := hx j (by omega)
      obtain ⟨e0, e1, _⟩ := hlq j p hj
      show W.cell? (ad.add (j * 2 + i)) = some u
      rcases i with _ | _ | i
      · simp at hu; subst hu; rw [← e0]; exact h1
      · simp at hu; subst hu; rw [← e1]; exact h2
      · simp at hu
    · obtain ⟨j, hj, rfl⟩ := List.getElem_of_mem hq
      exact (hlq j _ (List.getElem?_eq_getElem hj)).2.2

theorem open_words {H : Type} {enc : TypeId × Value → H} {W : World} {base : Nat} {spare : Nat → Bool} {held : Bool} {fuel : Nat} {cs : List Value} {x : DataW H × List MemPlace}
    (h : DataW.trod enc Try.prog W base spare held fuel 23 cs = some x) : ∃ (a : Option Addr) (cap : Nat) (l : List Int), cs = [.slice a l.length cap] ∧ l.length ≤ cap ∧ Kd.C (Kd.int .u32) W a l.length l ∧ ∀ q, q ∈ l → 0 ≤ q ∧ q < 4294967296 := by
  rcases open_ints Try.underlying23 Try.underlying58 (by kernel_rfl) h with ⟨hcs, _⟩ | ⟨ad, len, cap, zs, hcs, _, hl, hm, hz, _, hx, hw⟩
  · exact ⟨none, 0, [], hcs, Nat.le_refl _, ⟨rfl, by simp, fun h => absurd h (by simp)⟩, fun q hq => by cases hq⟩
  · have hlm : len ≤ zs.length := by rw [hz]; split <;> omega
    have hll : (zs.take len).length = len := by rw [List.length_take]; omega
    refine ⟨some ad, cap, zs.take len, by rw [hll]; exact hcs, by rw [hll]; exact hl, ⟨rfl, by rw [hll]; have := hm; simp only [maxLen] at this; omega, fun _ => ⟨ad, rfl, fun j p hj => ⟨[.int .u32 p], rfl, rfl, fun i u hu => ?_⟩⟩⟩, fun q hq => wf_u32 (hw q (List.mem_of_mem_take hq))⟩
    have hj' := (List.getElem?_eq_some_iff.1 hj).1
    rw [hll] at hj'
    have h1 := hx j (by omega)
    rw [List.getElem?_take_of_lt hj'] at hj
    rw [List.getD_eq_getElem?_getD, hj] at h1
    rcases i with _ | i
    · simp at hu
      subst hu
      show W.cell? (ad.add (j * 1 + 0)) = _
      simpa using h1
    · simp at hu

theorem open_object {H : Type} {enc : TypeId × Value → H} {W : World} {base : Nat} {spare : Nat → Bool} {held : Bool} {fuel : Nat} {cs : Array Value} {x : DataW H × List MemPlace} (hs : cs.size = 4)
    (h : DataW.trod enc Try.prog W base spare held fuel 26 cs.toList = some x) : ∃ (e s : Int) (A2 : Option Addr) (c2 : Nat) (ws : List Int) (A3 : Option Addr) (c3 : Nat) (ls : List S47), cs = #[.int .u64 e, .int .u64 s, .slice A2 ws.length c2, .slice A3 ls.length c3] ∧
      Kd.C (Kd.int .u32) W A2 ws.length ws ∧ ws.length ≤ c2 ∧ Kd.C k47 W A3 ls.length ls ∧ ls.length ≤ c3 ∧ InR e s ws ls := by
  obtain ⟨y0, y1, y2, y3, n, _, _, h0, h1, h2, h3⟩ := _root_.Go.Joins.trod_struct4 Try.underlying26 h
  obtain ⟨a0, a1, a2, a3, rfl⟩ : ∃ a0 a1 a2 a3, cs = #[a0, a1, a2, a3] := by
    obtain ⟨l⟩ := cs
    match l, hs with
    | [a, b, c, d], _ => exact ⟨a, b, c, d, rfl⟩
  have e0 : Try.prog.cellsOf 22 = 1 := by kernel_rfl
  have e2 : Try.prog.cellsOf 23 = 1 := by kernel_rfl
  have e3 : Try.prog.cellsOf 24 = 1 := by kernel_rfl
  simp only [e0, e2, e3, List.drop_succ_cons, List.drop_zero, List.take_succ_cons, List.take_zero] at h0 h1 h2 h3
  obtain ⟨e, q0, _, w0⟩ := DataW.trod_int Try.underlying22 h0
  obtain ⟨s, q1, _, w1⟩ := DataW.trod_int Try.underlying22 h1
  obtain ⟨A2, c2, ws, q2, l2, C2, r2⟩ := open_words h2
  obtain ⟨A3, c3, ls, q3, l3, C3, r3⟩ := open_labels h3
  injection q0 with q0
  injection q1 with q1
  injection q2 with q2
  injection q3 with q3
  subst q0 q1 q2 q3
  exact ⟨e, s, A2, c2, ws, A3, c3, ls, rfl, C2, l2, C3, l3, ⟨wf_u64 w0, wf_u64 w1, r2, r3⟩⟩
end Go.Proofs.Ytelheeekbihfcab.Ob
