/- OpenP; OpenN -/
import Derived.Test.YtelheeekbihfcaaRows
import Derived.Test.YtelheeekbihfcaaGoB
import Derived.Deep.SlicePairs
import Derived.Lib.SmallJoins
import Derived.ProofKit
section
/- Patterns and values that came in, read. -/
set_option linter.unusedVariables false
set_option linter.unusedSimpArgs false
namespace Go.Proofs.Ytelheeekbihfcaa.Pt
open Go.RowKit Go.ChangeShapes Go.WideShapes Go.ChangeAt Go.Proofs Go.Proofs.Ytelheeekbihfcaa.PPatternFirst Go.Proofs.YtelheeekbihfcaaW.PrintWords
theorem pick_any {α : Type} {P : Nat → α → Prop} : ∀ n, (∀ i, i < n → ∃ q, P i q) → ∃ l : List α, l.length = n ∧ ∀ i q, l[i]? = some q → P i q
  | 0, _ => ⟨[], rfl, fun i q hi => by simp at hi⟩
  | n + 1, h => by
    obtain ⟨l, h1, h2⟩ := pick_any n (fun i hi => h i (by omega))
    obtain ⟨q, hq⟩ := h n (by omega)
    refine ⟨l ++ [q], by simp [h1], fun i q' hi => ?_⟩
    rcases Nat.lt_or_ge i l.length with h3 | h3
    · rw [List.getElem?_append_left h3] at hi
      exact h2 i q' hi
    · have hlt := (List.getElem?_eq_some_iff.1 hi).1
      simp at hlt
      obtain rfl : i = n := by omega
      rw [List.getElem?_append_right h3, show i - l.length = 0 by omega] at hi
      injection hi with hi
      subst hi
      exact hq
def costs {α : Type} (cost : α → Nat) : List α → Nat
  | [] => 0
  | x :: r => cost x + costs cost r
theorem costs_le {α H : Type} (cost : α → Nat) : ∀ (l : List α) (es : List (DataW H)), l.length = es.length → (∀ (i : Nat) (q : α) (e : DataW H), l[i]? = some q → es[i]? = some e → cost q ≤ Rows.uptoBulk e) → costs cost l ≤ Rows.uptoBulkAll es
  | [], _, _, _ => Nat.zero_le _
  | x :: r, [], h, _ => by simp at h
  | x :: r, e :: es, h, hq => by
    have h1 := hq 0 x e rfl rfl
    have h2 := costs_le cost r es (by simpa using h) (fun i q e' h3 h4 => hq (i + 1) q e' h3 h4)
    simp only [costs, Rows.uptoBulkAll]
    omega
section
variable {H : Type} {enc : TypeId × Value → H} {W : World} {base : Nat} {spare : Nat → Bool} {held : Bool}
/-- A slice whose elements can be read. -/
theorem open_row {α : Type} (d : Kd α) (cost : α → Nat) {t e : TypeId} (ht : Try.prog.underlying t = some (.slice e)) (hsz : Try.prog.cellsOf e = d.sz) (fuel : Nat)
    (hel : ∀ n, n < fuel → ∀ cs x, DataW.trod enc Try.prog W base spare held n e cs = some x → ∃ p : α, d.K W p cs ∧ cost p ≤ Rows.uptoBulk x.1) {cs : List Value} {x : DataW H × List MemPlace}
    (h : DataW.trod enc Try.prog W base spare held fuel t cs = some x) : ∃ (A : Option Addr) (cap : Nat) (l : List α), cs = [.slice A l.length cap] ∧ l.length ≤ cap ∧ d.C W A l.length l ∧ costs cost l + 1 ≤ Rows.uptoBulk x.1 := by
  rcases DataW.trod_slice ht h with ⟨rfl, rfl⟩ | ⟨a, len, cap, elems, rest, n, hf, rfl, rfl, hb, hl, hm, hlen, hx, hs1, hs2⟩
  · exact ⟨none, 0, [], rfl, Nat.le_refl _, Kd.C_nil _ _, by simp [costs, Rows.uptoBulk]⟩
  · have hv : ∀ i, i < len → ∃ q : α, ∃ cs' y, W.cells? base (a.add (i * Try.prog.cellsOf e)) (Try.prog.cellsOf e) = some cs' ∧ elems[i]? = some y ∧ d.K W q cs' ∧ cost q ≤ Rows.uptoBulk y.1 := fun i hi => by
      have h1 := hx i hi
      rw [List.getElem?_eq_getElem (by omega)] at h1
      obtain ⟨cs', h2, h3⟩ := Option.bind_eq_some_iff.1 h1
      obtain ⟨q, h4, h5⟩ := hel n (by omega) _ _ h3
      exact ⟨q, cs', _, h2, List.getElem?_eq_getElem (by omega), h4, h5⟩
    obtain ⟨l, hll, hlq⟩ := pick_any len hv
    subst hll
    refine ⟨some a, cap, l, rfl, hl, ⟨rfl, by have := hm; simp only [maxLen] at this; omega, fun _ => ⟨a, rfl, fun j p hj => ?_⟩⟩, ?_⟩
    · obtain ⟨cs', y, h1, _, h3, _⟩ := hlq j p hj
      obtain ⟨_, hlen', hcell⟩ := World.cells?_some h1
      refine ⟨cs', d.K_len h3, h3, fun i u hu => ?_⟩
      have hi := (List.getElem?_eq_some_iff.1 hu).1
      have e0 := hcell i (by omega)
      rw [Deep.add_add, hsz] at e0
      rw [e0]
      exact hu
    · have h1 := costs_le cost l (elems.map (·.1)) (by simp [hlen]) (fun i q e' h3 h4 => by
        obtain ⟨cs', y, _, h6, _, h8⟩ := hlq i q h3
        rw [List.getElem?_map, h6] at h4
        injection h4 with h4
        subst h4
        exact h8)
      simp only [Rows.uptoBulk]
      omega
theorem costs_nodes : ∀ l : List S53, costs (fun p => 6 * nodesP p) l = 6 * nodesL l
  | [] => rfl
  | x :: r => by rw [costs, costs_nodes r, nodesL]; omega
theorem costs_nodesV : ∀ l : List S27, costs (fun p => 4 * nodesV p) l = 4 * nodesVL l
  | [] => rfl
  | x :: r => by rw [costs, costs_nodesV r, nodesVL]; omega
set_option maxRecDepth 100000 in
theorem open_pat : ∀ (N fuel : Nat), fuel ≤ N → ∀ (cs : List Value) (x : DataW H × List MemPlace), DataW.trod enc Try.prog W base spare held fuel 53 cs = some x → ∃ p : S53, k53.K W p cs ∧ 6 * nodesP p ≤ Rows.uptoBulk x.1 := by
  intro N
  induction N with
  | zero =>
    intro fuel hf cs x h
    obtain rfl : fuel = 0 := by omega
    simp [DataW.trod] at h
  | succ N ih =>
    intro fuel hf cs x h
    obtain ⟨xs, n, rfl, rfl, hl, hxl, hfd⟩ := DataW.trod_struct Try.underlying53 h
    have c53 : Try.prog.cellsOf 53 = 5 := by kernel_rfl
    have c3 : Try.prog.cellsOf 3 = 1 := by kernel_rfl
    have c9 : Try.prog.cellsOf 9 = 1 := by kernel_rfl
    have c22 : Try.prog.cellsOf 22 = 1 := by kernel_rfl
    rw [c53] at hl
    match xs, hxl, cs, hl with
    | [y0, y1, y2, y3, y4], _, [a0, a1, a2, a3, a4], _ =>
      have g0 := hfd 0 _ rfl
      have g1 := hfd 1 _ rfl
      have g2 := hfd 2 _ rfl
      have g3 := hfd 3 _ rfl
      have g4 := hfd 4 _ rfl
      simp only [c3, c9, c22, List.drop_succ_cons, List.drop_zero, List.take_succ_cons, List.take_zero, List.getElem?_cons_zero, List.getElem?_cons_succ] at g0 g1 g2 g3 g4
      obtain ⟨z0, q0, r0, _⟩ := DataW.trod_int Try.underlying3 g0
      obtain ⟨z1, q1, r1, _⟩ := DataW.trod_int Try.underlying3 g1
      obtain ⟨z2, q2, r2, _⟩ := DataW.trod_int Try.underlying3 g2
      obtain ⟨z3, q3, r3, _⟩ := DataW.trod_string Try.underlying9 g3
      obtain ⟨A, cap, l, q4, hlc, hC, hcost⟩ := open_row k53 (fun p => 6 * nodesP p) Try.underlying22 c53 n (fun m hm cs' x' h' => ih m (by omega) cs' x' h') g4
      injection q0 with q0
      injection q1 with q1
      injection q2 with q2
      injection q3 with q3
      injection q4 with q4
      subst q0 q1 q2 q3 q4 r0 r1 r2 r3
      refine ⟨⟨z0, z1, z2, z3, l⟩, k53_mk W ⟨z0, z1, z2, z3, l⟩ hlc hC, ?_⟩
      rw [costs_nodes] at hcost
      simp only [nodesP, Rows.uptoBulk, Rows.uptoBulkAll, List.map_cons, List.map_nil]
      omega
theorem open_pats {fuel : Nat} {cs : List Value} {x : DataW H × List MemPlace} (h : DataW.trod enc Try.prog W base spare held fuel 22 cs = some x) : ∃ (A : Option Addr) (cap : Nat) (l : List S53), cs = [.slice A l.length cap] ∧ l.length ≤ cap ∧ Kd.C k53 W A l.length l ∧ 6 * nodesL l + 1 ≤ Rows.uptoBulk x.1 := by
  obtain ⟨A, cap, l, h1, h2, h3, h4⟩ := open_row k53 (fun p => 6 * nodesP p) Try.underlying22 (by kernel_rfl) fuel (fun n _ cs' x' h' => open_pat n n (Nat.le_refl _) cs' x' h') h
  rw [costs_nodes] at h4
  exact ⟨A, cap, l, h1, h2, h3, h4⟩
set_option maxRecDepth 100000 in
theorem open_val : ∀ (N fuel : Nat), fuel ≤ N → ∀ (cs : List Value) (x : DataW H × List MemPlace), DataW.trod enc Try.prog W base spare held fuel 27 cs = some x → ∃ p : S27, k27.K W p cs ∧ 4 * nodesV p ≤ Rows.uptoBulk x.1 := by
  intro N
  induction N with
  | zero =>
    intro fuel hf cs x h
    obtain rfl : fuel = 0 := by omega
    simp [DataW.trod] at h
  | succ N ih =>
    intro fuel hf cs x h
    obtain ⟨xs, n, rfl, rfl, hl, hxl, hfd⟩ := DataW.trod_struct Try.underlying27 h
    have c27 : Try.prog.cellsOf 27 = 3 := by kernel_rfl
    have c3 : Try.prog.cellsOf 3 = 1 := by kernel_rfl
    have c25 : Try.prog.cellsOf 25 = 1 := by kernel_rfl
    rw [c27] at hl
    match xs, hxl, cs, hl with
    | [y0, y1, y2], _, [a0, a1, a2], _ =>
      have g0 := hfd 0 _ rfl
      have g1 := hfd 1 _ rfl
      have g2 := hfd 2 _ rfl
      simp only [c3, c25, List.drop_succ_cons, List.drop_zero, List.take_succ_cons, List.take_zero, List.getElem?_cons_zero, List.getElem?_cons_succ] at g0 g1 g2
      obtain ⟨z0, q0, r0, _⟩ := DataW.trod_int Try.underlying3 g0
      obtain ⟨z1, q1, r1, _⟩ := DataW.trod_int Try.underlying3 g1
      obtain ⟨A, cap, l, q2, hlc, hC, hcost⟩ := open_row k27 (fun p => 4 * nodesV p) Try.underlying25 c27 n (fun m hm cs' x' h' => ih m (by omega) cs' x' h') g2
      injection q0 with q0
      injection q1 with q1
      injection q2 with q2
      subst q0 q1 q2 r0 r1
      refine ⟨⟨z0, z1, l⟩, k27_mk W ⟨z0, z1, l⟩ hlc hC, ?_⟩
      rw [costs_nodesV] at hcost
      simp only [nodesV, Rows.uptoBulk, Rows.uptoBulkAll, List.map_cons, List.map_nil]
      omega
theorem open_strs {fuel : Nat} {cs : List Value} {x : DataW H × List MemPlace} (h : DataW.trod enc Try.prog W base spare held fuel 23 cs = some x) : ∃ (A : Option Addr) (cap : Nat) (l : List ByteArray), cs = [.slice A l.length cap] ∧ l.length ≤ cap ∧ Kd.C Kd.string W A l.length l := by
  obtain ⟨A, cap, l, h1, h2, h3, h4⟩ := open_row Kd.string (fun _ => 0) Try.underlying23 (by kernel_rfl) fuel (fun n _ cs' x' h' => by
    obtain ⟨s, rfl, _, _⟩ := DataW.trod_string Try.underlying9 h'
    exact ⟨s, rfl, Nat.zero_le _⟩) h
  exact ⟨A, cap, l, h1, h2, h3⟩
end
end Go.Proofs.Ytelheeekbihfcaa.Pt
end
section
/- Nodes that came in, read. -/
set_option linter.unusedVariables false
set_option linter.unusedSimpArgs false
namespace Go.Proofs.Ytelheeekbihfcaa.Pt
open Go.RowKit Go.ChangeShapes Go.WideShapes Go.ChangeAt Go.Proofs Go.Proofs.Ytelheeekbihfcaa.PPatternFirst Go.Proofs.YtelheeekbihfcaaW.PrintWords
section
variable {H : Type} {enc : TypeId × Value → H} {W : World} {base : Nat} {spare : Nat → Bool} {held : Bool}
theorem open_ints31 {fuel : Nat} {cs : List Value} {x : DataW H × List MemPlace} (h : DataW.trod enc Try.prog W base spare held fuel 31 cs = some x) : ∃ (A : Option Addr) (cap : Nat) (l : List Int), cs = [.slice A l.length cap] ∧ l.length ≤ cap ∧ Kd.C (Kd.int .i64) W A l.length l := by
  obtain ⟨A, cap, l, h1, h2, h3, h4⟩ := open_row (Kd.int .i64) (fun _ => 0) Try.underlying31 (by kernel_rfl) fuel (fun n _ cs' x' h' => by
    obtain ⟨s, rfl, _, _⟩ := DataW.trod_int Try.underlying3 h'
    exact ⟨s, rfl, Nat.zero_le _⟩) h
  exact ⟨A, cap, l, h1, h2, h3⟩
set_option maxRecDepth 100000 in
theorem open_test {fuel : Nat} {cs : List Value} {x : DataW H × List MemPlace} (h : DataW.trod enc Try.prog W base spare held fuel 39 cs = some x) : ∃ p : S39, k39.K W p cs := by
  obtain ⟨xs, n, rfl, rfl, hl, hxl, hfd⟩ := DataW.trod_struct Try.underlying39 h
  have c39 : Try.prog.cellsOf 39 = 3 := by kernel_rfl
  have c3 : Try.prog.cellsOf 3 = 1 := by kernel_rfl
  have c31 : Try.prog.cellsOf 31 = 1 := by kernel_rfl
  rw [c39] at hl
  match xs, hxl, cs, hl with
  | [y0, y1, y2], _, [a0, a1, a2], _ =>
    have g0 := hfd 0 _ rfl
    have g1 := hfd 1 _ rfl
    have g2 := hfd 2 _ rfl
    simp only [c3, c31, List.drop_succ_cons, List.drop_zero, List.take_succ_cons, List.take_zero, List.getElem?_cons_zero, List.getElem?_cons_succ] at g0 g1 g2
    obtain ⟨A, cap, l, q0, hlc, hC⟩ := open_ints31 g0
    obtain ⟨z1, q1, r1, _⟩ := DataW.trod_int Try.underlying3 g1
    obtain ⟨z2, q2, r2, _⟩ := DataW.trod_int Try.underlying3 g2
    injection q0 with q0
    injection q1 with q1
    injection q2 with q2
    subst q0 q1 q2
    exact ⟨⟨l, z1, z2⟩, k39_mk W ⟨l, z1, z2⟩ hlc hC⟩
set_option maxRecDepth 100000 in
theorem open_node {fuel : Nat} {cs : List Value} {x : DataW H × List MemPlace} (h : DataW.trod enc Try.prog W base spare held fuel 41 cs = some x) : ∃ p : S41, k41.K W p cs := by
  obtain ⟨xs, n, rfl, rfl, hl, hxl, hfd⟩ := DataW.trod_struct Try.underlying41 h
  have c41 : Try.prog.cellsOf 41 = 6 := by kernel_rfl
  have c39 : Try.prog.cellsOf 39 = 3 := by kernel_rfl
  have c3 : Try.prog.cellsOf 3 = 1 := by kernel_rfl
  rw [c41] at hl
  match xs, hxl, cs, hl with
  | [y0, y1, y2, y3], _, [a0, a1, a2, a3, a4, a5], _ =>
    have g0 := hfd 0 _ rfl
    have g1 := hfd 1 _ rfl
    have g2 := hfd 2 _ rfl
    have g3 := hfd 3 _ rfl
    simp only [c3, c39, List.drop_succ_cons, List.drop_zero, List.take_succ_cons, List.take_zero, List.getElem?_cons_zero, List.getElem?_cons_succ] at g0 g1 g2 g3
    obtain ⟨t, ht⟩ := open_test g0
    obtain ⟨z1, q1, r1, _⟩ := DataW.trod_int Try.underlying3 g1
    obtain ⟨z2, q2, r2, _⟩ := DataW.trod_int Try.underlying3 g2
    obtain ⟨z3, q3, r3, _⟩ := DataW.trod_int Try.underlying3 g3
    injection q1 with q1
    injection q2 with q2
    injection q3 with q3
    subst q1 q2 q3
    obtain ⟨A0, c0, e, hlc, hC⟩ := k39_open ht
    injection e with e0 e
    injection e with e1 e
    injection e with e2 e
    subst e0 e1 e2
    exact ⟨⟨t, z1, z2, z3⟩, k41_mk W ⟨t, z1, z2, z3⟩ hlc hC⟩
theorem open_nodes {fuel : Nat} {cs : List Value} {x : DataW H × List MemPlace} (h : DataW.trod enc Try.prog W base spare held fuel 24 cs = some x) : ∃ (A : Option Addr) (cap : Nat) (l : List S41), cs = [.slice A l.length cap] ∧ l.length ≤ cap ∧ Kd.C k41 W A l.length l := by
  obtain ⟨A, cap, l, h1, h2, h3, h4⟩ := open_row k41 (fun _ => 0) Try.underlying24 (by kernel_rfl) fuel (fun n _ cs' x' h' => by
    obtain ⟨p, hp⟩ := open_node h'
    exact ⟨p, hp, Nat.zero_le _⟩) h
  exact ⟨A, cap, l, h1, h2, h3⟩
end
end Go.Proofs.Ytelheeekbihfcaa.Pt
end
