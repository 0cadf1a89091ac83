/- OpenP -/
import Derived.Test.YtjboncbmeanlgaaDoorRows
import Derived.Test.YtjboncbmeanlgaaDoorQWalkA
import Derived.Deep.SlicePairs
import Derived.Lib.SmallJoins
import Derived.ProofKit
/- A program that came in, read. -/
set_option linter.unusedVariables false
set_option linter.unusedSimpArgs false
namespace Go.Proofs.YtjboncbmeanlgaaDoor.Tr
open Go.RowKit Go.ChangeShapes Go.WideShapes Go.ChangeAt Go.Proofs Go.Proofs.YtjboncbmeanlgaaDoor.PTreePrints Go.Proofs.YtjboncbmeanlgaaDoorW.PrintWords
theorem pick_any {α : Type} {P : Nat → α → Prop} : ∀ n, (∀ i, i < n → ∃ q, P i q) → ∃ l : List α, l.length = n ∧ ∀ i q, l[i]? = some q → P i q
  | 0, _ => ⟨[], rfl, fun i q hi => by simp at hi⟩
  | n + 1, h => by
    obtain ⟨l, h1, h2⟩ := pick_any n (fun i hi => h i (by omega))
    obtain ⟨q, hq⟩ := h n (by omega)
    refine ⟨l ++ [q], by simp [h1], fun i q' hi => ?_⟩
    rcases Nat.lt_or_ge i l.length with h3 | h3
    · rw [List.getElem?_append_left h3] at hi
      exact h2 i q' hi
    · have hlt := (List.getElem?_eq_some_iff.1 hi).1
      simp at hlt
      obtain rfl : i = n := by omega
      rw [List.getElem?_append_right h3, show i - l.length = 0 by omega] at hi
      injection hi with hi
      subst hi
      exact hq
theorem kArm_mk {w : World} {x : Arm} {c1 c3 : List Value} {Ag : Option Addr} {cg : Nat} (h1 : k83.K w x.1 c1) (lg : x.2.1.length ≤ cg) (gg : k31.C w Ag x.2.1.length x.2.1) (h3 : k42.K w x.2.2 c3) : kArm.K w x (c1 ++ (.slice Ag x.2.1.length cg :: c3)) :=
  ⟨c1, _, rfl, h1, ⟨[.slice Ag x.2.1.length cg], c3, rfl, ⟨Ag, cg, rfl, lg, gg⟩, h3⟩⟩
section
variable {H : Type} {enc : TypeId × Value → H} {W : World} {base : Nat} {spare : Nat → Bool} {held : Bool}
/-- A slice whose elements can be read. -/
theorem open_row {α : Type} (d : Kd α) {t e : TypeId} (ht : Tryd.prog.underlying t = some (.slice e)) (hsz : Tryd.prog.cellsOf e = d.sz) (fuel : Nat)
    (hel : ∀ n, n < fuel → ∀ cs x, DataW.trod enc Tryd.prog W base spare held n e cs = some x → ∃ p : α, d.K W p cs) {cs : List Value} {x : DataW H × List MemPlace}
    (h : DataW.trod enc Tryd.prog W base spare held fuel t cs = some x) : ∃ (A : Option Addr) (cap : Nat) (l : List α), cs = [.slice A l.length cap] ∧ l.length ≤ cap ∧ d.C W A l.length l := by
  rcases DataW.trod_slice ht h with ⟨rfl, rfl⟩ | ⟨a, len, cap, elems, rest, n, hf, rfl, rfl, hb, hl, hm, hlen, hx, hs1, hs2⟩
  · exact ⟨none, 0, [], rfl, Nat.le_refl _, Kd.C_nil _ _⟩
  · have hv : ∀ i, i < len → ∃ q : α, ∃ cs', W.cells? base (a.add (i * Tryd.prog.cellsOf e)) (Tryd.prog.cellsOf e) = some cs' ∧ d.K W q cs' := fun i hi => by
      have h1 := hx i hi
      rw [List.getElem?_eq_getElem (by omega)] at h1
      obtain ⟨cs', h2, h3⟩ := Option.bind_eq_some_iff.1 h1
      obtain ⟨q, h4⟩ := hel n (by omega) _ _ h3
      exact ⟨q, cs', h2, h4⟩
    obtain ⟨l, hll, hlq⟩ := pick_any len hv
    subst hll
    refine ⟨some a, cap, l, rfl, hl, rfl, by have := hm; simp only [maxLen] at this; omega, fun _ => ⟨a, rfl, fun j p hj => ?_⟩⟩
    obtain ⟨cs', h1, h3⟩ := hlq j p hj
    obtain ⟨_, hlen', hcell⟩ := World.cells?_some h1
    refine ⟨cs', d.K_len h3, h3, fun i u hu => ?_⟩
    have hi := (List.getElem?_eq_some_iff.1 hu).1
    have e0 := hcell i (by omega)
    rw [Deep.add_add, hsz] at e0
    rw [e0]
    exact hu
set_option maxRecDepth 100000 in
theorem open_31 : ∀ (N fuel : Nat), fuel ≤ N → ∀ (cs : List Value) (x : DataW H × List MemPlace), DataW.trod enc Tryd.prog W base spare held fuel 31 cs = some x → ∃ p : S31, k31.K W p cs := by
  intro N
  induction N with
  | zero =>
    intro fuel hf cs x h
    obtain rfl : fuel = 0 := by omega
    simp [DataW.trod] at h
  | succ N ih =>
    intro fuel hf cs x h
    obtain ⟨xs, n, rfl, rfl, hl, hxl, hfd⟩ := DataW.trod_struct Tryd.underlying31 h
    have cT : Tryd.prog.cellsOf 31 = 5 := by kernel_rfl
    have c3 : Tryd.prog.cellsOf 3 = 1 := by kernel_rfl
    have c9 : Tryd.prog.cellsOf 9 = 1 := by kernel_rfl
    have c23 : Tryd.prog.cellsOf 23 = 1 := by kernel_rfl
    rw [cT] at hl
    match xs, hxl, cs, hl with
    | [y0, y1, y2, y3, y4], _, [a0, a1, a2, a3, a4], _ =>
      have g0 := hfd 0 _ rfl
      have g1 := hfd 1 _ rfl
      have g2 := hfd 2 _ rfl
      have g3 := hfd 3 _ rfl
      have g4 := hfd 4 _ rfl
      simp only [c3, c9, c23, List.drop_succ_cons, List.drop_zero, List.take_succ_cons, List.take_zero, List.getElem?_cons_zero, List.getElem?_cons_succ] at g0 g1 g2 g3 g4
      obtain ⟨z0, q0, _, _⟩ := DataW.trod_int Tryd.underlying3 g0
      injection q0 with q0
      subst q0
      obtain ⟨z1, q1, _, _⟩ := DataW.trod_int Tryd.underlying3 g1
      injection q1 with q1
      subst q1
      obtain ⟨z2, q2, _, _⟩ := DataW.trod_int Tryd.underlying3 g2
      injection q2 with q2
      subst q2
      obtain ⟨z3, q3, _, _⟩ := DataW.trod_string Tryd.underlying9 g3
      injection q3 with q3
      subst q3
      obtain ⟨A4, C4, z4, q4, hc4, hC4⟩ := open_row k31 Tryd.underlying23 (by kernel_rfl) n (fun m hm cs' x' h' => ih m (by omega) cs' x' h') g4
      injection q4 with q4
      subst q4
      exact ⟨⟨z0, z1, z2, z3, z4⟩, k31_mk W ⟨z0, z1, z2, z3, z4⟩ hc4 hC4⟩
set_option maxRecDepth 100000 in
theorem open_83 : ∀ (N fuel : Nat), fuel ≤ N → ∀ (cs : List Value) (x : DataW H × List MemPlace), DataW.trod enc Tryd.prog W base spare held fuel 83 cs = some x → ∃ p : S83, k83.K W p cs := by
  intro N
  induction N with
  | zero =>
    intro fuel hf cs x h
    obtain rfl : fuel = 0 := by omega
    simp [DataW.trod] at h
  | succ N ih =>
    intro fuel hf cs x h
    obtain ⟨xs, n, rfl, rfl, hl, hxl, hfd⟩ := DataW.trod_struct Tryd.underlying83 h
    have cT : Tryd.prog.cellsOf 83 = 5 := by kernel_rfl
    have c3 : Tryd.prog.cellsOf 3 = 1 := by kernel_rfl
    have c9 : Tryd.prog.cellsOf 9 = 1 := by kernel_rfl
    have c81 : Tryd.prog.cellsOf 81 = 1 := by kernel_rfl
    rw [cT] at hl
    match xs, hxl, cs, hl with
    | [y0, y1, y2, y3, y4], _, [a0, a1, a2, a3, a4], _ =>
      have g0 := hfd 0 _ rfl
      have g1 := hfd 1 _ rfl
      have g2 := hfd 2 _ rfl
      have g3 := hfd 3 _ rfl
      have g4 := hfd 4 _ rfl
      simp only [c3, c9, c81, List.drop_succ_cons, List.drop_zero, List.take_succ_cons, List.take_zero, List.getElem?_cons_zero, List.getElem?_cons_succ] at g0 g1 g2 g3 g4
      obtain ⟨z0, q0, _, _⟩ := DataW.trod_int Tryd.underlying3 g0
      injection q0 with q0
      subst q0
      obtain ⟨z1, q1, _, _⟩ := DataW.trod_int Tryd.underlying3 g1
      injection q1 with q1
      subst q1
      obtain ⟨z2, q2, _, _⟩ := DataW.trod_int Tryd.underlying3 g2
      injection q2 with q2
      subst q2
      obtain ⟨z3, q3, _, _⟩ := DataW.trod_string Tryd.underlying9 g3
      injection q3 with q3
      subst q3
      obtain ⟨A4, C4, z4, q4, hc4, hC4⟩ := open_row k83 Tryd.underlying81 (by kernel_rfl) n (fun m hm cs' x' h' => ih m (by omega) cs' x' h') g4
      injection q4 with q4
      subst q4
      exact ⟨⟨z0, z1, z2, z3, z4⟩, k83_mk W ⟨z0, z1, z2, z3, z4⟩ hc4 hC4⟩
set_option maxRecDepth 100000 in
theorem open_37 (fuel : Nat) (cs : List Value) (x : DataW H × List MemPlace) (h : DataW.trod enc Tryd.prog W base spare held fuel 37 cs = some x) : ∃ p : S37, k37.K W p cs := by
  obtain ⟨xs, n, rfl, rfl, hl, hxl, hfd⟩ := DataW.trod_struct Tryd.underlying37 h
  have cT : Tryd.prog.cellsOf 37 = 5 := by kernel_rfl
  have c3 : Tryd.prog.cellsOf 3 = 1 := by kernel_rfl
  have c9 : Tryd.prog.cellsOf 9 = 1 := by kernel_rfl
  have c23 : Tryd.prog.cellsOf 23 = 1 := by kernel_rfl
  rw [cT] at hl
  match xs, hxl, cs, hl with
  | [y0, y1, y2, y3, y4], _, [a0, a1, a2, a3, a4], _ =>
    have g0 := hfd 0 _ rfl
    have g1 := hfd 1 _ rfl
    have g2 := hfd 2 _ rfl
    have g3 := hfd 3 _ rfl
    have g4 := hfd 4 _ rfl
    simp only [c3, c9, c23, List.drop_succ_cons, List.drop_zero, List.take_succ_cons, List.take_zero, List.getElem?_cons_zero, List.getElem?_cons_succ] at g0 g1 g2 g3 g4
    obtain ⟨z0, q0, _, _⟩ := DataW.trod_int Tryd.underlying3 g0
    injection q0 with q0
    subst q0
    obtain ⟨z1, q1, _, _⟩ := DataW.trod_int Tryd.underlying3 g1
    injection q1 with q1
    subst q1
    obtain ⟨z2, q2, _, _⟩ := DataW.trod_string Tryd.underlying9 g2
    injection q2 with q2
    subst q2
    obtain ⟨z3, q3, _, _⟩ := DataW.trod_string Tryd.underlying9 g3
    injection q3 with q3
    subst q3
    obtain ⟨A4, C4, z4, q4, hc4, hC4⟩ := open_row k31 Tryd.underlying23 (by kernel_rfl) n (fun m hm cs' x' h' => open_31 m m (Nat.le_refl _) cs' x' h') g4
    injection q4 with q4
    subst q4
    exact ⟨⟨z0, z1, z2, z3, z4⟩, k37_mk W ⟨z0, z1, z2, z3, z4⟩ hc4 hC4⟩
set_option maxRecDepth 100000 in
theorem open_arm (N : Nat) (ih : ∀ fuel, fuel ≤ N → ∀ (cs : List Value) (x : DataW H × List MemPlace), DataW.trod enc Tryd.prog W base spare held fuel 42 cs = some x → ∃ p : S42, k42.K W p cs) (fuel : Nat) (hf : fuel ≤ N + 1) (cs : List Value) (x : DataW H × List MemPlace) (h : DataW.trod enc Tryd.prog W base spare held fuel 85 cs = some x) : ∃ p : Arm, kArm.K W p cs := by
  obtain ⟨xs, n, rfl, rfl, hl, hxl, hfd⟩ := DataW.trod_struct Tryd.underlying85 h
  have cT : Tryd.prog.cellsOf 85 = 15 := by kernel_rfl
  have c23 : Tryd.prog.cellsOf 23 = 1 := by kernel_rfl
  have c42 : Tryd.prog.cellsOf 42 = 9 := by kernel_rfl
  have c83 : Tryd.prog.cellsOf 83 = 5 := by kernel_rfl
  rw [cT] at hl
  match xs, hxl, cs, hl with
  | [y0, y1, y2], _, [a0, a1, a2, a3, a4, a5, a6, a7, a8, a9, a10, a11, a12, a13, a14], _ =>
    have g0 := hfd 0 _ rfl
    have g1 := hfd 1 _ rfl
    have g2 := hfd 2 _ rfl
    simp only [c23, c42, c83, List.drop_succ_cons, List.drop_zero, List.take_succ_cons, List.take_zero, List.getElem?_cons_zero, List.getElem?_cons_succ] at g0 g1 g2
    obtain ⟨z0, hK0⟩ := open_83 n n (Nat.le_refl _) _ _ g0
    obtain ⟨A1, C1, z1, q1, hc1, hC1⟩ := open_row k31 Tryd.underlying23 (by kernel_rfl) n (fun m hm cs' x' h' => open_31 m m (Nat.le_refl _) cs' x' h') g1
    injection q1 with q1
    subst q1
    obtain ⟨z2, hK2⟩ := ih n (by omega) _ _ g2
    exact ⟨(z0, z1, z2), kArm_mk (x := (z0, z1, z2)) hK0 hc1 hC1 hK2⟩
set_option maxRecDepth 100000 in
theorem open_42 : ∀ (N fuel : Nat), fuel ≤ N → ∀ (cs : List Value) (x : DataW H × List MemPlace), DataW.trod enc Tryd.prog W base spare held fuel 42 cs = some x → ∃ p : S42, k42.K W p cs := by
  intro N
  induction N with
  | zero =>
    intro fuel hf cs x h
    obtain rfl : fuel = 0 := by omega
    simp [DataW.trod] at h
  | succ N ih =>
    intro fuel hf cs x h
    obtain ⟨xs, n, rfl, rfl, hl, hxl, hfd⟩ := DataW.trod_struct Tryd.underlying42 h
    have cT : Tryd.prog.cellsOf 42 = 9 := by kernel_rfl
    have c3 : Tryd.prog.cellsOf 3 = 1 := by kernel_rfl
    have c4 : Tryd.prog.cellsOf 4 = 1 := by kernel_rfl
    have c9 : Tryd.prog.cellsOf 9 = 1 := by kernel_rfl
    have c23 : Tryd.prog.cellsOf 23 = 1 := by kernel_rfl
    have c38 : Tryd.prog.cellsOf 38 = 1 := by kernel_rfl
    have c39 : Tryd.prog.cellsOf 39 = 1 := by kernel_rfl
    have c40 : Tryd.prog.cellsOf 40 = 1 := by kernel_rfl
    rw [cT] at hl
    match xs, hxl, cs, hl with
    | [y0, y1, y2, y3, y4, y5, y6, y7, y8], _, [a0, a1, a2, a3, a4, a5, a6, a7, a8], _ =>
      have g0 := hfd 0 _ rfl
      have g1 := hfd 1 _ rfl
      have g2 := hfd 2 _ rfl
      have g3 := hfd 3 _ rfl
      have g4 := hfd 4 _ rfl
      have g5 := hfd 5 _ rfl
      have g6 := hfd 6 _ rfl
      have g7 := hfd 7 _ rfl
      have g8 := hfd 8 _ rfl
      simp only [c3, c4, c9, c23, c38, c39, c40, List.drop_succ_cons, List.drop_zero, List.take_succ_cons, List.take_zero, List.getElem?_cons_zero, List.getElem?_cons_succ] at g0 g1 g2 g3 g4 g5 g6 g7 g8
      obtain ⟨A0, C0, z0, q0, hc0, hC0⟩ := open_row k37 Tryd.underlying38 (by kernel_rfl) n (fun m hm cs' x' h' => open_37 m cs' x' h') g0
      injection q0 with q0
      subst q0
      obtain ⟨z1, q1, _, _⟩ := DataW.trod_int Tryd.underlying3 g1
      injection q1 with q1
      subst q1
      obtain ⟨z2, q2, _, _⟩ := DataW.trod_int Tryd.underlying3 g2
      injection q2 with q2
      subst q2
      obtain ⟨z3, q3, _, _⟩ := DataW.trod_string Tryd.underlying9 g3
      injection q3 with q3
      subst q3
      obtain ⟨A4, C4, z4, q4, hc4, hC4⟩ := open_row k31 Tryd.underlying23 (by kernel_rfl) n (fun m hm cs' x' h' => open_31 m m (Nat.le_refl _) cs' x' h') g4
      injection q4 with q4
      subst q4
      obtain ⟨A5, C5, z5, q5, hc5, hC5⟩ := open_row k42 Tryd.underlying39 (by kernel_rfl) n (fun m hm cs' x' h' => ih m (by omega) cs' x' h') g5
      injection q5 with q5
      subst q5
      obtain ⟨A6, C6, z6, q6, hc6, hC6⟩ := open_row kArm Tryd.underlying40 (by kernel_rfl) n (fun m hm cs' x' h' => open_arm N (fun k hk cs2 x2 h2 => ih k (by omega) cs2 x2 h2) m (by omega) cs' x' h') g6
      injection q6 with q6
      subst q6
      obtain ⟨z7, q7, _⟩ := DataW.trod_bool Tryd.underlying4 g7
      injection q7 with q7
      subst q7
      obtain ⟨z8, q8, _, _⟩ := DataW.trod_int Tryd.underlying3 g8
      injection q8 with q8
      subst q8
      exact ⟨⟨z0, z1, z2, z3, z4, z5, z6, z7, z8⟩, k42_mk W ⟨z0, z1, z2, z3, z4, z5, z6, z7, z8⟩ ⟨hc0, hC0, hc4, hC4, hc5, hC5, hc6, hC6⟩⟩
set_option maxRecDepth 100000 in
theorem open_str (fuel : Nat) (cs : List Value) (x : DataW H × List MemPlace) (h : DataW.trod enc Tryd.prog W base spare held fuel 9 cs = some x) : ∃ p : ByteArray, Kd.string.K W p cs := by
  obtain ⟨z, q, _, _⟩ := DataW.trod_string Tryd.underlying9 h
  exact ⟨z, q⟩
set_option maxRecDepth 100000 in
theorem open_44 (fuel : Nat) (cs : List Value) (x : DataW H × List MemPlace) (h : DataW.trod enc Tryd.prog W base spare held fuel 44 cs = some x) : ∃ p : S44, k44.K W p cs := by
  obtain ⟨xs, n, rfl, rfl, hl, hxl, hfd⟩ := DataW.trod_struct Tryd.underlying44 h
  have cT : Tryd.prog.cellsOf 44 = 12 := by kernel_rfl
  have c3 : Tryd.prog.cellsOf 3 = 1 := by kernel_rfl
  have c9 : Tryd.prog.cellsOf 9 = 1 := by kernel_rfl
  have c35 : Tryd.prog.cellsOf 35 = 1 := by kernel_rfl
  have c42 : Tryd.prog.cellsOf 42 = 9 := by kernel_rfl
  rw [cT] at hl
  match xs, hxl, cs, hl with
  | [y0, y1, y2, y3], _, [a0, a1, a2, a3, a4, a5, a6, a7, a8, a9, a10, a11], _ =>
    have g0 := hfd 0 _ rfl
    have g1 := hfd 1 _ rfl
    have g2 := hfd 2 _ rfl
    have g3 := hfd 3 _ rfl
    simp only [c3, c9, c35, c42, List.drop_succ_cons, List.drop_zero, List.take_succ_cons, List.take_zero, List.getElem?_cons_zero, List.getElem?_cons_succ] at g0 g1 g2 g3
    obtain ⟨z0, q0, _, _⟩ := DataW.trod_int Tryd.underlying3 g0
    injection q0 with q0
    subst q0
    obtain ⟨z1, q1, _, _⟩ := DataW.trod_string Tryd.underlying9 g1
    injection q1 with q1
    subst q1
    obtain ⟨A2, C2, z2, q2, hc2, hC2⟩ := open_row Kd.string Tryd.underlying35 (by kernel_rfl) n (fun m hm cs' x' h' => open_str m cs' x' h') g2
    injection q2 with q2
    subst q2
    obtain ⟨z3, hK3⟩ := open_42 n n (Nat.le_refl _) _ _ g3
    obtain ⟨B0, b0, B4, b4, B5, b5, B6, b6, hq, hB⟩ := k42_open hK3
    injection hq with hq0 hq; injection hq with hq1 hq; injection hq with hq2 hq; injection hq with hq3 hq; injection hq with hq4 hq; injection hq with hq5 hq; injection hq with hq6 hq; injection hq with hq7 hq; injection hq with hq8 hq
    subst hq0 hq1 hq2 hq3 hq4 hq5 hq6 hq7 hq8
    exact ⟨⟨z0, z1, z2, z3⟩, k44_mk W ⟨z0, z1, z2, z3⟩ hc2 hC2 hB⟩
set_option maxRecDepth 100000 in
/-- A program, as it came in. -/
theorem open_prog {fuel : Nat} {cs : List Value} {x : DataW H × List MemPlace} (h : DataW.trod enc Tryd.prog W base spare held fuel 25 cs = some x) : ∃ (p : S25) (AD : Option Addr) (cD : Nat) (AX : Option Addr) (cX : Nat), cs = [.slice AD p.f0.length cD, .int .i64 p.f1, .string p.f2, .slice AX p.f3.length cX] ∧ ProgC W p AD cD AX cX := by
  obtain ⟨xs, n, rfl, rfl, hl, hxl, hfd⟩ := DataW.trod_struct Tryd.underlying25 h
  have cT : Tryd.prog.cellsOf 25 = 4 := by kernel_rfl
  have c3 : Tryd.prog.cellsOf 3 = 1 := by kernel_rfl
  have c9 : Tryd.prog.cellsOf 9 = 1 := by kernel_rfl
  have c22 : Tryd.prog.cellsOf 22 = 1 := by kernel_rfl
  have c23 : Tryd.prog.cellsOf 23 = 1 := by kernel_rfl
  rw [cT] at hl
  match xs, hxl, cs, hl with
  | [y0, y1, y2, y3], _, [a0, a1, a2, a3], _ =>
    have g0 := hfd 0 _ rfl
    have g1 := hfd 1 _ rfl
    have g2 := hfd 2 _ rfl
    have g3 := hfd 3 _ rfl
    simp only [c3, c9, c22, c23, List.drop_succ_cons, List.drop_zero, List.take_succ_cons, List.take_zero, List.getElem?_cons_zero, List.getElem?_cons_succ] at g0 g1 g2 g3
    obtain ⟨A0, C0, z0, q0, hc0, hC0⟩ := open_row k44 Tryd.underlying22 (by kernel_rfl) n (fun m hm cs' x' h' => open_44 m cs' x' h') g0
    injection q0 with q0
    subst q0
    obtain ⟨z1, q1, _, _⟩ := DataW.trod_int Tryd.underlying3 g1
    injection q1 with q1
    subst q1
    obtain ⟨z2, q2, _, _⟩ := DataW.trod_string Tryd.underlying9 g2
    injection q2 with q2
    subst q2
    obtain ⟨A3, C3, z3, q3, hc3, hC3⟩ := open_row k31 Tryd.underlying23 (by kernel_rfl) n (fun m hm cs' x' h' => open_31 m m (Nat.le_refl _) cs' x' h') g3
    injection q3 with q3
    subst q3
    exact ⟨⟨z0, z1, z2, z3⟩, A0, C0, A3, C3, rfl, hc0, hC0, hc3, hC3⟩
end
end Go.Proofs.YtjboncbmeanlgaaDoor.Tr
