/- The pattern's variables: what a pattern has; the walk that gathers them; Vars. -/
import Derived.Test.YtelheeekbihfcaaTests
set_option linter.unusedVariables false
set_option linter.unusedSimpArgs false
namespace Go.Proofs.Ytelheeekbihfcaa.Pt
open Go.RowKit Go.Proofs Go.Proofs.Ytelheeekbihfcaa.PPatternFirst Go.Proofs.YtelheeekbihfcaaW.PrintWords Go.Proofs.YtelheeekbihfcaaW.PrintMore Go.Proofs.YtelheeekbihfcaaW.PrintLast

/-- The variable that a pattern is itself. -/
def ownV (p : S53) (path : List Int) : List (ByteArray × List Int) := if p.f0 = 4 then [(p.f3, path)] else []
mutual
/-- A pattern's variables, each with its path. -/
def varsP : S53 → List Int → List (ByteArray × List Int)
  | ⟨k, a, n, nm, args⟩, path => ownV ⟨k, a, n, nm, args⟩ path ++ (if k = 5 then varsL args path 0 else [])
def varsL : List S53 → List Int → Nat → List (ByteArray × List Int)
  | [], _, _ => []
  | x :: r, path, i => varsP x (path ++ [(i : Int)]) ++ varsL r path (i + 1)
end
abbrev kPath : Kd (List Int) := Kd.slice 3 (Kd.int .i64)
/-- The two boxes: names and paths. -/
def VarB (base g1 g2 : Nat) (W : World) (l : List (ByteArray × List Int)) : Prop := ∃ v1 v2, W.heap[g1]? = some (.cells #[v1] 23 (0, 0)) ∧ W.heap[g2]? = some (.cells #[v2] 71 (0, 0)) ∧ Kd.R Kd.string 9 W base (fun _ => True) v1 (l.map Prod.fst) ∧ Kd.R kPath 31 W base (fun _ => True) v2 (l.map Prod.snd)
/-- What may change. -/
def SV (base g1 g2 : Nat) (W : World) (k : Nat) : Prop := base ≤ k ∧ (k = g1 ∨ k = g2 ∨ ∃ cells t fr, (t = 9 ∨ t = 31) ∧ W.heap[k]? = some (.cells cells t fr))
structure KV (base g1 g2 : Nat) (W W' : World) : Prop where
  os : W'.os = W.os
  tape : W'.tape = W.tape
  output : W'.output = W.output
  size : W.heap.size ≤ W'.heap.size
  block : ∀ k, k < W.heap.size → ¬ SV base g1 g2 W k → W'.heap[k]? = W.heap[k]?
theorem KV.refl (base g1 g2 : Nat) (W : World) : KV base g1 g2 W W := ⟨rfl, rfl, rfl, Nat.le_refl _, fun _ _ _ => rfl⟩
theorem KV.trans {base g1 g2 : Nat} {A B C : World} (h : KV base g1 g2 A B) (k : KV base g1 g2 B C) : KV base g1 g2 A C :=
  ⟨k.os.trans h.os, k.tape.trans h.tape, k.output.trans h.output, Nat.le_trans h.size k.size, fun i hi hs => by
    have h1 := h.block i hi hs
    refine (k.block i (Nat.lt_of_lt_of_le hi h.size) (fun ⟨h2, h3⟩ => hs ⟨h2, ?_⟩)).trans h1
    rw [h1] at h3
    exact h3⟩
theorem KV.of_below {base g1 g2 : Nat} {W W' : World} (h : Below W.heap.size W W') : KV base g1 g2 W W' := ⟨h.os, h.tape, h.output, h.size, fun k hk _ => h.block k hk⟩
theorem KV.grown {base g1 g2 n t s : Nat} {W W1 : World} {v : Value} {xs : List Value} (ht : t = 9 ∨ t = 31) (hg : W.grownBy W1 v.ownBlock) (ho : W.ownsRow base t s v n xs) : KV base g1 g2 W W1 :=
  ⟨hg.os, hg.tape, hg.output, hg.size, fun k hk hs => hg.block k hk (fun e => by
    obtain ⟨cells, hc⟩ := own_typed ho k e.symm
    exact hs ⟨own_base ho k e.symm, Or.inr (Or.inr ⟨cells, t, _, ht, hc⟩)⟩)⟩
theorem KV.set {base g1 g2 g : Nat} (W : World) (hb : base ≤ g) (hg : g = g1 ∨ g = g2) (j : Nat) (v : Value) : KV base g1 g2 W (W.setCell ⟨g, j, none⟩ v) :=
  ⟨rfl, rfl, rfl, by simp, fun k _ hs => Below.heap_setCell W ⟨g, j, none⟩ v k (fun e => hs ⟨by rw [e]; exact hb, hg.elim (fun h => Or.inl (by rw [← h]; exact e)) (fun h => Or.inr (Or.inl (by rw [← h]; exact e)))⟩)⟩
theorem KV.below {base g1 g2 : Nat} {W W' : World} (h : KV base g1 g2 W W') (hb : base ≤ W.heap.size) : Below base W W' :=
  ⟨h.os, h.tape, h.output, h.size, fun k hk => h.block k (by omega) (fun e => by have := e.1; omega)⟩
/-- A block of another type stays. -/
theorem KV.blk {base g1 g2 t : Nat} {W W' : World} {cs : Array Value} (h : KV base g1 g2 W W') {b : Nat} (hb : W.heap[b]? = some (.cells cs t (0, 0))) (ht : t ≠ 9) (ht' : t ≠ 31) (hg : b ≠ g1) (hg' : b ≠ g2) : W'.heap[b]? = some (.cells cs t (0, 0)) :=
  (h.block b (blk_lt hb) (fun ⟨_, e⟩ => by
    rcases e with e | e | ⟨cells, u, fr, hu, e⟩
    · exact hg e
    · exact hg' e
    · rw [hb] at e
      injection e with e
      injection e with _ e
      rcases hu with rfl | rfl
      · exact ht e
      · exact ht' e)).trans hb
theorem VarB.lt {base g1 g2 : Nat} {W : World} {l : List (ByteArray × List Int)} (h : VarB base g1 g2 W l) : g1 < W.heap.size ∧ g2 < W.heap.size := by obtain ⟨v, u, h1, h2, _⟩ := h; exact ⟨blk_lt h1, blk_lt h2⟩
theorem VarB.below {base g1 g2 : Nat} {W W' : World} {l : List (ByteArray × List Int)} (h : VarB base g1 g2 W l) (hb : Below W.heap.size W W') : VarB base g1 g2 W' l := by
  obtain ⟨v, u, h1, h2, h3, h4⟩ := h
  exact ⟨v, u, blk_below h1 hb, blk_below h2 hb, Kd.R_below h3 hb, Kd.R_below h4 hb⟩
theorem info9' : (Try.prog.info? 9).map (fun i => (i.zero, i.size, i.bytes)) = some (some (.string ⟨#[]⟩), 1, 16) := by kernel_rfl
theorem info31' : (Try.prog.info? 31).map (fun i => (i.zero, i.size, i.bytes)) = some (some (.slice none 0 0), 1, 24) := by kernel_rfl
/-- Rows of unlike types are unlike. -/
theorem own_ne {w : World} {b b' e e' s s' n n' : Nat} {v v' : Value} {xs xs' : List Value} (h : w.ownsRow b e s v n xs) (h' : w.ownsRow b' e' s' v' n' xs') (he : e ≠ e') (k : Nat) (hk : v.ownBlock = some k) : some k ≠ v'.ownBlock := fun hk' => by
  obtain ⟨c1, e1⟩ := own_typed h k hk
  obtain ⟨c2, e2⟩ := own_typed h' k hk'.symm
  rw [e1] at e2
  injection e2 with e2
  injection e2 with _ e2
  exact he e2

/-- A row is none of a block of another type. -/
theorem R_other {α : Type} {d : Kd α} {e base b' t s' n' : Nat} {w : World} {ok : Nat → Prop} {v v' : Value} {xs : List α} {ys : List Value} (h : d.R e w base ok v xs) (ho : w.ownsRow b' t s' v' n' ys) (ht : ∀ q, q ∈ e :: d.E → q ≠ t) : d.R e w base (fun k => ok k ∧ some k ≠ v'.ownBlock) v xs :=
  Kd.R_mono (Kd.R_bound h) (fun k hk => ⟨hk.1, fun e1 => by
    obtain ⟨_, _, _, q, hq, cells', hc⟩ := hk
    obtain ⟨c2, e2⟩ := own_typed ho k e1.symm
    rw [hc] at e2
    injection e2 with e2
    injection e2 with _ e2
    exact ht q hq e2⟩)

set_option maxRecDepth 100000 in
set_option maxHeartbeats 8000000 in
theorem var_call (base g1 g2 b' : Nat) (f0 f1 f2 : Int) (f3 : ByteArray) (args : List S53) (A4 : Option Addr) (c4 : Nat) (vp : Value) (path : List Int) (l : List (ByteArray × List Int)) (W : World)
    (hO : VarB base g1 g2 W l) (hbase : base ≤ W.heap.size) (hg1 : base ≤ g1) (hg2 : base ≤ g2)
    (hp : Kd.R (Kd.int .i64) 3 W b' (fun _ => True) vp path) (hb : base ≤ b') (hl : l.length ≤ 1000000) :
    Calls Try.prog 31 #[.agg #[.int .i64 f0, .int .i64 f1, .int .i64 f2, .string f3, .slice A4 args.length c4], vp, .pointer (some ⟨g1, 0, none⟩), .pointer (some ⟨g2, 0, none⟩)] W fun e W' => e = .returned (.tuple #[]) ∧ VarB base g1 g2 W' (l ++ ownV ⟨f0, f1, f2, f3, args⟩ path) ∧ KV base g1 g2 W W' := by
  obtain ⟨v1, v2, hx1, hx2, hr1, hr2⟩ := hO
  obtain ⟨Ap, cp, rfl⟩ := Kd.R_slice hp
  obtain ⟨A1, c1, rfl⟩ := Kd.R_slice hr1
  obtain ⟨A2, c2, rfl⟩ := Kd.R_slice hr2
  rw [List.length_map] at hx1 hx2 hr1 hr2
  go_enter Try.func31, Try.ntmps31
  have hbl := below_alloc (Below.refl _ W) (.cells #[.int .i64 f0, .int .i64 f1, .int .i64 f2, .string f3, .slice A4 args.length c4] 53)
  have XB := Lib.hid (blk_new W (.cells #[.int .i64 f0, .int .i64 f1, .int .i64 f2, .string f3, .slice A4 args.length c4] 53))
  have Y1 := Lib.hid (blk_below hx1 hbl)
  have Y2 := Lib.hid (blk_below hx2 hbl)
  have R1 := Lib.hid (Kd.R_below hr1 hbl)
  have R2 := Lib.hid (Kd.R_below hr2 hbl)
  have PA := Lib.hid (Kd.R_below hp hbl)
  have K1 := Lib.hid (KV.of_below (base := base) (g1 := g1) (g2 := g2) hbl)
  have hbs : base ≤ (W.alloc (.cells #[.int .i64 f0, .int .i64 f1, .int .i64 f2, .string f3, .slice A4 args.length c4] 53)).heap.size := Nat.le_trans hbase hbl.size
  clear hx1 hx2 hr1 hr2 hp hbl
  go_upto_region 1 with fail
  generalize W.alloc (.cells #[.int .i64 f0, .int .i64 f1, .int .i64 f2, .string f3, .slice A4 args.length c4] 53) = WA at *
  generalize W.heap.size = gb at *
  have k0 := blk_cell XB.out 0
  have k3 := blk_cell XB.out 3
  have kg := blk_cell Y1.out 0
  by_cases e4 : f0 = 4
  · subst e4
    have n12 : g2 ≠ g1 := ne_blk Y2.out Y1.out (by decide)
    have hl1 : ((l.map Prod.fst).length + 1) * 16 ≤ 140737488355328 := by rw [List.length_map]; omega
    have hl2 : ((l.map Prod.snd).length + 1) * 24 ≤ 140737488355328 := by rw [List.length_map]; omega
    have BW := Lib.hid (Below.refl base WA)
    go_upto_region 3 with ((with_reducible refine gate_builtin (b := .append) (xs := #[.tmp 9, .tmp 12]) rfl ?_); at_builtin; refine Kd.R_append Kd.string (w0 := WA) base (by rfl) (.tmp 9) (.tmp 12) 23 9 (.string ⟨#[]⟩) 16 rfl Try.underlying23 info9' rfl (by decide) (by decide) (.slice A1 l.length c1) (l.map Prod.fst) f3 [.string f3] (fun _ => True) (fun _ => False) (by go_simp) (by rfl) rfl (fun _ hk => hk.elim) (fun _ _ => trivial) R1.out BW.out hbs hl1 ?_; intro v3 w1 hr1 hb1 hgr hat1; obtain ⟨A3, c3, rfl⟩ := Kd.R_slice hr1; rw [List.length_append, List.length_map, List.length_singleton] at hr1; have HR3 := Lib.hid hr1; have B3 := Lib.hid hb1; have HG3 := Lib.hid hgr; have X3 := Lib.hid (blk_grown Y1.out hgr (Kd.R_ne R1.out Y1.out (by decide))); have kx := blk_cell X3.out 0; have kf := blk_frozen X3.out 0; clear hr1 hb1 hgr hat1 kg)
    obtain ⟨in1, own1⟩ := Kd.R_own R1.out
    have hg2' := blk_grown Y2.out HG3.out (Kd.R_ne R1.out Y2.out (by decide))
    have R2g := Kd.R_mono (Kd.R_grown (R_other R2.out own1 (by decide)) HG3.out (fun k hk => hk.2)) (ok' := fun _ => True) (fun _ _ => trivial)
    have PAg := Kd.R_mono (Kd.R_grown (R_other PA.out own1 (by decide)) HG3.out (fun k hk => hk.2)) (ok' := fun _ => True) (fun _ _ => trivial)
    have Z1 := Lib.hid (show (w1.setCell ⟨g1, 0, none⟩ (.slice A3 (l.length + 1) c3)).heap[g1]? = some (.cells #[.slice A3 (l.length + 1) c3] 23 (0, 0)) from by have := blk_set X3.out 0 (.slice A3 (l.length + 1) c3); simpa only [List.setIfInBounds_toArray, List.set_cons_zero] using this)
    have Z2 := Lib.hid ((Below.heap_setCell w1 ⟨g1, 0, none⟩ (.slice A3 (l.length + 1) c3) g2 n12).trans hg2')
    have S3 := Lib.hid (Kd.R_set HR3.out X3.out (by decide) 0 (.slice A3 (l.length + 1) c3))
    have S2 := Lib.hid (Kd.R_set R2g X3.out (by decide) 0 (.slice A3 (l.length + 1) c3))
    have SP := Lib.hid (Kd.R_set PAg X3.out (by decide) 0 (.slice A3 (l.length + 1) c3))
    have KW := Lib.hid ((KV.grown (Or.inl rfl) HG3.out own1).trans (KV.set (base := base) (g1 := g1) (g2 := g2) w1 hg1 (Or.inl rfl) 0 (.slice A3 (l.length + 1) c3)))
    have K2 := Lib.hid (K1.out.trans KW.out)
    clear own1 in1 hg2' R2g PAg kx kf X3 HR3 B3 HG3 Y1 Y2 R1 R2 PA BW k0 k3 XB
    generalize w1.setCell ⟨g1, 0, none⟩ (.slice A3 (l.length + 1) c3) = WB at *
    have hbs2 : base ≤ WB.heap.size := Nat.le_trans hbs KW.out.size
    obtain ⟨in2, own2⟩ := Kd.R_own S2.out
    have SPO := Lib.hid (Kd.R_mono (R_other (Kd.R_lower SP.out hb) own2 (by decide)) (ok' := fun k => some k ≠ (Value.slice A2 l.length c2).ownBlock) (fun _ hk => hk.2))
    have BW := Lib.hid (Below.refl base WB)
    have kg := blk_cell Z2.out 0
    clear own2 in2
    go_wp2_with ((with_reducible refine gate_builtin (b := .append) (xs := #[.tmp 14, .tmp 16]) rfl ?_); at_builtin; refine Kd.R_append kPath (w0 := WB) base (by rfl) (.tmp 14) (.tmp 16) 71 31 (.slice none 0 0) 24 rfl Try.underlying71 info31' rfl (by decide) (by decide) (.slice A2 l.length c2) (l.map Prod.snd) path [.slice Ap path.length cp] (fun _ => True) (fun k => some k ≠ (Value.slice A2 l.length c2).ownBlock) (by go_simp) (by rfl) ⟨_, rfl, SPO.out⟩ (fun _ hk => ⟨trivial, hk⟩) (fun _ _ => trivial) S2.out BW.out hbs2 hl2 ?_; intro v4 w2 hr1 hb1 hgr hat1; obtain ⟨A5, c5, rfl⟩ := Kd.R_slice hr1; rw [List.length_append, List.length_map, List.length_singleton] at hr1; have HR4 := Lib.hid hr1; have HG4 := Lib.hid hgr; have X4 := Lib.hid (blk_grown Z2.out hgr (Kd.R_ne S2.out Z2.out (by decide))); have kx := blk_cell X4.out 0; have kf := blk_frozen X4.out 0; clear hr1 hb1 hgr hat1 kg)
    go_end0
    obtain ⟨in2, own2⟩ := Kd.R_own S2.out
    have hg1' := blk_grown Z1.out HG4.out (Kd.R_ne S2.out Z1.out (by decide))
    have R1g := Kd.R_mono (Kd.R_grown (R_other S3.out own2 (by decide)) HG4.out (fun k hk => hk.2)) (ok' := fun _ => True) (fun _ _ => trivial)
    rw [show ownV ⟨4, f1, f2, f3, args⟩ path = [(f3, path)] from rfl]
    refine ⟨rfl, ⟨_, .slice A5 (l.length + 1) c5, (Below.heap_setCell w2 ⟨g2, 0, none⟩ _ g1 n12.symm).trans hg1', ?_, ?_, ?_⟩, K2.out.trans ((KV.grown (Or.inr rfl) HG4.out own2).trans (KV.set w2 hg2 (Or.inr rfl) 0 _))⟩
    · have := blk_set X4.out 0 (.slice A5 (l.length + 1) c5)
      simpa only [List.setIfInBounds_toArray, List.set_cons_zero] using this
    · rw [List.map_append]
      exact Kd.R_set R1g X4.out (by decide) 0 _
    · rw [List.map_append]
      exact Kd.R_set HR4.out X4.out (by decide) 0 _
  · have e4' : (f0 == 4) = false := by simpa using e4
    go_wp2
    go_end0
    rw [show ownV ⟨f0, f1, f2, f3, args⟩ path = [] from if_neg e4, List.append_nil]
    exact ⟨rfl, ⟨_, _, Y1.out, Y2.out, R1.out, R2.out⟩, K1.out⟩
end Go.Proofs.Ytelheeekbihfcaa.Pt
