/- VarsA, 1 declarations cut; VarsB; Vars; LivesW -/
import Derived.Test.YtelheeekbihfcaaTestsA
section
/- The pattern's variables: what a pattern has; the walk that gathers them; Vars. -/
set_option linter.unusedVariables false
set_option linter.unusedSimpArgs false
namespace Go.Proofs.Ytelheeekbihfcaa.Pt
open Go.RowKit Go.Proofs Go.Proofs.Ytelheeekbihfcaa.PPatternFirst Go.Proofs.YtelheeekbihfcaaW.PrintWords Go.Proofs.YtelheeekbihfcaaW.PrintMore Go.Proofs.YtelheeekbihfcaaW.PrintLast
/-- The variable that a pattern is itself. -/
def ownV (p : S53) (path : List Int) : List (ByteArray × List Int) := if p.f0 = 4 then [(p.f3, path)] else []
mutual
/-- A pattern's variables, each with its path. -/
def varsP : S53 → List Int → List (ByteArray × List Int)
  | ⟨k, a, n, nm, args⟩, path => ownV ⟨k, a, n, nm, args⟩ path ++ (if k = 5 then varsL args path 0 else [])
def varsL : List S53 → List Int → Nat → List (ByteArray × List Int)
  | [], _, _ => []
  | x :: r, path, i => varsP x (path ++ [(i : Int)]) ++ varsL r path (i + 1)
end
abbrev kPath : Kd (List Int) := Kd.slice 3 (Kd.int .i64)
/-- The two boxes: names and paths. -/
def VarB (base g1 g2 : Nat) (W : World) (l : List (ByteArray × List Int)) : Prop := ∃ v1 v2, W.heap[g1]? = some (.cells #[v1] 23 (0, 0)) ∧ W.heap[g2]? = some (.cells #[v2] 71 (0, 0)) ∧ Kd.R Kd.string 9 W base (fun _ => True) v1 (l.map Prod.fst) ∧ Kd.R kPath 31 W base (fun _ => True) v2 (l.map Prod.snd)
/-- What may change. -/
def SV (base g1 g2 : Nat) (W : World) (k : Nat) : Prop := base ≤ k ∧ (k = g1 ∨ k = g2 ∨ ∃ cells t fr, (t = 9 ∨ t = 31) ∧ W.heap[k]? = some (.cells cells t fr))
structure KV (base g1 g2 : Nat) (W W' : World) : Prop where
  os : W'.os = W.os
  tape : W'.tape = W.tape
  output : W'.output = W.output
  size : W.heap.size ≤ W'.heap.size
  block : ∀ k, k < W.heap.size → ¬ SV base g1 g2 W k → W'.heap[k]? = W.heap[k]?
theorem KV.refl (base g1 g2 : Nat) (W : World) : KV base g1 g2 W W := ⟨rfl, rfl, rfl, Nat.le_refl _, fun _ _ _ => rfl⟩
theorem KV.trans {base g1 g2 : Nat} {A B C : World} (h : KV base g1 g2 A B) (k : KV base g1 g2 B C) : KV base g1 g2 A C :=
  ⟨k.os.trans h.os, k.tape.trans h.tape, k.output.trans h.output, Nat.le_trans h.size k.size, fun i hi hs => by
    have h1 := h.block i hi hs
    refine (k.block i (Nat.lt_of_lt_of_le hi h.size) (fun ⟨h2, h3⟩ => hs ⟨h2, ?_⟩)).trans h1
    rw [h1] at h3
    exact h3⟩
theorem KV.of_below {base g1 g2 : Nat} {W W' : World} (h : Below W.heap.size W W') : KV base g1 g2 W W' := ⟨h.os, h.tape, h.output, h.size, fun k hk _ => h.block k hk⟩
theorem KV.grown {base g1 g2 n t s : Nat} {W W1 : World} {v : Value} {xs : List Value} (ht : t = 9 ∨ t = 31) (hg : W.grownBy W1 v.ownBlock) (ho : W.ownsRow base t s v n xs) : KV base g1 g2 W W1 :=
  ⟨hg.os, hg.tape, hg.output, hg.size, fun k hk hs => hg.block k hk (fun e => by
    obtain ⟨cells, hc⟩ := own_typed ho k e.symm
    exact hs ⟨own_base ho k e.symm, Or.inr (Or.inr ⟨cells, t, _, ht, hc⟩)⟩)⟩
theorem KV.set {base g1 g2 g : Nat} (W : World) (hb : base ≤ g) (hg : g = g1 ∨ g = g2) (j : Nat) (v : Value) : KV base g1 g2 W (W.setCell ⟨g, j, none⟩ v) :=
  ⟨rfl, rfl, rfl, by simp, fun k _ hs => Below.heap_setCell W ⟨g, j, none⟩ v k (fun e => hs ⟨by rw [e]; exact hb, hg.elim (fun h => Or.inl (by rw [← h]; exact e)) (fun h => Or.inr (Or.inl (by rw [← h]; exact e)))⟩)⟩
theorem KV.below {base g1 g2 : Nat} {W W' : World} (h : KV base g1 g2 W W') (hb : base ≤ W.heap.size) : Below base W W' :=
  ⟨h.os, h.tape, h.output, h.size, fun k hk => h.block k (by omega) (fun e => by have := e.1; omega)⟩
/-- A block of another type stays. -/
theorem KV.blk {base g1 g2 t : Nat} {W W' : World} {cs : Array Value} (h : KV base g1 g2 W W') {b : Nat} (hb : W.heap[b]? = some (.cells cs t (0, 0))) (ht : t ≠ 9) (ht' : t ≠ 31) (hg : b ≠ g1) (hg' : b ≠ g2) : W'.heap[b]? = some (.cells cs t (0, 0)) :=
  (h.block b (blk_lt hb) (fun ⟨_, e⟩ => by
    rcases e with e | e | ⟨cells, u, fr, hu, e⟩
    · exact hg e
    · exact hg' e
    · rw [hb] at e
      injection e with e
      injection e with _ e
      rcases hu with rfl | rfl
      · exact ht e
      · exact ht' e)).trans hb
theorem VarB.lt {base g1 g2 : Nat} {W : World} {l : List (ByteArray × List Int)} (h : VarB base g1 g2 W l) : g1 < W.heap.size ∧ g2 < W.heap.size := by obtain ⟨v, u, h1, h2, _⟩ := h; exact ⟨blk_lt h1, blk_lt h2⟩
theorem VarB.below {base g1 g2 : Nat} {W W' : World} {l : List (ByteArray × List Int)} (h : VarB base g1 g2 W l) (hb : Below W.heap.size W W') : VarB base g1 g2 W' l := by
  obtain ⟨v, u, h1, h2, h3, h4⟩ := h
  exact ⟨v, u, blk_below h1 hb, blk_below h2 hb, Kd.R_below h3 hb, Kd.R_below h4 hb⟩
theorem info9' : (Try.prog.info? 9).map (fun i => (i.zero, i.size, i.bytes)) = some (some (.string ⟨#[]⟩), 1, 16) := by kernel_rfl
theorem info31' : (Try.prog.info? 31).map (fun i => (i.zero, i.size, i.bytes)) = some (some (.slice none 0 0), 1, 24) := by kernel_rfl
/-- A row is none of a block of another type. -/
theorem R_other {α : Type} {d : Kd α} {e base b' t s' n' : Nat} {w : World} {ok : Nat → Prop} {v v' : Value} {xs : List α} {ys : List Value} (h : d.R e w base ok v xs) (ho : w.ownsRow b' t s' v' n' ys) (ht : ∀ q, q ∈ e :: d.E → q ≠ t) : d.R e w base (fun k => ok k ∧ some k ≠ v'.ownBlock) v xs :=
  Kd.R_mono (Kd.R_bound h) (fun k hk => ⟨hk.1, fun e1 => by
    obtain ⟨_, _, _, q, hq, cells', hc⟩ := hk
    obtain ⟨c2, e2⟩ := own_typed ho k e1.symm
    rw [hc] at e2
    injection e2 with e2
    injection e2 with _ e2
    exact ht q hq e2⟩)
set_option maxRecDepth 100000 in
set_option maxHeartbeats 8000000 in
theorem var_call (base g1 g2 b' : Nat) (f0 f1 f2 : Int) (f3 : ByteArray) (args : List S53) (A4 : Option Addr) (c4 : Nat) (vp : Value) (path : List Int) (l : List (ByteArray × List Int)) (W : World)
    (hO : VarB base g1 g2 W l) (hbase : base ≤ W.heap.size) (hg1 : base ≤ g1) (hg2 : base ≤ g2)
    (hp : Kd.R (Kd.int .i64) 3 W b' (fun _ => True) vp path) (hb : base ≤ b') (hl : l.length ≤ 1000000) :
    Calls Try.prog 31 #[.agg #[.int .i64 f0, .int .i64 f1, .int .i64 f2, .string f3, .slice A4 args.length c4], vp, .pointer (some ⟨g1, 0, none⟩), .pointer (some ⟨g2, 0, none⟩)] W fun e W' => e = .returned (.tuple #[]) ∧ VarB base g1 g2 W' (l ++ ownV ⟨f0, f1, f2, f3, args⟩ path) ∧ KV base g1 g2 W W' := by
  obtain ⟨v1, v2, hx1, hx2, hr1, hr2⟩ := hO
  obtain ⟨Ap, cp, rfl⟩ := Kd.R_slice hp
  obtain ⟨A1, c1, rfl⟩ := Kd.R_slice hr1
  obtain ⟨A2, c2, rfl⟩ := Kd.R_slice hr2
  rw [List.length_map] at hx1 hx2 hr1 hr2
  go_enter Try.func31, Try.ntmps31
  have hbl := below_alloc (Below.refl _ W) (.cells #[.int .i64 f0, .int .i64 f1, .int .i64 f2, .string f3, .slice A4 args.length c4] 53)
  have XB := Lib.hid (blk_new W (.cells #[.int .i64 f0, .int .i64 f1, .int .i64 f2, .string f3, .slice A4 args.length c4] 53))
  have Y1 := Lib.hid (blk_below hx1 hbl)
  have Y2 := Lib.hid (blk_below hx2 hbl)
  have R1 := Lib.hid (Kd.R_below hr1 hbl)
  have R2 := Lib.hid (Kd.R_below hr2 hbl)
  have PA := Lib.hid (Kd.R_below hp hbl)
  have K1 := Lib.hid (KV.of_below (base := base) (g1 := g1) (g2 := g2) hbl)
  have hbs : base ≤ (W.alloc (.cells #[.int .i64 f0, .int .i64 f1, .int .i64 f2, .string f3, .slice A4 args.length c4] 53)).heap.size := Nat.le_trans hbase hbl.size
  clear hx1 hx2 hr1 hr2 hp hbl
  go_upto_region 1 with fail
  generalize W.alloc (.cells #[.int .i64 f0, .int .i64 f1, .int .i64 f2, .string f3, .slice A4 args.length c4] 53) = WA at *
  generalize W.heap.size = gb at *
  have k0 := blk_cell XB.out 0
  have k3 := blk_cell XB.out 3
  have kg := blk_cell Y1.out 0
  by_cases e4 : f0 = 4
  · subst e4
    have n12 : g2 ≠ g1 := ne_blk Y2.out Y1.out (by decide)
    have hl1 : ((l.map Prod.fst).length + 1) * 16 ≤ 140737488355328 := by rw [List.length_map]; omega
    have hl2 : ((l.map Prod.snd).length + 1) * 24 ≤ 140737488355328 := by rw [List.length_map]; omega
    have BW := Lib.hid (Below.refl base WA)
    go_upto_region 3 with ((with_reducible refine gate_builtin (b := .append) (xs := #[.tmp 9, .tmp 12]) rfl ?_); at_builtin; refine Kd.R_append Kd.string (w0 := WA) base (by rfl) (.tmp 9) (.tmp 12) 23 9 (.string ⟨#[]⟩) 16 rfl Try.underlying23 info9' rfl (by decide) (by decide) (.slice A1 l.length c1) (l.map Prod.fst) f3 [.string f3] (fun _ => True) (fun _ => False) (by go_simp) (by rfl) rfl (fun _ hk => hk.elim) (fun _ _ => trivial) R1.out BW.out hbs hl1 ?_; intro v3 w1 hr1 hb1 hgr hat1; obtain ⟨A3, c3, rfl⟩ := Kd.R_slice hr1; rw [List.length_append, List.length_map, List.length_singleton] at hr1; have HR3 := Lib.hid hr1; have B3 := Lib.hid hb1; have HG3 := Lib.hid hgr; have X3 := Lib.hid (blk_grown Y1.out hgr (Kd.R_ne R1.out Y1.out (by decide))); have kx := blk_cell X3.out 0; have kf := blk_frozen X3.out 0; clear hr1 hb1 hgr hat1 kg)
    obtain ⟨in1, own1⟩ := Kd.R_own R1.out
    have hg2' := blk_grown Y2.out HG3.out (Kd.R_ne R1.out Y2.out (by decide))
    have R2g := Kd.R_mono (Kd.R_grown (R_other R2.out own1 (by decide)) HG3.out (fun k hk => hk.2)) (ok' := fun _ => True) (fun _ _ => trivial)
    have PAg := Kd.R_mono (Kd.R_grown (R_other PA.out own1 (by decide)) HG3.out (fun k hk => hk.2)) (ok' := fun _ => True) (fun _ _ => trivial)
    have Z1 := Lib.hid (show (w1.setCell ⟨g1, 0, none⟩ (.slice A3 (l.length + 1) c3)).heap[g1]? = some (.cells #[.slice A3 (l.length + 1) c3] 23 (0, 0)) from by have := blk_set X3.out 0 (.slice A3 (l.length + 1) c3); simpa only [List.setIfInBounds_toArray, List.set_cons_zero] using this)
    have Z2 := Lib.hid ((Below.heap_setCell w1 ⟨g1, 0, none⟩ (.slice A3 (l.length + 1) c3) g2 n12).trans hg2')
    have S3 := Lib.hid (Kd.R_set HR3.out X3.out (by decide) 0 (.slice A3 (l.length + 1) c3))
    have S2 := Lib.hid (Kd.R_set R2g X3.out (by decide) 0 (.slice A3 (l.length + 1) c3))
    have SP := Lib.hid (Kd.R_set PAg X3.out (by decide) 0 (.slice A3 (l.length + 1) c3))
    have KW := Lib.hid ((KV.grown (Or.inl rfl) HG3.out own1).trans (KV.set (base := base) (g1 := g1) (g2 := g2) w1 hg1 (Or.inl rfl) 0 (.slice A3 (l.length + 1) c3)))
    have K2 := Lib.hid (K1.out.trans KW.out)
    clear own1 in1 hg2' R2g PAg kx kf X3 HR3 B3 HG3 Y1 Y2 R1 R2 PA BW k0 k3 XB
    generalize w1.setCell ⟨g1, 0, none⟩ (.slice A3 (l.length + 1) c3) = WB at *
    have hbs2 : base ≤ WB.heap.size := Nat.le_trans hbs KW.out.size
    obtain ⟨in2, own2⟩ := Kd.R_own S2.out
    have SPO := Lib.hid (Kd.R_mono (R_other (Kd.R_lower SP.out hb) own2 (by decide)) (ok' := fun k => some k ≠ (Value.slice A2 l.length c2).ownBlock) (fun _ hk => hk.2))
    have BW := Lib.hid (Below.refl base WB)
    have kg := blk_cell Z2.out 0
    clear own2 in2
    go_wp2_with ((with_reducible refine gate_builtin (b := .append) (xs := #[.tmp 14, .tmp 16]) rfl ?_); at_builtin; refine Kd.R_append kPath (w0 := WB) base (by rfl) (.tmp 14) (.tmp 16) 71 31 (.slice none 0 0) 24 rfl Try.underlying71 info31' rfl (by decide) (by decide) (.slice A2 l.length c2) (l.map Prod.snd) path [.slice Ap path.length cp] (fun _ => True) (fun k => some k ≠ (Value.slice A2 l.length c2).ownBlock) (by go_simp) (by rfl) ⟨_, rfl, SPO.out⟩ (fun _ hk => ⟨trivial, hk⟩) (fun _ _ => trivial) S2.out BW.out hbs2 hl2 ?_; intro v4 w2 hr1 hb1 hgr hat1; obtain ⟨A5, c5, rfl⟩ := Kd.R_slice hr1; rw [List.length_append, List.length_map, List.length_singleton] at hr1; have HR4 := Lib.hid hr1; have HG4 := Lib.hid hgr; have X4 := Lib.hid (blk_grown Z2.out hgr (Kd.R_ne S2.out Z2.out (by decide))); have kx := blk_cell X4.out 0; have kf := blk_frozen X4.out 0; clear hr1 hb1 hgr hat1 kg)
    go_end0
    obtain ⟨in2, own2⟩ := Kd.R_own S2.out
    have hg1' := blk_grown Z1.out HG4.out (Kd.R_ne S2.out Z1.out (by decide))
    have R1g := Kd.R_mono (Kd.R_grown (R_other S3.out own2 (by decide)) HG4.out (fun k hk => hk.2)) (ok' := fun _ => True) (fun _ _ => trivial)
    rw [show ownV ⟨4, f1, f2, f3, args⟩ path = [(f3, path)] from rfl]
    refine ⟨rfl, ⟨_, .slice A5 (l.length + 1) c5, (Below.heap_setCell w2 ⟨g2, 0, none⟩ _ g1 n12.symm).trans hg1', ?_, ?_, ?_⟩, K2.out.trans ((KV.grown (Or.inr rfl) HG4.out own2).trans (KV.set w2 hg2 (Or.inr rfl) 0 _))⟩
    · have := blk_set X4.out 0 (.slice A5 (l.length + 1) c5)
      simpa only [List.setIfInBounds_toArray, List.set_cons_zero] using this
    · rw [List.map_append]
      exact Kd.R_set R1g X4.out (by decide) 0 _
    · rw [List.map_append]
      exact Kd.R_set HR4.out X4.out (by decide) 0 _
  · have e4' : (f0 == 4) = false := by simpa using e4
    go_wp2
    go_end0
    rw [show ownV ⟨f0, f1, f2, f3, args⟩ path = [] from if_neg e4, List.append_nil]
    exact ⟨rfl, ⟨_, _, Y1.out, Y2.out, R1.out, R2.out⟩, K1.out⟩
end Go.Proofs.Ytelheeekbihfcaa.Pt
end
section
/- The pattern's variables: the walk over a pattern; Vars. -/
set_option linter.unusedVariables false
set_option linter.unusedSimpArgs false
namespace Go.Proofs.Ytelheeekbihfcaa.Pt
open Go.RowKit Go.Proofs Go.Proofs.Ytelheeekbihfcaa.PPatternFirst Go.Proofs.YtelheeekbihfcaaW.PrintWords Go.Proofs.YtelheeekbihfcaaW.PrintMore Go.Proofs.YtelheeekbihfcaaW.PrintLast
/-- What the walk's functions hold. -/
structure BoxV (g1 g2 b2 b3 : Nat) (W : World) : Prop where
  b : W.heap[b2]? = some (.cells #[.func (.func 31) #[] #[.pointer (some ⟨g1, 0, none⟩), .pointer (some ⟨g2, 0, none⟩)]] 84 (0, 0))
  c : W.heap[b3]? = some (.cells #[.func (.func 34) #[] #[.pointer (some ⟨b2, 0, none⟩), .pointer (some ⟨b3, 0, none⟩)]] 84 (0, 0))
theorem BoxV.keep {g1 g2 b2 b3 base : Nat} {W W' : World} {l : List (ByteArray × List Int)} (h : BoxV g1 g2 b2 b3 W) (hO : VarB base g1 g2 W l) (hK : KV base g1 g2 W W') : BoxV g1 g2 b2 b3 W' := by
  obtain ⟨v, u, hv, hu, _⟩ := hO
  exact ⟨hK.blk h.b (by decide) (by decide) (ne_blk h.b hv (by decide)) (ne_blk h.b hu (by decide)), hK.blk h.c (by decide) (by decide) (ne_blk h.c hv (by decide)) (ne_blk h.c hu (by decide))⟩
theorem BoxV.below {g1 g2 b2 b3 : Nat} {W W' : World} (h : BoxV g1 g2 b2 b3 W) (hb : Below W.heap.size W W') : BoxV g1 g2 b2 b3 W' := ⟨blk_below h.b hb, blk_below h.c hb⟩
/-- What is to be shown of a pattern. -/
def GoV (W0 : World) (g1 g2 b2 b3 : Nat) (p : S53) : Prop :=
  ∀ (b' : Nat) (A4 : Option Addr) (c4 : Nat) (vp : Value) (path : List Int) (l : List (ByteArray × List Int)) (W : World), VarB W0.heap.size g1 g2 W l → Below W0.heap.size W0 W → BoxV g1 g2 b2 b3 W → Kd.C k53 W0 A4 p.f4.length p.f4 → p.f4.length ≤ c4 →
    Kd.R (Kd.int .i64) 3 W b' (fun _ => True) vp path → W0.heap.size ≤ b' → l.length + nodesP p ≤ 1000000 → path.length + nodesP p ≤ 1000000 →
    Calls Try.prog 34 #[.agg #[.int .i64 p.f0, .int .i64 p.f1, .int .i64 p.f2, .string p.f3, .slice A4 p.f4.length c4], vp, .pointer (some ⟨b2, 0, none⟩), .pointer (some ⟨b3, 0, none⟩)] W fun e W' => e = .returned (.tuple #[]) ∧ VarB W0.heap.size g1 g2 W' (l ++ varsP p path) ∧ KV W0.heap.size g1 g2 W W'
theorem varsL_snoc : ∀ (l : List S53) (x : S53) (path : List Int) (i : Nat), varsL (l ++ [x]) path i = varsL l path i ++ varsP x (path ++ [((i + l.length : Nat) : Int)])
  | [], x, path, i => by simp [varsL]
  | y :: l, x, path, i => by
    have ih := varsL_snoc l x path (i + 1)
    rw [List.cons_append, varsL, ih, varsL, List.append_assoc, List.length_cons, show i + 1 + l.length = i + (l.length + 1) by omega]
mutual
theorem varsP_len : ∀ (p : S53) (path : List Int), (varsP p path).length ≤ nodesP p
  | ⟨k, a, n, nm, args⟩, path => by
    have h := varsL_len args path 0
    have h1 : (ownV ⟨k, a, n, nm, args⟩ path).length ≤ 1 := by
      unfold ownV
      repeat' split
      all_goals simp
    unfold varsP nodesP
    rw [List.length_append]
    split
    · omega
    · simp; omega
theorem varsL_len : ∀ (l : List S53) (path : List Int) (i : Nat), (varsL l path i).length ≤ nodesL l
  | [], _, _ => by simp [varsL, nodesL]
  | x :: r, path, i => by
    have h1 := varsP_len x (path ++ [(i : Int)])
    have h2 := varsL_len r path (i + 1)
    simp only [varsL, nodesL, List.length_append]
    omega
end
/-- A path stays. -/
theorem KV.path {base g1 g2 b' : Nat} {W W' : World} {vp : Value} {path : List Int} {l : List (ByteArray × List Int)} (hK : KV base g1 g2 W W') (hO : VarB base g1 g2 W l) (hp : Kd.R (Kd.int .i64) 3 W b' (fun _ => True) vp path) : Kd.R (Kd.int .i64) 3 W' b' (fun _ => True) vp path := by
  have ho := Kd.own_of_R (h1 := fun _ => rfl) hp
  obtain ⟨v, u, hv, hu, _⟩ := hO
  refine Kd.R_of_own (h1 := fun _ => rfl) (own_move ho (fun k hk => ?_)) (fun _ _ => trivial)
  obtain ⟨c1, e1⟩ := own_typed ho k hk
  exact (hK.blk e1 (by decide) (by decide) (ne_blk e1 hv (by decide)) (ne_blk e1 hu (by decide))).trans e1.symm
set_option maxRecDepth 100000 in
set_option maxHeartbeats 8000000 in
theorem gov_ok (W0 : World) (g1 g2 b2 b3 : Nat) (hg1 : W0.heap.size ≤ g1) (hg2 : W0.heap.size ≤ g2)
    (f0 f1 f2 : Int) (f3 : ByteArray) (args : List S53) (hIH : ∀ x, x ∈ args → GoV W0 g1 g2 b2 b3 x) : GoV W0 g1 g2 b2 b3 ⟨f0, f1, f2, f3, args⟩ := by
  intro b' A4 c4 vp path l W hO hB hX hC hc4 hp hb hn1 hn2
  simp only at hC hc4 ⊢
  simp only [nodesP] at hn1 hn2
  obtain ⟨Ap, cp, rfl⟩ := Kd.R_slice hp
  have HI := Lib.hid hIH
  have HC := Lib.hid hC
  have HO := Lib.hid hO
  have HB := Lib.hid hB
  have HX := Lib.hid hX
  have HP := Lib.hid hp
  have hl1 : l.length ≤ 1000000 := by omega
  clear hIH hC hO hB hX hp
  go_enter Try.func34, Try.ntmps34
  go_upto_region 1 with fail
  have hbl := below_alloc (Below.refl _ W) (.cells #[.int .i64 f0, .int .i64 f1, .int .i64 f2, .string f3, .slice A4 args.length c4] 53)
  have XB := Lib.hid (blk_new W (.cells #[.int .i64 f0, .int .i64 f1, .int .i64 f2, .string f3, .slice A4 args.length c4] 53))
  have O1 := Lib.hid (HO.out.below hbl)
  have B1 := Lib.hid (below_step HB.out hbl)
  have X1 := Lib.hid (HX.out.below hbl)
  have P1 := Lib.hid (Kd.R_below HP.out hbl)
  have K1 := Lib.hid (KV.of_below (base := W0.heap.size) (g1 := g1) (g2 := g2) hbl)
  generalize W.alloc (.cells #[.int .i64 f0, .int .i64 f1, .int .i64 f2, .string f3, .slice A4 args.length c4] 53) = W1 at *
  generalize W.heap.size = gb at *
  have kb := blk_cell X1.out.b 0
  have k0 := blk_cell XB.out 0
  have k1 := blk_cell XB.out 1
  have k2 := blk_cell XB.out 2
  have k3 := blk_cell XB.out 3
  have k4 := blk_cell XB.out 4
  clear hbl HO HX HP HB
  go_upto_region 2 with (go_at_call 31; refine (var_call W0.heap.size g1 g2 b' f0 f1 f2 f3 args A4 c4 (.slice Ap path.length cp) path l _ O1.out B1.out.size hg1 hg2 P1.out hb hl1).mono ?_; rintro e W2 ⟨rfl, ho, hk⟩; have O2 := Lib.hid ho; have K2 := Lib.hid hk; clear ho hk)
  have hgb : gb ≠ g1 ∧ gb ≠ g2 := by obtain ⟨v, u, hv, hu, _⟩ := O1.out; exact ⟨ne_blk XB.out hv (by decide), ne_blk XB.out hu (by decide)⟩
  have XB2 := Lib.hid (K2.out.blk XB.out (by decide) (by decide) hgb.1 hgb.2)
  have X2 := Lib.hid (X1.out.keep O1.out K2.out)
  have B2 := Lib.hid (B1.out.trans (K2.out.below B1.out.size))
  have P2 := Lib.hid (K2.out.path O1.out P1.out)
  have K3 := Lib.hid (K1.out.trans K2.out)
  clear kb k0 k1 k2 k3 k4 X1 XB B1 P1 K1 K2
  have k0 := blk_cell XB2.out 0
  have k4 := blk_cell XB2.out 4
  have hlo : (ownV ⟨f0, f1, f2, f3, args⟩ path).length ≤ 1 := by
    unfold ownV
    repeat' split
    all_goals simp
  by_cases e5 : f0 = 5
  · subst e5
    have hq4 : (args.length : Int) ≤ 1000000 := by have := nodesL_le args; omega
    go_wp2
    go_loopw [18] (fun v18 wr => ∃ i : Nat, v18 = .int .i64 i ∧ i ≤ args.length ∧ Hid (VarB W0.heap.size g1 g2 wr (l ++ ownV ⟨5, f1, f2, f3, args⟩ path ++ varsL (args.take i) path 0)) ∧ Hid (KV W0.heap.size g1 g2 W2 wr)) (fun v18 _ => args.length - (intOf v18).toNat)
    case atStart => exact ⟨0, by go_num, Nat.zero_le _, Lib.hid (by simpa [varsL] using O2.out), Lib.hid (KV.refl _ _ _ _)⟩
    case round =>
      obtain ⟨i, rfl, hi, HOI, HKI⟩ := hrel
      by_cases hlt : i < args.length
      · have q1 : (i : Int) < (args.length : Int) := by omega
        have q0 : (0 : Int) ≤ (i : Int) := by omega
        have HBI := Lib.hid (B2.out.trans (HKI.out.below B2.out.size))
        have HXI := Lib.hid (X2.out.keep O2.out HKI.out)
        have HPI := Lib.hid (HKI.out.path O2.out P2.out)
        obtain ⟨ad, A5, c5, hA4, u0, u1, u2, u3, u4, hc5, hC5⟩ := at_T53 HC.out (i : Int) q0 q1
        subst hA4
        rw [rd53 args i hlt, Int.toNat_natCast] at u0 u1 u2 u3 u4
        rw [rd53 args i hlt] at hc5 hC5
        replace u0 := (HBI.out.cell (World.block_lt_of_cell? W0 _ u0)).trans u0
        replace u1 := (HBI.out.cell (World.block_lt_of_cell? W0 _ u1)).trans u1
        replace u2 := (HBI.out.cell (World.block_lt_of_cell? W0 _ u2)).trans u2
        replace u3 := (HBI.out.cell (World.block_lt_of_cell? W0 _ u3)).trans u3
        replace u4 := (HBI.out.cell (World.block_lt_of_cell? W0 _ u4)).trans u4
        have hx0 := HI.out args[i] (List.getElem_mem hlt)
        have hng := nodesL_get hlt
        have htl := varsL_len (args.take i) path 0
        have hnp : i ≤ nodesL (args.take i) := by have := nodesL_le (args.take i); rw [List.length_take, Nat.min_eq_left (Nat.le_of_lt hlt)] at this; exact this
        have hm1 : (l ++ ownV ⟨5, f1, f2, f3, args⟩ path ++ varsL (args.take i) path 0).length + nodesP args[i] ≤ 1000000 := by simp only [List.length_append]; omega
        have hm2 : (path ++ [(i : Int)]).length + nodesP args[i] ≤ 1000000 := by simp only [List.length_append, List.length_singleton]; omega
        have hpl : path.length ≤ 1000000 := by omega
        have htk : varsL (args.take (i + 1)) path 0 = varsL (args.take i) path 0 ++ varsP args[i] (path ++ [(i : Int)]) := by
          rw [List.take_succ_eq_append_getElem hlt, varsL_snoc, List.length_take, Nat.min_eq_left (Nat.le_of_lt hlt), Nat.zero_add]
        have HC5 := Lib.hid hC5
        clear hC5 hng htl hnp
        go_upto_region 6 with fail
        have hbl := below_alloc (Below.refl _ wr) (.cells #[.int .i64 args[i].f0, .int .i64 args[i].f1, .int .i64 args[i].f2, .string args[i].f3, .slice A5 args[i].f4.length c5] 53)
        have GD := Lib.hid (blk_drew (blk_new wr (.cells #[.int .i64 args[i].f0, .int .i64 args[i].f1, .int .i64 args[i].f2, .string args[i].f3, .slice A5 args[i].f4.length c5] 53)))
        have hbd := below_drew1 hbl
        have OD := Lib.hid (HOI.out.below hbd)
        have BD := Lib.hid (below_step HBI.out hbd)
        have XD := Lib.hid (HXI.out.below hbd)
        have PD := Lib.hid (Kd.R_below HPI.out hbd)
        have KD := Lib.hid (HKI.out.trans (KV.of_below (base := W0.heap.size) (g1 := g1) (g2 := g2) hbd))
        clear hbl hbd HOI HBI HXI HPI u0 u1 u2 u3 u4
        generalize wr.alloc (.cells #[.int .i64 args[i].f0, .int .i64 args[i].f1, .int .i64 args[i].f2, .string args[i].f3, .slice A5 args[i].f4.length c5] 53) = W3 at *
        generalize wr.heap.size = g7 at *
        generalize hTS : l ++ ownV ⟨5, f1, f2, f3, args⟩ path ++ varsL (args.take i) path 0 = TS at *
        generalize args[i] = x at *
        refine start_ (n := 6) (S := fun w' => w'.cell? ⟨b3, 0, none⟩ = some (.func (.func 34) #[] #[.pointer (some ⟨b2, 0, none⟩), .pointer (some ⟨b3, 0, none⟩)]) ∧ w'.cell? ⟨g7, 0, none⟩ = some (.int .i64 x.f0) ∧ w'.cell? ⟨g7, 1, none⟩ = some (.int .i64 x.f1) ∧ w'.cell? ⟨g7, 2, none⟩ = some (.int .i64 x.f2) ∧ w'.cell? ⟨g7, 3, none⟩ = some (.string x.f3) ∧ w'.cell? ⟨g7, 4, none⟩ = some (.slice A5 x.f4.length c5)) (ds := []) #[false, false, false, false, false, false] (by kernel_rfl) rfl rfl ⟨blk_cell XD.out.c 0, blk_cell GD.out 0, blk_cell GD.out 1, blk_cell GD.out 2, blk_cell GD.out 3, blk_cell GD.out 4⟩ (fun hHeld => ?_)
        refine pure_ (i := 2) (N := some 25) (v := ?_) (a' := ?_) #[false, false, true, false, false, false] rfl rfl (by kernel_rfl) (fun _ _ _ h => h) (Or.inl ⟨by rfl, ?_⟩) ?_ ?_
        rotate_left
        · intro w'
          go_simp
          with_reducible rfl
        rotate_left
        · simp only [Act.put, List.setIfInBounds_toArray, List.set_cons_zero, List.set_cons_succ, i64_w, i32_w]
          rfl
        refine pure_ (i := 3) (N := some 26) (v := ?_) (a' := ?_) #[false, false, true, true, false, false] rfl rfl (by kernel_rfl) (fun _ _ _ h => h) (Or.inl ⟨by rfl, ?_⟩) ?_ ?_
        rotate_left
        · intro w'
          go_simp
          with_reducible rfl
        rotate_left
        · simp only [Act.put, List.setIfInBounds_toArray, List.set_cons_zero, List.set_cons_succ, i64_w, i32_w]
          rfl
        refine take_ (i := 0) (N := some 23) (v := ?_) (a' := ?_) #[true, false, true, true, false, false] rfl rfl (by kernel_rfl) (fun _ _ _ h => h) (Or.inl ⟨by rfl, ?_⟩) hHeld ?_ ?_
        rotate_left
        · rintro w' ⟨s0, s1, s2, s3, s4, s5⟩
          go_simp
          with_reducible rfl
        rotate_left
        · simp only [Act.put, List.setIfInBounds_toArray, List.set_cons_zero, List.set_cons_succ, i64_w, i32_w]
          rfl
        refine take_ (i := 1) (N := some 24) (v := ?_) (a' := ?_) #[true, true, true, true, false, false] rfl rfl (by kernel_rfl) (fun _ _ _ h => h) (Or.inl ⟨by rfl, ?_⟩) hHeld ?_ ?_
        rotate_left
        · rintro w' ⟨s0, s1, s2, s3, s4, s5⟩
          go_simp
          with_reducible rfl
        rotate_left
        · simp only [Act.put, List.setIfInBounds_toArray, List.set_cons_zero, List.set_cons_succ, i64_w, i32_w]
          rfl
        refine one_ (i := 4) (N := some 27) #[true, true, true, true, true, false] rfl rfl (by kernel_rfl) (by decide) (fun K hK => ?_)
        refine goes_ Try.func35 (by kernel_rfl) rfl #[.slice Ap path.length cp, .int .i64 (i : Int)] (by rfl) rfl rfl (by simp only [List.map_toArray, List.map_cons, List.map_nil]; rfl) ?_
        with_reducible refine (longer_call Ap cp path (i : Int) _ (Kd.R_reads' PD.out).2.2 (Kd.R_reads' PD.out).2.1 hpl).mono ?_
        rintro e w4 ⟨vq, rfl, hq, hd⟩
        refine ⟨_, rfl, ?_⟩
        have OE := Lib.hid (OD.out.below hd)
        have BE := Lib.hid (below_step BD.out hd)
        have XE := Lib.hid (XD.out.below hd)
        have GE := Lib.hid (blk_below GD.out hd)
        have PE := Lib.hid (Kd.R_below PD.out hd)
        have KE := Lib.hid (KD.out.trans (KV.of_below hd))
        have QE := Lib.hid hq
        have hb7 : W0.heap.size ≤ W3.drew.heap.size := BD.out.size
        clear hq hd
        refine hK.out _ _ ⟨blk_cell XE.out.c 0, blk_cell GE.out 0, blk_cell GE.out 1, blk_cell GE.out 2, blk_cell GE.out 3, blk_cell GE.out 4⟩ (fun hHeld => ?_)
        clear hK K
        refine norm_ (a' := ?_) ?_ ?_
        rotate_left
        · show Act.put _ (some 27) _ = _
          simp only [Act.put, List.setIfInBounds_toArray, List.set_cons_zero, List.set_cons_succ, i64_w, i32_w]
          rfl
        refine one_ (i := 5) (N := some 28) #[true, true, true, true, true, true] rfl rfl (by kernel_rfl) (by decide) (fun K hK => ?_)
        refine call_ 34 #[.agg #[.int .i64 x.f0, .int .i64 x.f1, .int .i64 x.f2, .string x.f3, .slice A5 x.f4.length c5], vq, .pointer (some ⟨b2, 0, none⟩), .pointer (some ⟨b3, 0, none⟩)] (by rfl) rfl (by go_simp) ?_
        refine (hx0 _ A5 c5 vq (path ++ [(i : Int)]) _ _ OE.out BE.out XE.out HC5.out hc5 QE.out hb7 hm1 hm2).mono ?_
        rintro e w5 ⟨rfl, ho, hk⟩
        refine ⟨_, rfl, ?_⟩
        have O5 := Lib.hid ho
        have K5 := Lib.hid (KE.out.trans hk)
        have X5 := Lib.hid (XE.out.keep OE.out hk)
        have hg7 : g7 ≠ g1 ∧ g7 ≠ g2 := by obtain ⟨vv, vu, hv, hu, _⟩ := OE.out; exact ⟨ne_blk GE.out hv (by decide), ne_blk GE.out hu (by decide)⟩
        have G5 := Lib.hid (hk.blk GE.out (by decide) (by decide) hg7.1 hg7.2)
        clear ho hk hg7
        refine hK.out _ _ ⟨blk_cell X5.out.c 0, blk_cell G5.out 0, blk_cell G5.out 1, blk_cell G5.out 2, blk_cell G5.out 3, blk_cell G5.out 4⟩ (fun hHeld => ?_)
        clear hK K
        refine norm_ (a' := ?_) ?_ ?_
        rotate_left
        · show Act.put _ (some 28) _ = _
          simp only [Act.put, List.setIfInBounds_toArray, List.set_cons_zero, List.set_cons_succ, i64_w, i32_w]
          rfl
        refine done_ (by kernel_rfl) ?_
        clear hHeld
        go_wp2
        go_roundw
        case rel => exact ⟨i + 1, by go_num, hlt, Lib.hid (by rw [htk, ← List.append_assoc, hTS]; exact O5.out), K5⟩
        case measure => simp [intOf]; omega
      · obtain rfl : i = args.length := by omega
        go_wp2
        go_end0
        rw [show varsP ⟨5, f1, f2, f3, args⟩ path = ownV ⟨5, f1, f2, f3, args⟩ path ++ varsL args path 0 by rw [varsP, if_pos rfl], ← List.append_assoc]
        have hO := HOI.out
        rw [List.take_length] at hO
        exact ⟨rfl, hO, K3.out.trans HKI.out⟩
  · have e5' : (f0 == 5) = false := by simpa using e5
    go_wp2
    go_end0
    rw [show varsP ⟨f0, f1, f2, f3, args⟩ path = ownV ⟨f0, f1, f2, f3, args⟩ path by unfold varsP; rw [if_neg e5, List.append_nil]]
    exact ⟨rfl, O2.out, K3.out⟩
theorem gov_all (W0 : World) (g1 g2 b2 b3 : Nat) (hg1 : W0.heap.size ≤ g1) (hg2 : W0.heap.size ≤ g2) :
    ∀ (n : Nat) (p : S53), SizeOf.sizeOf p ≤ n → GoV W0 g1 g2 b2 b3 p := by
  intro n
  induction n with
  | zero =>
    intro p hp
    cases p
    simp at hp
  | succ n ih =>
    intro p hp
    obtain ⟨f0, f1, f2, f3, args⟩ := p
    refine gov_ok W0 g1 g2 b2 b3 hg1 hg2 f0 f1 f2 f3 args (fun x hx => ih x ?_)
    have h1 := List.sizeOf_lt_of_mem hx
    simp at hp
    omega
set_option maxRecDepth 100000 in
set_option maxHeartbeats 8000000 in
theorem walkv_call (W0 : World) (g1 g2 : Nat) (hg1 : W0.heap.size ≤ g1) (hg2 : W0.heap.size ≤ g2)
    (f0 f1 f2 : Int) (f3 : ByteArray) (args : List S53) (A4 : Option Addr) (c4 : Nat) (l : List (ByteArray × List Int)) (W : World) (hO : VarB W0.heap.size g1 g2 W l) (hB : Below W0.heap.size W0 W)
    (hC : Kd.C k53 W0 A4 args.length args) (hc4 : args.length ≤ c4) (hn : l.length + nodesP ⟨f0, f1, f2, f3, args⟩ ≤ 1000000) :
    Calls Try.prog 25 #[.agg #[.int .i64 f0, .int .i64 f1, .int .i64 f2, .string f3, .slice A4 args.length c4], .func (.func 31) #[] #[.pointer (some ⟨g1, 0, none⟩), .pointer (some ⟨g2, 0, none⟩)]] W fun e W' => e = .returned (.tuple #[]) ∧ VarB W0.heap.size g1 g2 W' (l ++ varsP ⟨f0, f1, f2, f3, args⟩ []) ∧ KV W0.heap.size g1 g2 W W' := by
  have HG := Lib.hid fun (b2 b3 : Nat) => gov_all W0 g1 g2 b2 b3 hg1 hg2 _ ⟨f0, f1, f2, f3, args⟩ (Nat.le_refl _)
  have HO := Lib.hid hO
  have HB := Lib.hid hB
  have HC := Lib.hid hC
  clear hO hB hC
  go_enter Try.func25, Try.ntmps25
  go_upto_region 2 with fail
  have s1 : (W.alloc (.cells #[.int .i64 f0, .int .i64 f1, .int .i64 f2, .string f3, .slice A4 args.length c4] 53)).heap.size = W.heap.size + 1 := by simp
  have s2 : ((W.alloc (.cells #[.int .i64 f0, .int .i64 f1, .int .i64 f2, .string f3, .slice A4 args.length c4] 53)).alloc (.cells #[.func (.func 31) #[] #[.pointer (some ⟨g1, 0, none⟩), .pointer (some ⟨g2, 0, none⟩)]] 84)).heap.size = W.heap.size + 1 + 1 := by simp
  have X3 := blk_new ((W.alloc (.cells #[.int .i64 f0, .int .i64 f1, .int .i64 f2, .string f3, .slice A4 args.length c4] 53)).alloc (.cells #[.func (.func 31) #[] #[.pointer (some ⟨g1, 0, none⟩), .pointer (some ⟨g2, 0, none⟩)]] 84)) (.cells #[.nilFunc] 84)
  have X2 := blk_alloc (blk_new (W.alloc (.cells #[.int .i64 f0, .int .i64 f1, .int .i64 f2, .string f3, .slice A4 args.length c4] 53)) (.cells #[.func (.func 31) #[] #[.pointer (some ⟨g1, 0, none⟩), .pointer (some ⟨g2, 0, none⟩)]] 84)) (.cells #[.nilFunc] 84)
  have X1 := blk_alloc (blk_alloc (blk_new W (.cells #[.int .i64 f0, .int .i64 f1, .int .i64 f2, .string f3, .slice A4 args.length c4] 53)) (.cells #[.func (.func 31) #[] #[.pointer (some ⟨g1, 0, none⟩), .pointer (some ⟨g2, 0, none⟩)]] 84)) (.cells #[.nilFunc] 84)
  rw [s2] at X3
  rw [s1] at X2
  have hbl := below_alloc (below_alloc (below_alloc (Below.refl _ W) (.cells #[.int .i64 f0, .int .i64 f1, .int .i64 f2, .string f3, .slice A4 args.length c4] 53)) (.cells #[.func (.func 31) #[] #[.pointer (some ⟨g1, 0, none⟩), .pointer (some ⟨g2, 0, none⟩)]] 84)) (.cells #[.nilFunc] 84)
  have BL := Lib.hid hbl
  generalize (((W.alloc (.cells #[.int .i64 f0, .int .i64 f1, .int .i64 f2, .string f3, .slice A4 args.length c4] 53)).alloc (.cells #[.func (.func 31) #[] #[.pointer (some ⟨g1, 0, none⟩), .pointer (some ⟨g2, 0, none⟩)]] 84)).alloc (.cells #[.nilFunc] 84)) = W3 at *
  have c3 := blk_cell X3 0
  have f3' := blk_frozen X3 0
  clear s1 s2 hbl
  have Y3 := Lib.hid (blk_set X3 0 (.func (.func 34) #[] #[.pointer (some ⟨W.heap.size + 1, 0, none⟩), .pointer (some ⟨W.heap.size + 1 + 1, 0, none⟩)]))
  have hgo3 : W.heap.size + 1 + 1 ≠ g1 := by have := HO.out.lt; omega
  have n31 : ¬ W.heap.size + 1 = W.heap.size + 1 + 1 := by omega
  have n30 : ¬ W.heap.size = W.heap.size + 1 + 1 := by omega
  have Y2 := Lib.hid ((Below.heap_setCell W3 ⟨W.heap.size + 1 + 1, 0, none⟩ (.func (.func 34) #[] #[.pointer (some ⟨W.heap.size + 1, 0, none⟩), .pointer (some ⟨W.heap.size + 1 + 1, 0, none⟩)]) (W.heap.size + 1) n31).trans X2)
  have Y1 := Lib.hid ((Below.heap_setCell W3 ⟨W.heap.size + 1 + 1, 0, none⟩ (.func (.func 34) #[] #[.pointer (some ⟨W.heap.size + 1, 0, none⟩), .pointer (some ⟨W.heap.size + 1 + 1, 0, none⟩)]) W.heap.size n30).trans X1)
  have X1_ := Lib.hid X1
  have hge : W0.heap.size ≤ W.heap.size + 1 + 1 := by have := HB.out.size; omega
  go_upto_region 3 with fail
  have hbs := BL.out.setCell (p := ⟨W.heap.size + 1 + 1, 0, none⟩) (show W.heap.size ≤ W.heap.size + 1 + 1 by omega) (.func (.func 34) #[] #[.pointer (some ⟨W.heap.size + 1, 0, none⟩), .pointer (some ⟨W.heap.size + 1 + 1, 0, none⟩)])
  have OS := Lib.hid (HO.out.below hbs)
  have BS := Lib.hid (below_step HB.out hbs)
  have KS := Lib.hid (KV.of_below (base := W0.heap.size) (g1 := g1) (g2 := g2) hbs)
  have XS : BoxV g1 g2 (W.heap.size + 1) (W.heap.size + 1 + 1) (W3.setCell ⟨W.heap.size + 1 + 1, 0, none⟩ (.func (.func 34) #[] #[.pointer (some ⟨W.heap.size + 1, 0, none⟩), .pointer (some ⟨W.heap.size + 1 + 1, 0, none⟩)])) := ⟨Y2.out, by have := Y3.out; simpa using this⟩
  have XS_ := Lib.hid XS
  have kc := blk_cell XS.c 0
  have y0 := blk_cell Y1.out 0
  have y1 := blk_cell Y1.out 1
  have y2 := blk_cell Y1.out 2
  have y3 := blk_cell Y1.out 3
  have y4 := blk_cell Y1.out 4
  have hl0 : ([] : List Int).length + nodesP ⟨f0, f1, f2, f3, args⟩ ≤ 1000000 := by simp only [List.length_nil]; omega
  clear hbs XS c3 f3' X1 X2 X3 BL Y2 Y3
  generalize W3.setCell ⟨W.heap.size + 1 + 1, 0, none⟩ (.func (.func 34) #[] #[.pointer (some ⟨W.heap.size + 1, 0, none⟩), .pointer (some ⟨W.heap.size + 1 + 1, 0, none⟩)]) = WS at *
  go_wp2_with (go_at_call 34; refine (HG.out _ _ W0.heap.size A4 c4 (.slice none 0 0) [] l _ OS.out BS.out XS_.out HC.out hc4 (Kd.R_nil _ _ _ _ _) (Nat.le_refl _) hn hl0).mono ?_; rintro e W5 ⟨rfl, ho, hk⟩; have O5 := Lib.hid ho; have K5 := Lib.hid hk; clear ho hk)
  go_end0
  exact ⟨rfl, O5.out, KS.out.trans K5.out⟩
end Go.Proofs.Ytelheeekbihfcaa.Pt
end
section
/- The pattern's Vars. -/
set_option linter.unusedVariables false
set_option linter.unusedSimpArgs false
namespace Go.Proofs.Ytelheeekbihfcaa.Pt
open Go.RowKit Go.Proofs Go.Proofs.Ytelheeekbihfcaa.PPatternFirst Go.Proofs.YtelheeekbihfcaaW.PrintWords Go.Proofs.YtelheeekbihfcaaW.PrintMore Go.Proofs.YtelheeekbihfcaaW.PrintLast
theorem load23 (w : World) (g : Nat) (v : Value) (h : w.heap[g]? = some (.cells #[v] 23 (0, 0))) : (loadVar 23 ⟨g, 0, none⟩).run Try.prog w = .ok v w := by
  have k := blk_cell h 0
  go_simp
theorem load71 (w : World) (g : Nat) (v : Value) (h : w.heap[g]? = some (.cells #[v] 71 (0, 0))) : (loadVar 71 ⟨g, 0, none⟩).run Try.prog w = .ok v w := by
  have k := blk_cell h 0
  go_simp
theorem results19 (tmps : Array Value) (w : World) (g1 g2 : Nat) (v1 v2 : Value) (hp1 : tmps.getD 2 undef = .pointer (some ⟨g1, 0, none⟩)) (hp2 : tmps.getD 3 undef = .pointer (some ⟨g2, 0, none⟩)) (h1 : w.heap[g1]? = some (.cells #[v1] 23 (0, 0))) (h2 : w.heap[g2]? = some (.cells #[v2] 71 (0, 0))) : (results Try.f19 tmps).run Try.prog w = .ok (.tuple #[v1, v2]) w := by
  have hp1' : tmps[2]?.getD undef = .pointer (some ⟨g1, 0, none⟩) := by simpa using hp1
  have hp2' : tmps[3]?.getD undef = .pointer (some ⟨g2, 0, none⟩) := by simpa using hp2
  have hr : Try.f19.results = #[.cell 2 23, .cell 3 71] := rfl
  simp [results, hr, hp1', hp2', asAddr, load23 w g1 v1 h1, load71 w g2 v2 h2]
set_option maxRecDepth 100000 in
set_option maxHeartbeats 8000000 in
/-- Vars: what the document says. -/
theorem vars_call (f0 f1 f2 : Int) (f3 : ByteArray) (args : List S53) (A4 : Option Addr) (c4 : Nat) (w : World) (hC : Kd.C k53 w A4 args.length args) (hc4 : args.length ≤ c4) (hn : nodesP ⟨f0, f1, f2, f3, args⟩ ≤ 1000000) (l : List (ByteArray × List Int)) (hl : varsP ⟨f0, f1, f2, f3, args⟩ [] = l) :
    Calls Try.prog 19 #[.agg #[.int .i64 f0, .int .i64 f1, .int .i64 f2, .string f3, .slice A4 args.length c4]] w fun e w' => ∃ A1 c1 A2 c2, e = .returned (.tuple #[.slice A1 l.length c1, .slice A2 l.length c2]) ∧ l.length ≤ c1 ∧ l.length ≤ c2 ∧ Kd.C Kd.string w' A1 l.length (l.map Prod.fst) ∧ Kd.C kPath w' A2 l.length (l.map Prod.snd) ∧ Below w.heap.size w w' := by
  have HC := Lib.hid hC
  clear hC
  go_enter Try.func19, Try.ntmps19
  go_upto_region 1 with fail
  have s1 : (w.alloc (.cells #[.int .i64 f0, .int .i64 f1, .int .i64 f2, .string f3, .slice A4 args.length c4] 53)).heap.size = w.heap.size + 1 := by simp
  have s2 : ((w.alloc (.cells #[.int .i64 f0, .int .i64 f1, .int .i64 f2, .string f3, .slice A4 args.length c4] 53)).alloc (.cells #[.slice none 0 0] 23)).heap.size = w.heap.size + 1 + 1 := by simp
  have X3 := blk_new ((w.alloc (.cells #[.int .i64 f0, .int .i64 f1, .int .i64 f2, .string f3, .slice A4 args.length c4] 53)).alloc (.cells #[.slice none 0 0] 23)) (.cells #[.slice none 0 0] 71)
  have X2 := blk_alloc (blk_new (w.alloc (.cells #[.int .i64 f0, .int .i64 f1, .int .i64 f2, .string f3, .slice A4 args.length c4] 53)) (.cells #[.slice none 0 0] 23)) (.cells #[.slice none 0 0] 71)
  have X1 := blk_alloc (blk_alloc (blk_new w (.cells #[.int .i64 f0, .int .i64 f1, .int .i64 f2, .string f3, .slice A4 args.length c4] 53)) (.cells #[.slice none 0 0] 23)) (.cells #[.slice none 0 0] 71)
  rw [s2] at X3
  rw [s1] at X2
  have hbl := below_alloc (below_alloc (below_alloc (Below.refl _ w) (.cells #[.int .i64 f0, .int .i64 f1, .int .i64 f2, .string f3, .slice A4 args.length c4] 53)) (.cells #[.slice none 0 0] 23)) (.cells #[.slice none 0 0] 71)
  have BL := Lib.hid hbl
  generalize (((w.alloc (.cells #[.int .i64 f0, .int .i64 f1, .int .i64 f2, .string f3, .slice A4 args.length c4] 53)).alloc (.cells #[.slice none 0 0] 23)).alloc (.cells #[.slice none 0 0] 71)) = W3 at *
  have y0 := blk_cell X1 0
  have y1 := blk_cell X1 1
  have y2 := blk_cell X1 2
  have y3 := blk_cell X1 3
  have y4 := blk_cell X1 4
  have HO := Lib.hid (show VarB w.heap.size (w.heap.size + 1) (w.heap.size + 1 + 1) W3 [] from ⟨_, _, X2, X3, Kd.R_nil _ _ _ _ _, Kd.R_nil _ _ _ _ _⟩)
  have hn0 : ([] : List (ByteArray × List Int)).length + nodesP ⟨f0, f1, f2, f3, args⟩ ≤ 1000000 := by simpa using hn
  have hg1 : w.heap.size ≤ w.heap.size + 1 := by omega
  have hg2 : w.heap.size ≤ w.heap.size + 1 + 1 := by omega
  clear s1 s2 hbl X1 X2 X3
  go_upto_region 2 with (go_at_call 25; refine (walkv_call w (w.heap.size + 1) (w.heap.size + 1 + 1) hg1 hg2 f0 f1 f2 f3 args A4 c4 [] _ HO.out BL.out HC.out hc4 hn0).mono ?_; rintro e W5 ⟨rfl, ho, hk⟩; have O5 := Lib.hid ho; have K5 := Lib.hid hk; clear ho hk)
  rw [List.nil_append, hl] at O5
  obtain ⟨v1, v2, z1, z2, r1, r2⟩ := O5.out
  obtain ⟨A1, c1, rfl⟩ := Kd.R_slice r1
  obtain ⟨A2, c2, rfl⟩ := Kd.R_slice r2
  rw [List.length_map] at z1 z2 r1 r2
  have Z1 := Lib.hid z1
  have Z2 := Lib.hid z2
  have n21 : w.heap.size + 1 + 1 ≠ w.heap.size + 1 := by omega
  have ZD1 := Lib.hid (blk_drew z1)
  have ZD2 := Lib.hid (blk_drew z2)
  have R1 := Lib.hid (Kd.R_drew r1)
  have R2 := Lib.hid (Kd.R_drew r2)
  have BW := Lib.hid (below_drew1 (BL.out.trans (K5.out.below BL.out.size)))
  clear z1 z2 r1 r2 O5 y0 y1 y2 y3 y4
  refine start_ (n := 4) (S := fun w' => w'.cell? ⟨w.heap.size + 1, 0, none⟩ = some (.slice A1 l.length c1) ∧ w'.cell? ⟨w.heap.size + 1 + 1, 0, none⟩ = some (.slice A2 l.length c2)) (ds := [3]) #[false, false, false, false] (by kernel_rfl) rfl rfl ⟨blk_cell (blk_drew Z1.out) 0, blk_cell (blk_drew Z2.out) 0⟩ (fun hHeld => ?_)
  generalize W5.drew = WD at *
  have hfr1 := blk_frozen ZD1.out 0
  have hfr3 := blk_frozen ((Below.heap_setCell WD ⟨w.heap.size + 1, 0, none⟩ (.slice A1 l.length c1) (w.heap.size + 1 + 1) n21).trans ZD2.out) 0
  have hcc1 : (WD.setCell ⟨w.heap.size + 1, 0, none⟩ (.slice A1 l.length c1)).cell? ⟨w.heap.size + 1, 0, none⟩ = some (.slice A1 l.length c1) := blk_cell (show (WD.setCell ⟨w.heap.size + 1, 0, none⟩ (.slice A1 l.length c1)).heap[w.heap.size + 1]? = some (.cells #[.slice A1 l.length c1] 23 (0, 0)) from by have := blk_set ZD1.out 0 (.slice A1 l.length c1); simpa only [List.setIfInBounds_toArray, List.set_cons_zero] using this) 0
  have hcc3 := blk_cell ((Below.heap_setCell WD ⟨w.heap.size + 1, 0, none⟩ (.slice A1 l.length c1) (w.heap.size + 1 + 1) n21).trans ZD2.out) 0
  refine take_ (i := 0) (N := some 7) (v := ?_) (a' := ?_) #[true, false, false, false] rfl rfl (by kernel_rfl) (fun _ _ _ h => h) (Or.inl ⟨by rfl, ?_⟩) hHeld ?_ ?_
  rotate_left
  · rintro w' ⟨s0, s1⟩
    go_simp
    with_reducible rfl
  rotate_left
  · simp only [Act.put, List.setIfInBounds_toArray, List.set_cons_zero, List.set_cons_succ, i64_w, i32_w]
    rfl
  refine take_ (i := 1) (N := some 8) (v := ?_) (a' := ?_) #[true, true, false, false] rfl rfl (by kernel_rfl) (fun _ _ _ h => h) (Or.inl ⟨by rfl, ?_⟩) hHeld ?_ ?_
  rotate_left
  · rintro w' ⟨s0, s1⟩
    go_simp
    with_reducible rfl
  rotate_left
  · simp only [Act.put, List.setIfInBounds_toArray, List.set_cons_zero, List.set_cons_succ, i64_w, i32_w]
    rfl
  refine one_ (i := 2) (N := none) #[true, true, true, false] rfl rfl (by kernel_rfl) (by decide) (fun K hK => ?_)
  refine skip_ (w1 := ?_) (by rfl) rfl ?_ ?_
  rotate_left
  · go_simp
    rfl
  refine hK.out _ _ ⟨hcc1, hcc3⟩ (fun hHeld => ?_)
  clear hK K
  refine last_ (i := 3) (N := none) #[true, true, true, true] rfl rfl (by kernel_rfl) (by decide) (fun K hK => ?_)
  refine skip_ (w1 := ?_) (by rfl) rfl ?_ ?_
  rotate_left
  · go_simp
    rfl
  refine hK.out _ _ ?_
  clear hK K
  refine done_ (by kernel_rfl) ?_
  clear hHeld
  have D1 := ZD1.out
  have D2 := ZD2.out
  have E1 : (WD.setCell ⟨w.heap.size + 1, 0, none⟩ (.slice A1 l.length c1)).heap[w.heap.size + 1]? = some (.cells #[.slice A1 l.length c1] 23 (0, 0)) := by have := blk_set D1 0 (.slice A1 l.length c1); simpa only [List.setIfInBounds_toArray, List.set_cons_zero] using this
  have E2 := (Below.heap_setCell WD ⟨w.heap.size + 1, 0, none⟩ (.slice A1 l.length c1) (w.heap.size + 1 + 1) n21).trans D2
  have F1 := Lib.hid ((Below.heap_setCell (WD.setCell ⟨w.heap.size + 1, 0, none⟩ (.slice A1 l.length c1)) ⟨w.heap.size + 1 + 1, 0, none⟩ (.slice A2 l.length c2) (w.heap.size + 1) n21.symm).trans E1)
  have F2 := Lib.hid (show ((WD.setCell ⟨w.heap.size + 1, 0, none⟩ (.slice A1 l.length c1)).setCell ⟨w.heap.size + 1 + 1, 0, none⟩ (.slice A2 l.length c2)).heap[w.heap.size + 1 + 1]? = some (.cells #[.slice A2 l.length c2] 71 (0, 0)) from by have := blk_set E2 0 (.slice A2 l.length c2); simpa only [List.setIfInBounds_toArray, List.set_cons_zero] using this)
  have S1 := Lib.hid (Kd.R_set (Kd.R_set R1.out D1 (by decide) 0 (.slice A1 l.length c1)) E2 (by decide) 0 (.slice A2 l.length c2))
  have S2 := Lib.hid (Kd.R_set (Kd.R_set R2.out D1 (by decide) 0 (.slice A1 l.length c1)) E2 (by decide) 0 (.slice A2 l.length c2))
  have B2 := Lib.hid ((BW.out.setCell (p := ⟨w.heap.size + 1, 0, none⟩) hg1 (.slice A1 l.length c1)).setCell (p := ⟨w.heap.size + 1 + 1, 0, none⟩) hg2 (.slice A2 l.length c2))
  clear D1 D2 E1 E2 hfr1 hfr3 hcc1 hcc3 ZD1 ZD2 Z1 Z2 R1 R2
  generalize (WD.setCell ⟨w.heap.size + 1, 0, none⟩ (.slice A1 l.length c1)).setCell ⟨w.heap.size + 1 + 1, 0, none⟩ (.slice A2 l.length c2) = W6 at *
  obtain ⟨_, q1, q2⟩ := Kd.R_reads' S1.out
  obtain ⟨_, q3, q4⟩ := Kd.R_reads' S2.out
  have q2' := q2
  rw [List.length_map] at q2'
  have q4' := q4
  rw [List.length_map] at q4'
  go_wp2
  refine bodyPost_ret (results19 _ _ _ _ _ _ rfl rfl F1.out F2.out) rfl ⟨A1, c1, A2, c2, rfl, q1, q3, q2', q4', B2.out⟩
end Go.Proofs.Ytelheeekbihfcaa.Pt
end
section
/- The law's lives: it is true. -/
set_option linter.unusedVariables false
set_option linter.unusedSimpArgs false
namespace Go.Proofs.Ytelheeekbihfcaa.Pt
open Go.RowKit Go.Proofs Go.Proofs.Ytelheeekbihfcaa.PPatternFirst Go.Proofs.YtelheeekbihfcaaW.PrintWords Go.Proofs.YtelheeekbihfcaaW.PrintMore Go.Proofs.YtelheeekbihfcaaW.PrintLast
theorem blk_add {w : World} {g t : Nat} {cs : Array Value} (hg : w.heap[g]? = some (.cells cs t (0, 0))) (k : Nat) : w.cell? ((⟨g, 0, none⟩ : Addr).add k) = cs[k]? := by
  have h := blk_cell hg k
  by_cases h0 : k = 0
  · subst h0
    simpa [Addr.add] using h
  · simpa [Addr.add, h0] using h
/-- A row that fills a block. -/
theorem C_blk {α : Type} {d : Kd α} {w : World} {g t n : Nat} {cs : List Value} {xs : List α} (hg : w.heap[g]? = some (.cells cs.toArray t (0, 0))) (hR : Reps (fun x cs => d.K w x cs) d.sz xs cs) (hn : xs.length = n) (hb : n ≤ 1000000) : d.C w (some ⟨g, 0, none⟩) n xs := by
  refine ⟨hn, by omega, fun _ => ⟨⟨g, 0, none⟩, rfl, fun j p hj => ⟨(cs.drop (j * d.sz)).take d.sz, ?_, hR.2 j p hj, fun i u hi => ?_⟩⟩⟩
  · exact d.K_len (hR.2 j p hj)
  · rw [blk_add hg]
    have hi1 : i < d.sz := by
      have := (List.getElem?_eq_some_iff.1 hi).1
      rw [List.length_take] at this
      omega
    rw [List.getElem?_take_of_lt hi1, List.getElem?_drop] at hi
    simpa using hi
theorem ints_cell {w : World} {A : Option Addr} {n : Nat} {xs : List Int} {x : Int} (h : (Kd.int .i64).C w A n (x :: xs)) : ∃ ad, A = some ad ∧ w.cell? ad = some (.int .i64 x) := by
  obtain ⟨h1, _, h3⟩ := h
  obtain ⟨ad, rfl, h4⟩ := h3 (by rw [← h1]; simp)
  obtain ⟨cs, hl, hK, hc⟩ := h4 0 x rfl
  obtain rfl : cs = [.int .i64 x] := hK
  exact ⟨ad, rfl, by simpa [Addr.add] using hc 0 _ rfl⟩
theorem strs_cell {w : World} {A : Option Addr} {n : Nat} {xs : List ByteArray} {x : ByteArray} (h : Kd.string.C w A n (x :: xs)) : ∃ ad, A = some ad ∧ w.cell? ad = some (.string x) := by
  obtain ⟨h1, _, h3⟩ := h
  obtain ⟨ad, rfl, h4⟩ := h3 (by rw [← h1]; simp)
  obtain ⟨cs, hl, hK, hc⟩ := h4 0 x rfl
  obtain rfl : cs = [.string x] := hK
  exact ⟨ad, rfl, by simpa [Addr.add] using hc 0 _ rfl⟩
def exA : S53 := ⟨3, 0, 0, ⟨#[97]⟩, []⟩
def exX : S53 := ⟨4, 0, 0, ⟨#[120]⟩, []⟩
def exI : S53 := ⟨2, 0, 3, ⟨#[]⟩, []⟩
theorem exTests : testsP [⟨#[97]⟩] ⟨5, 0, 0, ⟨#[]⟩, [exA, exX, exI]⟩ [] = [⟨[], 5, 3⟩, ⟨[0], 3, 0⟩, ⟨[2], 2, 3⟩] := by
  simp [testsP, testsL, ownT, exA, exX, exI, lastOf]
theorem exVars : varsP ⟨5, 0, 0, ⟨#[]⟩, [exA, exX, exI]⟩ [] = [(⟨#[120]⟩, [1])] := by
  simp [varsP, varsL, ownV, exA, exX, exI]
theorem exNodes : nodesP ⟨5, 0, 0, ⟨#[]⟩, [exA, exX, exI]⟩ ≤ 1000000 := by
  simp [nodesP, nodesL, exA, exX, exI]
theorem exReps (w : World) : Reps (fun x cs => k53.K w x cs) 5 [exA, exX, exI] [.int .i64 3, .int .i64 0, .int .i64 0, .string ⟨#[97]⟩, .slice none 0 0, .int .i64 4, .int .i64 0, .int .i64 0, .string ⟨#[120]⟩, .slice none 0 0, .int .i64 2, .int .i64 0, .int .i64 3, .string ⟨#[]⟩, .slice none 0 0] :=
  Reps.c5 (k53_mk w exA (Nat.le_refl 0) (Kd.C_nil _ _)) (Reps.c5 (k53_mk w exX (Nat.le_refl 0) (Kd.C_nil _ _)) (Reps.c5 (k53_mk w exI (Nat.le_refl 0) (Kd.C_nil _ _)) (Reps.none _ _)))
set_option maxRecDepth 100000 in
set_option maxHeartbeats 8000000 in
theorem lives_true (w : World) : Calls Try.prog 7 #[] w fun e w' => e = .returned (.bool true) ∧ Below w.heap.size w w' := by
  go_enter Try.func7, Try.ntmps7
  go_upto_region 2 with fail
  have X1 := blk_alloc (blk_new w (.cells #[.int .i64 3, .int .i64 0, .int .i64 0, .string ⟨#[97]⟩, .slice none 0 0, .int .i64 4, .int .i64 0, .int .i64 0, .string ⟨#[120]⟩, .slice none 0 0, .int .i64 2, .int .i64 0, .int .i64 3, .string ⟨#[]⟩, .slice none 0 0] 53)) (.cells #[.int .i64 5, .int .i64 0, .int .i64 0, .string ⟨#[]⟩, .slice (some ⟨w.heap.size, 0, none⟩) 3 3] 53)
  have X2 := blk_new (w.alloc (.cells #[.int .i64 3, .int .i64 0, .int .i64 0, .string ⟨#[97]⟩, .slice none 0 0, .int .i64 4, .int .i64 0, .int .i64 0, .string ⟨#[120]⟩, .slice none 0 0, .int .i64 2, .int .i64 0, .int .i64 3, .string ⟨#[]⟩, .slice none 0 0] 53)) (.cells #[.int .i64 5, .int .i64 0, .int .i64 0, .string ⟨#[]⟩, .slice (some ⟨w.heap.size, 0, none⟩) 3 3] 53)
  have s1 : (w.alloc (.cells #[.int .i64 3, .int .i64 0, .int .i64 0, .string ⟨#[97]⟩, .slice none 0 0, .int .i64 4, .int .i64 0, .int .i64 0, .string ⟨#[120]⟩, .slice none 0 0, .int .i64 2, .int .i64 0, .int .i64 3, .string ⟨#[]⟩, .slice none 0 0] 53)).heap.size = w.heap.size + 1 := by simp
  rw [s1] at X2
  have B1 := Lib.hid (below_alloc (below_alloc (Below.refl _ w) (.cells #[.int .i64 3, .int .i64 0, .int .i64 0, .string ⟨#[97]⟩, .slice none 0 0, .int .i64 4, .int .i64 0, .int .i64 0, .string ⟨#[120]⟩, .slice none 0 0, .int .i64 2, .int .i64 0, .int .i64 3, .string ⟨#[]⟩, .slice none 0 0] 53)) (.cells #[.int .i64 5, .int .i64 0, .int .i64 0, .string ⟨#[]⟩, .slice (some ⟨w.heap.size, 0, none⟩) 3 3] 53))
  clear s1
  generalize ((w.alloc (.cells #[.int .i64 3, .int .i64 0, .int .i64 0, .string ⟨#[97]⟩, .slice none 0 0, .int .i64 4, .int .i64 0, .int .i64 0, .string ⟨#[120]⟩, .slice none 0 0, .int .i64 2, .int .i64 0, .int .i64 3, .string ⟨#[]⟩, .slice none 0 0] 53)).alloc (.cells #[.int .i64 5, .int .i64 0, .int .i64 0, .string ⟨#[]⟩, .slice (some ⟨w.heap.size, 0, none⟩) 3 3] 53)) = W1 at *
  have HC := Lib.hid (C_blk (d := k53) X1 (exReps W1) rfl (by decide))
  have XB := Lib.hid X2
  have y0 := blk_cell X2 0
  have y1 := blk_cell X2 1
  have y2 := blk_cell X2 2
  have y3 := blk_cell X2 3
  have y4 := blk_cell X2 4
  clear X1 X2
  have XA := blk_new W1 (.cells #[.string ⟨#[97]⟩] 9)
  have hal := below_alloc (Below.refl _ W1) (.cells #[.string ⟨#[97]⟩] 9)
  have HCA := Lib.hid (C_blk (d := Kd.string) (cs := [.string ⟨#[97]⟩]) (xs := [(⟨#[97]⟩ : ByteArray)]) XA (Reps.one (p := (⟨#[97]⟩ : ByteArray)) rfl (Reps.none _ _)) rfl (by decide))
  have HC2 := Lib.hid (Kd.C_below HC.out hal)
  have B2 := Lib.hid (below_step B1.out hal)
  have XB2 := Lib.hid (blk_below XB.out hal)
  clear XA hal HC B1 XB
  go_upto_region 3 with (go_at_call 14; refine (tests_call [⟨#[97]⟩] _ 1 5 0 0 ⟨#[]⟩ [exA, exX, exI] _ 3 _ HCA.out (Nat.le_refl 1) (by decide) HC2.out (Nat.le_refl 3) exNodes).mono ?_; rintro e W2 ⟨v2, rfl, hr, hb⟩; rw [exTests] at hr; obtain ⟨At, ct, rfl⟩ := Kd.R_slice hr; have HR := Lib.hid hr; have B3 := Lib.hid (below_step B2.out hb); have HC3 := Lib.hid (Kd.C_below HC2.out hb); have XB3 := Lib.hid (blk_below XB2.out hb); clear hr hb)
  have z0 := blk_cell XB3.out 0
  have z1 := blk_cell XB3.out 1
  have z2 := blk_cell XB3.out 2
  have z3 := blk_cell XB3.out 3
  have z4 := blk_cell XB3.out 4
  clear y0 y1 y2 y3 y4
  go_upto_region 4 with (go_at_call 19; refine (vars_call 5 0 0 ⟨#[]⟩ [exA, exX, exI] _ 3 _ HC3.out (Nat.le_refl 3) exNodes _ exVars).mono ?_; rintro e W4 ⟨A1, c1, A2, c2, rfl, hl1, hl2, hC1, hC2, hb⟩; have HR4 := Lib.hid (Kd.R_below HR.out hb); have B4 := Lib.hid (below_step B3.out hb); have H1 := Lib.hid hC1; have H2 := Lib.hid hC2; clear hC1 hC2 hb)
  clear z0 z1 z2 z3 z4
  obtain ⟨_, hq, hCt⟩ := Kd.R_reads' HR4.out
  obtain ⟨ad, A0, c0, rfl, t0, t1, t2, _, _⟩ := at_T39 hCt 0 (by decide) (by decide)
  obtain ⟨ad', A3, c3, he, u0, u1, u2, hc3, hC3⟩ := at_T39 hCt 2 (by decide) (by decide)
  obtain ⟨ad3, rfl, p0⟩ := ints_cell (show (Kd.int .i64).C W4 A3 1 [2] from hC3)
  obtain ⟨ad4, rfl, n0⟩ := strs_cell (show Kd.string.C W4 A1 1 [⟨#[120]⟩] from H1.out)
  obtain ⟨ad5, A6, c6, rfl, q0, hc6, hC6⟩ := at_L5 H2.out 0 (by decide) (by decide)
  obtain ⟨ad6, rfl, r0⟩ := ints_cell (show (Kd.int .i64).C W4 A6 1 [1] from hC6)
  injection he with he
  subst he
  have t2' : W4.cell? ⟨ad.block, ad.off + 2, none⟩ = some (.int .i64 3) := by have h := t2; rw [show (ad.add ((0 : Int).toNat * 3)) = ad from by simp [Addr.add]] at h; exact h
  have u0' : W4.cell? ⟨ad.block, ad.off + 6, none⟩ = some (.slice (some ad3) 1 c3) := by have h := u0; rw [show (ad.add ((2 : Int).toNat * 3)) = ⟨ad.block, ad.off + 6, none⟩ from by simp [Addr.add]] at h; exact h
  have q0' : W4.cell? ad5 = some (.slice (some ad6) 1 c6) := by have h := q0; rw [show (ad5.add ((0 : Int).toNat)) = ad5 from by simp [Addr.add]] at h; exact h
  clear t0 t1 t2 u0 u1 u2 q0
  go_wp2
  go_ret
  exact ⟨rfl, B4.out⟩
end Go.Proofs.Ytelheeekbihfcaa.Pt
end
