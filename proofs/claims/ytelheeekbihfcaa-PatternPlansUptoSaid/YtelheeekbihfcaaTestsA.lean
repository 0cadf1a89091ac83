/- Longer; Out; AtC; GoC; GoW; Tests -/
import Derived.Test.YtelheeekbihfcaaPPatternFirstx4
import Derived.Lib.Hide
import Derived.Laws.EntriesVeiled
section
/- The pattern's longer: a path with one more step. -/
set_option linter.unusedVariables false
set_option linter.unusedSimpArgs false
namespace Go.Proofs.Ytelheeekbihfcaa.Pt
open Go.RowKit Go.Proofs Go.Proofs.Ytelheeekbihfcaa.PPatternFirst Go.Proofs.YtelheeekbihfcaaW.PrintWords Go.Proofs.YtelheeekbihfcaaW.PrintMore
theorem w_small (x : Int) (h0 : 0 ≤ x) (h1 : x ≤ 1000000000) : wrap64 x = x := by unfold wrap64; omega
theorem info3' : (Try.prog.info? 3).map (fun i => (i.zero, i.size, i.bytes)) = some (some (.int .i64 0), 1, 8) := by kernel_rfl
theorem size3' : (Try.prog.info? 3).map (·.size) = some 1 := by kernel_rfl
set_option maxRecDepth 100000 in
set_option maxHeartbeats 4000000 in
theorem longer_call (A : Option Addr) (c : Nat) (l : List Int) (i : Int) (w : World) (hr : Kd.C (Kd.int .i64) w A l.length l) (hc : l.length ≤ c) (hl : l.length ≤ 1000000) :
    Calls Try.prog 35 #[.slice A l.length c, .int .i64 i] w fun e w' => ∃ v, e = .returned v ∧ Kd.R (Kd.int .i64) 3 w' w.heap.size (fun _ => True) v (l ++ [i]) ∧ Below w.heap.size w w' := by
  have HR := Lib.hid hr
  have B0 := Lib.hid (Below.refl w.heap.size w)
  have hw : wrap64 ((l.length : Int) + 1) = (l.length : Int) + 1 := w_small _ (by omega) (by omega)
  clear hr
  go_enter Try.func35, Try.ntmps35
  go_upto_region 2 with (refine Kd.R_make (Kd.int .i64) (w0 := w) w.heap.size 3 (by rfl) (by rfl) 31 _ _ rfl ((l.length : Int) + 1) (by go_simp) (by go_simp) Try.underlying31 (.int .i64 0) 8 info3' rfl (by decide) (by decide) 0 (ok := fun _ => True) (okp := fun _ => False) rfl (fun _ h => h.elim) trivial (by omega) (by omega) B0.out (Nat.le_refl _) ?_; intro v1 w1 hr1 hb1 hg1 hat1; have HR1 := Lib.hid hr1; have B1 := Lib.hid hb1; clear hr1 hb1 hg1 hat1)
  have hrep : List.replicate ((l.length : Int) + 1).toNat (0 : Int) = List.replicate (l.length + 1) 0 := by rw [show ((l.length : Int) + 1).toNat = l.length + 1 by omega]
  rw [hrep] at HR1
  obtain ⟨g, cap, hv1, hgb, hgl, cells, hgc⟩ := Kd.R_form HR1.out (by simp)
  subst hv1
  rw [List.length_replicate] at HR1
  clear hgl hgc
  have hbw : w.heap.size ≤ w1.heap.size := B1.out.size
  go_upto_region 3 with (refine Kd.R_copy (0 : Int) (h1 := fun _ => rfl) (w0 := w) w.heap.size (by rfl) _ _ 31 31 3 rfl Try.underlying31 size3' (.slice (some ⟨g, 0, none⟩) (l.length + 1) cap) (List.replicate (l.length + 1) 0) l A l.length c (fun _ => True) (by go_simp) (by go_simp) HR1.out (Kd.C_below HR.out B1.out) B1.out hbw ?_; intro w2 hr2 hb2 hg2; have HR2 := Lib.hid hr2; have B2 := Lib.hid hb2; clear hr2 hb2 hg2)
  have hl0 : List.take (min l.length (List.replicate (l.length + 1) (0 : Int)).length) l ++ List.drop (min l.length (List.replicate (l.length + 1) (0 : Int)).length) (List.replicate (l.length + 1) (0 : Int)) = l ++ [0] := by
    rw [List.length_replicate, Nat.min_eq_left (by omega), List.take_length, List.drop_replicate, show l.length + 1 - l.length = 1 by omega]
    rfl
  have hR2 := HR2.out
  rw [hl0] at hR2
  have hlen1 : (l ++ [(0 : Int)]).length = l.length + 1 := by simp
  rw [← hlen1] at hR2
  obtain ⟨kc, kf⟩ := Kd.R_cell (0 : Int) hR2 (l.length : Int) (by omega) (by rw [hlen1]; omega)
  have hput := (Kd.R_put hR2 (l.length : Int) i).1
  rw [Int.toNat_natCast] at kc kf hput
  rw [List.set_append_right _ _ (Nat.le_refl _), Nat.sub_self, List.set_cons_zero, hlen1] at hput
  have HPUT := Lib.hid hput
  have q0 : (0 : Int) ≤ (l.length : Int) := by omega
  have q1 : (l.length : Int) < (l.length : Int) + 1 := by omega
  have hgb2 := B2.out.setCell (p := ⟨g, l.length, none⟩) hgb (.int .i64 i)
  have B3 := Lib.hid hgb2
  clear hput hR2 hl0 hlen1 HR2 HR1 hrep hgb2 hw hbw B1
  go_wp2
  go_ret
  exact ⟨_, rfl, HPUT.out, B3.out⟩
end Go.Proofs.Ytelheeekbihfcaa.Pt
end
section
/- The pattern's tests: what a pattern has; the function that is called at each part. -/
set_option linter.unusedVariables false
set_option linter.unusedSimpArgs false
namespace Go.Proofs.Ytelheeekbihfcaa.Pt
open Go.RowKit Go.Proofs Go.Proofs.Ytelheeekbihfcaa.PPatternFirst Go.Proofs.YtelheeekbihfcaaW.PrintWords Go.Proofs.YtelheeekbihfcaaW.PrintMore Go.Proofs.YtelheeekbihfcaaW.PrintLast
/-- The last place of a text. -/
def lastOf : List ByteArray → ByteArray → Int
  | [], _ => -1
  | x :: r, s => if lastOf r s = -1 then (if x.toList = s.toList then 0 else -1) else lastOf r s + 1
/-- The test that a pattern has itself. -/
def ownT (at_ : List ByteArray) (p : S53) (path : List Int) : List S39 :=
  if p.f0 = 2 then [⟨path, 2, p.f2⟩] else if p.f0 = 3 then [⟨path, 3, lastOf at_ p.f3⟩] else if p.f0 = 5 then [⟨path, 5, (p.f4.length : Int)⟩] else []
mutual
/-- A pattern's tests. -/
def testsP (at_ : List ByteArray) : S53 → List Int → List S39
  | ⟨k, a, n, nm, args⟩, path => ownT at_ ⟨k, a, n, nm, args⟩ path ++ (if k = 5 then testsL at_ args path 0 else [])
def testsL (at_ : List ByteArray) : List S53 → List Int → Nat → List S39
  | [], _, _ => []
  | x :: r, path, i => testsP at_ x (path ++ [(i : Int)]) ++ testsL at_ r path (i + 1)
end
mutual
/-- How many parts. -/
def nodesP : S53 → Nat
  | ⟨_, _, _, _, args⟩ => 1 + nodesL args
def nodesL : List S53 → Nat
  | [] => 0
  | x :: r => nodesP x + nodesL r
end
/-- The box go has a row of the call's own: the tests l. -/
def OutB (base go : Nat) (W : World) (l : List S39) : Prop := ∃ v, W.heap[go]? = some (.cells #[v] 50 (0, 0)) ∧ Kd.R k39 39 W base (fun _ => True) v l
/-- What may change: the box, and rows of tests of the call's own. -/
def ST (base g : Nat) (W : World) (k : Nat) : Prop := base ≤ k ∧ (k = g ∨ ∃ cells fr, W.heap[k]? = some (.cells cells 39 fr))
structure KT (base g : Nat) (W W' : World) : Prop where
  os : W'.os = W.os
  tape : W'.tape = W.tape
  output : W'.output = W.output
  size : W.heap.size ≤ W'.heap.size
  block : ∀ k, k < W.heap.size → ¬ ST base g W k → W'.heap[k]? = W.heap[k]?
theorem KT.refl (base g : Nat) (W : World) : KT base g W W := ⟨rfl, rfl, rfl, Nat.le_refl _, fun _ _ _ => rfl⟩
theorem KT.trans {base g : Nat} {A B C : World} (h : KT base g A B) (k : KT base g B C) : KT base g A C :=
  ⟨k.os.trans h.os, k.tape.trans h.tape, k.output.trans h.output, Nat.le_trans h.size k.size, fun i hi hs => by
    have h1 := h.block i hi hs
    refine (k.block i (Nat.lt_of_lt_of_le hi h.size) (fun ⟨h2, h3⟩ => hs ⟨h2, ?_⟩)).trans h1
    rw [h1] at h3
    exact h3⟩
theorem KT.of_below {base g : Nat} {W W' : World} (h : Below W.heap.size W W') : KT base g W W' := ⟨h.os, h.tape, h.output, h.size, fun k hk _ => h.block k hk⟩
theorem KT.alloc {base g : Nat} {W W' : World} (h : KT base g W W') (o : Obj) : KT base g W (W'.alloc o) := h.trans (KT.of_below (below_alloc (Below.refl _ _) o))
theorem KT.drew {base g : Nat} {W W' : World} (h : KT base g W W') : KT base g W W'.drew := ⟨h.os, h.tape, h.output, h.size, h.block⟩
theorem KT.grown {base g n : Nat} {W W1 : World} {v : Value} {xs : List Value} (hg : W.grownBy W1 v.ownBlock) (ho : W.ownsRow base 39 3 v n xs) : KT base g W W1 :=
  ⟨hg.os, hg.tape, hg.output, hg.size, fun k hk hs => hg.block k hk (fun e => by
    obtain ⟨cells, hc⟩ := own_typed ho k e.symm
    exact hs ⟨own_base ho k e.symm, Or.inr ⟨cells, _, hc⟩⟩)⟩
theorem KT.set {base g : Nat} (W : World) (hb : base ≤ g) (j : Nat) (v : Value) : KT base g W (W.setCell ⟨g, j, none⟩ v) :=
  ⟨rfl, rfl, rfl, by simp, fun k _ hs => Below.heap_setCell W ⟨g, j, none⟩ v k (fun e => hs ⟨by rw [e]; exact hb, Or.inl e⟩)⟩
theorem KT.below {base g : Nat} {W W' : World} (h : KT base g W W') (hb : base ≤ W.heap.size) : Below base W W' :=
  ⟨h.os, h.tape, h.output, h.size, fun k hk => h.block k (by omega) (fun e => by have := e.1; omega)⟩
/-- A block of another type stays. -/
theorem KT.blk {base g t : Nat} {W W' : World} {cs : Array Value} (h : KT base g W W') {b : Nat} (hb : W.heap[b]? = some (.cells cs t (0, 0))) (ht : t ≠ 39) (hg : b ≠ g) : W'.heap[b]? = some (.cells cs t (0, 0)) :=
  (h.block b (blk_lt hb) (fun ⟨_, e⟩ => by
    rcases e with e | ⟨cells, fr, e⟩
    · exact hg e
    · rw [hb] at e
      injection e with e
      injection e with _ e
      exact ht e)).trans hb
theorem OutB.lt {base g : Nat} {W : World} {l : List S39} (h : OutB base g W l) : g < W.heap.size := by obtain ⟨v, h1, _⟩ := h; exact blk_lt h1
theorem OutB.below {base g : Nat} {W W' : World} {l : List S39} (h : OutB base g W l) (hb : Below W.heap.size W W') : OutB base g W' l := by
  obtain ⟨v, h1, h2⟩ := h
  exact ⟨v, blk_below h1 hb, Kd.R_below h2 hb⟩
/-- Behind an append and its store. -/
theorem OutB.store {base g : Nat} {W W1 : World} {v v1 : Value} {l l1 : List S39} (hg0 : W.heap[g]? = some (.cells #[v] 50 (0, 0))) (hv : Kd.R k39 39 W base (fun _ => True) v l) (hg : W.grownBy W1 v.ownBlock)
    (ho : Kd.R k39 39 W1 base (fun _ => True) v1 l1) : OutB base g (W1.setCell ⟨g, 0, none⟩ v1) l1 := by
  have hne : some g ≠ v.ownBlock := Kd.R_ne hv hg0 (by decide)
  have h1 := blk_grown hg0 hg hne
  exact ⟨v1, by have := blk_set h1 0 v1; simpa using this, Kd.R_set ho h1 (by decide) 0 v1⟩
theorem KT.store {base g : Nat} {W W1 : World} {v v1 : Value} {l : List S39} (hb : base ≤ g) (hv : Kd.R k39 39 W base (fun _ => True) v l) (hg : W.grownBy W1 v.ownBlock) : KT base g W (W1.setCell ⟨g, 0, none⟩ v1) := by
  obtain ⟨inner, ho⟩ := Kd.R_own hv
  exact (KT.grown hg ho).trans (KT.set W1 hb 0 v1)
theorem info39' : (Try.prog.info? 39).map (fun i => (i.zero, i.size, i.bytes)) = some (some (.agg #[.slice none 0 0, .int .i64 0, .int .i64 0]), 3, 40) := by kernel_rfl
/-- A path beside a row of tests. -/
theorem path_ok {W : World} {base b' : Nat} {vp v : Value} {path : List Int} {l : List S39} (hp : Kd.R (Kd.int .i64) 3 W b' (fun _ => True) vp path) (hb : base ≤ b') (hv : Kd.R k39 39 W base (fun _ => True) v l) :
    Kd.R (Kd.int .i64) 3 W base (fun k => some k ≠ v.ownBlock) vp path := by
  refine Kd.R_lower (Kd.R_of_own (h1 := fun _ => rfl) (Kd.own_of_R (h1 := fun _ => rfl) hp) (fun k hk he => ?_)) hb
  obtain ⟨c1, e1⟩ := own_typed (Kd.own_of_R (h1 := fun _ => rfl) hp) k hk
  obtain ⟨inner, ho⟩ := Kd.R_own hv
  obtain ⟨c2, e2⟩ := own_typed ho k he.symm
  rw [e1] at e2
  injection e2 with e2
  injection e2 with _ e2
  exact absurd e2 (by decide)
end Go.Proofs.Ytelheeekbihfcaa.Pt
end
section
/- The pattern's tests: the function that is called at each part. -/
set_option linter.unusedVariables false
set_option linter.unusedSimpArgs false
namespace Go.Proofs.Ytelheeekbihfcaa.Pt
open Go.RowKit Go.Proofs Go.Proofs.Ytelheeekbihfcaa.PPatternFirst Go.Proofs.YtelheeekbihfcaaW.PrintWords Go.Proofs.YtelheeekbihfcaaW.PrintMore Go.Proofs.YtelheeekbihfcaaW.PrintLast
theorem lastOf_ge : ∀ (l : List ByteArray) (s : ByteArray), -1 ≤ lastOf l s
  | [], _ => by simp [lastOf]
  | x :: r, s => by
    have := lastOf_ge r s
    unfold lastOf
    split
    · split <;> omega
    · omega
theorem lastOf_snoc : ∀ (l : List ByteArray) (x s : ByteArray), lastOf (l ++ [x]) s = if x.toList = s.toList then (l.length : Int) else lastOf l s
  | [], x, s => by simp [lastOf]
  | y :: l, x, s => by
    have ih := lastOf_snoc l x s
    have hg := lastOf_ge l s
    rw [List.cons_append, lastOf, ih]
    by_cases h : x.toList = s.toList
    · simp only [if_pos h]
      rw [if_neg (by omega), List.length_cons]
      omega
    · simp only [if_neg h]
      rw [lastOf]
theorem place_go (l : List ByteArray) (s : ByteArray) (hl : l.length ≤ 1000000) : ∀ i : Nat, i ≤ l.length → pattern_place.l0 (i + 1) l s ((i : Int) - 1) = some (lastOf (l.take i) s)
  | 0, _ => by
    rw [pattern_place.l0, if_neg (by omega)]
    rfl
  | i + 1, hi => by
    have h1 := place_go l s hl i (by omega)
    have hlt : i < l.length := hi
    have e1 : ((i + 1 : Nat) : Int) - 1 = (i : Int) := by omega
    have e2 : wrap64 ((i : Int) - 1) = (i : Int) - 1 := by clear h1 e1; unfold wrap64; omega
    have e3 : rdOf ByteArray.empty l (i : Int) = l[i] := by
      unfold rdOf
      rw [Int.toNat_natCast, List.getD_eq_getElem?_getD, List.getElem?_eq_getElem hlt]
      rfl
    rw [pattern_place.l0, e1, if_pos (by omega), if_pos (by omega), if_pos (by omega), e3, List.take_succ_eq_append_getElem hlt, lastOf_snoc]
    by_cases h : l[i].toList = s.toList
    · rw [if_pos h, if_pos h, List.length_take, Nat.min_eq_left (by omega)]
    · rw [if_neg h, if_neg h, e2]
      exact h1
theorem place_f (l : List ByteArray) (s : ByteArray) (hl : l.length ≤ 1000000) : pattern_place.f (l.length + 1) l s = some (lastOf l s) := by
  have h := place_go l s hl l.length (Nat.le_refl _)
  rw [List.take_length] at h
  unfold pattern_place.f
  rw [show wrap64 ((l.length : Int) - 1) = (l.length : Int) - 1 by clear h; unfold wrap64; omega]
  exact h
set_option maxRecDepth 100000 in
set_option maxHeartbeats 8000000 in
theorem at_call (base go ga b' : Nat) (f0 f1 f2 : Int) (f3 : ByteArray) (args : List S53) (A4 : Option Addr) (c4 : Nat) (vp : Value) (path : List Int) (l : List S39) (at_ : List ByteArray) (Aa : Option Addr) (ca : Nat) (W : World)
    (hO : OutB base go W l) (hbase : base ≤ W.heap.size) (hgo : base ≤ go) (hga : W.heap[ga]? = some (.cells #[.slice Aa at_.length ca] 23 (0, 0))) (hCa : Kd.C Kd.string W Aa at_.length at_) (hca : at_.length ≤ ca) (hal : at_.length ≤ 1000000)
    (hp : Kd.R (Kd.int .i64) 3 W b' (fun _ => True) vp path) (hb : base ≤ b') (hl : l.length ≤ 1000000) :
    Calls Try.prog 26 #[.agg #[.int .i64 f0, .int .i64 f1, .int .i64 f2, .string f3, .slice A4 args.length c4], vp, .pointer (some ⟨go, 0, none⟩), .pointer (some ⟨ga, 0, none⟩)] W fun e W' => e = .returned (.tuple #[]) ∧ OutB base go W' (l ++ ownT at_ ⟨f0, f1, f2, f3, args⟩ path) ∧ KT base go W W' := by
  obtain ⟨v, hg, hr⟩ := hO
  obtain ⟨Ap, cp, rfl⟩ := Kd.R_slice hp
  have HPO := Lib.hid (path_ok hp hb hr)
  have hgne : go < W.heap.size := blk_lt hg
  have HR := Lib.hid hr
  have HG := Lib.hid hg
  have HGA := Lib.hid hga
  have HCA := Lib.hid hCa
  obtain ⟨Av, cv, rfl⟩ := Kd.R_slice hr
  clear hga hCa hp
  go_enter Try.func26, Try.ntmps26
  go_upto_region 1 with fail
  have X := blk_new W (.cells #[.int .i64 f0, .int .i64 f1, .int .i64 f2, .string f3, .slice A4 args.length c4] 53)
  have k0 := blk_cell X 0
  have k2 := blk_cell X 2
  have k3 := blk_cell X 3
  have k4 := blk_cell X 4
  have KA := Lib.hid (KT.alloc (KT.refl base go W) (.cells #[.int .i64 f0, .int .i64 f1, .int .i64 f2, .string f3, .slice A4 args.length c4] 53))
  have RA := Lib.hid (Kd.R_alloc hr (.cells #[.int .i64 f0, .int .i64 f1, .int .i64 f2, .string f3, .slice A4 args.length c4] 53))
  have PA := Lib.hid (Kd.R_alloc HPO.out (.cells #[.int .i64 f0, .int .i64 f1, .int .i64 f2, .string f3, .slice A4 args.length c4] 53))
  have GA := Lib.hid (blk_alloc hg (.cells #[.int .i64 f0, .int .i64 f1, .int .i64 f2, .string f3, .slice A4 args.length c4] 53))
  have GGA := Lib.hid (blk_alloc HGA.out (.cells #[.int .i64 f0, .int .i64 f1, .int .i64 f2, .string f3, .slice A4 args.length c4] 53))
  have CA := Lib.hid (Kd.C_alloc HCA.out (.cells #[.int .i64 f0, .int .i64 f1, .int .i64 f2, .string f3, .slice A4 args.length c4] 53))
  have BW := Lib.hid (KA.out.below hbase)
  have hbs : base ≤ (W.alloc (.cells #[.int .i64 f0, .int .i64 f1, .int .i64 f2, .string f3, .slice A4 args.length c4] 53)).heap.size := Nat.le_trans hbase KA.out.size
  generalize W.alloc (.cells #[.int .i64 f0, .int .i64 f1, .int .i64 f2, .string f3, .slice A4 args.length c4] 53) = WA at *
  generalize W.heap.size = gb at *
  have kg := blk_cell GA.out 0
  have ka := blk_cell GGA.out 0
  have XB0 := Lib.hid X
  clear X hr hg HR HG
  by_cases e2 : f0 = 2
  · subst e2
    go_wp2_with ((with_reducible refine gate_builtin (b := .append) (xs := #[.tmp 10, .tmp 17]) rfl ?_); at_builtin; refine Kd.R_append k39 (w0 := W) base (by rfl) (.tmp 10) (.tmp 17) 50 39 (.agg #[.slice none 0 0, .int .i64 0, .int .i64 0]) 40 rfl Try.underlying50 info39' rfl (by decide) (by decide) (.slice Av l.length cv) l (⟨path, 2, f2⟩ : S39) [.slice Ap path.length cp, .int .i64 2, .int .i64 f2] (fun _ => True) (fun k => some k ≠ (Value.slice Av l.length cv).ownBlock) (by go_simp) (by rfl) (k39_mkM _ _ _ (⟨path, 2, f2⟩ : S39) PA.out) (fun _ hk => ⟨trivial, hk⟩) (fun _ _ => trivial) RA.out BW.out hbs (by omega) ?_; intro v1 w1 hr1 hb1 hg1 hat1; obtain ⟨A1, c1, rfl⟩ := Kd.R_slice hr1; rw [List.length_append, List.length_singleton] at hr1; have HR1 := Lib.hid hr1; have X1 := Lib.hid (blk_grown GA.out hg1 (Kd.R_ne RA.out GA.out (by decide))); have HG1 := Lib.hid hg1; have kx := blk_cell X1.out 0; have kf := blk_frozen X1.out 0; clear hr1 hb1 hg1 hat1 kg)
    go_end0
    rw [show ownT at_ ⟨2, f1, f2, f3, args⟩ path = [⟨path, 2, f2⟩] from rfl]
    exact ⟨rfl, OutB.store GA.out RA.out HG1.out HR1.out, KA.out.trans (KT.store hgo RA.out HG1.out)⟩
  · have e2' : (f0 == 2) = false := by simpa using e2
    by_cases e3 : f0 = 3
    · subst e3
      go_upto_region 5 with fail
      have GD := Lib.hid (blk_drew GA.out)
      have XD := Lib.hid (blk_drew XB0.out)
      have AD := Lib.hid (blk_drew GGA.out)
      have RD := Lib.hid (Kd.R_drew RA.out)
      have PD := Lib.hid (Kd.R_drew PA.out)
      have CD := Lib.hid (Kd.C_drew CA.out)
      have BD := Lib.hid (below_drew1 BW.out)
      have KD := Lib.hid KA.out.drew
      have hbsE : base ≤ WA.drew.heap.size := hbs
      refine start_ (n := 12) (S := fun w' => w'.cell? ⟨go, 0, none⟩ = some (.slice Av l.length cv) ∧ w'.cell? ⟨gb, 0, none⟩ = some (.int .i64 3) ∧ w'.cell? ⟨gb, 3, none⟩ = some (.string f3) ∧ w'.cell? ⟨ga, 0, none⟩ = some (.slice Aa at_.length ca)) (ds := [11]) #[false, false, false, false, false, false, false, false, false, false, false, false] (by kernel_rfl) rfl rfl ⟨blk_cell (GD.out) 0, blk_cell (XD.out) 0, blk_cell (XD.out) 3, blk_cell (AD.out) 0⟩ (fun hHeld => ?_)
      refine pure_ (i := 1) (N := some 22) (v := ?_) (a' := ?_) #[false, true, false, false, false, false, false, false, false, false, false, false] rfl rfl (by kernel_rfl) (fun _ _ _ h => h) (Or.inl ⟨by rfl, ?_⟩) ?_ ?_
      rotate_left
      · intro w'
        go_simp
        with_reducible rfl
      rotate_left
      · simp only [Act.put, List.setIfInBounds_toArray, List.set_cons_zero, List.set_cons_succ, i64_w, i32_w]
        rfl
      refine pure_ (i := 2) (N := some 23) (v := ?_) (a' := ?_) #[false, true, true, false, false, false, false, false, false, false, false, false] rfl rfl (by kernel_rfl) (fun _ _ _ h => h) (Or.inl ⟨by rfl, ?_⟩) ?_ ?_
      rotate_left
      · intro w'
        go_simp
        with_reducible rfl
      rotate_left
      · simp only [Act.put, List.setIfInBounds_toArray, List.set_cons_zero, List.set_cons_succ, i64_w, i32_w]
        rfl
      refine pure_ (i := 5) (N := some 26) (v := ?_) (a' := ?_) #[false, true, true, false, false, true, false, false, false, false, false, false] rfl rfl (by kernel_rfl) (fun _ _ _ h => h) (Or.inl ⟨by rfl, ?_⟩) ?_ ?_
      rotate_left
      · intro w'
        go_simp
        with_reducible rfl
      rotate_left
      · simp only [Act.put, List.setIfInBounds_toArray, List.set_cons_zero, List.set_cons_succ, i64_w, i32_w]
        rfl
      refine take_ (i := 0) (N := some 21) (v := ?_) (a' := ?_) #[true, true, true, false, false, true, false, false, false, false, false, false] rfl rfl (by kernel_rfl) (fun _ _ _ h => h) (Or.inl ⟨by rfl, ?_⟩) hHeld ?_ ?_
      rotate_left
      · rintro w' ⟨s0, s1, s2, s3⟩
        go_simp
        with_reducible rfl
      rotate_left
      · simp only [Act.put, List.setIfInBounds_toArray, List.set_cons_zero, List.set_cons_succ, i64_w, i32_w]
        rfl
      refine take_ (i := 3) (N := some 24) (v := ?_) (a' := ?_) #[true, true, true, true, false, true, false, false, false, false, false, false] rfl rfl (by kernel_rfl) (fun _ _ _ h => h) (Or.inl ⟨by rfl, ?_⟩) hHeld ?_ ?_
      rotate_left
      · rintro w' ⟨s0, s1, s2, s3⟩
        go_simp
        with_reducible rfl
      rotate_left
      · simp only [Act.put, List.setIfInBounds_toArray, List.set_cons_zero, List.set_cons_succ, i64_w, i32_w]
        rfl
      refine take_ (i := 4) (N := some 25) (v := ?_) (a' := ?_) #[true, true, true, true, true, true, false, false, false, false, false, false] rfl rfl (by kernel_rfl) (fun _ _ _ h => h) (Or.inl ⟨by rfl, ?_⟩) hHeld ?_ ?_
      rotate_left
      · rintro w' ⟨s0, s1, s2, s3⟩
        go_simp
        with_reducible rfl
      rotate_left
      · simp only [Act.put, List.setIfInBounds_toArray, List.set_cons_zero, List.set_cons_succ, i64_w, i32_w]
        rfl
      refine take_ (i := 6) (N := some 27) (v := ?_) (a' := ?_) #[true, true, true, true, true, true, true, false, false, false, false, false] rfl rfl (by kernel_rfl) (fun _ _ _ h => h) (Or.inl ⟨by rfl, ?_⟩) hHeld ?_ ?_
      rotate_left
      · rintro w' ⟨s0, s1, s2, s3⟩
        go_simp
        with_reducible rfl
      rotate_left
      · simp only [Act.put, List.setIfInBounds_toArray, List.set_cons_zero, List.set_cons_succ, i64_w, i32_w]
        rfl
      refine one_ (i := 7) (N := some 28) #[true, true, true, true, true, true, true, true, false, false, false, false] rfl rfl (by kernel_rfl) (by decide) (fun K hK => ?_)
      refine goes_ Try.func27 (by kernel_rfl) rfl #[.slice Aa at_.length ca, .string f3] (by rfl) rfl rfl (by simp only [List.map_toArray, List.map_cons, List.map_nil]; rfl) ?_
      with_reducible refine (pattern_place.calls _ Aa ca at_ f3 (lastOf at_ f3) _ CD.out hca (place_f at_ f3 hal)).mono ?_
      rintro e w2 ⟨rfl, ⟨nd, rfl⟩⟩
      refine ⟨_, rfl, ?_⟩
      have GE := Lib.hid (blk_drewN GD.out nd)
      have XE := Lib.hid (blk_drewN XD.out nd)
      have AE := Lib.hid (blk_drewN AD.out nd)
      have RE := Lib.hid (Kd.R_drewN RD.out nd)
      have PE := Lib.hid (Kd.R_drewN PD.out nd)
      have BE := Lib.hid (pw_below_drewN BD.out nd)
      have KE := Lib.hid (KD.out.trans (KT.of_below (pw_below_drewN (Below.refl _ _) nd)))
      have hbsE2 : base ≤ (WA.drew.drewN nd).heap.size := hbsE
      generalize WA.drew.drewN nd = WE at *
      refine hK.out _ _ ⟨blk_cell (GE.out) 0, blk_cell (XE.out) 0, blk_cell (XE.out) 3, blk_cell (AE.out) 0⟩ (fun hHeld => ?_)
      clear hK K
      refine norm_ (a' := ?_) ?_ ?_
      rotate_left
      · show Act.put _ (some 28) _ = _
        simp only [Act.put, List.setIfInBounds_toArray, List.set_cons_zero, List.set_cons_succ, i64_w, i32_w]
        rfl
      refine pure_ (i := 8) (N := some 29) (v := ?_) (a' := ?_) #[true, true, true, true, true, true, true, true, true, false, false, false] rfl rfl (by kernel_rfl) (fun _ _ _ h => h) (Or.inl ⟨by rfl, ?_⟩) ?_ ?_
      rotate_left
      · intro w'
        go_simp
        with_reducible rfl
      rotate_left
      · simp only [Act.put, List.setIfInBounds_toArray, List.set_cons_zero, List.set_cons_succ, i64_w, i32_w]
        rfl
      refine one_ (i := 9) (N := some 30) #[true, true, true, true, true, true, true, true, true, true, false, false] rfl rfl (by kernel_rfl) (by decide) (fun K hK => ?_)
      refine value_ (w1 := ?_) (v := ?_) (by rfl) rfl ?_ ?_
      rotate_left 2
      · go_simp
        constructor
        · rfl
        · rfl
      refine hK.out _ _ ⟨blk_cell (blk_alloc GE.out _) 0, blk_cell (blk_alloc XE.out _) 0, blk_cell (blk_alloc XE.out _) 3, blk_cell (blk_alloc AE.out _) 0⟩ (fun hHeld => ?_)
      clear hK K
      refine norm_ (a' := ?_) ?_ ?_
      rotate_left
      · show Act.put _ (some 30) _ = _
        simp only [Act.put, List.setIfInBounds_toArray, List.set_cons_zero, List.set_cons_succ, i64_w, i32_w]
        rfl
      refine one_ (i := 10) (N := some 31) #[true, true, true, true, true, true, true, true, true, true, true, false] rfl rfl (by kernel_rfl) (by decide) (fun K hK => ?_)
      refine Kd.R_append_step k39 (w0 := W) base (by rfl) (.tmp 21) (.tmp 30) 50 39 (.agg #[.slice none 0 0, .int .i64 0, .int .i64 0]) 40 rfl Try.underlying50 info39' rfl (by decide) (by decide) (.slice Av l.length cv) l (⟨path, 3, lastOf at_ f3⟩ : S39) [.slice Ap path.length cp, .int .i64 3, .int .i64 (lastOf at_ f3)] (fun _ => True) (fun k => some k ≠ (Value.slice Av l.length cv).ownBlock) (by go_simp) (by rfl) (k39_mkM _ _ _ (⟨path, 3, lastOf at_ f3⟩ : S39) PE.out) (fun _ hk => ⟨trivial, hk⟩) (fun _ _ => trivial) RE.out BE.out hbsE2 (by omega) ?_
      intro v1 w1 hr1 hb1 hg1 hat1
      obtain ⟨A1, c1, rfl⟩ := Kd.R_slice hr1
      rw [List.length_append, List.length_singleton] at hr1
      have HR1 := Lib.hid hr1
      have HG1 := Lib.hid hg1
      have X1 := Lib.hid (blk_grown GE.out hg1 (Kd.R_ne RE.out GE.out (by decide)))
      have XB := Lib.hid (blk_grown XE.out hg1 (Kd.R_ne RE.out XE.out (by decide)))
      have XA := Lib.hid (blk_grown AE.out hg1 (Kd.R_ne RE.out AE.out (by decide)))
      have kx := blk_cell X1.out 0
      have kf := blk_frozen X1.out 0
      refine hK.out _ _ ⟨blk_cell (X1.out) 0, blk_cell (XB.out) 0, blk_cell (XB.out) 3, blk_cell (XA.out) 0⟩ (fun hHeld => ?_)
      clear hK K
      refine norm_ (a' := ?_) ?_ ?_
      rotate_left
      · show Act.put _ (some 31) _ = _
        simp only [Act.put, List.setIfInBounds_toArray, List.set_cons_zero, List.set_cons_succ, i64_w, i32_w]
        rfl
      refine last_ (i := 11) (N := none) #[true, true, true, true, true, true, true, true, true, true, true, true] rfl rfl (by kernel_rfl) (by decide) (fun K hK => ?_)
      refine skip_ (w1 := ?_) (by rfl) rfl ?_ ?_
      rotate_left
      · go_simp
        rfl
      refine hK.out _ _ ?_
      clear hK K
      refine done_ (by kernel_rfl) ?_
      clear hHeld
      go_wp2
      go_end0
      rw [show ownT at_ ⟨3, f1, f2, f3, args⟩ path = [⟨path, 3, lastOf at_ f3⟩] from rfl]
      exact ⟨rfl, OutB.store GE.out RE.out HG1.out HR1.out, KE.out.trans (KT.store hgo RE.out HG1.out)⟩
    · have e3' : (f0 == 3) = false := by simpa using e3
      by_cases e5 : f0 = 5
      · subst e5
        go_wp2_with ((with_reducible refine gate_builtin (b := .append) (xs := #[.tmp 34, .tmp 42]) rfl ?_); at_builtin; refine Kd.R_append k39 (w0 := W) base (by rfl) (.tmp 34) (.tmp 42) 50 39 (.agg #[.slice none 0 0, .int .i64 0, .int .i64 0]) 40 rfl Try.underlying50 info39' rfl (by decide) (by decide) (.slice Av l.length cv) l (⟨path, 5, (args.length : Int)⟩ : S39) [.slice Ap path.length cp, .int .i64 5, .int .i64 (args.length : Int)] (fun _ => True) (fun k => some k ≠ (Value.slice Av l.length cv).ownBlock) (by go_simp) (by rfl) (k39_mkM _ _ _ (⟨path, 5, (args.length : Int)⟩ : S39) PA.out) (fun _ hk => ⟨trivial, hk⟩) (fun _ _ => trivial) RA.out BW.out hbs (by omega) ?_; intro v1 w1 hr1 hb1 hg1 hat1; obtain ⟨A1, c1, rfl⟩ := Kd.R_slice hr1; rw [List.length_append, List.length_singleton] at hr1; have HR1 := Lib.hid hr1; have X1 := Lib.hid (blk_grown GA.out hg1 (Kd.R_ne RA.out GA.out (by decide))); have HG1 := Lib.hid hg1; have kx := blk_cell X1.out 0; have kf := blk_frozen X1.out 0; clear hr1 hb1 hg1 hat1 kg)
        go_end0
        rw [show ownT at_ ⟨5, f1, f2, f3, args⟩ path = [⟨path, 5, (args.length : Int)⟩] from rfl]
        exact ⟨rfl, OutB.store GA.out RA.out HG1.out HR1.out, KA.out.trans (KT.store hgo RA.out HG1.out)⟩
      · have e5' : (f0 == 5) = false := by simpa using e5
        go_wp2
        go_end0
        rw [show ownT at_ ⟨f0, f1, f2, f3, args⟩ path = [] by simp [ownT, e2, e3, e5], List.append_nil]
        exact ⟨rfl, ⟨_, GA.out, RA.out⟩, KA.out⟩
end Go.Proofs.Ytelheeekbihfcaa.Pt
end
section
/- The pattern's walk through a pattern: each part's tests are told. -/
set_option linter.unusedVariables false
set_option linter.unusedSimpArgs false
namespace Go.Proofs.Ytelheeekbihfcaa.Pt
open Go.RowKit Go.Proofs Go.Proofs.Ytelheeekbihfcaa.PPatternFirst Go.Proofs.YtelheeekbihfcaaW.PrintWords Go.Proofs.YtelheeekbihfcaaW.PrintMore Go.Proofs.YtelheeekbihfcaaW.PrintLast
/-- What the walk's functions hold. -/
structure Boxes (go ga b2 b3 : Nat) (Aa : Option Addr) (na ca : Nat) (W : World) : Prop where
  a : W.heap[ga]? = some (.cells #[.slice Aa na ca] 23 (0, 0))
  b : W.heap[b2]? = some (.cells #[.func (.func 26) #[] #[.pointer (some ⟨go, 0, none⟩), .pointer (some ⟨ga, 0, none⟩)]] 84 (0, 0))
  c : W.heap[b3]? = some (.cells #[.func (.func 34) #[] #[.pointer (some ⟨b2, 0, none⟩), .pointer (some ⟨b3, 0, none⟩)]] 84 (0, 0))
theorem ne_blk {W : World} {g h : Nat} {cs ds : Array Value} {t u : TypeId} (hg : W.heap[g]? = some (.cells cs t (0, 0))) (hh : W.heap[h]? = some (.cells ds u (0, 0))) (hne : t ≠ u) : g ≠ h := fun e => by
  subst e
  rw [hg] at hh
  injection hh with hh
  injection hh with _ hh
  exact hne hh
theorem Boxes.keep {go ga b2 b3 : Nat} {Aa : Option Addr} {na ca base : Nat} {W W' : World} {l : List S39} (h : Boxes go ga b2 b3 Aa na ca W) (hO : OutB base go W l) (hK : KT base go W W') : Boxes go ga b2 b3 Aa na ca W' := by
  obtain ⟨v, hv, _⟩ := hO
  exact ⟨hK.blk h.a (by decide) (ne_blk h.a hv (by decide)), hK.blk h.b (by decide) (ne_blk h.b hv (by decide)), hK.blk h.c (by decide) (ne_blk h.c hv (by decide))⟩
theorem Boxes.below {go ga b2 b3 : Nat} {Aa : Option Addr} {na ca : Nat} {W W' : World} (h : Boxes go ga b2 b3 Aa na ca W) (hb : Below W.heap.size W W') : Boxes go ga b2 b3 Aa na ca W' := ⟨blk_below h.a hb, blk_below h.b hb, blk_below h.c hb⟩
/-- What is to be shown of a pattern. -/
def GoOk (W0 : World) (go ga b2 b3 : Nat) (at_ : List ByteArray) (Aa : Option Addr) (ca : Nat) (p : S53) : Prop :=
  ∀ (b' : Nat) (A4 : Option Addr) (c4 : Nat) (vp : Value) (path : List Int) (l : List S39) (W : World), OutB W0.heap.size go W l → Below W0.heap.size W0 W → Boxes go ga b2 b3 Aa at_.length ca W → Kd.C k53 W0 A4 p.f4.length p.f4 → p.f4.length ≤ c4 →
    Kd.R (Kd.int .i64) 3 W b' (fun _ => True) vp path → W0.heap.size ≤ b' → l.length + nodesP p ≤ 1000000 → path.length + nodesP p ≤ 1000000 →
    Calls Try.prog 34 #[.agg #[.int .i64 p.f0, .int .i64 p.f1, .int .i64 p.f2, .string p.f3, .slice A4 p.f4.length c4], vp, .pointer (some ⟨b2, 0, none⟩), .pointer (some ⟨b3, 0, none⟩)] W fun e W' => e = .returned (.tuple #[]) ∧ OutB W0.heap.size go W' (l ++ testsP at_ p path) ∧ KT W0.heap.size go W W'
theorem nodesL_le : ∀ (l : List S53), l.length ≤ nodesL l
  | [] => Nat.zero_le _
  | ⟨_, _, _, _, args⟩ :: r => by
    have := nodesL_le r
    simp only [nodesL, nodesP, List.length_cons]
    omega
theorem testsL_snoc (at_ : List ByteArray) : ∀ (l : List S53) (x : S53) (path : List Int) (i : Nat), testsL at_ (l ++ [x]) path i = testsL at_ l path i ++ testsP at_ x (path ++ [((i + l.length : Nat) : Int)])
  | [], x, path, i => by simp [testsL]
  | y :: l, x, path, i => by
    have ih := testsL_snoc at_ l x path (i + 1)
    rw [List.cons_append, testsL, ih, testsL, List.append_assoc, List.length_cons, show i + 1 + l.length = i + (l.length + 1) by omega]
mutual
theorem testsP_len (at_ : List ByteArray) : ∀ (p : S53) (path : List Int), (testsP at_ p path).length ≤ nodesP p
  | ⟨k, a, n, nm, args⟩, path => by
    have h := testsL_len at_ args path 0
    have h1 : (ownT at_ ⟨k, a, n, nm, args⟩ path).length ≤ 1 := by
      unfold ownT
      repeat' split
      all_goals simp
    unfold testsP nodesP
    rw [List.length_append]
    split
    · omega
    · simp; omega
theorem testsL_len (at_ : List ByteArray) : ∀ (l : List S53) (path : List Int) (i : Nat), (testsL at_ l path i).length ≤ nodesL l
  | [], _, _ => by simp [testsL, nodesL]
  | x :: r, path, i => by
    have h1 := testsP_len at_ x (path ++ [(i : Int)])
    have h2 := testsL_len at_ r path (i + 1)
    simp only [testsL, nodesL, List.length_append]
    omega
end
theorem nodesL_app : ∀ a b : List S53, nodesL (a ++ b) = nodesL a + nodesL b
  | [], b => by simp [nodesL]
  | x :: a, b => by simp [nodesL, nodesL_app a b]; omega
theorem nodesL_get {l : List S53} {i : Nat} (h : i < l.length) : nodesL (l.take i) + nodesP l[i] ≤ nodesL l := by
  have e : l = l.take i ++ (l[i] :: l.drop (i + 1)) := by rw [← List.drop_eq_getElem_cons h, List.take_append_drop]
  have h2 := congrArg nodesL e
  rw [nodesL_app, nodesL] at h2
  omega
end Go.Proofs.Ytelheeekbihfcaa.Pt
end
section
/- The pattern's walk through a pattern, walked. -/
set_option linter.unusedVariables false
set_option linter.unusedSimpArgs false
namespace Go.Proofs.Ytelheeekbihfcaa.Pt
open Go.RowKit Go.Proofs Go.Proofs.Ytelheeekbihfcaa.PPatternFirst Go.Proofs.YtelheeekbihfcaaW.PrintWords Go.Proofs.YtelheeekbihfcaaW.PrintMore Go.Proofs.YtelheeekbihfcaaW.PrintLast
/-- A path stays. -/
theorem KT.path {base go b' : Nat} {W W' : World} {vp : Value} {path : List Int} {l : List S39} (hK : KT base go W W') (hO : OutB base go W l) (hp : Kd.R (Kd.int .i64) 3 W b' (fun _ => True) vp path) : Kd.R (Kd.int .i64) 3 W' b' (fun _ => True) vp path := by
  have ho := Kd.own_of_R (h1 := fun _ => rfl) hp
  obtain ⟨v, hv, _⟩ := hO
  refine Kd.R_of_own (h1 := fun _ => rfl) (own_move ho (fun k hk => hK.block k (own_lt ho k hk) (fun hs => ?_))) (fun _ _ => trivial)
  obtain ⟨c1, e1⟩ := own_typed ho k hk
  rcases hs.2 with rfl | ⟨c2, fr, e2⟩
  · exact ne_blk e1 hv (by decide) rfl
  · rw [e1] at e2
    injection e2 with e2
    injection e2 with _ e2
    exact absurd e2 (by decide)
theorem rd53 (l : List S53) (i : Nat) (h : i < l.length) : rd_T53 l (i : Int) = l[i] := by
  unfold rd_T53
  rw [Int.toNat_natCast, List.getD_eq_getElem?_getD, List.getElem?_eq_getElem h]
  rfl
set_option maxRecDepth 100000 in
set_option maxHeartbeats 8000000 in
theorem go_ok (W0 : World) (go ga b2 b3 : Nat) (at_ : List ByteArray) (Aa : Option Addr) (ca : Nat) (hgo : W0.heap.size ≤ go) (hCa : Kd.C Kd.string W0 Aa at_.length at_) (hca : at_.length ≤ ca) (hal : at_.length ≤ 1000000)
    (f0 f1 f2 : Int) (f3 : ByteArray) (args : List S53) (hIH : ∀ x, x ∈ args → GoOk W0 go ga b2 b3 at_ Aa ca x) : GoOk W0 go ga b2 b3 at_ Aa ca ⟨f0, f1, f2, f3, args⟩ := by
  intro b' A4 c4 vp path l W hO hB hX hC hc4 hp hb hn1 hn2
  simp only at hC hc4 ⊢
  simp only [nodesP] at hn1 hn2
  obtain ⟨Ap, cp, rfl⟩ := Kd.R_slice hp
  have HI := Lib.hid hIH
  have HC := Lib.hid hC
  have HCA := Lib.hid hCa
  have HO := Lib.hid hO
  have HB := Lib.hid hB
  have HX := Lib.hid hX
  have HP := Lib.hid hp
  have hl1 : l.length ≤ 1000000 := by omega
  clear hIH hC hCa hO hB hX hp
  go_enter Try.func34, Try.ntmps34
  go_upto_region 1 with fail
  have hbl := below_alloc (Below.refl _ W) (.cells #[.int .i64 f0, .int .i64 f1, .int .i64 f2, .string f3, .slice A4 args.length c4] 53)
  have XB := Lib.hid (blk_new W (.cells #[.int .i64 f0, .int .i64 f1, .int .i64 f2, .string f3, .slice A4 args.length c4] 53))
  have O1 := Lib.hid (HO.out.below hbl)
  have B1 := Lib.hid (below_step HB.out hbl)
  have X1 := Lib.hid (HX.out.below hbl)
  have P1 := Lib.hid (Kd.R_below HP.out hbl)
  have K1 := Lib.hid (KT.of_below (base := W0.heap.size) (g := go) hbl)
  generalize W.alloc (.cells #[.int .i64 f0, .int .i64 f1, .int .i64 f2, .string f3, .slice A4 args.length c4] 53) = W1 at *
  generalize W.heap.size = gb at *
  have kb := blk_cell X1.out.b 0
  have k0 := blk_cell XB.out 0
  have k1 := blk_cell XB.out 1
  have k2 := blk_cell XB.out 2
  have k3 := blk_cell XB.out 3
  have k4 := blk_cell XB.out 4
  clear hbl HO HX HP HB
  go_upto_region 2 with (go_at_call 26; refine (at_call W0.heap.size go ga b' f0 f1 f2 f3 args A4 c4 (.slice Ap path.length cp) path l at_ Aa ca _ O1.out B1.out.size hgo X1.out.a (Kd.C_below HCA.out B1.out) hca hal P1.out hb hl1).mono ?_; rintro e W2 ⟨rfl, ho, hk⟩; have O2 := Lib.hid ho; have K2 := Lib.hid hk; clear ho hk)
  have hgb : gb ≠ go := by obtain ⟨v, hv, _⟩ := O1.out; exact ne_blk XB.out hv (by decide)
  have XB2 := Lib.hid (K2.out.blk XB.out (by decide) hgb)
  have X2 := Lib.hid (X1.out.keep O1.out K2.out)
  have B2 := Lib.hid (B1.out.trans (K2.out.below B1.out.size))
  have P2 := Lib.hid (K2.out.path O1.out P1.out)
  have K3 := Lib.hid (K1.out.trans K2.out)
  clear kb k0 k1 k2 k3 k4 X1 XB B1 P1 K1 K2
  have k0 := blk_cell XB2.out 0
  have k4 := blk_cell XB2.out 4
  have hlo : (ownT at_ ⟨f0, f1, f2, f3, args⟩ path).length ≤ 1 := by
    unfold ownT
    repeat' split
    all_goals simp
  by_cases e5 : f0 = 5
  · subst e5
    have hq4 : (args.length : Int) ≤ 1000000 := by have := nodesL_le args; omega
    go_wp2
    go_loopw [18] (fun v18 wr => ∃ i : Nat, v18 = .int .i64 i ∧ i ≤ args.length ∧ Hid (OutB W0.heap.size go wr (l ++ ownT at_ ⟨5, f1, f2, f3, args⟩ path ++ testsL at_ (args.take i) path 0)) ∧ Hid (KT W0.heap.size go W2 wr)) (fun v18 _ => args.length - (intOf v18).toNat)
    case atStart => exact ⟨0, by go_num, Nat.zero_le _, Lib.hid (by simpa [testsL] using O2.out), Lib.hid (KT.refl _ _ _)⟩
    case round =>
      obtain ⟨i, rfl, hi, HOI, HKI⟩ := hrel
      by_cases hlt : i < args.length
      · have q1 : (i : Int) < (args.length : Int) := by omega
        have q0 : (0 : Int) ≤ (i : Int) := by omega
        have HBI := Lib.hid (B2.out.trans (HKI.out.below B2.out.size))
        have HXI := Lib.hid (X2.out.keep O2.out HKI.out)
        have HPI := Lib.hid (HKI.out.path O2.out P2.out)
        obtain ⟨ad, A5, c5, hA4, u0, u1, u2, u3, u4, hc5, hC5⟩ := at_T53 HC.out (i : Int) q0 q1
        subst hA4
        rw [rd53 args i hlt, Int.toNat_natCast] at u0 u1 u2 u3 u4
        rw [rd53 args i hlt] at hc5 hC5
        replace u0 := (HBI.out.cell (World.block_lt_of_cell? W0 _ u0)).trans u0
        replace u1 := (HBI.out.cell (World.block_lt_of_cell? W0 _ u1)).trans u1
        replace u2 := (HBI.out.cell (World.block_lt_of_cell? W0 _ u2)).trans u2
        replace u3 := (HBI.out.cell (World.block_lt_of_cell? W0 _ u3)).trans u3
        replace u4 := (HBI.out.cell (World.block_lt_of_cell? W0 _ u4)).trans u4
        have hx0 := HI.out args[i] (List.getElem_mem hlt)
        have hng := nodesL_get hlt
        have htl := testsL_len at_ (args.take i) path 0
        have hnp : i ≤ nodesL (args.take i) := by have := nodesL_le (args.take i); rw [List.length_take, Nat.min_eq_left (Nat.le_of_lt hlt)] at this; exact this
        have hm1 : (l ++ ownT at_ ⟨5, f1, f2, f3, args⟩ path ++ testsL at_ (args.take i) path 0).length + nodesP args[i] ≤ 1000000 := by simp only [List.length_append]; omega
        have hm2 : (path ++ [(i : Int)]).length + nodesP args[i] ≤ 1000000 := by simp only [List.length_append, List.length_singleton]; omega
        have hpl : path.length ≤ 1000000 := by omega
        have htk : testsL at_ (args.take (i + 1)) path 0 = testsL at_ (args.take i) path 0 ++ testsP at_ args[i] (path ++ [(i : Int)]) := by
          rw [List.take_succ_eq_append_getElem hlt, testsL_snoc, List.length_take, Nat.min_eq_left (Nat.le_of_lt hlt), Nat.zero_add]
        have HC5 := Lib.hid hC5
        clear hC5 hng htl hnp
        go_upto_region 6 with fail
        have hbl := below_alloc (Below.refl _ wr) (.cells #[.int .i64 args[i].f0, .int .i64 args[i].f1, .int .i64 args[i].f2, .string args[i].f3, .slice A5 args[i].f4.length c5] 53)
        have GD := Lib.hid (blk_drew (blk_new wr (.cells #[.int .i64 args[i].f0, .int .i64 args[i].f1, .int .i64 args[i].f2, .string args[i].f3, .slice A5 args[i].f4.length c5] 53)))
        have hbd := below_drew1 hbl
        have OD := Lib.hid (HOI.out.below hbd)
        have BD := Lib.hid (below_step HBI.out hbd)
        have XD := Lib.hid (HXI.out.below hbd)
        have PD := Lib.hid (Kd.R_below HPI.out hbd)
        have KD := Lib.hid (HKI.out.trans (KT.of_below (base := W0.heap.size) (g := go) hbd))
        clear hbl hbd HOI HBI HXI HPI u0 u1 u2 u3 u4
        generalize wr.alloc (.cells #[.int .i64 args[i].f0, .int .i64 args[i].f1, .int .i64 args[i].f2, .string args[i].f3, .slice A5 args[i].f4.length c5] 53) = W3 at *
        generalize wr.heap.size = g7 at *
        generalize hTS : l ++ ownT at_ ⟨5, f1, f2, f3, args⟩ path ++ testsL at_ (args.take i) path 0 = TS at *
        generalize args[i] = x at *
        refine start_ (n := 6) (S := fun w' => w'.cell? ⟨b3, 0, none⟩ = some (.func (.func 34) #[] #[.pointer (some ⟨b2, 0, none⟩), .pointer (some ⟨b3, 0, none⟩)]) ∧ w'.cell? ⟨g7, 0, none⟩ = some (.int .i64 x.f0) ∧ w'.cell? ⟨g7, 1, none⟩ = some (.int .i64 x.f1) ∧ w'.cell? ⟨g7, 2, none⟩ = some (.int .i64 x.f2) ∧ w'.cell? ⟨g7, 3, none⟩ = some (.string x.f3) ∧ w'.cell? ⟨g7, 4, none⟩ = some (.slice A5 x.f4.length c5)) (ds := []) #[false, false, false, false, false, false] (by kernel_rfl) rfl rfl ⟨blk_cell XD.out.c 0, blk_cell GD.out 0, blk_cell GD.out 1, blk_cell GD.out 2, blk_cell GD.out 3, blk_cell GD.out 4⟩ (fun hHeld => ?_)
        refine pure_ (i := 2) (N := some 25) (v := ?_) (a' := ?_) #[false, false, true, false, false, false] rfl rfl (by kernel_rfl) (fun _ _ _ h => h) (Or.inl ⟨by rfl, ?_⟩) ?_ ?_
        rotate_left
        · intro w'
          go_simp
          with_reducible rfl
        rotate_left
        · simp only [Act.put, List.setIfInBounds_toArray, List.set_cons_zero, List.set_cons_succ, i64_w, i32_w]
          rfl
        refine pure_ (i := 3) (N := some 26) (v := ?_) (a' := ?_) #[false, false, true, true, false, false] rfl rfl (by kernel_rfl) (fun _ _ _ h => h) (Or.inl ⟨by rfl, ?_⟩) ?_ ?_
        rotate_left
        · intro w'
          go_simp
          with_reducible rfl
        rotate_left
        · simp only [Act.put, List.setIfInBounds_toArray, List.set_cons_zero, List.set_cons_succ, i64_w, i32_w]
          rfl
        refine take_ (i := 0) (N := some 23) (v := ?_) (a' := ?_) #[true, false, true, true, false, false] rfl rfl (by kernel_rfl) (fun _ _ _ h => h) (Or.inl ⟨by rfl, ?_⟩) hHeld ?_ ?_
        rotate_left
        · rintro w' ⟨s0, s1, s2, s3, s4, s5⟩
          go_simp
          with_reducible rfl
        rotate_left
        · simp only [Act.put, List.setIfInBounds_toArray, List.set_cons_zero, List.set_cons_succ, i64_w, i32_w]
          rfl
        refine take_ (i := 1) (N := some 24) (v := ?_) (a' := ?_) #[true, true, true, true, false, false] rfl rfl (by kernel_rfl) (fun _ _ _ h => h) (Or.inl ⟨by rfl, ?_⟩) hHeld ?_ ?_
        rotate_left
        · rintro w' ⟨s0, s1, s2, s3, s4, s5⟩
          go_simp
          with_reducible rfl
        rotate_left
        · simp only [Act.put, List.setIfInBounds_toArray, List.set_cons_zero, List.set_cons_succ, i64_w, i32_w]
          rfl
        refine one_ (i := 4) (N := some 27) #[true, true, true, true, true, false] rfl rfl (by kernel_rfl) (by decide) (fun K hK => ?_)
        refine goes_ Try.func35 (by kernel_rfl) rfl #[.slice Ap path.length cp, .int .i64 (i : Int)] (by rfl) rfl rfl (by simp only [List.map_toArray, List.map_cons, List.map_nil]; rfl) ?_
        with_reducible refine (longer_call Ap cp path (i : Int) _ (Kd.R_reads' PD.out).2.2 (Kd.R_reads' PD.out).2.1 hpl).mono ?_
        rintro e w4 ⟨vq, rfl, hq, hd⟩
        refine ⟨_, rfl, ?_⟩
        have OE := Lib.hid (OD.out.below hd)
        have BE := Lib.hid (below_step BD.out hd)
        have XE := Lib.hid (XD.out.below hd)
        have GE := Lib.hid (blk_below GD.out hd)
        have PE := Lib.hid (Kd.R_below PD.out hd)
        have KE := Lib.hid (KD.out.trans (KT.of_below hd))
        have QE := Lib.hid hq
        have hb7 : W0.heap.size ≤ W3.drew.heap.size := BD.out.size
        clear hq hd
        refine hK.out _ _ ⟨blk_cell XE.out.c 0, blk_cell GE.out 0, blk_cell GE.out 1, blk_cell GE.out 2, blk_cell GE.out 3, blk_cell GE.out 4⟩ (fun hHeld => ?_)
        clear hK K
        refine norm_ (a' := ?_) ?_ ?_
        rotate_left
        · show Act.put _ (some 27) _ = _
          simp only [Act.put, List.setIfInBounds_toArray, List.set_cons_zero, List.set_cons_succ, i64_w, i32_w]
          rfl
        refine one_ (i := 5) (N := some 28) #[true, true, true, true, true, true] rfl rfl (by kernel_rfl) (by decide) (fun K hK => ?_)
        refine call_ 34 #[.agg #[.int .i64 x.f0, .int .i64 x.f1, .int .i64 x.f2, .string x.f3, .slice A5 x.f4.length c5], vq, .pointer (some ⟨b2, 0, none⟩), .pointer (some ⟨b3, 0, none⟩)] (by rfl) rfl (by go_simp) ?_
        refine (hx0 _ A5 c5 vq (path ++ [(i : Int)]) _ _ OE.out BE.out XE.out HC5.out hc5 QE.out hb7 hm1 hm2).mono ?_
        rintro e w5 ⟨rfl, ho, hk⟩
        refine ⟨_, rfl, ?_⟩
        have O5 := Lib.hid ho
        have K5 := Lib.hid (KE.out.trans hk)
        have X5 := Lib.hid (XE.out.keep OE.out hk)
        have hg7 : g7 ≠ go := by obtain ⟨vv, hv, _⟩ := OE.out; exact ne_blk GE.out hv (by decide)
        have G5 := Lib.hid (hk.blk GE.out (by decide) hg7)
        clear ho hk hg7
        refine hK.out _ _ ⟨blk_cell X5.out.c 0, blk_cell G5.out 0, blk_cell G5.out 1, blk_cell G5.out 2, blk_cell G5.out 3, blk_cell G5.out 4⟩ (fun hHeld => ?_)
        clear hK K
        refine norm_ (a' := ?_) ?_ ?_
        rotate_left
        · show Act.put _ (some 28) _ = _
          simp only [Act.put, List.setIfInBounds_toArray, List.set_cons_zero, List.set_cons_succ, i64_w, i32_w]
          rfl
        refine done_ (by kernel_rfl) ?_
        clear hHeld
        go_wp2
        go_roundw
        case rel => exact ⟨i + 1, by go_num, hlt, Lib.hid (by rw [htk, ← List.append_assoc, hTS]; exact O5.out), K5⟩
        case measure => simp [intOf]; omega
      · obtain rfl : i = args.length := by omega
        go_wp2
        go_end0
        rw [show testsP at_ ⟨5, f1, f2, f3, args⟩ path = ownT at_ ⟨5, f1, f2, f3, args⟩ path ++ testsL at_ args path 0 by rw [testsP, if_pos rfl], ← List.append_assoc]
        have hO := HOI.out
        rw [List.take_length] at hO
        exact ⟨rfl, hO, K3.out.trans HKI.out⟩
  · have e5' : (f0 == 5) = false := by simpa using e5
    go_wp2
    go_end0
    rw [show testsP at_ ⟨f0, f1, f2, f3, args⟩ path = ownT at_ ⟨f0, f1, f2, f3, args⟩ path by unfold testsP; rw [if_neg e5, List.append_nil]]
    exact ⟨rfl, O2.out, K3.out⟩
end Go.Proofs.Ytelheeekbihfcaa.Pt
end
section
/- The pattern's Tests. -/
set_option linter.unusedVariables false
set_option linter.unusedSimpArgs false
namespace Go.Proofs.Ytelheeekbihfcaa.Pt
open Go.RowKit Go.Proofs Go.Proofs.Ytelheeekbihfcaa.PPatternFirst Go.Proofs.YtelheeekbihfcaaW.PrintWords Go.Proofs.YtelheeekbihfcaaW.PrintMore Go.Proofs.YtelheeekbihfcaaW.PrintLast
theorem go_all (W0 : World) (go ga b2 b3 : Nat) (at_ : List ByteArray) (Aa : Option Addr) (ca : Nat) (hgo : W0.heap.size ≤ go) (hCa : Kd.C Kd.string W0 Aa at_.length at_) (hca : at_.length ≤ ca) (hal : at_.length ≤ 1000000) :
    ∀ (n : Nat) (p : S53), SizeOf.sizeOf p ≤ n → GoOk W0 go ga b2 b3 at_ Aa ca p := by
  intro n
  induction n with
  | zero =>
    intro p hp
    cases p
    simp at hp
  | succ n ih =>
    intro p hp
    obtain ⟨f0, f1, f2, f3, args⟩ := p
    refine go_ok W0 go ga b2 b3 at_ Aa ca hgo hCa hca hal f0 f1 f2 f3 args (fun x hx => ih x ?_)
    have h1 := List.sizeOf_lt_of_mem hx
    simp at hp
    omega
set_option maxRecDepth 100000 in
set_option maxHeartbeats 8000000 in
theorem walk_call (W0 : World) (go ga : Nat) (at_ : List ByteArray) (Aa : Option Addr) (ca : Nat) (hgo : W0.heap.size ≤ go) (hCa : Kd.C Kd.string W0 Aa at_.length at_) (hca : at_.length ≤ ca) (hal : at_.length ≤ 1000000)
    (f0 f1 f2 : Int) (f3 : ByteArray) (args : List S53) (A4 : Option Addr) (c4 : Nat) (l : List S39) (W : World) (hO : OutB W0.heap.size go W l) (hB : Below W0.heap.size W0 W) (ha : W.heap[ga]? = some (.cells #[.slice Aa at_.length ca] 23 (0, 0)))
    (hC : Kd.C k53 W0 A4 args.length args) (hc4 : args.length ≤ c4) (hn : l.length + nodesP ⟨f0, f1, f2, f3, args⟩ ≤ 1000000) :
    Calls Try.prog 25 #[.agg #[.int .i64 f0, .int .i64 f1, .int .i64 f2, .string f3, .slice A4 args.length c4], .func (.func 26) #[] #[.pointer (some ⟨go, 0, none⟩), .pointer (some ⟨ga, 0, none⟩)]] W fun e W' => e = .returned (.tuple #[]) ∧ OutB W0.heap.size go W' (l ++ testsP at_ ⟨f0, f1, f2, f3, args⟩ []) ∧ KT W0.heap.size go W W' := by
  have HG := Lib.hid fun (b2 b3 : Nat) => go_all W0 go ga b2 b3 at_ Aa ca hgo hCa hca hal _ ⟨f0, f1, f2, f3, args⟩ (Nat.le_refl _)
  have HO := Lib.hid hO
  have HB := Lib.hid hB
  have HA := Lib.hid ha
  have HC := Lib.hid hC
  clear hO hB ha hC hCa
  go_enter Try.func25, Try.ntmps25
  go_upto_region 2 with fail
  have s1 : (W.alloc (.cells #[.int .i64 f0, .int .i64 f1, .int .i64 f2, .string f3, .slice A4 args.length c4] 53)).heap.size = W.heap.size + 1 := by simp
  have s2 : ((W.alloc (.cells #[.int .i64 f0, .int .i64 f1, .int .i64 f2, .string f3, .slice A4 args.length c4] 53)).alloc (.cells #[.func (.func 26) #[] #[.pointer (some ⟨go, 0, none⟩), .pointer (some ⟨ga, 0, none⟩)]] 84)).heap.size = W.heap.size + 1 + 1 := by simp
  have X3 := blk_new ((W.alloc (.cells #[.int .i64 f0, .int .i64 f1, .int .i64 f2, .string f3, .slice A4 args.length c4] 53)).alloc (.cells #[.func (.func 26) #[] #[.pointer (some ⟨go, 0, none⟩), .pointer (some ⟨ga, 0, none⟩)]] 84)) (.cells #[.nilFunc] 84)
  have X2 := blk_alloc (blk_new (W.alloc (.cells #[.int .i64 f0, .int .i64 f1, .int .i64 f2, .string f3, .slice A4 args.length c4] 53)) (.cells #[.func (.func 26) #[] #[.pointer (some ⟨go, 0, none⟩), .pointer (some ⟨ga, 0, none⟩)]] 84)) (.cells #[.nilFunc] 84)
  have X1 := blk_alloc (blk_alloc (blk_new W (.cells #[.int .i64 f0, .int .i64 f1, .int .i64 f2, .string f3, .slice A4 args.length c4] 53)) (.cells #[.func (.func 26) #[] #[.pointer (some ⟨go, 0, none⟩), .pointer (some ⟨ga, 0, none⟩)]] 84)) (.cells #[.nilFunc] 84)
  rw [s2] at X3
  rw [s1] at X2
  have hbl := below_alloc (below_alloc (below_alloc (Below.refl _ W) (.cells #[.int .i64 f0, .int .i64 f1, .int .i64 f2, .string f3, .slice A4 args.length c4] 53)) (.cells #[.func (.func 26) #[] #[.pointer (some ⟨go, 0, none⟩), .pointer (some ⟨ga, 0, none⟩)]] 84)) (.cells #[.nilFunc] 84)
  have BL := Lib.hid hbl
  generalize (((W.alloc (.cells #[.int .i64 f0, .int .i64 f1, .int .i64 f2, .string f3, .slice A4 args.length c4] 53)).alloc (.cells #[.func (.func 26) #[] #[.pointer (some ⟨go, 0, none⟩), .pointer (some ⟨ga, 0, none⟩)]] 84)).alloc (.cells #[.nilFunc] 84)) = W3 at *
  have c3 := blk_cell X3 0
  have f3' := blk_frozen X3 0
  clear s1 s2 hbl
  have Y3 := Lib.hid (blk_set X3 0 (.func (.func 34) #[] #[.pointer (some ⟨W.heap.size + 1, 0, none⟩), .pointer (some ⟨W.heap.size + 1 + 1, 0, none⟩)]))
  have hgo3 : W.heap.size + 1 + 1 ≠ go := by have := HO.out.lt; omega
  have n31 : ¬ W.heap.size + 1 = W.heap.size + 1 + 1 := by omega
  have n30 : ¬ W.heap.size = W.heap.size + 1 + 1 := by omega
  have Y2 := Lib.hid ((Below.heap_setCell W3 ⟨W.heap.size + 1 + 1, 0, none⟩ (.func (.func 34) #[] #[.pointer (some ⟨W.heap.size + 1, 0, none⟩), .pointer (some ⟨W.heap.size + 1 + 1, 0, none⟩)]) (W.heap.size + 1) n31).trans X2)
  have Y1 := Lib.hid ((Below.heap_setCell W3 ⟨W.heap.size + 1 + 1, 0, none⟩ (.func (.func 34) #[] #[.pointer (some ⟨W.heap.size + 1, 0, none⟩), .pointer (some ⟨W.heap.size + 1 + 1, 0, none⟩)]) W.heap.size n30).trans X1)
  have X1_ := Lib.hid X1
  have hge : W0.heap.size ≤ W.heap.size + 1 + 1 := by have := HB.out.size; omega
  go_upto_region 3 with fail
  have hbs := BL.out.setCell (p := ⟨W.heap.size + 1 + 1, 0, none⟩) (show W.heap.size ≤ W.heap.size + 1 + 1 by omega) (.func (.func 34) #[] #[.pointer (some ⟨W.heap.size + 1, 0, none⟩), .pointer (some ⟨W.heap.size + 1 + 1, 0, none⟩)])
  have OS := Lib.hid (HO.out.below hbs)
  have BS := Lib.hid (below_step HB.out hbs)
  have KS := Lib.hid (KT.of_below (base := W0.heap.size) (g := go) hbs)
  have XS : Boxes go ga (W.heap.size + 1) (W.heap.size + 1 + 1) Aa at_.length ca (W3.setCell ⟨W.heap.size + 1 + 1, 0, none⟩ (.func (.func 34) #[] #[.pointer (some ⟨W.heap.size + 1, 0, none⟩), .pointer (some ⟨W.heap.size + 1 + 1, 0, none⟩)])) := ⟨blk_below HA.out hbs, Y2.out, by have := Y3.out; simpa using this⟩
  have XS_ := Lib.hid XS
  have kc := blk_cell XS.c 0
  have y0 := blk_cell Y1.out 0
  have y1 := blk_cell Y1.out 1
  have y2 := blk_cell Y1.out 2
  have y3 := blk_cell Y1.out 3
  have y4 := blk_cell Y1.out 4
  have hl0 : ([] : List Int).length + nodesP ⟨f0, f1, f2, f3, args⟩ ≤ 1000000 := by simp only [List.length_nil]; omega
  clear hbs XS c3 f3' X1 X2 X3 BL Y2 Y3
  generalize W3.setCell ⟨W.heap.size + 1 + 1, 0, none⟩ (.func (.func 34) #[] #[.pointer (some ⟨W.heap.size + 1, 0, none⟩), .pointer (some ⟨W.heap.size + 1 + 1, 0, none⟩)]) = WS at *
  go_wp2_with (go_at_call 34; refine (HG.out _ _ W0.heap.size A4 c4 (.slice none 0 0) [] l _ OS.out BS.out XS_.out HC.out hc4 (Kd.R_nil _ _ _ _ _) (Nat.le_refl _) hn hl0).mono ?_; rintro e W5 ⟨rfl, ho, hk⟩; have O5 := Lib.hid ho; have K5 := Lib.hid hk; clear ho hk)
  go_end0
  exact ⟨rfl, O5.out, KS.out.trans K5.out⟩
theorem res14 (tmps : Array Value) (w : World) (g : Nat) (A : Option Addr) (n c : Nat) (hp : tmps.getD 4 undef = .pointer (some ⟨g, 0, none⟩)) (h : w.heap[g]? = some (.cells #[.slice A n c] 50 (0, 0))) : (results Try.f14 tmps).run Try.prog w = .ok (.slice A n c) w := by
  have hp' : tmps[4]?.getD undef = .pointer (some ⟨g, 0, none⟩) := by simpa using hp
  have hc := blk_cell h 0
  simp [results, Try.results14, asAddr, hp']
  go_simp
set_option maxRecDepth 100000 in
set_option maxHeartbeats 8000000 in
/-- Tests: what the document says. -/
theorem tests_call (at_ : List ByteArray) (Aa : Option Addr) (ca : Nat) (f0 f1 f2 : Int) (f3 : ByteArray) (args : List S53) (A4 : Option Addr) (c4 : Nat) (w : World) (hCa : Kd.C Kd.string w Aa at_.length at_) (hca : at_.length ≤ ca) (hal : at_.length ≤ 1000000)
    (hC : Kd.C k53 w A4 args.length args) (hc4 : args.length ≤ c4) (hn : nodesP ⟨f0, f1, f2, f3, args⟩ ≤ 1000000) :
    Calls Try.prog 14 #[.agg #[.int .i64 f0, .int .i64 f1, .int .i64 f2, .string f3, .slice A4 args.length c4], .slice Aa at_.length ca] w fun e w' => ∃ v, e = .returned v ∧ Kd.R k39 39 w' w.heap.size (fun _ => True) v (testsP at_ ⟨f0, f1, f2, f3, args⟩ []) ∧ Below w.heap.size w w' := by
  have HC := Lib.hid hC
  have HCA := Lib.hid hCa
  clear hC hCa
  go_enter Try.func14, Try.ntmps14
  go_upto_region 1 with fail
  have s1 : (w.alloc (.cells #[.int .i64 f0, .int .i64 f1, .int .i64 f2, .string f3, .slice A4 args.length c4] 53)).heap.size = w.heap.size + 1 := by simp
  have s2 : ((w.alloc (.cells #[.int .i64 f0, .int .i64 f1, .int .i64 f2, .string f3, .slice A4 args.length c4] 53)).alloc (.cells #[.slice Aa at_.length ca] 23)).heap.size = w.heap.size + 1 + 1 := by simp
  have X3 := blk_new ((w.alloc (.cells #[.int .i64 f0, .int .i64 f1, .int .i64 f2, .string f3, .slice A4 args.length c4] 53)).alloc (.cells #[.slice Aa at_.length ca] 23)) (.cells #[.slice none 0 0] 50)
  have X2 := blk_alloc (blk_new (w.alloc (.cells #[.int .i64 f0, .int .i64 f1, .int .i64 f2, .string f3, .slice A4 args.length c4] 53)) (.cells #[.slice Aa at_.length ca] 23)) (.cells #[.slice none 0 0] 50)
  have X1 := blk_alloc (blk_alloc (blk_new w (.cells #[.int .i64 f0, .int .i64 f1, .int .i64 f2, .string f3, .slice A4 args.length c4] 53)) (.cells #[.slice Aa at_.length ca] 23)) (.cells #[.slice none 0 0] 50)
  rw [s2] at X3
  rw [s1] at X2
  have hbl := below_alloc (below_alloc (below_alloc (Below.refl _ w) (.cells #[.int .i64 f0, .int .i64 f1, .int .i64 f2, .string f3, .slice A4 args.length c4] 53)) (.cells #[.slice Aa at_.length ca] 23)) (.cells #[.slice none 0 0] 50)
  have BL := Lib.hid hbl
  generalize (((w.alloc (.cells #[.int .i64 f0, .int .i64 f1, .int .i64 f2, .string f3, .slice A4 args.length c4] 53)).alloc (.cells #[.slice Aa at_.length ca] 23)).alloc (.cells #[.slice none 0 0] 50)) = W3 at *
  have y0 := blk_cell X1 0
  have y1 := blk_cell X1 1
  have y2 := blk_cell X1 2
  have y3 := blk_cell X1 3
  have y4 := blk_cell X1 4
  have HO := Lib.hid (show OutB w.heap.size (w.heap.size + 1 + 1) W3 [] from ⟨_, X3, Kd.R_nil _ _ _ _ _⟩)
  have HA := Lib.hid X2
  have hn0 : ([] : List S39).length + nodesP ⟨f0, f1, f2, f3, args⟩ ≤ 1000000 := by simpa using hn
  have hge : w.heap.size ≤ w.heap.size + 1 + 1 := by omega
  clear s1 s2 hbl X1 X2 X3
  go_upto_region 2 with (go_at_call 25; refine (walk_call w (w.heap.size + 1 + 1) (w.heap.size + 1) at_ Aa ca hge HCA.out hca hal f0 f1 f2 f3 args A4 c4 [] _ HO.out BL.out HA.out HC.out hc4 hn0).mono ?_; rintro e W5 ⟨rfl, ho, hk⟩; have O5 := Lib.hid ho; have K5 := Lib.hid hk; clear ho hk)
  obtain ⟨v5, hv5, hr5⟩ := O5.out
  obtain ⟨A5, c5, rfl⟩ := Kd.R_slice hr5
  have kx := blk_cell hv5 0
  have kf := blk_frozen hv5 0
  have h6 := blk_set hv5 0 (.slice A5 (testsP at_ ⟨f0, f1, f2, f3, args⟩ []).length c5)
  have r6 := Kd.R_set hr5 hv5 (by decide) 0 (.slice A5 (testsP at_ ⟨f0, f1, f2, f3, args⟩ []).length c5)
  have hsz := BL.out.size
  have b6 := (BL.out.trans (K5.out.below hsz)).setCell (p := ⟨w.heap.size + 1 + 1, 0, none⟩) hge (.slice A5 (testsP at_ ⟨f0, f1, f2, f3, args⟩ []).length c5)
  simp only [List.setIfInBounds_toArray, List.set_cons_zero] at h6
  rw [List.nil_append] at *
  have H6 := Lib.hid h6
  have R6 := Lib.hid r6
  have B6 := Lib.hid b6
  clear h6 r6 b6 hv5 hr5 y0 y1 y2 y3 y4
  go_wp2
  refine bodyPost_ret (v := .slice A5 (testsP at_ ⟨f0, f1, f2, f3, args⟩ []).length c5) ?_ rfl ⟨_, rfl, R6.out, B6.out⟩
  exact res14 _ _ _ _ _ _ rfl H6.out
end Go.Proofs.Ytelheeekbihfcaa.Pt
end
