/- WalkA -/
import Derived.Test.YtjboncbmeanlgaaDoorQBodyW
/- The walk through a tree: what is told at each part, plain; what stays. -/
set_option linter.unusedVariables false
set_option linter.unusedSimpArgs false
namespace Go.Proofs.YtjboncbmeanlgaaDoor.Tr
open Go.RowKit Go.Proofs Go.Proofs.YtjboncbmeanlgaaDoor.PTreePrints Go.Proofs.YtjboncbmeanlgaaDoorW.PrintWords Go.Proofs.YtjboncbmeanlgaaDoorW.PrintMore Go.Proofs.YtjboncbmeanlgaaDoorW.PrintLast
section
variable (st : Int → Int → Int)
mutual
def walkE : S31 → Nat → Int → Int
  | ⟨_, _, _, _, args⟩, lv, m => if lv ≤ 65 then walkEL args (lv + 1) (st m lv) else m
def walkEL : List S31 → Nat → Int → Int
  | [], _, m => m
  | x :: r, lv, m => walkEL r lv (walkE x lv m)
end
mutual
def walkP : S83 → Nat → Int → Int
  | ⟨_, _, _, _, args⟩, lv, m => if lv ≤ 65 then walkPL args (lv + 1) (st m lv) else m
def walkPL : List S83 → Nat → Int → Int
  | [], _, m => m
  | x :: r, lv, m => walkPL r lv (walkP x lv m)
end
def walkSL : List S37 → Nat → Int → Int
  | [], _, m => m
  | x :: r, lv, m => walkSL r lv (walkEL st x.f4 (lv + 1) (st m 0))
mutual
def walkB : S42 → Nat → Int → Int
  | ⟨f0, _, _, _, f4, f5, f6, _, _⟩, lv, m => if lv ≤ 65 then walkAL f6 lv (walkBL f5 lv (walkSL st f0 lv (walkEL st f4 (lv + 1) (st m lv)))) else m
def walkBL : List S42 → Nat → Int → Int
  | [], _, m => m
  | x :: r, lv, m => walkBL r lv (walkB x (lv + 1) m)
def walkAL : List (S83 × List S31 × S42) → Nat → Int → Int
  | [], _, m => m
  | x :: r, lv, m => walkAL r lv (walkA x lv m)
def walkA : S83 × List S31 × S42 → Nat → Int → Int
  | (p, q), lv, m => walkG q lv (walkPL st [p] (lv + 1) m)
def walkG : List S31 × S42 → Nat → Int → Int
  | (g, b), lv, m => walkB b (lv + 1) (walkEL st g (lv + 1) m)
end
def walkN : Nat → Int → Int
  | 0, m => m
  | n + 1, m => walkN n (st m 0)
def walkDL : List S44 → Int → Int
  | [], m => m
  | x :: r, m => walkDL r (walkB st x.f3 1 (walkN st x.f2.length (st m 0)))
/-- What a program's walk comes to. -/
def walkPr (x : S25) (m : Int) : Int := walkEL st x.f3 1 (walkDL st x.f0 m)
theorem walkEL_snoc : ∀ (l : List S31) (x : S31) (lv : Nat) (m : Int), walkEL st (l ++ [x]) lv m = walkE st x lv (walkEL st l lv m)
  | [], x, lv, m => by simp [walkEL]
  | y :: l, x, lv, m => by rw [List.cons_append, walkEL, walkEL_snoc l x, walkEL]
theorem walkPL_snoc : ∀ (l : List S83) (x : S83) (lv : Nat) (m : Int), walkPL st (l ++ [x]) lv m = walkP st x lv (walkPL st l lv m)
  | [], x, lv, m => by simp [walkPL]
  | y :: l, x, lv, m => by rw [List.cons_append, walkPL, walkPL_snoc l x, walkPL]
theorem walkSL_snoc : ∀ (l : List S37) (x : S37) (lv : Nat) (m : Int), walkSL st (l ++ [x]) lv m = walkEL st x.f4 (lv + 1) (st (walkSL st l lv m) 0)
  | [], x, lv, m => by simp [walkSL]
  | y :: l, x, lv, m => by rw [List.cons_append, walkSL, walkSL_snoc l x, walkSL]
theorem walkBL_snoc : ∀ (l : List S42) (x : S42) (lv : Nat) (m : Int), walkBL st (l ++ [x]) lv m = walkB st x (lv + 1) (walkBL st l lv m)
  | [], x, lv, m => by simp [walkBL]
  | y :: l, x, lv, m => by rw [List.cons_append, walkBL, walkBL_snoc l x, walkBL]
theorem walkAL_snoc : ∀ (l : List Arm) (x : Arm) (lv : Nat) (m : Int), walkAL st (l ++ [x]) lv m = walkA st x lv (walkAL st l lv m)
  | [], x, lv, m => by simp [walkAL]
  | y :: l, x, lv, m => by rw [List.cons_append, walkAL, walkAL_snoc l x, walkAL]
theorem walkDL_snoc : ∀ (l : List S44) (x : S44) (m : Int), walkDL st (l ++ [x]) m = walkB st x.f3 1 (walkN st x.f2.length (st (walkDL st l m) 0))
  | [], x, m => by simp [walkDL]
  | y :: l, x, m => by rw [List.cons_append, walkDL, walkDL_snoc l x, walkDL]
theorem walkN_succ : ∀ (n : Nat) (m : Int), walkN st (n + 1) m = st (walkN st n m) 0
  | 0, m => rfl
  | n + 1, m => by rw [walkN, walkN_succ n, walkN]
end
/-- What stays where but the box g is written. -/
structure KX (g : Nat) (W W' : World) : Prop where
  os : W'.os = W.os
  tape : W'.tape = W.tape
  output : W'.output = W.output
  size : W.heap.size ≤ W'.heap.size
  block : ∀ k, k < W.heap.size → k ≠ g → W'.heap[k]? = W.heap[k]?
theorem KX.refl (g : Nat) (W : World) : KX g W W := ⟨rfl, rfl, rfl, Nat.le_refl _, fun _ _ _ => rfl⟩
theorem KX.trans {g : Nat} {A B C : World} (h : KX g A B) (k : KX g B C) : KX g A C :=
  ⟨k.os.trans h.os, k.tape.trans h.tape, k.output.trans h.output, Nat.le_trans h.size k.size, fun i hi hs => (k.block i (Nat.lt_of_lt_of_le hi h.size) hs).trans (h.block i hi hs)⟩
theorem KX.of_below {g : Nat} {W W' : World} (h : Below W.heap.size W W') : KX g W W' := ⟨h.os, h.tape, h.output, h.size, fun k hk _ => h.block k hk⟩
theorem KX.set (g : Nat) (W : World) (v : Value) : KX g W (W.setCell ⟨g, 0, none⟩ v) := ⟨rfl, rfl, rfl, by simp, fun k _ hs => Below.heap_setCell W ⟨g, 0, none⟩ v k hs⟩
theorem KX.blk {g : Nat} {W W' : World} (h : KX g W W') {b : Nat} {o : Obj} (hb : W.heap[b]? = some o) (hg : b ≠ g) : W'.heap[b]? = some o := (h.block b (blk_lt hb) hg).trans hb
theorem KX.below {g base : Nat} {W W' : World} (h : KX g W W') (hg : base ≤ g) (hb : base ≤ W.heap.size) : Below base W W' := ⟨h.os, h.tape, h.output, h.size, fun k hk => h.block k (by omega) (by omega)⟩
theorem ne_blk {W : World} {g h : Nat} {cs ds : Array Value} {t u : TypeId} (hg : W.heap[g]? = some (.cells cs t (0, 0))) (hh : W.heap[h]? = some (.cells ds u (0, 0))) (hne : t ≠ u) : g ≠ h := fun e => by
  subst e
  rw [hg] at hh
  injection hh with hh
  injection hh with _ hh
  exact hne hh
/-- The number's box. -/
def NB (g : Nat) (W : World) (m : Int) : Prop := W.heap[g]? = some (.cells #[.int .i64 m] 3 (0, 0))
theorem NB.below {g : Nat} {W W' : World} {m : Int} (h : NB g W m) (hb : Below W.heap.size W W') : NB g W' m := blk_below h hb
theorem NB.set {g : Nat} {W : World} {m : Int} (h : NB g W m) (v : Int) : NB g (W.setCell ⟨g, 0, none⟩ (.int .i64 v)) v := by
  have := blk_set h 0 (.int .i64 v)
  unfold NB
  simpa only [List.setIfInBounds_toArray, List.set_cons_zero] using this
theorem NB.cast {g : Nat} {W : World} {m m' : Int} (e : m = m') (h : NB g W m) : NB g W m' := e ▸ h
/-- What the walk's functions hold. -/
structure BoxW (fn g b72 b95 b96 b94 : Nat) (W : World) : Prop where
  a : W.heap[b72]? = some (.cells #[.func (.func fn) #[] #[.pointer (some ⟨g, 0, none⟩)]] 72 (0, 0))
  e : W.heap[b95]? = some (.cells #[.func (.func 60) #[] #[.pointer (some ⟨b72, 0, none⟩), .pointer (some ⟨b95, 0, none⟩)]] 95 (0, 0))
  p : W.heap[b96]? = some (.cells #[.func (.func 61) #[] #[.pointer (some ⟨b72, 0, none⟩), .pointer (some ⟨b96, 0, none⟩)]] 96 (0, 0))
  b : W.heap[b94]? = some (.cells #[.func (.func 62) #[] #[.pointer (some ⟨b72, 0, none⟩), .pointer (some ⟨b95, 0, none⟩), .pointer (some ⟨b94, 0, none⟩), .pointer (some ⟨b96, 0, none⟩)]] 94 (0, 0))
theorem BoxW.below {fn g b72 b95 b96 b94 : Nat} {W W' : World} (h : BoxW fn g b72 b95 b96 b94 W) (hb : Below W.heap.size W W') : BoxW fn g b72 b95 b96 b94 W' := ⟨blk_below h.a hb, blk_below h.e hb, blk_below h.p hb, blk_below h.b hb⟩
theorem BoxW.keep {fn g b72 b95 b96 b94 : Nat} {W W' : World} {m : Int} (h : BoxW fn g b72 b95 b96 b94 W) (hn : NB g W m) (hk : KX g W W') : BoxW fn g b72 b95 b96 b94 W' :=
  ⟨hk.blk h.a (ne_blk h.a hn (by decide)), hk.blk h.e (ne_blk h.e hn (by decide)), hk.blk h.p (ne_blk h.p hn (by decide)), hk.blk h.b (ne_blk h.b hn (by decide))⟩
/-- What Depth does at a part, and Size. -/
def stD (m lv : Int) : Int := if m < lv then lv else m
def stS (m _lv : Int) : Int := if wrap64 (m + 1) < 4097 then wrap64 (m + 1) else 4097
/-- The told number. -/
def Told (g : Nat) (m : Int) (W : World) (e : Ending) (W' : World) : Prop := e = .returned (.tuple #[]) ∧ NB g W' m ∧ KX g W W'
set_option maxRecDepth 100000 in
theorem cb35 (g : Nat) (W : World) (m lv : Int) (h : NB g W m) : Calls Tryd.prog 35 #[.int .i64 lv, .pointer (some ⟨g, 0, none⟩)] W (Told g (stD m lv) W) := by
  have kc := blk_cell h 0
  have kf := blk_frozen h 0
  have H := Lib.hid h
  clear h
  go_enter Tryd.func35, Tryd.ntmps35
  go_wp2
  all_goals go_end0
  all_goals refine ⟨rfl, NB.cast ?_ (NB.set H.out _), KX.set _ _ _⟩
  all_goals (unfold stD; split <;> omega)
set_option maxRecDepth 100000 in
theorem cb39 (g : Nat) (W : World) (m lv : Int) (h : NB g W m) : Calls Tryd.prog 39 #[.int .i64 lv, .pointer (some ⟨g, 0, none⟩)] W (Told g (stS m lv) W) := by
  have kc := blk_cell h 0
  have kf := blk_frozen h 0
  have H := Lib.hid h
  clear h
  go_enter Tryd.func39, Tryd.ntmps39
  go_wp2
  all_goals go_end0
  all_goals refine ⟨rfl, NB.cast ?_ (NB.set H.out _), KX.set _ _ _⟩
  all_goals (unfold stS; split <;> omega)
/-- Patterns that are read, however the box g is written. -/
def RdP (w0 : World) (g : Nat) (W : World) (A : Option Addr) (l : List S83) : Prop := ∀ W', KX g W W' → ∀ (i : Nat) (h : i < l.length), ∃ ad A5 c5, A = some ad ∧ W'.cell? (ad.add (i * 5)) = some (.int .i64 l[i].f0) ∧ W'.cell? ⟨(ad.add (i * 5)).block, (ad.add (i * 5)).off + 1, none⟩ = some (.int .i64 l[i].f1) ∧ W'.cell? ⟨(ad.add (i * 5)).block, (ad.add (i * 5)).off + 2, none⟩ = some (.int .i64 l[i].f2) ∧ W'.cell? ⟨(ad.add (i * 5)).block, (ad.add (i * 5)).off + 3, none⟩ = some (.string l[i].f3) ∧ W'.cell? ⟨(ad.add (i * 5)).block, (ad.add (i * 5)).off + 4, none⟩ = some (.slice A5 l[i].f4.length c5) ∧ l[i].f4.length ≤ c5 ∧ k83.C w0 A5 l[i].f4.length l[i].f4
theorem RdP.of_C {w0 W : World} {g : Nat} {A : Option Addr} {l : List S83} (hB : Below w0.heap.size w0 W) (hg : w0.heap.size ≤ g) (hC : Kd.C k83 w0 A l.length l) : RdP w0 g W A l := fun W' hk i hlt => by
  have q1 : (i : Int) < (l.length : Int) := by omega
  have q0 : (0 : Int) ≤ (i : Int) := by omega
  have BQ := hB.trans (hk.below hg hB.size)
  obtain ⟨ad, A5, c5, hA, u0, u1, u2, u3, u4, hc5, hC5⟩ := at_T83 hC (i : Int) q0 q1
  rw [rd83 l i hlt, Int.toNat_natCast] at u0 u1 u2 u3 u4
  rw [rd83 l i hlt] at hc5 hC5
  exact ⟨ad, A5, c5, hA, (BQ.cell (World.block_lt_of_cell? w0 _ u0)).trans u0, (BQ.cell (World.block_lt_of_cell? w0 _ u1)).trans u1, (BQ.cell (World.block_lt_of_cell? w0 _ u2)).trans u2, (BQ.cell (World.block_lt_of_cell? w0 _ u3)).trans u3, (BQ.cell (World.block_lt_of_cell? w0 _ u4)).trans u4, hc5, hC5⟩
/-- One pattern in a block of its own. -/
theorem RdP.of_block {w0 W : World} {g b : Nat} {x : S83} {A5 : Option Addr} {c5 : Nat} (hb : W.heap[b]? = some (.cells #[.int .i64 x.f0, .int .i64 x.f1, .int .i64 x.f2, .string x.f3, .slice A5 x.f4.length c5] 83 (0, 0))) (hne : b ≠ g) (hc5 : x.f4.length ≤ c5) (hC5 : k83.C w0 A5 x.f4.length x.f4) : RdP w0 g W (some ⟨b, 0, none⟩) [x] := fun W' hk i hlt => by
  obtain rfl : i = 0 := by simp at hlt; omega
  have h := hk.blk hb hne
  have e : (⟨b, 0, none⟩ : Addr).add (0 * 5) = ⟨b, 0, none⟩ := by simp [Addr.add]
  exact ⟨_, A5, c5, rfl, by rw [e]; exact blk_cell h 0, by rw [e]; exact blk_cell h 1, by rw [e]; exact blk_cell h 2, by rw [e]; exact blk_cell h 3, by rw [e]; exact blk_cell h 4, hc5, hC5⟩
theorem rd44 (l : List S44) (i : Nat) (h : i < l.length) : rd_T44 l (i : Int) = l[i] := by
  unfold rd_T44
  rw [Int.toNat_natCast, List.getD_eq_getElem?_getD, List.getElem?_eq_getElem h]
  rfl
theorem alloc5 (W : World) (o1 o2 o3 o4 o5 : Obj) : (((((W.alloc o1).alloc o2).alloc o3).alloc o4).alloc o5).heap[W.heap.size]? = some o1 ∧ (((((W.alloc o1).alloc o2).alloc o3).alloc o4).alloc o5).heap[W.heap.size + 1]? = some o2 ∧ (((((W.alloc o1).alloc o2).alloc o3).alloc o4).alloc o5).heap[W.heap.size + 1 + 1]? = some o3 ∧ (((((W.alloc o1).alloc o2).alloc o3).alloc o4).alloc o5).heap[W.heap.size + 1 + 1 + 1]? = some o4 ∧ (((((W.alloc o1).alloc o2).alloc o3).alloc o4).alloc o5).heap[W.heap.size + 1 + 1 + 1 + 1]? = some o5 ∧ Below W.heap.size W (((((W.alloc o1).alloc o2).alloc o3).alloc o4).alloc o5) ∧ True := by
  have s1 : (W.alloc o1).heap.size = W.heap.size + 1 := by simp
  have s2 : ((W.alloc o1).alloc o2).heap.size = W.heap.size + 1 + 1 := by simp
  have s3 : (((W.alloc o1).alloc o2).alloc o3).heap.size = W.heap.size + 1 + 1 + 1 := by simp
  have s4 : ((((W.alloc o1).alloc o2).alloc o3).alloc o4).heap.size = W.heap.size + 1 + 1 + 1 + 1 := by simp
  have h1 := blk_alloc (blk_alloc (blk_alloc (blk_alloc (blk_new W o1) o2) o3) o4) o5
  have h2 := blk_alloc (blk_alloc (blk_alloc (blk_new (W.alloc o1) o2) o3) o4) o5
  have h3 := blk_alloc (blk_alloc (blk_new ((W.alloc o1).alloc o2) o3) o4) o5
  have h4 := blk_alloc (blk_new (((W.alloc o1).alloc o2).alloc o3) o4) o5
  have h5 := blk_new ((((W.alloc o1).alloc o2).alloc o3).alloc o4) o5
  rw [s1] at h2
  rw [s2] at h3
  rw [s3] at h4
  rw [s4] at h5
  exact ⟨h1, h2, h3, h4, h5, below_alloc (below_alloc (below_alloc (below_alloc (below_alloc (Below.refl _ W) o1) o2) o3) o4) o5, trivial⟩
/-- A program as an argument. -/
structure ProgC (w : World) (x : S25) (AD : Option Addr) (cD : Nat) (AX : Option Addr) (cX : Nat) : Prop where
  ld : x.f0.length ≤ cD
  gd : k44.C w AD x.f0.length x.f0
  lx : x.f3.length ≤ cX
  gx : k31.C w AX x.f3.length x.f3
end Go.Proofs.YtjboncbmeanlgaaDoor.Tr
