/- The law ObjectForm: the region that makes the three other files, whatever the order. -/
import Derived.Test.YtelheeekbihfcabOInv
import Derived.Test.YtelheeekbihfcabReadA
set_option linter.unusedVariables false
set_option linter.unusedSimpArgs false
namespace Go.Proofs.Ytelheeekbihfcab.Ob
open Go.RowKit Go.Proofs Go.Proofs.Ytelheeekbihfcab.PObjectReads Go.Proofs.YtelheeekbihfcabW.PrintWords Go.Proofs.YtelheeekbihfcabW.PrintMore Go.Proofs.YtelheeekbihfcabW.PrintLast

/-- A row of bytes that was made from base on. -/
abbrev RB (w : World) (base : Nat) (v : Value) (l : List Int) : Prop := Kd.R (Kd.int .u8) 5 w base (fun _ => True) v l

/-- Places of an act that a region fills: slots 44 to 62, operation i's being 44 + i. -/
structure ActI (a0 : Act) (lf : Nat → Bool) (v : Nat → Value) (a : Act) : Prop where
  d : a.defers = a0.defers
  z : a.tmps.size = a0.tmps.size
  o : ∀ n, (n < 44 ∨ 62 < n) → a.tmps[n]? = a0.tmps[n]?
  f : ∀ i, i < 19 → lf i = true → a.tmps[44 + i]? = some (v i)
theorem ActI.put {a0 a : Act} {lf : Nat → Bool} {v : Nat → Value} (h : ActI a0 lf v a) (hz : 62 < a0.tmps.size) (i : Nat) (hi : i < 19) (u : Value) : ActI a0 (upd lf i) (fun j => if j = i then u else v j) (a.put (some (44 + i)) u) := by
  refine ⟨h.d, by simp [Act.put, h.z], fun n hn => ?_, fun j hj hlj => ?_⟩
  · rw [← h.o n hn]
    simp only [Act.put]
    rw [Array.getElem?_setIfInBounds_ne (by omega)]
  · simp only [Act.put]
    by_cases hji : j = i
    · subst hji
      rw [if_pos rfl, Array.getElem?_setIfInBounds_self_of_lt (by rw [h.z]; omega)]
    · rw [if_neg hji, Array.getElem?_setIfInBounds_ne (by omega)]
      unfold upd at hlj
      rw [if_neg hji] at hlj
      exact h.f j hj hlj
theorem ActI.tmp {a0 a : Act} {lf : Nat → Bool} {v : Nat → Value} (h : ActI a0 lf v a) {i : Nat} (hi : i < 19) (hl : lf i = true) : a.eval (.tmp (44 + i)) = v i := by
  simp [Act.eval, Array.getD_eq_getD_getElem?, h.f i hi hl]
theorem ActI.old {a0 a : Act} {lf : Nat → Bool} {v : Nat → Value} (h : ActI a0 lf v a) {n : Nat} {u : Value} (hn : n < 44) (hu : a0.tmps[n]? = some u) : a.eval (.tmp n) = u := by
  simp [Act.eval, Array.getD_eq_getD_getElem?, h.o n (Or.inl hn), hu]

/-- Which rows are in use. -/
def live (lf : Nat → Bool) : Nat → Bool
  | 0 => lf 0 && !lf 2
  | 2 => lf 2 && !lf 5
  | 4 => lf 4 && !lf 5
  | 5 => lf 5
  | 6 => lf 6 && !lf 12
  | 12 => lf 12
  | 13 => lf 13 && !lf 15
  | 15 => lf 15
  | _ => false
/-- What they hold. -/
def cnt (FB : List Int) (x : Int) : Nat → List Int
  | 2 => FB
  | 4 => [x]
  | 5 => FB ++ [x]
  | 12 => FB.take (FB.length - 1)
  | 15 => FB
  | _ => []
/-- What the pure operations yield. -/
def pv (A4 : Option Addr) (c4 : Nat) (FB : List Int) (x : Int) : Nat → Option Value
  | 1 => some (.slice A4 FB.length c4)
  | 3 => some (.int .u8 x)
  | 7 => some (.slice A4 FB.length c4)
  | 8 => some (.slice A4 FB.length c4)
  | 9 => some (.int .i64 FB.length)
  | 10 => some (.int .i64 ((FB.length : Int) - 1))
  | 11 => some (.slice A4 (FB.length - 1) c4)
  | 14 => some (.slice A4 FB.length c4)
  | 17 => some (.int .i64 3)
  | 18 => some (.int .i64 0)
  | _ => none

structure RowsI (FB : List Int) (x : Int) (base : Nat) (lf : Nat → Bool) (v : Nat → Value) (w : World) : Prop where
  r : ∀ i, live lf i = true → RB w base (v i) (cnt FB x i)
  n : ∀ i j, i ≠ j → live lf i = true → live lf j = true → ∀ k, (v i).ownBlock = some k → (v j).ownBlock = some k → False

theorem RowsI.step {FB : List Int} {x : Int} {base : Nat} {lf : Nat → Bool} {v : Nat → Value} {w w' : World} {i : Nat} {u : Value} (h : RowsI FB x base lf v w) (keep : Nat → Prop)
    (hnew : live (upd lf i) i = true → RB w' base u (cnt FB x i)) (hm : ∀ j, live (upd lf i) j = true → j ≠ i → live lf j = true ∧ keep j)
    (hk : ∀ j, keep j → live lf j = true → RB w' base (v j) (cnt FB x j)) (hd : ∀ j, keep j → live lf j = true → ∀ k, u.ownBlock = some k → (v j).ownBlock = some k → False) :
    RowsI FB x base (upd lf i) (fun j => if j = i then u else v j) w' := by
  refine ⟨fun j hj => ?_, fun j1 j2 hne h1 h2 => ?_⟩
  · by_cases hji : j = i
    · subst hji; simp only [if_pos]; exact hnew hj
    · simp only [if_neg hji]; exact hk j (hm j hj hji).2 (hm j hj hji).1
  · by_cases e1 : j1 = i
    · subst e1
      have e2 : ¬ j2 = j1 := fun e => hne e.symm
      simp only [if_pos, if_neg e2]
      exact hd j2 (hm j2 h2 e2).2 (hm j2 h2 e2).1
    · by_cases e2 : j2 = i
      · subst e2
        simp only [if_pos, if_neg e1]
        intro k hk1 hk2
        exact hd j1 (hm j1 h1 e1).2 (hm j1 h1 e1).1 k hk2 hk1
      · simp only [if_neg e1, if_neg e2]
        exact h.n j1 j2 hne (hm j1 h1 e1).1 (hm j2 h2 e2).1

/-- The invariant. -/
def I7 (a0 : Act) (W0 : World) (A4 : Option Addr) (c4 : Nat) (FB : List Int) (x : Int) (lf : Nat → Bool) (a : Act) (w : World) : Prop :=
  ∃ v : Nat → Value, ActI a0 lf v a ∧ (∀ i c, pv A4 c4 FB x i = some c → lf i = true → v i = c) ∧ RowsI FB x W0.heap.size lf v w ∧
    (lf 16 = true → ∃ g, v 16 = .slice (some ⟨g, 0, none⟩) 3 3 ∧ W0.heap.size ≤ g ∧ w.heap[g]? = some (.cells #[v 5, v 12, v 15] 29 (0, 0))) ∧ (lf 16 = true → lf 5 = true ∧ lf 12 = true ∧ lf 15 = true) ∧ Below W0.heap.size W0 w

theorem size7 : (opsOf Try.f6 7).size = 19 := by kernel_rfl
theorem elders7 : eldersB (opsOf Try.f6 7) = true := by kernel_rfl
/-- What is looked up of an operation. -/
def face (o : Oper) : Op × Option Tmp × Option (Nat × Bool) × List Nat := (o.op, o.dst, o.guard, needs o)
theorem face0 : ((opsOf Try.f6 7)[0]?).map face = some (.buildSlice 29 0 #[], some 44, none, []) := by kernel_rfl
theorem face1 : ((opsOf Try.f6 7)[1]?).map face = some (.move (.tmp 7), some 45, none, []) := by kernel_rfl
theorem face2 : ((opsOf Try.f6 7)[2]?).map face = some (.call { callee := .builtin .append, args := #[.tmp 44, .tmp 45], argTypes := #[29, 29] }, some 46, none, [0, 1]) := by kernel_rfl
theorem face3 : ((opsOf Try.f6 7)[3]?).map face = some (.move (.tmp 2), some 47, none, []) := by kernel_rfl
theorem face4 : ((opsOf Try.f6 7)[4]?).map face = some (.buildSlice 29 1 #[(0, .tmp 47)], some 48, none, [3]) := by kernel_rfl
theorem face5 : ((opsOf Try.f6 7)[5]?).map face = some (.call { callee := .builtin .append, args := #[.tmp 46, .tmp 48], argTypes := #[29, 29] }, some 49, none, [2, 4, 2]) := by kernel_rfl
theorem face6 : ((opsOf Try.f6 7)[6]?).map face = some (.buildSlice 29 0 #[], some 50, none, []) := by kernel_rfl
theorem face7 : ((opsOf Try.f6 7)[7]?).map face = some (.move (.tmp 7), some 51, none, []) := by kernel_rfl
theorem face8 : ((opsOf Try.f6 7)[8]?).map face = some (.move (.tmp 7), some 52, none, []) := by kernel_rfl
theorem face9 : ((opsOf Try.f6 7)[9]?).map face = some (.call { callee := .builtin .len, args := #[.tmp 52], argTypes := #[29] }, some 53, none, [8]) := by kernel_rfl
theorem face10 : ((opsOf Try.f6 7)[10]?).map face = some (.binOp .sub 3 (.tmp 53) (.const (.int .i64 1)) 3, some 54, none, [9]) := by kernel_rfl
theorem face11 : ((opsOf Try.f6 7)[11]?).map face = some (.slice 29 (.tmp 51) none (some (.tmp 54)) none, some 55, none, [7, 10]) := by kernel_rfl
theorem face12 : ((opsOf Try.f6 7)[12]?).map face = some (.call { callee := .builtin .append, args := #[.tmp 50, .tmp 55], argTypes := #[29, 29] }, some 56, none, [6, 11, 5]) := by kernel_rfl
theorem face13 : ((opsOf Try.f6 7)[13]?).map face = some (.buildSlice 29 0 #[], some 57, none, []) := by kernel_rfl
theorem face14 : ((opsOf Try.f6 7)[14]?).map face = some (.move (.tmp 7), some 58, none, []) := by kernel_rfl
theorem face15 : ((opsOf Try.f6 7)[15]?).map face = some (.call { callee := .builtin .append, args := #[.tmp 57, .tmp 58], argTypes := #[29, 29] }, some 59, none, [13, 14, 12]) := by kernel_rfl
theorem face16 : ((opsOf Try.f6 7)[16]?).map face = some (.buildSlice 44 3 #[(0, .tmp 49), (1, .tmp 56), (2, .tmp 59)], some 60, none, [5, 12, 15]) := by kernel_rfl
theorem face17 : ((opsOf Try.f6 7)[17]?).map face = some (.call { callee := .builtin .len, args := #[.tmp 60], argTypes := #[44] }, some 61, none, [16]) := by kernel_rfl
theorem face18 : ((opsOf Try.f6 7)[18]?).map face = some (.move (.const (.int .i64 0)), some 62, none, []) := by kernel_rfl
theorem face_of {i : Nat} {o : Oper} {F : Op × Option Tmp × Option (Nat × Bool) × List Nat} (h : ((opsOf Try.f6 7)[i]?).map face = some F) (ho : (opsOf Try.f6 7)[i]? = some o) : o.op = F.1 ∧ o.dst = F.2.1 ∧ o.guard = F.2.2.1 ∧ needs o = F.2.2.2 := by
  rw [ho] at h
  simp only [Option.map_some, Option.some.injEq] at h
  subst h
  exact ⟨rfl, rfl, rfl, rfl⟩
theorem live_pure (i : Nat) (hi : i ∈ [1, 3, 7, 8, 9, 10, 11, 14, 16, 17, 18]) (lf : Nat → Bool) (j : Nat) : live (upd lf i) j = live lf j ∧ (live lf j = true → j ≠ i) := by
  simp only [List.mem_cons, List.not_mem_nil, or_false] at hi
  rcases hi with rfl | rfl | rfl | rfl | rfl | rfl | rfl | rfl | rfl | rfl | rfl <;> (unfold live; split <;> simp [upd])
section
variable {ops : Array Oper} {a0 : Act} {W0 : World} {A4 : Option Addr} {c4 : Nat} {FB : List Int} {x : Int} {lf : Nat → Bool} {a : Act} {w : World} {Q : Exit → Act → World → Prop} {K : Act → World → Prop}
theorem I7.pure (hI : I7 a0 W0 A4 c4 FB x lf a w) (hz : 62 < a0.tmps.size) {i : Nat} {o : Oper} {u : Value} (hi : i ∈ [1, 3, 7, 8, 9, 10, 11, 14, 17, 18]) (hd : o.dst = some (44 + i)) (hg : o.guard = none) (hu : pv A4 c4 FB x i = some u)
    (hrun : (execOp a.eval o).run Try.prog w = .ok (.value u) w) (hK : ∀ a' w', I7 a0 W0 A4 c4 FB x (upd lf i) a' w' → K a' w') : if Region.wanted o (yielded ops a.tmps) = true then Oper.wp Try.prog o a w K Q else K (a.put o.dst undef) w := by
  obtain ⟨v, hA, hp, hR, h16, h16b, hB⟩ := hI
  have hi16 : i ≠ 16 := by intro h; subst h; simp at hi
  have hi19 : i < 19 := by simp only [List.mem_cons, List.not_mem_nil, or_false] at hi; omega
  have hl := live_pure i (by simp only [List.mem_cons, List.not_mem_nil, or_false] at hi ⊢; omega) lf
  have hput := hA.put hz i hi19 u
  rw [← hd] at hput
  refine value_ (w1 := w) (v := u) (by simp [Region.wanted, hg]) rfl hrun (hK _ _ ⟨fun j => if j = i then u else v j, hput, fun j c hj hlj => ?_, ⟨fun j hj => ?_, fun j1 j2 hne h1 h2 => ?_⟩, fun h => ?_, fun h => ?_, hB⟩)
  · by_cases hji : j = i
    · subst hji; simp only [if_pos]; rw [hu] at hj; exact Option.some.inj hj
    · simp only [if_neg hji]
      unfold upd at hlj
      rw [if_neg hji] at hlj
      exact hp j c hj hlj
  · rw [(hl j).1] at hj
    simp only [if_neg ((hl j).2 hj)]
    exact hR.r j hj
  · rw [(hl j1).1] at h1
    rw [(hl j2).1] at h2
    simp only [if_neg ((hl j1).2 h1), if_neg ((hl j2).2 h2)]
    exact hR.n j1 j2 hne h1 h2
  · have h' : lf 16 = true := by unfold upd at h; rw [if_neg (fun e => hi16 e.symm)] at h; exact h
    have e5 : ¬ 5 = i := by intro e; subst e; simp at hi
    have e12 : ¬ 12 = i := by intro e; subst e; simp at hi
    have e15 : ¬ 15 = i := by intro e; subst e; simp at hi
    have e16 : ¬ 16 = i := fun e => hi16 e.symm
    simp only [if_neg e5, if_neg e12, if_neg e15, if_neg e16]
    exact h16 h'
  · have h' : lf 16 = true := by unfold upd at h; rw [if_neg (fun e => hi16 e.symm)] at h; exact h
    obtain ⟨q1, q2, q3⟩ := h16b h'
    unfold upd
    refine ⟨?_, ?_, ?_⟩ <;> split <;> first | rfl | assumption

theorem rb_lit (W : World) (base : Nat) (xs : List Int) (hb : base ≤ W.heap.size) (hm : xs.length ≤ 9223372036854775807) : RB (W.alloc (.cells (encs (Value.int .u8) xs).toArray 5)) base (.slice (some ⟨W.heap.size, 0, none⟩) xs.length xs.length) xs :=
  Kd.R_of_own (h1 := fun _ => rfl) (own_lit_of W base 5 xs hb hm) (fun _ _ => trivial)
theorem live_alloc (i : Nat) (hi : i ∈ [0, 4, 6, 13]) (lf : Nat → Bool) (j : Nat) (h : live (upd lf i) j = true) (hj : j ≠ i) : live lf j = true := by
  simp only [List.mem_cons, List.not_mem_nil, or_false] at hi
  revert h
  rcases hi with rfl | rfl | rfl | rfl <;> (unfold live; split <;> simp [upd] <;> first | (intros; assumption) | omega | skip)
theorem I7.alloc (hI : I7 a0 W0 A4 c4 FB x lf a w) (hz : 62 < a0.tmps.size) {i : Nat} {o : Oper} (hi : i ∈ [0, 4, 6, 13]) (hd : o.dst = some (44 + i)) (hg : o.guard = none) (xs : List Int) (u : Value) (hu : cnt FB x i = xs)
    (hrun : (execOp a.eval o).run Try.prog w = .ok (.value u) (w.alloc (.cells (encs (Value.int .u8) xs).toArray 5))) (hr : RB (w.alloc (.cells (encs (Value.int .u8) xs).toArray 5)) W0.heap.size u xs) (hub : ∀ k, u.ownBlock = some k → w.heap.size ≤ k)
    (hK : ∀ a' w', I7 a0 W0 A4 c4 FB x (upd lf i) a' w' → K a' w') : if Region.wanted o (yielded ops a.tmps) = true then Oper.wp Try.prog o a w K Q else K (a.put o.dst undef) w := by
  obtain ⟨v, hA, hp, hR, h16, h16b, hB⟩ := hI
  have hi16 : i ≠ 16 := by intro h; subst h; simp at hi
  have hi19 : i < 19 := by simp only [List.mem_cons, List.not_mem_nil, or_false] at hi; omega
  have hput := hA.put hz i hi19 u
  rw [← hd] at hput
  refine value_ (w1 := w.alloc (.cells (encs (Value.int .u8) xs).toArray 5)) (v := u) (by simp [Region.wanted, hg]) rfl hrun (hK _ _ ⟨fun j => if j = i then u else v j, hput, fun j c hj hlj => ?_, hR.step (fun _ => True) (fun _ => by rw [hu]; exact hr) (fun j hj hne => ⟨live_alloc i hi lf j hj hne, trivial⟩) (fun j _ hj => Kd.R_alloc (hR.r j hj) _) (fun j _ hj k h1 h2 => ?_), fun h => ?_, fun h => ?_, below_alloc hB _⟩)
  · by_cases hji : j = i
    · subst hji
      exfalso
      simp only [List.mem_cons, List.not_mem_nil, or_false] at hi
      rcases hi with rfl | rfl | rfl | rfl <;> simp [pv] at hj
    · simp only [if_neg hji]
      unfold upd at hlj
      rw [if_neg hji] at hlj
      exact hp j c hj hlj
  · have := Kd.R_lt (hR.r j hj) k h2
    have := hub k h1
    omega
  · have h' : lf 16 = true := by unfold upd at h; rw [if_neg (fun e => hi16 e.symm)] at h; exact h
    have e5 : ¬ 5 = i := by intro e; subst e; simp at hi
    have e12 : ¬ 12 = i := by intro e; subst e; simp at hi
    have e15 : ¬ 15 = i := by intro e; subst e; simp at hi
    have e16 : ¬ 16 = i := fun e => hi16 e.symm
    simp only [if_neg e5, if_neg e12, if_neg e15, if_neg e16]
    obtain ⟨g, q1, q2, q3⟩ := h16 h'
    exact ⟨g, q1, q2, blk_alloc q3 _⟩
  · have h' : lf 16 = true := by unfold upd at h; rw [if_neg (fun e => hi16 e.symm)] at h; exact h
    obtain ⟨q1, q2, q3⟩ := h16b h'
    unfold upd
    refine ⟨?_, ?_, ?_⟩ <;> split <;> first | rfl | assumption

theorem live_app {i j0 : Nat} (hij : (i, j0) ∈ [(2, 0), (5, 2), (12, 6), (15, 13)]) (lf : Nat → Bool) (j : Nat) (h : live (upd lf i) j = true) (hj : j ≠ i) : live lf j = true ∧ j ≠ j0 := by
  simp only [List.mem_cons, List.not_mem_nil, or_false, Prod.mk.injEq] at hij
  revert h
  rcases hij with ⟨rfl, rfl⟩ | ⟨rfl, rfl⟩ | ⟨rfl, rfl⟩ | ⟨rfl, rfl⟩ <;> (unfold live; split <;> simp [upd] <;> first | (intros; assumption) | omega | skip)
theorem live_from {i j0 : Nat} (hij : (i, j0) ∈ [(2, 0), (5, 2), (12, 6), (15, 13)]) (lf : Nat → Bool) (h0 : lf j0 = true) (h1 : lf i = false) : live lf j0 = true := by
  simp only [List.mem_cons, List.not_mem_nil, or_false, Prod.mk.injEq] at hij
  rcases hij with ⟨rfl, rfl⟩ | ⟨rfl, rfl⟩ | ⟨rfl, rfl⟩ | ⟨rfl, rfl⟩ <;> simp [live, h0, h1]
theorem I7.app (hI : I7 a0 W0 A4 c4 FB x lf a w) (hz : 62 < a0.tmps.size) {i j0 s : Nat} {o : Oper} (hij : (i, j0) ∈ [(2, 0), (5, 2), (12, 6), (15, 13)]) (hd : o.dst = some (44 + i)) (hg : o.guard = none)
    (ho : o.op = .call { callee := .builtin .append, args := #[.tmp (44 + j0), .tmp s], argTypes := #[29, 29] }) (hl0 : lf j0 = true) (hli : lf i = false) (As : Option Addr) (m cs : Nat) (hs : a.eval (.tmp s) = .slice As m cs) (ys : List Int) (hy : Kd.C (Kd.int .u8) w As m ys)
    (hcnt : cnt FB x i = cnt FB x j0 ++ ys) (hlen : (cnt FB x j0).length + m ≤ 1000000) (hK : ∀ a' w', I7 a0 W0 A4 c4 FB x (upd lf i) a' w' → K a' w') : if Region.wanted o (yielded ops a.tmps) = true then Oper.wp Try.prog o a w K Q else K (a.put o.dst undef) w := by
  obtain ⟨v, hA, hp, hR, h16, h16b, hB⟩ := hI
  have hij' := hij
  simp only [List.mem_cons, List.not_mem_nil, or_false, Prod.mk.injEq] at hij'
  have hi16 : i ≠ 16 := by omega
  have hi19 : i < 19 := by omega
  have hj19 : j0 < 19 := by omega
  have hlv := live_from hij lf hl0 hli
  refine Kd.R_append_rows_step (Kd.int .u8) (Rr := (Kd.int .u8).K w) (w0 := W0) W0.heap.size (by simp [Region.wanted, hg]) (.tmp (44 + j0)) (.tmp s) 29 5 (.int .u8 0) 1 ho Try.underlying29 info5 rfl (by decide) (by decide) (v j0) (cnt FB x j0) ys As m cs (fun _ => True) (fun _ => False) (hA.tmp hj19 hl0) hs (hR.r j0 hlv) hy (fun _ _ h => h) (fun _ h => h.elim) (fun _ _ => trivial) hB hB.size (by omega) ?_
  intro v1 w1 hR1 hB1 hgr hat
  rw [← hcnt] at hR1
  have hput := hA.put hz i hi19 v1
  rw [← hd] at hput
  refine hK _ _ ⟨fun j => if j = i then v1 else v j, hput, fun j c hj hlj => ?_, hR.step (fun j => j ≠ j0) (fun _ => hR1) (fun j hj hne => live_app hij lf j hj hne) (fun j hjk hj => ?_) (fun j hjk hj k h1 h2 => ?_), fun h => ?_, fun h => ?_, hB1⟩
  · by_cases hji : j = i
    · subst hji
      exfalso
      rcases hij' with ⟨rfl, rfl⟩ | ⟨rfl, rfl⟩ | ⟨rfl, rfl⟩ | ⟨rfl, rfl⟩ <;> simp [pv] at hj
    · simp only [if_neg hji]
      unfold upd at hlj
      rw [if_neg hji] at hlj
      exact hp j c hj hlj
  · have h1 : Kd.R (Kd.int .u8) 5 w W0.heap.size (fun k => some k ≠ (v j0).ownBlock) (v j) (cnt FB x j) := Kd.R_of_own (Kd.own_of_R (hR.r j hj)) (fun k hk he => hR.n j0 j (fun e => hjk e.symm) hlv hj k he.symm hk)
    exact Kd.R_mono (Kd.R_grown h1 hgr (fun k hk => hk)) (fun _ _ => trivial)
  · rcases hat with hat | ⟨b, hb1, hb2⟩
    · rw [hat] at h1
      exact hR.n j0 j (fun e => hjk e.symm) hlv hj k h1 h2
    · have := Kd.R_lt (hR.r j hj) k h2
      rw [hb1] at h1
      injection h1 with h1
      omega
  · have h' : lf 16 = true := by unfold upd at h; rw [if_neg (fun e => hi16 e.symm)] at h; exact h
    obtain ⟨q1, q2, q3⟩ := h16b h'
    have e5 : ¬ 5 = i := by intro e; subst e; rw [hli] at q1; cases q1
    have e12 : ¬ 12 = i := by intro e; subst e; rw [hli] at q2; cases q2
    have e15 : ¬ 15 = i := by intro e; subst e; rw [hli] at q3; cases q3
    have e16 : ¬ 16 = i := fun e => hi16 e.symm
    simp only [if_neg e5, if_neg e12, if_neg e15, if_neg e16]
    obtain ⟨g, r1, r2, r3⟩ := h16 h'
    exact ⟨g, r1, r2, blk_grown r3 hgr (own_ne (Kd.own_of_R (hR.r j0 hlv)) r3 (by decide))⟩
  · have h' : lf 16 = true := by unfold upd at h; rw [if_neg (fun e => hi16 e.symm)] at h; exact h
    obtain ⟨q1, q2, q3⟩ := h16b h'
    unfold upd
    refine ⟨?_, ?_, ?_⟩ <;> split <;> first | rfl | assumption

set_option maxHeartbeats 4000000 in
theorem reg7 {Q : Exit → Act → World → Prop} (a0 : Act) (W0 : World) (A4 : Option Addr) (c4 : Nat) (FB : List Int) (x : Int) (hz : 62 < a0.tmps.size) (h7 : a0.tmps[7]? = some (.slice A4 FB.length c4)) (h2 : a0.tmps[2]? = some (.int .u8 x)) (hC : Kd.C (Kd.int .u8) W0 A4 FB.length FB) (hc4 : FB.length ≤ c4) (hn0 : 0 < FB.length) (hn1 : FB.length ≤ 100000)
    (hend : ∀ a w, I7 a0 W0 A4 c4 FB x (fun _ => true) a w → Q .normal a w) : (Code.region 7 (opsOf Try.f6 7) true).wp Try.prog Q a0 W0 := by
  refine region_inv (Inv := I7 a0 W0 A4 c4 FB x) (by kernel_rfl) elders7 ?_ ?_ hend
  · rw [size7]
    refine ⟨fun _ => undef, ⟨rfl, rfl, fun n hn => rfl, fun i hi hl => ?_⟩, fun i c hc hl => ?_, ⟨fun i hl => ?_, fun i j hne hl => ?_⟩, fun h => by simp at h, fun h => by simp at h, Below.drew (Below.refl _ _)⟩
    · simp at hl; omega
    · exfalso
      simp only [decide_eq_true_eq] at hl
      unfold pv at hc
      split at hc <;> first | omega | cases hc
    · exfalso; unfold live at hl; split at hl <;> simp at hl
    · exfalso; unfold live at hl; split at hl <;> simp at hl
  · intro lf a w i o ho hli hneed hI K hK
    have hi : i < 19 := by
      rcases Nat.lt_or_ge i 19 with h | h
      · exact h
      · rw [Array.getElem?_eq_none (by rw [size7]; exact h)] at ho; cases ho
    have hI' := hI
    obtain ⟨v, hA, hp, hR, h16, h16b, hB⟩ := hI'
    have e7 : a.eval (.tmp 7) = .slice A4 FB.length c4 := hA.old (by decide) h7
    have e2 : a.eval (.tmp 2) = .int .u8 x := hA.old (by decide) h2
    have hcase : i = 0 ∨ i = 1 ∨ i = 2 ∨ i = 3 ∨ i = 4 ∨ i = 5 ∨ i = 6 ∨ i = 7 ∨ i = 8 ∨ i = 9 ∨ i = 10 ∨ i = 11 ∨ i = 12 ∨ i = 13 ∨ i = 14 ∨ i = 15 ∨ i = 16 ∨ i = 17 ∨ i = 18 := by omega
    rcases hcase with rfl | rfl | rfl | rfl | rfl | rfl | rfl | rfl | rfl | rfl | rfl | rfl | rfl | rfl | rfl | rfl | rfl | rfl | rfl
    · obtain ⟨f1, f2, f3, f4⟩ := face_of face0 ho
      have hsz : W0.heap.size ≤ w.heap.size := hB.size
      refine I7.alloc (i := 0) hI hz (by decide) f2 f3 [] (.slice (some ⟨w.heap.size, 0, none⟩) 0 0) rfl ?_ (rb_lit w _ [] hsz (by simp)) (by intro k hk; simp [Value.ownBlock] at hk; omega) hK
      go_simp
      rfl
    · obtain ⟨f1, f2, f3, f4⟩ := face_of face1 ho
      refine hI.pure hz (by decide) f2 f3 rfl ?_ hK
      simp [execOp, f1, e7]
    · obtain ⟨f1, f2, f3, f4⟩ := face_of face2 ho
      have l0 := hneed 0 (by rw [f4]; decide)
      have l1 := hneed 1 (by rw [f4]; decide)
      have e : a.eval (.tmp 45) = .slice A4 FB.length c4 := (hA.tmp (i := 1) (by decide) l1).trans (hp 1 _ rfl l1)
      exact I7.app (i := 2) (j0 := 0) hI hz (by decide) f2 f3 f1 l0 hli A4 FB.length c4 e FB (Kd.C_below hC hB) (by simp [cnt]) (by simp [cnt]; omega) hK
    · obtain ⟨f1, f2, f3, f4⟩ := face_of face3 ho
      refine hI.pure hz (by decide) f2 f3 rfl ?_ hK
      simp [execOp, f1, e2]
    · obtain ⟨f1, f2, f3, f4⟩ := face_of face4 ho
      have hsz : W0.heap.size ≤ w.heap.size := hB.size
      have l3 := hneed 3 (by rw [f4]; decide)
      have e : a.tmps[47]? = some (.int .u8 x) := by rw [← hp 3 _ rfl l3]; exact hA.f 3 (by decide) l3
      refine I7.alloc (i := 4) hI hz (by decide) f2 f3 [x] (.slice (some ⟨w.heap.size, 0, none⟩) 1 1) rfl ?_ (rb_lit w _ [x] hsz (by simp)) (by intro k hk; simp [Value.ownBlock] at hk; omega) hK
      go_simp
      rfl
    · obtain ⟨f1, f2, f3, f4⟩ := face_of face5 ho
      have l2 := hneed 2 (by rw [f4]; decide)
      have l4 := hneed 4 (by rw [f4]; decide)
      have hr4 := hR.r 4 (by simp [live, l4, hli])
      obtain ⟨As, cs, hv4, hcs, hC4⟩ := Kd.R_reads hr4
      have e : a.eval (.tmp 48) = .slice As 1 cs := (hA.tmp (i := 4) (by decide) l4).trans hv4
      exact I7.app (i := 5) (j0 := 2) hI hz (by decide) f2 f3 f1 l2 hli As 1 cs e [x] hC4 (by simp [cnt]) (by simp [cnt]; omega) hK
    · obtain ⟨f1, f2, f3, f4⟩ := face_of face6 ho
      have hsz : W0.heap.size ≤ w.heap.size := hB.size
      refine I7.alloc (i := 6) hI hz (by decide) f2 f3 [] (.slice (some ⟨w.heap.size, 0, none⟩) 0 0) rfl ?_ (rb_lit w _ [] hsz (by simp)) (by intro k hk; simp [Value.ownBlock] at hk; omega) hK
      go_simp
      rfl
    · obtain ⟨f1, f2, f3, f4⟩ := face_of face7 ho
      refine hI.pure hz (by decide) f2 f3 rfl ?_ hK
      simp [execOp, f1, e7]
    · obtain ⟨f1, f2, f3, f4⟩ := face_of face8 ho
      refine hI.pure hz (by decide) f2 f3 rfl ?_ hK
      simp [execOp, f1, e7]
    · obtain ⟨f1, f2, f3, f4⟩ := face_of face9 ho
      have l8 := hneed 8 (by rw [f4]; decide)
      have e : a.tmps[52]? = some (.slice A4 FB.length c4) := by rw [← hp 8 _ rfl l8]; exact hA.f 8 (by decide) l8
      refine hI.pure hz (by decide) f2 f3 rfl ?_ hK
      go_simp
      all_goals rfl
    · obtain ⟨f1, f2, f3, f4⟩ := face_of face10 ho
      have l9 := hneed 9 (by rw [f4]; decide)
      have e : a.tmps[53]? = some (.int .i64 FB.length) := by rw [← hp 9 _ rfl l9]; exact hA.f 9 (by decide) l9
      refine hI.pure hz (by decide) f2 f3 rfl ?_ hK
      have hw : wrap64 ((FB.length : Int) - 1) = (FB.length : Int) - 1 := w_small _ (by omega) (by omega)
      go_simp
      exact (i64_w _).trans hw
    · obtain ⟨f1, f2, f3, f4⟩ := face_of face11 ho
      have l7 := hneed 7 (by rw [f4]; decide)
      have l10 := hneed 10 (by rw [f4]; decide)
      have e : a.tmps[51]? = some (.slice A4 FB.length c4) := by rw [← hp 7 _ rfl l7]; exact hA.f 7 (by decide) l7
      have e' : a.tmps[54]? = some (.int .i64 ((FB.length : Int) - 1)) := by rw [← hp 10 _ rfl l10]; exact hA.f 10 (by decide) l10
      refine hI.pure hz (by decide) f2 f3 rfl ?_ hK
      go_simp
      intro hbad
      have := hbad (by omega)
      omega
    · obtain ⟨f1, f2, f3, f4⟩ := face_of face12 ho
      have l6 := hneed 6 (by rw [f4]; decide)
      have l11 := hneed 11 (by rw [f4]; decide)
      have e : a.eval (.tmp 55) = .slice A4 (FB.length - 1) c4 := (hA.tmp (i := 11) (by decide) l11).trans (hp 11 _ rfl l11)
      have hCt := Kd.C_take (Kd.C_below hC hB) (m := FB.length - 1) (by omega)
      rw [List.length_take, Nat.min_eq_left (by omega)] at hCt
      exact I7.app (i := 12) (j0 := 6) hI hz (by decide) f2 f3 f1 l6 hli A4 (FB.length - 1) c4 e (FB.take (FB.length - 1)) hCt (by simp [cnt]) (by simp [cnt]; omega) hK
    · obtain ⟨f1, f2, f3, f4⟩ := face_of face13 ho
      have hsz : W0.heap.size ≤ w.heap.size := hB.size
      refine I7.alloc (i := 13) hI hz (by decide) f2 f3 [] (.slice (some ⟨w.heap.size, 0, none⟩) 0 0) rfl ?_ (rb_lit w _ [] hsz (by simp)) (by intro k hk; simp [Value.ownBlock] at hk; omega) hK
      go_simp
      rfl
    · obtain ⟨f1, f2, f3, f4⟩ := face_of face14 ho
      refine hI.pure hz (by decide) f2 f3 rfl ?_ hK
      simp [execOp, f1, e7]
    · obtain ⟨f1, f2, f3, f4⟩ := face_of face15 ho
      have l13 := hneed 13 (by rw [f4]; decide)
      have l14 := hneed 14 (by rw [f4]; decide)
      have e : a.eval (.tmp 58) = .slice A4 FB.length c4 := (hA.tmp (i := 14) (by decide) l14).trans (hp 14 _ rfl l14)
      exact I7.app (i := 15) (j0 := 13) hI hz (by decide) f2 f3 f1 l13 hli A4 FB.length c4 e FB (Kd.C_below hC hB) (by simp [cnt]) (by simp [cnt]; omega) hK
    · obtain ⟨f1, f2, f3, f4⟩ := face_of face16 ho
      have hsz : W0.heap.size ≤ w.heap.size := hB.size
      have l5 := hneed 5 (by rw [f4]; decide)
      have l12 := hneed 12 (by rw [f4]; decide)
      have l15 := hneed 15 (by rw [f4]; decide)
      obtain ⟨A5, c5, hv5⟩ := Kd.R_slice (hR.r 5 (by simp [live, l5]))
      obtain ⟨A12, c12, hv12⟩ := Kd.R_slice (hR.r 12 (by simp [live, l12]))
      obtain ⟨A15, c15, hv15⟩ := Kd.R_slice (hR.r 15 (by simp [live, l15]))
      have e5 : a.tmps[49]? = some (v 5) := hA.f 5 (by decide) l5
      have e12 : a.tmps[56]? = some (v 12) := hA.f 12 (by decide) l12
      have e15 : a.tmps[59]? = some (v 15) := hA.f 15 (by decide) l15
      have hput := hA.put hz 16 (by decide) (.slice (some ⟨w.heap.size, 0, none⟩) 3 3)
      rw [← show o.dst = some (44 + 16) from f2] at hput
      have hl := live_pure 16 (by decide) lf
      have hu : ∀ j, j ≠ 16 → upd lf 16 j = lf j := fun j hj => by unfold upd; rw [if_neg hj]
      refine value_ (w1 := w.alloc (.cells #[v 5, v 12, v 15] 29)) (v := .slice (some ⟨w.heap.size, 0, none⟩) 3 3) (by simp [Region.wanted, f3]) rfl ?_ (hK _ _ ⟨fun j => if j = 16 then .slice (some ⟨w.heap.size, 0, none⟩) 3 3 else v j, hput, fun j c hj hlj => ?_, ⟨fun j hj => ?_, fun j1 j2 hne h1 h2 => ?_⟩, fun _ => ⟨w.heap.size, rfl, hsz, blk_new w _⟩, fun _ => ⟨(hu 5 (by decide)).trans l5, (hu 12 (by decide)).trans l12, (hu 15 (by decide)).trans l15⟩, below_alloc hB _⟩)
      · rw [hv5, hv12, hv15] at *
        go_simp
        all_goals rfl
      · by_cases hji : j = 16
        · subst hji; simp [pv] at hj
        · simp only [if_neg hji]
          rw [hu j hji] at hlj
          exact hp j c hj hlj
      · rw [(hl j).1] at hj
        simp only [if_neg ((hl j).2 hj)]
        exact Kd.R_alloc (hR.r j hj) _
      · rw [(hl j1).1] at h1
        rw [(hl j2).1] at h2
        simp only [if_neg ((hl j1).2 h1), if_neg ((hl j2).2 h2)]
        exact hR.n j1 j2 hne h1 h2
    · obtain ⟨f1, f2, f3, f4⟩ := face_of face17 ho
      have l16 := hneed 16 (by rw [f4]; decide)
      obtain ⟨g, q1, q2, q3⟩ := h16 l16
      have e : a.tmps[60]? = some (.slice (some ⟨g, 0, none⟩) 3 3) := by rw [← q1]; exact hA.f 16 (by decide) l16
      refine hI.pure hz (by decide) f2 f3 rfl ?_ hK
      go_simp
      all_goals rfl
    · obtain ⟨f1, f2, f3, f4⟩ := face_of face18 ho
      refine hI.pure hz (by decide) f2 f3 rfl ?_ hK
      simp [execOp, f1, Act.eval]
end
end Go.Proofs.Ytelheeekbihfcab.Ob
