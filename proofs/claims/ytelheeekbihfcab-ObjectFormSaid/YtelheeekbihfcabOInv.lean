/- A region whose operations may come up in many orders: one invariant, each operation shown once. -/
import Derived.Test.YtelheeekbihfcabBuf
set_option linter.unusedVariables false
set_option linter.unusedSimpArgs false
namespace Go.Proofs.Ytelheeekbihfcab.Ob
open Go.RowKit Go.Proofs Go.Proofs.YtelheeekbihfcabW.PrintWords Go.Proofs.YtelheeekbihfcabW.PrintMore Go.Proofs.YtelheeekbihfcabW.PrintLast

theorem cnt_lt {p q : Nat → Bool} (h : ∀ x, q x = true → p x = true) {i : Nat} : ∀ L : List Nat, i ∈ L → p i = true → q i = false → (L.filter q).length < (L.filter p).length
  | [], hi, _, _ => by cases hi
  | x :: L, hi, hp, hq => by
    have hle : ∀ L : List Nat, (L.filter q).length ≤ (L.filter p).length := fun L => by
      induction L with
      | nil => simp
      | cons y L ih =>
        rcases hqy : q y with _ | _
        · rw [List.filter_cons_of_neg (by simp [hqy])]
          rcases hpy : p y with _ | _
          · rw [List.filter_cons_of_neg (by simp [hpy])]; exact ih
          · rw [List.filter_cons_of_pos hpy]; simp; omega
        · rw [List.filter_cons_of_pos hqy, List.filter_cons_of_pos (h y hqy)]; simp; omega
    rcases List.mem_cons.1 hi with rfl | hi
    · rw [List.filter_cons_of_pos hp, List.filter_cons_of_neg (by simp [hq])]
      have := hle L
      simp
      omega
    · have ih := cnt_lt h L hi hp hq
      rcases hqy : q x with _ | _
      · rw [List.filter_cons_of_neg (by simp [hqy])]
        rcases hpy : p x with _ | _
        · rw [List.filter_cons_of_neg (by simp [hpy])]; exact ih
        · rw [List.filter_cons_of_pos hpy]; simp; omega
      · rw [List.filter_cons_of_pos hqy, List.filter_cons_of_pos (h x hqy)]; simp; omega

/-- Which operations have come up. -/
def lfn (l : Array Bool) : Nat → Bool := fun i => l.getD i true
/-- What an operation waits for. -/
def needs (o : Oper) : List Nat := (o.after.toList.filter fun e => Region.binds .any e).map (·.on)
def upd (lf : Nat → Bool) (i : Nat) : Nat → Bool := fun j => if j = i then true else lf j
/-- Each operation waits for elder ones alone. -/
def eldersB (ops : Array Oper) : Bool := (List.range ops.size).all fun i => ((ops[i]?).map fun o => o.after.all fun e => !Region.binds .any e || decide (e.on < i)).getD true

section
variable {P : Program} {ops : Array Oper} {Q : Exit → Act → World → Prop} {Inv : (Nat → Bool) → Act → World → Prop}
theorem lfn_set {l : Array Bool} {i : Nat} (hi : i < l.size) : lfn (l.setIfInBounds i true) = upd (lfn l) i := by
  funext j
  unfold lfn upd
  simp only [Array.getD_eq_getD_getElem?, Array.getElem?_setIfInBounds]
  by_cases h : i = j
  · subst h; simp [hi]
  · have h' : ¬ j = i := fun e => h e.symm
    simp [h, h']
theorem ready_all {l : Array Bool} (hel : eldersB ops = true) (hr : Region.ready .any ops l = []) (hs : l.size = ops.size) : ∀ n i : Nat, i < n → lfn l i = true := by
  intro n
  induction n with
  | zero => intro i hi; omega
  | succ n ih =>
    intro i hi
    rcases Nat.lt_or_ge i n with h1 | h1
    · exact ih i h1
    obtain rfl : i = n := by omega
    rcases Nat.lt_or_ge i ops.size with h2 | h2
    · rcases hl : lfn l i with _ | _
      · exfalso
        have hm : i ∈ Region.ready .any ops l := by
          unfold Region.ready
          rw [List.mem_filter]
          refine ⟨List.mem_range.2 h2, ?_⟩
          have hx := List.all_eq_true.1 hel i (List.mem_range.2 h2)
          rw [Array.getElem?_eq_getElem h2] at hx ⊢
          simp only [Option.map_some, Option.getD_some, Bool.and_eq_true, Bool.not_eq_true'] at hx ⊢
          refine ⟨hl, ?_⟩
          rw [Array.all_eq_true'] at hx ⊢
          intro e he
          have h3 := hx e he
          rw [Bool.or_eq_true] at h3 ⊢
          rcases h3 with h3 | h3
          · exact Or.inl h3
          · have h4 : e.on < i := of_decide_eq_true h3
            have h5 := ih e.on h4
            refine Or.inr ?_
            unfold lfn at h5
            have h6 : e.on < l.size := by omega
            simpa [Array.getD_eq_getD_getElem?, h6] using h5
        rw [hr] at hm
        cases hm
      · rfl
    · unfold lfn
      simp [Array.getD_eq_getD_getElem?, hs, h2]

theorem inv_go (hel : eldersB ops = true)
    (hstep : ∀ (lf : Nat → Bool) (a : Act) (w : World) (i : Nat) (o : Oper), ops[i]? = some o → lf i = false → (∀ j, j ∈ needs o → lf j = true) → Inv lf a w → ∀ K : Act → World → Prop, (∀ a' w', Inv (upd lf i) a' w' → K a' w') → if Region.wanted o (yielded ops a.tmps) = true then Oper.wp P o a w K Q else K (a.put o.dst undef) w)
    (hend : ∀ a w, Inv (fun _ => true) a w → Q .normal a w) : ∀ (n : Nat) (l : Array Bool) (a : Act) (w : World), l.size = ops.size → ((List.range ops.size).filter (fun i => !lfn l i)).length ≤ n → Inv (lfn l) a w → wpAny P .any ops Q n l a w := by
  have hdone : ∀ (l : Array Bool) (a : Act) (w : World), l.size = ops.size → Inv (lfn l) a w → Region.ready .any ops l = [] → Q .normal a w := fun l a w hs hI hr => by
    have : lfn l = fun _ => true := funext fun i => ready_all hel hr hs (i + 1) i (by omega)
    rw [this] at hI
    exact hend a w hI
  intro n
  induction n with
  | zero =>
    intro l a w hs hn hI
    have hr : Region.ready .any ops l = [] := by
      rw [List.eq_nil_iff_forall_not_mem]
      intro i hi
      unfold Region.ready at hi
      rw [List.mem_filter, Bool.and_eq_true, Bool.not_eq_true'] at hi
      have hz : (List.range ops.size).filter (fun i => !lfn l i) = [] := List.eq_nil_of_length_eq_zero (by omega)
      have : i ∈ (List.range ops.size).filter (fun i => !lfn l i) := by
        rw [List.mem_filter]
        exact ⟨hi.1, by simp only [lfn, hi.2.1, Bool.not_false]⟩
      rw [hz] at this
      cases this
    exact ⟨hr, hdone l a w hs hI hr⟩
  | succ n ih =>
    intro l a w hs hn hI
    refine ⟨hdone l a w hs hI, fun i hi => ?_⟩
    unfold Region.ready at hi
    rw [List.mem_filter, Bool.and_eq_true, Bool.not_eq_true', List.mem_range] at hi
    obtain ⟨h1, h2, h3⟩ := hi
    rw [Array.getElem?_eq_getElem h1] at h3
    simp only [Option.map_some, Option.getD_some] at h3
    have hneed : ∀ j, j ∈ needs (ops[i]) → lfn l j = true := by
      rw [Array.all_eq_true'] at h3
      intro j hj
      unfold needs at hj
      obtain ⟨e, he, rfl⟩ := List.mem_map.1 hj
      rw [List.mem_filter] at he
      have h4 := h3 e (by simpa using he.1)
      rw [he.2, Bool.not_true, Bool.false_or] at h4
      unfold lfn
      simp only [Array.getD_eq_getD_getElem?] at h4 ⊢
      rcases hx : l[e.on]? with _ | y
      · simp
      · rw [hx] at h4; simpa using h4
    refine wpOp_step (Array.getElem?_eq_getElem h1) (fun K' hK => ?_)
    refine hstep (lfn l) a w i (ops[i]) (Array.getElem?_eq_getElem h1) h2 hneed hI K' (fun a' w' hI' => hK a' w' ?_)
    refine ih _ a' w' (by simp [hs]) ?_ ?_
    · have hlt := cnt_lt (p := fun i => !lfn l i) (q := fun j => !lfn (l.setIfInBounds i true) j) (i := i) (fun x hx => by
        rw [lfn_set (by omega)] at hx
        unfold upd at hx
        split at hx
        · simp at hx
        · exact hx) (List.range ops.size) (List.mem_range.2 h1) (by simp only [lfn, h2, Bool.not_false]) (by rw [lfn_set (by omega)]; simp [upd])
      omega
    · rw [lfn_set (by omega)]
      exact hI'

/-- The region, whatever the order. -/
theorem region_inv {id : Nat} {a : Act} {w : World} (hm : P.follows .mixedOrders = true) (hel : eldersB ops = true) (h0 : Inv (fun i => decide (ops.size ≤ i)) a w.drew)
    (hstep : ∀ (lf : Nat → Bool) (a : Act) (w : World) (i : Nat) (o : Oper), ops[i]? = some o → lf i = false → (∀ j, j ∈ needs o → lf j = true) → Inv lf a w → ∀ K : Act → World → Prop, (∀ a' w', Inv (upd lf i) a' w' → K a' w') → if Region.wanted o (yielded ops a.tmps) = true then Oper.wp P o a w K Q else K (a.put o.dst undef) w)
    (hend : ∀ a w, Inv (fun _ => true) a w → Q .normal a w) : (Code.region id ops true).wp P Q a w := by
  refine wp_region_any hm (inv_go hel hstep hend ops.size (Array.replicate ops.size false) a w.drew (by simp) ?_ ?_)
  · exact Nat.le_trans (List.length_filter_le _ _) (by simp)
  · have : lfn (Array.replicate ops.size false) = fun i => decide (ops.size ≤ i) := by
      funext i
      unfold lfn
      by_cases h : i < ops.size
      · simp [Array.getD_eq_getD_getElem?, Array.getElem?_replicate, h]
      · simp [Array.getD_eq_getD_getElem?, Array.getElem?_replicate, h]; omega
    rw [this]
    exact h0
end
end Go.Proofs.Ytelheeekbihfcab.Ob
