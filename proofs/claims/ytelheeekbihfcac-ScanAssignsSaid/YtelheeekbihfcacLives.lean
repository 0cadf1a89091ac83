/- The laws' own lives. -/
import Derived.Test.YtelheeekbihfcacLaws
import Derived.Test.YtelheeekbihfcacAssignB
set_option linter.unusedVariables false
set_option linter.unusedSimpArgs false
namespace Go.Proofs.Ytelheeekbihfcac.Srt
open Go.RowKit Go.Proofs Go.Proofs.Ytelheeekbihfcac.PScanAssigns Go.Proofs.YtelheeekbihfcacW.PrintWords Go.Proofs.YtelheeekbihfcacW.PrintMore

theorem Ahead.asymm {l : List S40} {i j : Nat} (h : Ahead l i j) : ¬ Ahead l j i := by
  unfold Ahead at *
  omega

theorem sorted_unique {R : Nat → Nat → Prop} (hR : ∀ i j, R i j → ¬ R j i) : ∀ (o o' : List Nat), o.Perm o' → o.Pairwise R → o'.Pairwise R → o = o'
  | [], o', hp, _, _ => (List.nil_perm.1 hp).symm
  | x :: o, [], hp, _, _ => absurd hp.length_eq (by simp)
  | x :: o, y :: o', hp, h, h' => by
    have h1 := List.pairwise_cons.1 h
    have h2 := List.pairwise_cons.1 h'
    have e : x = y := by
      rcases List.mem_cons.1 (hp.mem_iff.1 List.mem_cons_self) with e | hx
      · exact e
      · rcases List.mem_cons.1 (hp.mem_iff.2 List.mem_cons_self) with e | hy
        · exact e.symm
        · exact absurd (h2.1 x hx) (hR _ _ (h1.1 y hy))
    subst e
    rw [sorted_unique hR o o' (List.Perm.cons_inv hp) h1.2 h2.2]

theorem Order.unique {l : List S40} {o o' : List Nat} (h : Order l o) (h' : Order l o') : o = o' :=
  sorted_unique (fun _ _ => Ahead.asymm) o o' (h.perm.trans h'.perm.symm) h.srt h'.srt

theorem Run.nil_inv {l : List S40} {regs : Nat} {o : List Nat} {st : St} (h : Run l regs o st) (ho : o = []) : st = start l.length regs := by
  cases h with
  | nil => rfl
  | snoc h1 h2 => simp at ho

theorem Run.snoc_inv {l : List S40} {regs : Nat} {o pre : List Nat} {i : Nat} {st' : St} (h : Run l regs o st') (ho : o = pre ++ [i]) : ∃ st, Run l regs pre st ∧ Step l st i st' := by
  cases h with
  | nil => simp at ho
  | snoc h1 h2 =>
    obtain ⟨e1, e2⟩ := List.append_inj' ho rfl
    injection e2 with e2
    subst e1 e2
    exact ⟨_, h1, h2⟩

def l3 : List S40 := [⟨0, 4⟩, ⟨1, 2⟩, ⟨1, 9⟩]
def l4 : List S40 := [⟨0, 4⟩, ⟨1, 2⟩, ⟨4, 9⟩]

theorem order3 {o : List Nat} (h : Order l3 o) : o = [0, 1, 2] := by
  refine h.unique ⟨by decide, ?_⟩
  refine List.Pairwise.cons ?_ (List.Pairwise.cons ?_ (List.Pairwise.cons ?_ List.Pairwise.nil))
  all_goals intro a ha; simp at ha
  · rcases ha with rfl | rfl <;> (unfold Ahead; decide)
  · subst ha; unfold Ahead; decide

theorem run3 {st : St} (h : Run l3 1 [0, 1, 2] st) : st.rooms = [-1, 0, -2] ∧ st.slots = 2 := by
  obtain ⟨s2, h2, S2⟩ := h.snoc_inv (pre := [0, 1]) rfl
  obtain ⟨s1, h1, S1⟩ := h2.snoc_inv (pre := [0]) rfl
  obtain ⟨s0, h0, S0⟩ := h1.snoc_inv (pre := []) rfl
  obtain rfl := h0.nil_inv rfl
  clear h h2 h1 h0
  have e0 : look l3 ((start l3.length 1).wh.set 0 (((start l3.length 1).now : Int) + 1)) 0 (start l3.length 1).held 0 0 (-1) = (some 0, 0, -1) := by decide
  cases S0 with
  | self at_ s h hs => rw [e0] at h; cases h
  | other worst at_ s h hw hs => rw [e0] at h; cases h
  | free r worst at_ h =>
    rw [e0] at h
    injection h with h1 h2
    injection h1 with h1
    subst h1
    clear h2 e0
    simp only [start, l3, List.length_cons, List.length_nil, Nat.reduceAdd, List.replicate, List.set] at S1
    cases S1 with
    | free r worst at_ h => exact absurd h (by rw [show look _ _ _ _ _ _ _ = (none, 0, 0) from by decide]; intro h; cases h)
    | self at_ s h hs => exact absurd h (by rw [show look _ _ _ _ _ _ _ = (none, 0, 0) from by decide]; intro h; cases h)
    | other worst at_ s h hw hs =>
      have h' := h
      simp only at h'
      rw [show look _ _ _ _ _ _ _ = (none, 0, 0) from by decide] at h'
      injection h' with _ h'
      injection h' with h1 h2
      subst h1
      obtain rfl : at_ = 0 := by omega
      have hs1 : s = 1 := by have a := hs.one; have b := hs.top; simp at b; omega
      subst hs1
      clear hs h hw h2
      simp only [List.set, List.nil_append] at S2
      cases S2 with
      | free r worst at_ h => exact absurd h (by rw [show look _ _ _ _ _ _ _ = (none, 2, -1) from by decide]; intro h; cases h)
      | other worst at_ s h hw hs =>
        have h' := h
        simp only at h'
        rw [show look _ _ _ _ _ _ _ = (none, 2, -1) from by decide] at h'
        injection h' with _ h'
        injection h' with h1 h2
        omega
      | self at_ s h hs =>
        have hs2 : s = 2 := by
          have a := hs.one
          have b := hs.top
          have c := hs.free 0 (by simp) (by decide)
          simp at b
          have d : s ≠ 1 := fun e => c (by subst e; decide)
          omega
        subst hs2
        exact ⟨by decide, by decide⟩
end Go.Proofs.Ytelheeekbihfcac.Srt
