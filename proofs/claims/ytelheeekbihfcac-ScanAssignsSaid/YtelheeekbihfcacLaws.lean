/- What holds of the program's Assign when it is done. -/
import Derived.Test.YtelheeekbihfcacPeak
set_option linter.unusedVariables false
set_option linter.unusedSimpArgs false
namespace Go.Proofs.Ytelheeekbihfcac.Srt
open Go.RowKit Go.Proofs Go.Proofs.Ytelheeekbihfcac.PScanAssigns Go.Proofs.YtelheeekbihfcacW.PrintWords Go.Proofs.YtelheeekbihfcacW.PrintMore

theorem sub_len {α : Type} [DecidableEq α] : ∀ (L M : List α), L.Nodup → (∀ x, x ∈ L → x ∈ M) → L.length ≤ M.length
  | [], _, _, _ => Nat.zero_le _
  | x :: L, M, hn, hs => by
    have hx := hs x (by simp)
    have h1 := sub_len L (M.erase x) (List.nodup_cons.1 hn).2 (fun y hy => by
      have hne : y ≠ x := fun e => (List.nodup_cons.1 hn).1 (e ▸ hy)
      exact (List.mem_erase_of_ne hne).2 (hs y (List.mem_cons_of_mem _ hy)))
    rw [List.length_erase_of_mem hx] at h1
    have := List.length_pos_of_mem hx
    simp only [List.length_cons]
    omega

theorem many (m : Nat) (L : List Nat) (f : Nat → Int) (h : ∀ t : Nat, t < m → ∃ k, k ∈ L ∧ f k = t) : m ≤ L.length := by
  have h1 := sub_len ((List.range m).map fun t : Nat => (t : Int)) (L.map f) (List.Pairwise.map _ (fun a b hab e => hab (by omega)) List.nodup_range) (fun x hx => by
    obtain ⟨t, ht, rfl⟩ := List.mem_map.1 hx
    obtain ⟨k, hk, hf⟩ := h t (List.mem_range.1 ht)
    exact List.mem_map.2 ⟨k, hk, hf⟩)
  simpa using h1

theorem meets_false {a b : S40} (h : meetsB a b = false) : a.f1 ≤ b.f0 ∨ b.f1 ≤ a.f0 := by
  unfold meetsB at h
  simp at h
  omega

theorem look_none (l : List S40) (wh : List Int) (i : Nat) (held : List Int) : ∀ (d r : Nat) (worst : Nat) (at_ : Int), held.length - r = d → r ≤ held.length →
    ∀ (w' : Nat) (a' : Int), look l wh i (held.drop r) r worst at_ = (none, w', a') → ∀ q, r ≤ q → q < held.length → ¬ (rd held (q : Int) < 0 ∨ To l (rd held (q : Int)).toNat ≤ From l i) := by
  intro d
  induction d with
  | zero => intro r worst at_ hd hr w' a' h q h1 h2; omega
  | succ d ih =>
    intro r worst at_ hd hr w' a' h q h1 h2
    have hlt : r < held.length := by omega
    rw [rd_drop held r hlt] at h
    simp only [look] at h
    by_cases hc : rd held (r : Int) < 0 ∨ To l (rd held (r : Int)).toNat ≤ From l i
    · rw [if_pos hc] at h; cases h
    · rw [if_neg hc] at h
      rcases Nat.lt_or_ge r q with h3 | h3
      · split at h
        · exact ih (r + 1) _ _ (by omega) hlt w' a' h q h3 h2
        · exact ih (r + 1) _ _ (by omega) hlt w' a' h q h3 h2
      · obtain rfl : r = q := by omega
        exact hc

/-- What holds of the rooms, life by life. -/
structure Fin (l : List S40) (regs : Nat) (pre : List Nat) (st : St) : Prop where
  rng : ∀ k, k ∈ pre → (0 ≤ rd st.rooms k ∧ rd st.rooms k < regs) ∨ ∃ m : Nat, 1 ≤ m ∧ (m : Int) ≤ st.slots ∧ rd st.rooms k = -(m : Int)
  neg : ∀ k, k ∈ pre → rd st.rooms k < 0 → k ∈ st.sp
  reg : ∀ k, k ∈ pre → ∀ r : Nat, rd st.rooms k = r → ∃ h : Nat, rd st.held (r : Int) = h ∧ h ∈ pre ∧ (k = h ∨ To l k ≤ From l h)
  apart : ∀ k j, k ∈ pre → j ∈ pre → k ≠ j → rd st.rooms k = rd st.rooms j → To l k ≤ From l j ∨ To l j ≤ From l k
  sl0 : 0 ≤ st.slots
  sl1 : st.slots ≤ pre.length
  few : st.slots = 0 ∨ ∃ i, i < l.length ∧ regs + 1 ≤ cnt l (From l i) l.length
  none : regs = 0 → st.slots = 0 ∨ ∃ i, i < l.length ∧ st.slots ≤ cnt l (From l i) l.length

theorem mem_alive {l : List S40} {x : Int} {k : Nat} (hk : k < l.length) (h1 : From l k ≤ x) (h2 : x < To l k) : k ∈ (List.range l.length).filter (alive l x) := by
  rw [List.mem_filter]
  exact ⟨List.mem_range.2 hk, by simp [alive, h1, h2]⟩

theorem full {l : List S40} {regs : Nat} {pre : List Nat} {st : St} {i : Nat} (I : Inv l regs pre st) (hi : i < l.length) (hn : i ∉ pre) (hp : ∀ k, k ∈ pre → k < l.length) (hs : ∀ k, k ∈ pre → From l k ≤ From l i) (hg : From l i < To l i) {wh : List Int} {w' : Nat} {a' : Int}
    (h : look l wh i st.held 0 i (-1) = (none, w', a')) : regs + 1 ≤ cnt l (From l i) l.length := by
  refine many (regs + 1) _ (fun k => if k = i then (regs : Int) else rd st.rooms k) (fun t ht => ?_)
  rcases Nat.lt_or_ge t regs with h1 | h1
  · have h2 := look_none l wh i st.held _ 0 i (-1) rfl (Nat.zero_le _) w' a' (by rw [List.drop_zero]; exact h) t (Nat.zero_le _) (by rw [I.hl]; exact h1)
    rcases I.held t h1 with h3 | ⟨k, h3, h4, h5⟩
    · omega
    · rw [h3, Int.toNat_natCast] at h2
      refine ⟨k, mem_alive (hp k h4) (hs k h4) (by omega), ?_⟩
      rw [if_neg (fun e => hn (by rw [← e]; exact h4))]
      exact h5
  · refine ⟨i, mem_alive hi (Int.le_refl _) hg, ?_⟩
    simp only [if_true]
    omega

theorem Fin.start (l : List S40) (regs : Nat) : Fin l regs [] (start l.length regs) :=
  ⟨(fun k hk => by cases hk), (fun k hk => by cases hk), (fun k hk => by cases hk), (fun k j hk => by cases hk), by simp [Srt.start], by simp [Srt.start], Or.inl rfl, fun _ => Or.inl rfl⟩

theorem mx_cases (a b : Int) : a ≤ mx a b ∧ b ≤ mx a b ∧ (mx a b = a ∨ mx a b = b) := by
  unfold mx; split <;> omega

theorem Fin.step {l : List S40} {regs : Nat} {pre : List Nat} {st st' : St} {i : Nat} (I : Inv l regs pre st) (F : Fin l regs pre st) (hi : i < l.length) (hn : i ∉ pre) (hp : ∀ k, k ∈ pre → k < l.length) (hs : ∀ k, k ∈ pre → From l k ≤ From l i) (hg : From l i < To l i) (S : Step l st i st') : Fin l regs (pre ++ [i]) st' := by
  have hne : ∀ k, k ∈ pre → k ≠ i := fun k hk e => hn (e ▸ hk)
  have hro : ∀ (v : Int) k, k ∈ pre → rd (st.rooms.set i v) (k : Int) = rd st.rooms k := fun v k hk => rooms_other I hi v (hne k hk)
  have hri : ∀ v : Int, rd (st.rooms.set i v) (i : Int) = v := fun v => by rw [rd_set _ _ _ _ (by rw [I.rl]; exact hi), if_pos rfl]
  have mem : ∀ k, k ∈ pre ++ [i] → k ∈ pre ∨ k = i := fun k hk => by
    rcases List.mem_append.1 hk with h | h
    · exact Or.inl h
    · exact Or.inr (List.mem_singleton.1 h)
  cases S with
  | free r worst at_ h =>
    obtain ⟨hf, _⟩ := look_spec l _ i st.held _ 0 i (-1) rfl (Nat.zero_le _) (Or.inl rfl) _ _ _ h
    obtain ⟨_, hr, hfr⟩ := hf r rfl
    have hrr : r < regs := by rw [← I.hl]; exact hr
    have old : ∀ k, k ∈ pre → rd st.rooms k = r → To l k ≤ From l i := fun k hk e => by
      obtain ⟨h', h1, h2, h3⟩ := F.reg k hk r e
      rw [h1, Int.toNat_natCast] at hfr
      have := hs h' h2
      rcases h3 with rfl | h3 <;> omega
    refine ⟨fun k hk => ?_, fun k hk h0 => ?_, fun k hk q hq => ?_, fun k j hk hj hkj e => ?_, F.sl0, by have := F.sl1; simp only [List.length_append, List.length_singleton]; omega, F.few, F.none⟩
    · rcases mem k hk with hk | rfl
      · simp only; rw [hro _ _ hk]; exact F.rng k hk
      · left; simp only; rw [hri]; omega
    · rcases mem k hk with hk | rfl
      · simp only at h0; rw [hro _ _ hk] at h0; exact F.neg k hk h0
      · simp only at h0; rw [hri] at h0; omega
    · simp only at hq ⊢
      rw [rd_set _ _ _ _ hr]
      rcases mem k hk with hk | rfl
      · rw [hro _ _ hk] at hq
        by_cases hqr : q = r
        · subst hqr
          rw [if_pos rfl]
          exact ⟨i, rfl, by simp, Or.inr (old k hk hq)⟩
        · rw [if_neg hqr]
          obtain ⟨h', h1, h2, h3⟩ := F.reg k hk q hq
          exact ⟨h', h1, List.mem_append_left _ h2, h3⟩
      · rw [hri] at hq
        obtain rfl : r = q := by omega
        rw [if_pos rfl]
        exact ⟨k, rfl, by simp, Or.inl rfl⟩
    · simp only at e
      rcases mem k hk with hk1 | rfl
      · rcases mem j hj with hj1 | rfl
        · rw [hro _ _ hk1, hro _ _ hj1] at e; exact F.apart k j hk1 hj1 hkj e
        · rw [hro _ _ hk1, hri] at e; exact Or.inl (old k hk1 e)
      · rcases mem j hj with hj1 | rfl
        · rw [hro _ _ hj1, hri] at e; exact Or.inr (old j hj1 e.symm)
        · exact absurd rfl hkj
  | self at_ s h hsl =>
    have hm := mx_cases st.slots s
    have hfull := full I hi hn hp hs hg h
    have hone := hsl.one
    have htop := hsl.top
    have hspl := I.spl
    have old : ∀ k, k ∈ pre → rd st.rooms k = -(s : Int) → To l k ≤ From l i ∨ To l i ≤ From l k := fun k hk e => by
      have h1 := F.neg k hk (by omega)
      have h2 : meetsB (rd_T40 l k) (rd_T40 l i) = false := by
        cases hx : meetsB (rd_T40 l k) (rd_T40 l i) with
        | false => rfl
        | true => exact absurd e (hsl.free k h1 hx)
      exact meets_false h2
    refine ⟨fun k hk => ?_, fun k hk h0 => ?_, fun k hk q hq => ?_, fun k j hk hj hkj e => ?_, by have := F.sl0; simp only; omega, by have := F.sl1; simp only [List.length_append, List.length_singleton]; omega, Or.inr ⟨i, hi, hfull⟩, fun h0 => Or.inr ?_⟩
    · rcases mem k hk with hk | rfl
      · simp only; rw [hro _ _ hk]
        rcases F.rng k hk with h1 | ⟨m, h1, h2, h3⟩
        · exact Or.inl h1
        · exact Or.inr ⟨m, h1, by omega, h3⟩
      · right; simp only; rw [hri]; exact ⟨s, hone, by omega, rfl⟩
    · rcases mem k hk with hk | rfl
      · simp only at h0 ⊢; rw [hro _ _ hk] at h0; exact List.mem_append_left _ (F.neg k hk h0)
      · simp
    · simp only at hq ⊢
      rcases mem k hk with hk | rfl
      · rw [hro _ _ hk] at hq
        obtain ⟨h', h1, h2, h3⟩ := F.reg k hk q hq
        exact ⟨h', h1, List.mem_append_left _ h2, h3⟩
      · rw [hri] at hq
        omega
    · simp only at e
      rcases mem k hk with hk1 | rfl
      · rcases mem j hj with hj1 | rfl
        · rw [hro _ _ hk1, hro _ _ hj1] at e; exact F.apart k j hk1 hj1 hkj e
        · rw [hro _ _ hk1, hri] at e; exact old k hk1 e
      · rcases mem j hj with hj1 | rfl
        · rw [hro _ _ hj1, hri] at e; exact (old j hj1 e.symm).symm
        · exact absurd rfl hkj
    · -- how many are alive
      have hc : s ≤ cnt l (From l i) l.length := by
        refine many s _ (fun k => if k = i then (0 : Int) else -(rd st.rooms k)) (fun t ht => ?_)
        rcases Nat.eq_zero_or_pos t with rfl | h1
        · exact ⟨i, mem_alive hi (Int.le_refl _) hg, by simp⟩
        · obtain ⟨k, hk, hx, hr⟩ := hsl.least t h1 ht
          have hkp := (I.sp k hk).1
          refine ⟨k, mem_alive (hp k hkp) (hs k hkp) ?_, ?_⟩
          · unfold meetsB at hx; simp at hx; unfold From To; omega
          · rw [if_neg (hne k hkp), hr]; omega
      rcases F.none h0 with h1 | ⟨j, hj, h1⟩
      · exact ⟨i, hi, by simp only; omega⟩
      · rcases hm.2.2 with h2 | h2
        · exact ⟨j, hj, by simp only; omega⟩
        · exact ⟨i, hi, by simp only; omega⟩
  | other worst at_ s h hw hsl =>
    have hm := mx_cases st.slots s
    have hfull := full I hi hn hp hs hg h
    have hone := hsl.one
    have htop := hsl.top
    have hspl := I.spl
    obtain ⟨_, ha⟩ := look_spec l _ i st.held _ 0 i (-1) rfl (Nat.zero_le _) (Or.inl rfl) _ _ _ h
    obtain ⟨q0, hq, haq, hrq⟩ := ha.resolve_left hw
    obtain rfl : at_ = q0 := by omega
    have hqr : at_ < regs := by rw [← I.hl]; exact hq
    have hwp : worst ∈ pre ∧ rd st.rooms worst = at_ := by
      rcases I.held at_ hqr with h1 | ⟨h', h2, h3, h4⟩
      · omega
      · obtain rfl : worst = h' := by omega
        exact ⟨h3, h4⟩
    have hwl : worst < l.length := hp worst hwp.1
    have hset : ∀ k : Nat, rd ((st.rooms.set i (at_ : Int)).set worst (-(s : Int))) (k : Int) = if k = worst then -(s : Int) else if k = i then (at_ : Int) else rd st.rooms (k : Int) := fun k => by
      rw [rd_set _ _ _ _ (by simp [I.rl]; exact hwl), rd_set _ _ _ _ (by rw [I.rl]; exact hi)]
    have hP : ∀ k, k ∈ pre → k ≠ worst → rd ((st.rooms.set i (at_ : Int)).set worst (-(s : Int))) (k : Int) = rd st.rooms (k : Int) := fun k hk hkw => by rw [hset, if_neg hkw, if_neg (hne k hk)]
    have hW : rd ((st.rooms.set i (at_ : Int)).set worst (-(s : Int))) (worst : Int) = -(s : Int) := by rw [hset, if_pos rfl]
    have hI : rd ((st.rooms.set i (at_ : Int)).set worst (-(s : Int))) (i : Int) = at_ := by rw [hset, if_neg (fun e => hw e.symm), if_pos rfl]
    have oldr : ∀ k, k ∈ pre → k ≠ worst → rd st.rooms k = at_ → To l k ≤ From l i := fun k hk hkw e => by
      obtain ⟨h', h1, h2, h3⟩ := F.reg k hk at_ e
      obtain rfl : worst = h' := by omega
      have := hs worst hwp.1
      rcases h3 with h3 | h3
      · exact absurd h3 hkw
      · omega
    have olds : ∀ k, k ∈ pre → rd st.rooms k = -(s : Int) → To l k ≤ From l worst ∨ To l worst ≤ From l k := fun k hk e => by
      have h1 := F.neg k hk (by omega)
      have h2 : meetsB (rd_T40 l k) (rd_T40 l worst) = false := by
        cases hx : meetsB (rd_T40 l k) (rd_T40 l worst) with
        | false => rfl
        | true => exact absurd (by rw [hro _ _ hk]; exact e) (hsl.free k h1 hx)
      exact meets_false h2
    have cases3 : ∀ k, k ∈ pre ++ [i] → (k ∈ pre ∧ k ≠ worst) ∨ k = worst ∨ k = i := fun k hk => by
      rcases mem k hk with hk | rfl
      · by_cases e : k = worst
        · exact Or.inr (Or.inl e)
        · exact Or.inl ⟨hk, e⟩
      · exact Or.inr (Or.inr rfl)
    refine ⟨fun k hk => ?_, fun k hk h0 => ?_, fun k hk q hq' => ?_, fun k j hk hj hkj e => ?_, by have := F.sl0; simp only; omega, by have := F.sl1; simp only [List.length_append, List.length_singleton]; omega, Or.inr ⟨i, hi, hfull⟩, fun h0 => by omega⟩
    · simp only
      rcases cases3 k hk with ⟨hk, hkw⟩ | rfl | rfl
      · rw [hP k hk hkw]
        rcases F.rng k hk with h1 | ⟨m, h1, h2, h3⟩
        · exact Or.inl h1
        · exact Or.inr ⟨m, h1, by omega, h3⟩
      · right; rw [hW]; exact ⟨s, hone, by omega, rfl⟩
      · left; rw [hI]; omega
    · simp only at h0 ⊢
      rcases cases3 k hk with ⟨hk, hkw⟩ | rfl | rfl
      · rw [hP k hk hkw] at h0; exact List.mem_append_left _ (F.neg k hk h0)
      · simp
      · rw [hI] at h0; omega
    · simp only at hq' ⊢
      rw [rd_set _ _ _ _ hq]
      rcases cases3 k hk with ⟨hk, hkw⟩ | rfl | rfl
      · rw [hP k hk hkw] at hq'
        by_cases hqq : q = at_
        · subst hqq
          rw [if_pos rfl]
          exact ⟨i, rfl, by simp, Or.inr (oldr k hk hkw hq')⟩
        · rw [if_neg hqq]
          obtain ⟨h', h1, h2, h3⟩ := F.reg k hk q hq'
          exact ⟨h', h1, List.mem_append_left _ h2, h3⟩
      · rw [hW] at hq'; omega
      · rw [hI] at hq'
        obtain rfl : at_ = q := by omega
        rw [if_pos rfl]
        exact ⟨k, rfl, by simp, Or.inl rfl⟩
    · simp only at e
      rcases cases3 k hk with ⟨hk1, hkw⟩ | rfl | rfl
      · rcases cases3 j hj with ⟨hj1, hjw⟩ | rfl | rfl
        · rw [hP k hk1 hkw, hP j hj1 hjw] at e; exact F.apart k j hk1 hj1 hkj e
        · rw [hP k hk1 hkw, hW] at e; exact olds k hk1 e
        · rw [hP k hk1 hkw, hI] at e; exact Or.inl (oldr k hk1 hkw e)
      · rcases cases3 j hj with ⟨hj1, hjw⟩ | rfl | rfl
        · rw [hP j hj1 hjw, hW] at e; exact (olds j hj1 e.symm).symm
        · exact absurd rfl hkj
        · rw [hW, hI] at e; omega
      · rcases cases3 j hj with ⟨hj1, hjw⟩ | rfl | rfl
        · rw [hP j hj1 hjw, hI] at e; exact Or.inr (oldr j hj1 hjw e.symm)
        · rw [hW, hI] at e; omega
        · exact absurd rfl hkj

theorem Run.fin {l : List S40} {regs : Nat} {pre : List Nat} {st : St} (hg : ∀ j, j < l.length → From l j < To l j) (h : Run l regs pre st) : pre.Nodup → (∀ k, k ∈ pre → k < l.length) → pre.Pairwise (Ahead l) → Fin l regs pre st := by
  induction h with
  | nil => intro _ _ _; exact Fin.start l regs
  | @snoc pre st st' i hr hs ih =>
    intro hn hp ho
    have hn' := List.nodup_append.1 hn
    have ho' := List.pairwise_append.1 ho
    have hp' : ∀ k, k ∈ pre → k < l.length := fun k hk => hp k (List.mem_append_left _ hk)
    have F := ih hn'.1 hp' ho'.1
    have hi := hp i (by simp)
    exact F.step (hr.inv hn'.1 hp') hi (fun hm => hn'.2.2 i hm i (by simp) rfl) hp' (fun k hk => by have := ho'.2.2 k hk i (by simp); unfold Ahead at this; unfold From; omega) (hg i hi) hs

/-- What the laws ask. -/
structure Final (l : List S40) (regs : Nat) (st : St) : Prop where
  rl : st.rooms.length = l.length
  rng : ∀ k, k < l.length → -st.slots ≤ rd st.rooms k ∧ rd st.rooms k < regs
  apart : ∀ k j, k < l.length → j < l.length → k ≠ j → rd st.rooms k = rd st.rooms j → meetsB (rd_T40 l k) (rd_T40 l j) = false
  sl0 : 0 ≤ st.slots
  sl1 : st.slots ≤ l.length
  few : (best l l.length : Int) ≤ regs → st.slots = 0
  most : (best l l.length : Int) ≤ regs + st.slots
  none : regs = 0 → (∀ k, k < l.length → rd st.rooms k < 0) ∧ st.slots = best l l.length

theorem final {l : List S40} {regs : Nat} {o : List Nat} {st : St} (hg : ∀ j, j < l.length → From l j < To l j) (ho : Order l o) (h : Run l regs o st) : Final l regs st := by
  have hm : ∀ k, k < l.length ↔ k ∈ o := fun k => by rw [ho.perm.mem_iff, List.mem_range]
  have hnd := ho.perm.nodup_iff.2 List.nodup_range
  have I := h.inv hnd (fun k hk => (hm k).2 hk)
  have F := h.fin hg hnd (fun k hk => (hm k).2 hk) ho.srt
  have hlen := ho.length
  have hmost : (best l l.length : Int) ≤ regs + st.slots := by
    have h1 : best l l.length ≤ regs + st.slots.toNat := best_le l _ _ (fun i hi => by
      have h2 := sub_len (((List.range l.length).filter (alive l (From l i))).map fun k : Nat => rd st.rooms k) ((List.range regs).map (fun t : Nat => (t : Int)) ++ (List.range st.slots.toNat).map (fun t : Nat => -((t : Int) + 1))) ?_ ?_
      · simpa [cnt] using h2
      · refine List.pairwise_map.2 (List.Pairwise.imp_of_mem (fun {a b} ha hb hab e => ?_) ((List.nodup_range (n := l.length)).filter _))
        rw [List.mem_filter, List.mem_range] at ha hb
        have h3 := F.apart a b ((hm a).1 ha.1) ((hm b).1 hb.1) hab e
        have h4 := ha.2
        have h5 := hb.2
        unfold alive at h4 h5
        simp at h4 h5
        omega
      · intro x hx
        obtain ⟨k, hk, rfl⟩ := List.mem_map.1 hx
        rw [List.mem_filter, List.mem_range] at hk
        rcases F.rng k ((hm k).1 hk.1) with h3 | ⟨m, h3, h4, h5⟩
        · exact List.mem_append_left _ (List.mem_map.2 ⟨(rd st.rooms k).toNat, List.mem_range.2 (by omega), by omega⟩)
        · exact List.mem_append_right _ (List.mem_map.2 ⟨m - 1, List.mem_range.2 (by omega), by omega⟩))
    have := F.sl0
    omega
  refine ⟨I.rl, fun k hk => ?_, fun k j hk hj hkj e => ?_, F.sl0, by rw [← hlen]; exact F.sl1, fun hb => ?_, hmost, fun h0 => ⟨fun k hk => ?_, ?_⟩⟩
  · have := F.sl0
    rcases F.rng k ((hm k).1 hk) with h1 | ⟨m, h1, h2, h3⟩ <;> omega
  · have h1 := F.apart k j ((hm k).1 hk) ((hm j).1 hj) hkj e
    unfold meetsB
    unfold From To at h1
    simp
    omega
  · rcases F.few with h1 | ⟨i, hi, h1⟩
    · exact h1
    · have := best_ge l l.length i hi
      omega
  · rcases F.rng k ((hm k).1 hk) with h1 | ⟨m, h1, h2, h3⟩ <;> omega
  · have h1 : st.slots ≤ best l l.length := by
      rcases F.none h0 with h1 | ⟨i, hi, h1⟩
      · omega
      · have := best_ge l l.length i hi
        omega
    omega
end Go.Proofs.Ytelheeekbihfcac.Srt
