/- What the program's Assign does to its state, life by life; what holds of it. -/
import Derived.Test.YtelheeekbihfcacSlotB
import Derived.Test.YtelheeekbihfcacSortI
set_option linter.unusedVariables false
set_option linter.unusedSimpArgs false
namespace Go.Proofs.Ytelheeekbihfcac.Srt
open Go.RowKit Go.Proofs Go.Proofs.Ytelheeekbihfcac.PScanAssigns Go.Proofs.YtelheeekbihfcacW.PrintWords Go.Proofs.YtelheeekbihfcacW.PrintMore

structure St where
  rooms : List Int
  slots : Int
  held : List Int
  sp : List Nat
  wh : List Int
  now : Nat

def From (l : List S40) (i : Nat) : Int := (rd_T40 l (i : Int)).f0
def To (l : List S40) (i : Nat) : Int := (rd_T40 l (i : Int)).f1

/-- Is life h nearer to be spilled than life k? -/
def worse (l : List S40) (wh : List Int) (h k : Nat) : Bool := decide (To l h > To l k) || (decide (To l h = To l k) && decide (rd wh h > rd wh k))

/-- The registers from r on: the first that is free; the one whose life is worst, so far. -/
def look (l : List S40) (wh : List Int) (i : Nat) : List Int → Nat → Nat → Int → Option Nat × Nat × Int
  | [], _, worst, at_ => (none, worst, at_)
  | h :: hs, r, worst, at_ =>
    if h < 0 ∨ To l h.toNat ≤ From l i then (some r, worst, at_)
    else if worse l wh h.toNat worst = true then look l wh i hs (r + 1) h.toNat r else look l wh i hs (r + 1) worst at_

inductive Step (l : List S40) (st : St) (i : Nat) : St → Prop
  | free (r worst : Nat) (at_ : Int) (h : look l (st.wh.set i ((st.now : Int) + 1)) i st.held 0 i (-1) = (some r, worst, at_)) :
      Step l st i { rooms := st.rooms.set i r, slots := st.slots, held := st.held.set r i, sp := st.sp, wh := st.wh.set i ((st.now : Int) + 1), now := st.now + 1 }
  | self (at_ : Int) (s : Nat) (h : look l (st.wh.set i ((st.now : Int) + 1)) i st.held 0 i (-1) = (none, i, at_)) (hs : SlotIs l st.rooms st.sp i s) :
      Step l st i { rooms := st.rooms.set i (-(s : Int)), slots := mx st.slots s, held := st.held, sp := st.sp ++ [i], wh := st.wh.set i ((st.now : Int) + 1), now := st.now + 1 }
  | other (worst at_ s : Nat) (h : look l (st.wh.set i ((st.now : Int) + 1)) i st.held 0 i (-1) = (none, worst, (at_ : Int))) (hw : worst ≠ i) (hs : SlotIs l (st.rooms.set i (at_ : Int)) st.sp worst s) :
      Step l st i { rooms := (st.rooms.set i (at_ : Int)).set worst (-(s : Int)), slots := mx st.slots s, held := st.held.set at_ i, sp := st.sp ++ [worst], wh := st.wh.set i ((st.now : Int) + 1), now := st.now + 1 }

def start (n regs : Nat) : St := { rooms := List.replicate n 0, slots := 0, held := List.replicate regs (-1), sp := [], wh := List.replicate n 0, now := 0 }

inductive Run (l : List S40) (regs : Nat) : List Nat → St → Prop
  | nil : Run l regs [] (start l.length regs)
  | snoc {pre : List Nat} {st st' : St} {i : Nat} : Run l regs pre st → Step l st i st' → Run l regs (pre ++ [i]) st'

/-- What keeps the program from going wrong. -/
structure Inv (l : List S40) (regs : Nat) (pre : List Nat) (st : St) : Prop where
  rl : st.rooms.length = l.length
  wl : st.wh.length = l.length
  hl : st.held.length = regs
  held : ∀ r, r < regs → rd st.held (r : Int) = -1 ∨ ∃ h : Nat, rd st.held (r : Int) = h ∧ h ∈ pre ∧ rd st.rooms h = r
  sp : ∀ k, k ∈ st.sp → k ∈ pre ∧ ∃ m : Nat, 1 ≤ m ∧ m ≤ st.sp.length + 1 ∧ rd st.rooms k = -(m : Int)
  spl : st.sp.length ≤ pre.length
  now : st.now = pre.length

theorem rd_set (xs : List Int) (i k : Nat) (v : Int) (hi : i < xs.length) : rd (xs.set i v) (k : Int) = if k = i then v else rd xs (k : Int) := by
  unfold rd
  simp only [Int.toNat_natCast, List.getD_eq_getElem?_getD, List.getElem?_set]
  by_cases h : i = k
  · subst h; simp [hi]
  · rw [if_neg h, if_neg (Ne.symm h)]

theorem rd_drop (xs : List Int) (r : Nat) (hr : r < xs.length) : xs.drop r = rd xs (r : Int) :: xs.drop (r + 1) := by
  rw [List.drop_eq_getElem_cons hr]
  simp [rd, List.getD_eq_getElem?_getD, hr]

/-- What the look tells: a free register is one of them; the worst life is i itself, or the one that a register has. -/
theorem look_spec (l : List S40) (wh : List Int) (i : Nat) (held : List Int) : ∀ (d r : Nat) (worst : Nat) (at_ : Int), held.length - r = d → r ≤ held.length →
    (worst = i ∨ ∃ q : Nat, q < held.length ∧ at_ = q ∧ rd held (q : Int) = worst) →
    ∀ (f : Option Nat) (w' : Nat) (a' : Int), look l wh i (held.drop r) r worst at_ = (f, w', a') →
      (∀ r', f = some r' → r ≤ r' ∧ r' < held.length ∧ (rd held (r' : Int) < 0 ∨ To l (rd held (r' : Int)).toNat ≤ From l i)) ∧
      (w' = i ∨ ∃ q : Nat, q < held.length ∧ a' = q ∧ rd held (q : Int) = w') := by
  intro d
  induction d with
  | zero =>
    intro r worst at_ hd hr hw f w' a' h
    rw [List.drop_eq_nil_of_le (by omega)] at h
    simp only [look, Prod.mk.injEq] at h
    obtain ⟨rfl, rfl, rfl⟩ := h
    exact ⟨(fun r' e => by cases e), hw⟩
  | succ d ih =>
    intro r worst at_ hd hr hw f w' a' h
    have hlt : r < held.length := by clear hw; omega
    have hd' : held.length - (r + 1) = d := by clear hw; omega
    rw [rd_drop held r hlt] at h
    simp only [look] at h
    by_cases h1 : rd held (r : Int) < 0 ∨ To l (rd held (r : Int)).toNat ≤ From l i
    · rw [if_pos h1] at h
      simp only [Prod.mk.injEq] at h
      obtain ⟨rfl, rfl, rfl⟩ := h
      exact ⟨(fun r' e => by cases e; exact ⟨Nat.le_refl _, hlt, h1⟩), hw⟩
    · rw [if_neg h1] at h
      by_cases h2 : worse l wh (rd held (r : Int)).toNat worst = true
      · rw [if_pos h2] at h
        have h0 : rd held (r : Int) = (rd held (r : Int)).toNat := by clear hw; omega
        have := ih (r + 1) _ _ hd' hlt (Or.inr ⟨r, hlt, rfl, h0⟩) f w' a' h
        exact ⟨(fun r' e => by have h3 := this.1 r' e; exact ⟨by omega, h3.2⟩), this.2⟩
      · rw [if_neg h2] at h
        have := ih (r + 1) _ _ hd' hlt hw f w' a' h
        exact ⟨(fun r' e => by have h3 := this.1 r' e; exact ⟨by omega, h3.2⟩), this.2⟩

theorem Inv.start (l : List S40) (regs : Nat) : Inv l regs [] (start l.length regs) := by
  refine ⟨by simp [Srt.start], by simp [Srt.start], by simp [Srt.start], fun r hr => Or.inl ?_, (fun k hk => by simp [Srt.start] at hk), by simp [Srt.start], rfl⟩
  simp [Srt.start, rd, List.getD_eq_getElem?_getD, hr]

theorem rooms_other {l : List S40} {regs : Nat} {pre : List Nat} {st : St} (I : Inv l regs pre st) {i : Nat} (hi : i < l.length) (v : Int) {k : Nat} (hk : k ≠ i) : rd (st.rooms.set i v) (k : Int) = rd st.rooms (k : Int) := by
  rw [rd_set _ _ _ _ (by rw [I.rl]; exact hi), if_neg hk]

theorem Inv.step {l : List S40} {regs : Nat} {pre : List Nat} {st st' : St} {i : Nat} (I : Inv l regs pre st) (hi : i < l.length) (hn : i ∉ pre) (hp : ∀ k, k ∈ pre → k < l.length) (S : Step l st i st') : Inv l regs (pre ++ [i]) st' := by
  have hspi : ∀ k, k ∈ st.sp → k ≠ i := fun k hk e => hn (e ▸ (I.sp k hk).1)
  cases S with
  | free r worst at_ h =>
    obtain ⟨hf, _⟩ := look_spec l _ i st.held _ 0 i (-1) rfl (Nat.zero_le _) (Or.inl rfl) _ _ _ h
    obtain ⟨_, hr, _⟩ := hf r rfl
    refine ⟨by simp [I.rl], by simp [I.wl], by simp [I.hl], fun q hq => ?_, fun k hk => ?_, by have := I.spl; simp; omega, by simp [I.now]⟩
    · rw [rd_set _ _ _ _ hr]
      by_cases h1 : q = r
      · subst h1
        rw [if_pos rfl]
        exact Or.inr ⟨i, rfl, by simp, by rw [rd_set _ _ _ _ (by rw [I.rl]; exact hi), if_pos rfl]⟩
      · rw [if_neg h1]
        rcases I.held q hq with h2 | ⟨h', h2, h3, h4⟩
        · exact Or.inl h2
        · exact Or.inr ⟨h', h2, List.mem_append_left _ h3, by rw [rooms_other I hi _ (fun e => hn (by rw [← e]; exact h3))]; exact h4⟩
    · obtain ⟨h1, m, h2, h3, h4⟩ := I.sp k hk
      exact ⟨List.mem_append_left _ h1, m, h2, h3, by rw [rooms_other I hi _ (hspi k hk)]; exact h4⟩
  | self at_ s h hs =>
    refine ⟨by simp [I.rl], by simp [I.wl], I.hl, fun q hq => ?_, fun k hk => ?_, by have := I.spl; simp; omega, by simp [I.now]⟩
    · rcases I.held q hq with h2 | ⟨h', h2, h3, h4⟩
      · exact Or.inl h2
      · exact Or.inr ⟨h', h2, List.mem_append_left _ h3, by rw [rooms_other I hi _ (fun e => hn (by rw [← e]; exact h3))]; exact h4⟩
    · rcases List.mem_append.1 hk with hk | hk
      · obtain ⟨h1, m, h2, h3, h4⟩ := I.sp k hk
        exact ⟨List.mem_append_left _ h1, m, h2, by simp; omega, by rw [rooms_other I hi _ (hspi k hk)]; exact h4⟩
      · obtain rfl := List.mem_singleton.1 hk
        exact ⟨by simp, s, hs.one, by have := hs.top; simp; omega, by rw [rd_set _ _ _ _ (by rw [I.rl]; exact hi), if_pos rfl]⟩
  | other worst at_ s h hw hs =>
    obtain ⟨_, ha⟩ := look_spec l _ i st.held _ 0 i (-1) rfl (Nat.zero_le _) (Or.inl rfl) _ _ _ h
    obtain ⟨q, hq, haq, hrq⟩ := ha.resolve_left hw
    obtain rfl : at_ = q := by omega
    rw [I.hl] at hq
    have hwp : worst ∈ pre ∧ rd st.rooms worst = at_ := by
      rcases I.held at_ hq with h1 | ⟨h', h2, h3, h4⟩
      · omega
      · obtain rfl : worst = h' := by omega
        exact ⟨h3, h4⟩
    have hwl : worst < l.length := hp worst hwp.1
    have hset : ∀ k : Nat, rd ((st.rooms.set i (at_ : Int)).set worst (-(s : Int))) (k : Int) = if k = worst then -(s : Int) else if k = i then (at_ : Int) else rd st.rooms (k : Int) := fun k => by
      rw [rd_set _ _ _ _ (by simp [I.rl]; exact hwl), rd_set _ _ _ _ (by rw [I.rl]; exact hi)]
    refine ⟨by simp [I.rl], by simp [I.wl], by simp [I.hl], fun p hpp => ?_, fun k hk => ?_, by have := I.spl; simp; omega, by simp [I.now]⟩
    · simp only
      rw [rd_set _ _ _ _ (by rw [I.hl]; exact hq)]
      by_cases h1 : p = at_
      · rw [if_pos h1]
        exact Or.inr ⟨i, rfl, by simp, by rw [hset, if_neg (Ne.symm hw), if_pos rfl, h1]⟩
      · rw [if_neg h1]
        rcases I.held p hpp with h2 | ⟨h', h2, h3, h4⟩
        · exact Or.inl h2
        · refine Or.inr ⟨h', h2, List.mem_append_left _ h3, ?_⟩
          rw [hset, if_neg (fun e => h1 (by subst e; omega)), if_neg (fun e => hn (by rw [← e]; exact h3))]
          exact h4
    · simp only at hk ⊢
      rw [hset]
      rcases List.mem_append.1 hk with hk | hk
      · obtain ⟨h1, m, h2, h3, h4⟩ := I.sp k hk
        refine ⟨List.mem_append_left _ h1, m, h2, by simp; omega, ?_⟩
        rw [if_neg (fun e => by subst e; omega), if_neg (hspi k hk)]
        exact h4
      · obtain rfl := List.mem_singleton.1 hk
        exact ⟨List.mem_append_left _ hwp.1, s, hs.one, by have := hs.top; simp; omega, if_pos rfl⟩

theorem Run.inv {l : List S40} {regs : Nat} {pre : List Nat} {st : St} (h : Run l regs pre st) : pre.Nodup → (∀ k, k ∈ pre → k < l.length) → Inv l regs pre st := by
  induction h with
  | nil => intro _ _; exact Inv.start l regs
  | @snoc pre st st' i hr hs ih =>
    intro hn hp
    have hn' := List.nodup_append.1 hn
    have I := ih hn'.1 (fun k hk => hp k (List.mem_append_left _ hk))
    exact I.step (hp i (by simp)) (fun hm => hn'.2.2 i hm i (by simp) rfl) (fun k hk => hp k (List.mem_append_left _ hk)) hs
end Go.Proofs.Ytelheeekbihfcac.Srt
