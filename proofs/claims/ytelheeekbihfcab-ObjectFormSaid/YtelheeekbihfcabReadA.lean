/- Whatever the bytes, something is guessed of them. The program's Read, where the bytes are no object's file. The program's Read, of any bytes. -/
import Derived.Test.YtelheeekbihfcabGuessO
import Derived.Test.YtelheeekbihfcabReadO
import Derived.Test.YtelheeekbihfcabSame
import Derived.Test.YtelheeekbihfcabFileO
section
set_option linter.unusedVariables false
set_option linter.unusedSimpArgs false
namespace Go.Proofs.Ytelheeekbihfcab.Ob
open Go.RowKit Go.Proofs Go.Proofs.Ytelheeekbihfcab.PObjectReads Go.Proofs.YtelheeekbihfcabW.PrintWords Go.Proofs.YtelheeekbihfcabW.PrintMore

def TotP {α : Type} (P : α → Prop) (f : Nat → Option α) : Prop := ∃ r, Evn f r ∧ P r
section
variable {α β : Type} {P : α → Prop} {A : β → Prop}
theorem tot_succ {f F : Nat → Option α} (h : ∀ k, f (k + 1) = F k) (hF : TotP P F) : TotP P f := by
  obtain ⟨r, ⟨K, hK⟩, hP⟩ := hF
  refine ⟨r, ⟨K + 1, fun k hk => ?_⟩, hP⟩
  obtain ⟨k, rfl⟩ : ∃ k', k = k' + 1 := ⟨k - 1, by omega⟩
  rw [h, hK k (by omega)]
theorem tot_bind {a : Nat → Option β} {g : Nat → β → Option α} (ha : TotP A a) (hg : ∀ v, A v → TotP P (fun k => g k v)) : TotP P (fun k => (a k).bind (g k)) := by
  obtain ⟨v, ⟨K, hK⟩, hA⟩ := ha
  obtain ⟨r, ⟨K', hK'⟩, hP⟩ := hg v hA
  refine ⟨r, ⟨K + K', fun k hk => ?_⟩, hP⟩
  simp only [hK k (by omega), Option.bind]
  exact hK' k (by omega)
theorem tot_some {r : α} (h : P r) : TotP P (fun _ => some r) := ⟨r, ⟨0, fun _ _ => rfl⟩, h⟩
theorem tot_ite {c : Prop} [Decidable c] {f g : Nat → Option α} (h1 : c → TotP P f) (h2 : ¬ c → TotP P g) : TotP P (fun k => if c then f k else g k) := by
  by_cases h : c
  · simp only [if_pos h]; exact h1 h
  · simp only [if_neg h]; exact h2 h
theorem tot_mono {Q : α → Prop} {f : Nat → Option α} (h : TotP P f) (hq : ∀ r, P r → Q r) : TotP Q f := by
  obtain ⟨r, h1, h2⟩ := h
  exact ⟨r, h1, hq r h2⟩
end

/-- Any bytes are a number's. -/
theorem le_of_bytes : ∀ B : List Int, (∀ x, x ∈ B → 0 ≤ x ∧ x < 256) → ∃ v : Nat, v < 256 ^ B.length ∧ le B.length (v : Int) = B
  | [], _ => ⟨0, by decide, rfl⟩
  | x :: B, h => by
    obtain ⟨v, hv, he⟩ := le_of_bytes B (fun y hy => h y (List.mem_cons_of_mem _ hy))
    obtain ⟨h0, h1⟩ := h x List.mem_cons_self
    obtain ⟨X, rfl⟩ := Int.eq_ofNat_of_zero_le h0
    refine ⟨X + 256 * v, ?_, ?_⟩
    · simp only [List.length_cons, Nat.pow_succ]
      generalize 256 ^ B.length = Q at *
      omega
    · simp only [List.length_cons, le]
      have e1 : ((X + 256 * v : Nat) : Int) % 256 = (X : Int) := by omega
      have e2 : ((X + 256 * v : Nat) : Int) / 256 = (v : Int) := by omega
      rw [e1, e2, he]

def Byt (l : List Int) : Prop := ∀ x, x ∈ l → 0 ≤ x ∧ x < 256
/-- What stands at a place. -/
theorem num_any {l : List Int} (hl : l.length ≤ 100000) (hb : Byt l) (n : Nat) (hn : n ≤ 8) (hn0 : 0 < n) (at_ ni : Int) (hni : ni = n) (hat : 0 ≤ at_) (ha1 : at_ ≤ 1000000000) :
    TotP (fun r : Int × Bool => 0 ≤ r.1 ∧ r.1 < ((256 ^ n : Nat) : Int) ∧ (r.2 = true → at_ + n ≤ l.length) ∧ (r.2 = false → r.1 = 0 ∧ (l.length : Int) < at_ + n)) (fun k => object_reader_number.f k l at_ ni) := by
  subst hni
  by_cases hin : at_ + (n : Int) ≤ l.length
  · obtain ⟨a, rfl⟩ := Int.eq_ofNat_of_zero_le hat
    obtain ⟨v, hv, he⟩ := le_of_bytes ((l.drop a).take n) (fun x hx => hb x (List.mem_of_mem_drop (List.mem_of_mem_take hx)))
    have hlen : ((l.drop a).take n).length = n := by rw [List.length_take, List.length_drop]; omega
    rw [hlen] at hv he
    have hF : l = l.take a ++ (le n (v : Int) ++ (l.drop a).drop n) := by rw [he, List.take_append_drop, List.take_append_drop]
    have hev := num_ev l (l.take a) ((l.drop a).drop n) n n (a : Int) (v : Int) rfl hF (by rw [List.length_take]; omega) hn (Int.natCast_nonneg _) (Int.ofNat_lt.2 hv) (by omega)
    refine ⟨_, hev, Int.natCast_nonneg _, Int.ofNat_lt.2 hv, fun _ => hin, fun h => by cases h⟩
  · have hw : wrap64 ((l.length : Int) - n) = (l.length : Int) - n := by clear hb hin; unfold wrap64; omega
    have hc : at_ > wrap64 ((l.length : Int) - n) := by rw [hw]; omega
    have hp : (0 : Int) < ((256 ^ n : Nat) : Int) := Int.ofNat_lt.2 (Nat.pow_pos (by decide))
    refine ⟨(0, false), ⟨1, fun k hk => ?_⟩, Int.le_refl _, hp, ?_, ?_⟩
    · obtain ⟨k, rfl⟩ : ∃ k', k = k' + 1 := ⟨k - 1, by omega⟩
      simp only [object_reader_number.f]
      rw [if_neg (by omega), decide_eq_true hc, object_reader_number.j0, if_pos rfl]
    · intro h; cases h
    · intro _; exact ⟨rfl, by omega⟩

theorem str_size (B : List Int) : (strOfNums B).size = B.length := by
  simp [strOfNums, ByteArray.size]
/-- What name stands at a place. -/
theorem name_any {l : List Int} (hl : l.length ≤ 100000) (at_ : Int) (hat : 0 ≤ at_) (ha1 : at_ ≤ 1000000000) :
    TotP (fun r : ByteArray × Bool => (r.2 = true → at_ + r.1.size < l.length)) (fun k => object_reader_name.f k l at_) := by
  obtain ⟨a, rfl⟩ := Int.eq_ofNat_of_zero_le hat
  have key : ∀ (d i : Nat), l.length - i = d → a ≤ i → i ≤ l.length → TotP (fun r : ByteArray × Bool => (r.2 = true → (a : Int) + r.1.size < l.length)) (fun k => object_reader_name.l0 k a i l) := by
    intro d
    induction d with
    | zero =>
      intro i hd hi hi2
      refine tot_succ (fun k => object_reader_name.l0.eq_2 _ _ _ k) ?_
      refine tot_ite (fun h => ?_) (fun h => ?_)
      · omega
      · refine tot_some ?_; intro h; cases h
    | succ d ih =>
      intro i hd hi hi2
      have e3 : wrap64 ((i : Int) + 1) = ((i + 1 : Nat) : Int) := by clear ih; rw [w_small _ (by omega) (by omega)]; omega
      refine tot_succ (fun k => object_reader_name.l0.eq_2 _ _ _ k) ?_
      refine tot_ite (fun h => ?_) (fun h => ?_)
      · refine tot_ite (fun h0 => ?_) (fun h0 => absurd (Int.natCast_nonneg i) h0)
        refine tot_ite (fun hz => ?_) (fun hz => ?_)
        · refine tot_ite (fun h1 => ?_) (fun h1 => absurd (Int.natCast_nonneg a) h1)
          refine tot_ite (fun h2 => ?_) (fun h2 => absurd (Int.ofNat_le.2 hi) h2)
          refine tot_ite (fun h3 => ?_) (fun h3 => absurd (Int.ofNat_le.2 hi2) h3)
          refine tot_some (fun _ => ?_)
          clear e3 ih
          simp only [str_size, List.length_drop, List.length_take]
          omega
        · rw [e3]
          clear e3
          exact ih (i + 1) (by omega) (by omega) (by omega)
      · refine tot_some ?_; intro h; cases h
  refine tot_ite (fun h => ?_) (fun h => ?_)
  · refine tot_some ?_; intro h; cases h
  · exact key _ a rfl (Nat.le_refl _) (by omega)

/-- What is guessed is in range. -/
structure Okay (l : List Int) (e s : Int) (ws : List Int) (ls : List S47) : Prop where
  e : 0 ≤ e ∧ e < 18446744073709551616
  s : 0 ≤ s ∧ s < 18446744073709551616
  wn : 4 * ws.length ≤ l.length
  ln : 24 * ls.length ≤ l.length
  w : ∀ x, x ∈ ws → 0 ≤ x ∧ x < 4294967296
  a : ∀ x, x ∈ ls → 0 ≤ x.f1 ∧ x.f1 < 18446744073709551616
  n : ∀ x, x ∈ ls → x.f0.size ≤ l.length
def OkR (l : List Int) (r : Int × Int × List Int × List S47 × Bool) : Prop := Okay l r.1 r.2.1 r.2.2.1 r.2.2.2.1

theorem w_e3 (S i : Int) (h0 : 0 ≤ S) (h1 : S ≤ 1000000) (h2 : 0 ≤ i) (h3 : i ≤ 1000000) : wrap64 (wrap64 (S + wrap64 (24 * i)) + 8) = S + 24 * i + 8 := by
  rw [w_small (24 * i) (by omega) (by omega), w_small (S + 24 * i) (by omega) (by omega), w_small _ (by omega) (by omega)]
theorem w_e4 (T z : Int) (h0 : 0 ≤ T) (h1 : T ≤ 100000000) (h2 : 0 ≤ z) (h3 : z ≤ 1000000) : wrap64 (T + wrap64 (z + 1)) = T + (z + 1) := by
  rw [w_small (z + 1) (by omega) (by omega), w_small _ (by omega) (by omega)]
theorem w_e5 (i : Int) (h0 : 0 ≤ i) (h1 : i ≤ 1000000) : wrap64 (120 + wrap64 (4 * i)) = 120 + 4 * i := by
  rw [w_small (4 * i) (by omega) (by omega), w_small _ (by omega) (by omega)]
theorem w_inc (i : Nat) (h : i ≤ 1000000) : wrap64 ((i : Int) + 1) = ((i + 1 : Nat) : Int) := by rw [w_small _ (by omega) (by omega)]; omega
theorem td24 (m : Nat) (h : m ≤ 1000000) : wrap64 (Int.tdiv (wrap64 (24 * (m : Int))) 24) = (m : Int) := by
  rw [w_small (24 * (m : Int)) (by omega) (by omega), Int.tdiv_eq_ediv_of_nonneg (by omega), w_small _ (by omega) (by omega)]; omega
theorem td4' (m : Nat) (h : m ≤ 1000000) : wrap64 (Int.tdiv (wrap64 (4 * (m : Int))) 4) = (m : Int) := by
  rw [w_small (4 * (m : Int)) (by omega) (by omega), Int.tdiv_eq_ediv_of_nonneg (by omega), w_small _ (by omega) (by omega)]; omega
theorem small_big (x : Nat) (h : x ≤ 1000000) : x < 5864062014805 := Nat.lt_of_le_of_lt h (by decide)
theorem small_big2 (x : Nat) (h : x ≤ 1000000) : x < 35184372088832 := Nat.lt_of_le_of_lt h (by decide)
theorem p8 : ((256 ^ 8 : Nat) : Int) = 18446744073709551616 := by decide
theorem p4 : ((256 ^ 4 : Nat) : Int) = 4294967296 := by decide

theorem l1_any {l : List Int} (hl : l.length ≤ 100000) (hb : Byt l) (S : Int) (hS0 : 0 ≤ S) (hS1 : S ≤ 1000000) (m : Nat) (hm : 24 * m ≤ l.length) (e s : Int) (ws : List Int) : ∀ (d i : Nat) (pos : Int) (ls : List S47), m - i = d → 1 ≤ i → i ≤ m → ls.length + 1 = i → 0 ≤ pos → pos ≤ 1000000 → Okay l e s ws ls →
    TotP (OkR l) (fun k => object_reader_guess.l1 k S (24 * (m : Int)) pos i l e s ws ls) := by
  intro d
  induction d with
  | zero =>
    intro i pos ls hd hi1 him hls hp0 hp1 hO
    refine tot_succ (fun k => object_reader_guess.l1.eq_2 _ _ _ _ _ _ _ _ _ k) ?_
    rw [td24 m (by omega)]
    refine tot_ite (fun h => ?_) (fun h => tot_some hO)
    omega
  | succ d ih =>
    intro i pos ls hd hi1 him hls hp0 hp1 hO
    refine tot_succ (fun k => object_reader_guess.l1.eq_2 _ _ _ _ _ _ _ _ _ k) ?_
    rw [td24 m (by omega), w_e3 S i hS0 hS1 (by omega) (by omega), w_inc i (by omega)]
    refine tot_ite (fun h => ?_) (fun h => tot_some hO)
    refine tot_bind (num_any hl hb 8 (by omega) (by omega) (S + 24 * (i : Int) + 8) 8 rfl (by omega) (by omega)) (fun v hv => ?_)
    refine tot_bind (name_any hl pos hp0 (by omega)) (fun y hy => ?_)
    refine tot_ite (fun h1 => ?_) (fun h1 => tot_some hO)
    refine tot_ite (fun h2 => ?_) (fun h2 => tot_some hO)
    have hy2 := hy h2
    refine tot_ite (fun h3 => ?_) (fun h3 => absurd (small_big _ (by have := hO.ln; omega)) h3)
    rw [w_e4 pos _ hp0 (by omega) (by omega) (by omega)]
    refine ih (i + 1) _ _ (by omega) (by omega) (by omega) (by simp; omega) (by omega) (by omega) ⟨hO.e, hO.s, hO.wn, ?_, hO.w, ?_, ?_⟩
    · simp only [List.length_append, List.length_singleton]; omega
    · intro x hx
      rcases List.mem_append.1 hx with h' | h'
      · exact hO.a x h'
      · rw [List.mem_singleton.1 h']
        have h5 := hv.2.1
        rw [p8] at h5
        exact ⟨hv.1, h5⟩
    · intro x hx
      rcases List.mem_append.1 hx with h' | h'
      · exact hO.n x h'
      · rw [List.mem_singleton.1 h']
        show y.1.size ≤ l.length
        omega

theorem l0_any {l : List Int} (hl : l.length ≤ 80000) (hb : Byt l) (n : Nat) (hn : n ≤ 65536) (e s : Int) : ∀ (d i : Nat) (ws : List Int), n - i = d → i ≤ n → ws.length = i → Okay l e s ws [] →
    TotP (OkR l) (fun k => object_reader_guess.l0 k (n : Int) i l e s ws []) := by
  intro d
  induction d with
  | zero =>
    intro i ws hd hin hw hO
    refine tot_succ (fun k => object_reader_guess.l0.eq_2 _ _ _ _ _ _ _ k) ?_
    refine tot_ite (fun h => by omega) (fun h => ?_)
    obtain ⟨a, b, c, d', hP⟩ := placed_ev (e := e) (s := s) (ws := ws) (by have := hO.wn; omega)
    refine tot_bind (A := fun r => r.2.1 = sOf ws) ⟨_, hP, rfl⟩ (fun p hp => ?_)
    have hS : 0 ≤ sOf ws ∧ sOf ws ≤ 200000 := by have := hO.wn; unfold sOf up8; omega
    simp only [hp]
    refine tot_bind (num_any (by omega) hb 8 (by omega) (by omega) 40 8 rfl (by omega) (by omega)) (fun v hv => ?_)
    have hu : IntKind.u64.wrap (l.length : Int) = (l.length : Int) := u64_small _ (by omega) (by omega)
    rw [hu]
    refine tot_ite (fun h1 => tot_some hO) (fun h1 => ?_)
    have hv0 := hv.1
    rw [w_t1 v.1 hv0 (by omega)]
    refine tot_bind (num_any (by omega) hb 8 (by omega) (by omega) (v.1 + 160) 8 rfl (by omega) (by omega)) (fun u hu2 => ?_)
    have hj : ∀ q : Bool, (q = false → u.1 ≤ l.length ∧ Int.tmod u.1 24 = 0 ∧ 24 ≤ u.1) → TotP (OkR l) (fun k => object_reader_guess.j2 k (sOf ws) u.1 q l e s ws []) := fun q hq => by
      refine tot_succ (fun k => object_reader_guess.j2.eq_2 _ _ _ _ _ _ _ _ k) ?_
      refine tot_ite (fun h2 => tot_some hO) (fun h2 => ?_)
      obtain ⟨q1, q2, q3⟩ := hq (by cases q <;> simp at h2 ⊢)
      rw [Int.tmod_eq_emod_of_nonneg (by omega)] at q2
      obtain ⟨m, hm⟩ : ∃ m : Nat, u.1 = 24 * (m : Int) := ⟨(u.1 / 24).toNat, by omega⟩
      rw [hm] at q1 q3 ⊢
      rw [w_t2 (sOf ws) (24 * (m : Int)) (by omega) (by omega) (by omega) (by omega)]
      exact l1_any (by omega) hb (sOf ws) hS.1 (by omega) m (by omega) e s ws _ 1 _ [] rfl (Nat.le_refl _) (by omega) rfl (by omega) (by omega) hO
    refine tot_ite (fun h2 => ?_) (fun h2 => hj true (fun h => by cases h))
    refine tot_ite (fun h3 => hj true (fun h => by cases h)) (fun h3 => ?_)
    refine tot_ite (fun h4 => hj _ (fun h => ?_)) (fun h4 => hj true (fun h => by cases h))
    have h5 := of_decide_eq_false h
    exact ⟨by omega, h4, by omega⟩
  | succ d ih =>
    intro i ws hd hin hw hO
    refine tot_succ (fun k => object_reader_guess.l0.eq_2 _ _ _ _ _ _ _ k) ?_
    rw [w_e5 i (by omega) (by omega), w_inc i (by omega)]
    refine tot_ite (fun h => ?_) (fun h => by omega)
    refine tot_bind (num_any (by omega) hb 4 (by omega) (by omega) (120 + 4 * (i : Int)) 4 rfl (by omega) (by omega)) (fun v hv => ?_)
    refine tot_ite (fun h1 => ?_) (fun h1 => tot_some hO)
    have hv2 := hv.2.2.1 h1
    refine tot_ite (fun h2 => ?_) (fun h2 => absurd (small_big2 _ (by omega)) h2)
    refine ih (i + 1) _ (by omega) (by omega) (by simp [hw]) ⟨hO.e, hO.s, ?_, hO.ln, ?_, hO.a, hO.n⟩
    · simp only [List.length_append, List.length_singleton]; omega
    · intro x hx
      rcases List.mem_append.1 hx with h' | h'
      · exact hO.w x h'
      · rw [List.mem_singleton.1 h']
        omega

/-- Something is guessed, whatever the bytes. -/
theorem guess_any {l : List Int} (hl : l.length ≤ 80000) (hb : Byt l) : TotP (OkR l) (fun k => object_reader_guess.f k l) := by
  unfold object_reader_guess.f
  refine tot_bind (num_any (by omega) hb 8 (by omega) (by omega) 96 8 rfl (by omega) (by omega)) (fun v hv => ?_)
  have hO : ∀ e s : Int, 0 ≤ e ∧ e < 18446744073709551616 → 0 ≤ s ∧ s < 18446744073709551616 → Okay l e s [] [] := fun e s he hs => ⟨he, hs, Nat.zero_le _, Nat.zero_le _, (fun x h => by cases h), (fun x h => by cases h), (fun x h => by cases h)⟩
  have h00 : (0 : Int) ≤ 0 ∧ (0 : Int) < 18446744073709551616 := by decide
  have hj : ∀ q : Bool, (q = false → v.1 ≤ 262144 ∧ Int.tmod v.1 4 = 0) → TotP (OkR l) (fun k => object_reader_guess.j0 k v.1 q l 0 0) := fun q hq => by
    refine tot_succ (fun k => object_reader_guess.j0.eq_2 _ _ _ _ _ k) ?_
    refine tot_ite (fun h2 => tot_some (hO 0 0 h00 h00)) (fun h2 => ?_)
    obtain ⟨q1, q2⟩ := hq (by cases q <;> simp at h2 ⊢)
    have hv0 := hv.1
    rw [Int.tmod_eq_emod_of_nonneg hv0] at q2
    obtain ⟨m, hm⟩ : ∃ m : Nat, v.1 = 4 * (m : Int) := ⟨(v.1 / 4).toNat, by omega⟩
    rw [hm] at q1 ⊢
    rw [td4' m (by omega)]
    refine tot_bind (num_any (by omega) hb 8 (by omega) (by omega) 24 8 rfl (by omega) (by omega)) (fun v1 h1 => ?_)
    refine tot_bind (num_any (by omega) hb 8 (by omega) (by omega) 104 8 rfl (by omega) (by omega)) (fun v2 h3 => ?_)
    have h4 := h1.2.1
    have h5 := h3.2.1
    rw [p8] at h4 h5
    exact l0_any hl hb m (by omega) v1.1 v2.1 _ 0 [] rfl (Nat.zero_le _) rfl (hO _ _ ⟨h1.1, h4⟩ ⟨h3.1, h5⟩)
  refine tot_ite (fun h2 => ?_) (fun h2 => hj true (fun h => by cases h))
  refine tot_ite (fun h3 => hj _ (fun h => ?_)) (fun h3 => hj true (fun h => by cases h))
  exact ⟨by have := of_decide_eq_false h; omega, h3⟩
end Go.Proofs.Ytelheeekbihfcab.Ob
end

section
set_option linter.unusedVariables false
set_option linter.unusedSimpArgs false
namespace Go.Proofs.Ytelheeekbihfcab.Ob
open Go.RowKit Go.Proofs Go.Proofs.Ytelheeekbihfcab.PObjectReads Go.Proofs.YtelheeekbihfcabW.PrintWords Go.Proofs.YtelheeekbihfcabW.PrintMore Go.Proofs.YtelheeekbihfcabW.PrintLast
attribute [local go_sem high] eqA55

def noObj (e' : Ending) : Prop := e' = .returned (.tuple #[.agg #[.int .u64 0, .int .u64 0, .slice none 0 0, .slice none 0 0], .int .i64 200])
set_option maxRecDepth 100000 in
set_option maxHeartbeats 8000000 in
theorem readNa (kg : Nat) (e s : Int) (ws : List Int) (ls : List S47) (l : List Int) (A : Option Addr) (c : Nat) (w : World) (hr : Kd.C (Kd.int .u8) w A l.length l) (hc : l.length ≤ c) (hg : object_reader_guess.f kg l = some (e, s, ws, ls, false))  :
    Calls Try.prog 13 #[.slice A l.length c] w fun e' w' => noObj e' ∧ Below w.heap.size w w' := by
  have HGU := Lib.hid fun W => fun hW : Below w.heap.size w W => object_reader_guess.calls kg A c l e s ws ls false W (Kd.C_below hr hW) hc hg
  have HRL := Lib.hid hr
  have hu26 := Try.underlying26
  have B0 := Lib.hid (below_alloc (Below.refl _ w) (.cells #[.int .u64 0, .int .u64 0, .slice none 0 0, .slice none 0 0] 26))
  clear hr hg
  go_enter Try.func13, Try.ntmps13
  go_upto_region 2 with (go_at_call 18; refine (HGU.out _ B0.out).mono ?_; rintro e' w1 ⟨v2, v3, rfl, h2, h3, hd⟩; obtain ⟨A2, c2, rfl, hc2, hC2⟩ := Kd.R_reads h2; obtain ⟨A3, c3, rfl, hc3, hC3⟩ := Kd.R_reads h3; have B1 := Lib.hid (below_step B0.out hd); have HC2 := Lib.hid hC2; have HC3 := Lib.hid hC3; have X1 := Lib.hid (blk_below (blk_new w (.cells #[.int .u64 0, .int .u64 0, .slice none 0 0, .slice none 0 0] 26)) hd); clear h2 h3 hC2 hC3 hd HGU)
  have Y1 := blk_new w1 (.cells #[.int .u64 e, .int .u64 s, .slice A2 ws.length c2, .slice A3 ls.length c3] 26)
  have XX := Lib.hid (blk_alloc X1.out (.cells #[.int .u64 e, .int .u64 s, .slice A2 ws.length c2, .slice A3 ls.length c3] 26))
  have hbl := below_alloc (Below.refl _ w1) (.cells #[.int .u64 e, .int .u64 s, .slice A2 ws.length c2, .slice A3 ls.length c3] 26)
  have B2 := Lib.hid (below_step B1.out hbl)
  have D2 := Lib.hid (Kd.C_below HC2.out hbl)
  have D3 := Lib.hid (Kd.C_below HC3.out hbl)
  have hgw : w.heap.size ≤ w1.heap.size := B1.out.size
  clear HC2 HC3 X1 B1 B0 hbl
  generalize w1.alloc (.cells #[.int .u64 e, .int .u64 s, .slice A2 ws.length c2, .slice A3 ls.length c3] 26) = W1 at *
  generalize w1.heap.size = g4 at *
  have HC := Lib.hid (fun (W : World) (h : Below W1.heap.size W1 W) => (show W.cell? ⟨g4, 0, none⟩ = some (.int .u64 e) ∧ W.cell? ⟨g4, 1, none⟩ = some (.int .u64 s) ∧ W.cell? ⟨g4, 2, none⟩ = some (.slice A2 ws.length c2) ∧ W.cell? ⟨g4, 3, none⟩ = some (.slice A3 ls.length c3) ∧ (convert 29 9 (.slice A l.length c)).run Try.prog W = .ok (.string (strOfNums l)) W from
    ⟨blk_cell (blk_below Y1 h) 0, blk_cell (blk_below Y1 h) 1, blk_cell (blk_below Y1 h) 2, blk_cell (blk_below Y1 h) 3, Kd.C_string (P := Try.prog) (A := A) (c := c) Try.underlying29 Try.underlying5 Try.underlying9 (Kd.C_below HRL.out (below_step B2.out h))⟩))
  have BW0 := Lib.hid (Below.refl W1.heap.size W1).drew
  clear D2 D3 Y1
  refine start_ (n := 21) (S := fun w' => w'.cell? ⟨g4, 0, none⟩ = some (.int .u64 e) ∧ w'.cell? ⟨g4, 1, none⟩ = some (.int .u64 s) ∧ w'.cell? ⟨g4, 2, none⟩ = some (.slice A2 ws.length c2) ∧ w'.cell? ⟨g4, 3, none⟩ = some (.slice A3 ls.length c3) ∧ (convert 29 9 (.slice A l.length c)).run Try.prog w' = .ok (.string (strOfNums l)) w') (ds := []) #[false, false, false, false, false, false, false, false, false, false, false, false, false, false, false, false, false, false, false, false, false] (by kernel_rfl) rfl rfl ⟨(HC.out _ BW0.out).1, (HC.out _ BW0.out).2.1, (HC.out _ BW0.out).2.2.1, (HC.out _ BW0.out).2.2.2.1, (HC.out _ BW0.out).2.2.2.2⟩ (fun hHeld => ?_)
  refine pure_ (i := 0) (N := some 12) (v := ?_) (a' := ?_) #[true, false, false, false, false, false, false, false, false, false, false, false, false, false, false, false, false, false, false, false, false] rfl rfl (by kernel_rfl) (fun _ _ _ h => h) (Or.inl ⟨by rfl, ?_⟩) ?_ ?_
  rotate_left
  · intro w'
    go_simp
    with_reducible rfl
  rotate_left
  · simp only [Act.put, List.setIfInBounds_toArray, List.set_cons_zero, List.set_cons_succ, i64_w, i32_w]
    rfl
  refine pure_ (i := 1) (N := some 13) (v := ?_) (a' := ?_) #[true, true, false, false, false, false, false, false, false, false, false, false, false, false, false, false, false, false, false, false, false] rfl rfl (by kernel_rfl) (fun _ _ _ h => h) (Or.inl ⟨by rfl, ?_⟩) ?_ ?_
  rotate_left
  · intro w'
    go_simp
    with_reducible rfl
  rotate_left
  · simp only [Act.put, List.setIfInBounds_toArray, List.set_cons_zero, List.set_cons_succ, i64_w, i32_w]
    rfl
  refine pure_ (i := 2) (N := some 14) (v := ?_) (a' := ?_) #[true, true, true, false, false, false, false, false, false, false, false, false, false, false, false, false, false, false, false, false, false] rfl rfl (by kernel_rfl) (fun _ _ _ h => h) (Or.inl ⟨by rfl, ?_⟩) ?_ ?_
  rotate_left
  · intro w'
    go_simp
    with_reducible rfl
  rotate_left
  · simp only [Act.put, List.setIfInBounds_toArray, List.set_cons_zero, List.set_cons_succ, i64_w, i32_w]
    rfl
  refine pure_ (i := 3) (N := some 15) (v := undef) (a' := ?_) #[true, true, true, true, false, false, false, false, false, false, false, false, false, false, false, false, false, false, false, false, false] rfl rfl (by kernel_rfl) (fun _ _ _ h => h) (Or.inr ⟨by rfl, rfl⟩) ?_ ?_
  rotate_left
  · simp only [Act.put, List.setIfInBounds_toArray, List.set_cons_zero, List.set_cons_succ, i64_w, i32_w]
    rfl
  refine pure_ (i := 4) (N := some 16) (v := undef) (a' := ?_) #[true, true, true, true, true, false, false, false, false, false, false, false, false, false, false, false, false, false, false, false, false] rfl rfl (by kernel_rfl) (fun _ _ _ h => h) (Or.inr ⟨by rfl, rfl⟩) ?_ ?_
  rotate_left
  · simp only [Act.put, List.setIfInBounds_toArray, List.set_cons_zero, List.set_cons_succ, i64_w, i32_w]
    rfl
  refine pure_ (i := 5) (N := some 17) (v := undef) (a' := ?_) #[true, true, true, true, true, true, false, false, false, false, false, false, false, false, false, false, false, false, false, false, false] rfl rfl (by kernel_rfl) (fun _ _ _ h => h) (Or.inr ⟨by rfl, rfl⟩) ?_ ?_
  rotate_left
  · simp only [Act.put, List.setIfInBounds_toArray, List.set_cons_zero, List.set_cons_succ, i64_w, i32_w]
    rfl
  refine pure_ (i := 6) (N := some 18) (v := ?_) (a' := ?_) #[true, true, true, true, true, true, true, false, false, false, false, false, false, false, false, false, false, false, false, false, false] rfl rfl (by kernel_rfl) (fun _ _ _ h => h) (Or.inl ⟨by rfl, ?_⟩) ?_ ?_
  rotate_left
  · intro w'
    go_simp
    with_reducible rfl
  rotate_left
  · simp only [Act.put, List.setIfInBounds_toArray, List.set_cons_zero, List.set_cons_succ, i64_w, i32_w]
    rfl
  refine pure_ (i := 7) (N := some 19) (v := ?_) (a' := ?_) #[true, true, true, true, true, true, true, true, false, false, false, false, false, false, false, false, false, false, false, false, false] rfl rfl (by kernel_rfl) (fun _ _ _ h => h) (Or.inl ⟨by rfl, ?_⟩) ?_ ?_
  rotate_left
  · intro w'
    go_simp
    with_reducible rfl
  rotate_left
  · simp only [Act.put, List.setIfInBounds_toArray, List.set_cons_zero, List.set_cons_succ, i64_w, i32_w]
    rfl
  refine pure_ (i := 8) (N := some 20) (v := undef) (a' := ?_) #[true, true, true, true, true, true, true, true, true, false, false, false, false, false, false, false, false, false, false, false, false] rfl rfl (by kernel_rfl) (fun _ _ _ h => h) (Or.inr ⟨by rfl, rfl⟩) ?_ ?_
  rotate_left
  · simp only [Act.put, List.setIfInBounds_toArray, List.set_cons_zero, List.set_cons_succ, i64_w, i32_w]
    rfl
  refine pure_ (i := 9) (N := some 21) (v := undef) (a' := ?_) #[true, true, true, true, true, true, true, true, true, true, false, false, false, false, false, false, false, false, false, false, false] rfl rfl (by kernel_rfl) (fun _ _ _ h => h) (Or.inr ⟨by rfl, rfl⟩) ?_ ?_
  rotate_left
  · simp only [Act.put, List.setIfInBounds_toArray, List.set_cons_zero, List.set_cons_succ, i64_w, i32_w]
    rfl
  refine pure_ (i := 10) (N := some 22) (v := undef) (a' := ?_) #[true, true, true, true, true, true, true, true, true, true, true, false, false, false, false, false, false, false, false, false, false] rfl rfl (by kernel_rfl) (fun _ _ _ h => h) (Or.inr ⟨by rfl, rfl⟩) ?_ ?_
  rotate_left
  · simp only [Act.put, List.setIfInBounds_toArray, List.set_cons_zero, List.set_cons_succ, i64_w, i32_w]
    rfl
  refine pure_ (i := 11) (N := some 23) (v := undef) (a' := ?_) #[true, true, true, true, true, true, true, true, true, true, true, true, false, false, false, false, false, false, false, false, false] rfl rfl (by kernel_rfl) (fun _ _ _ h => h) (Or.inr ⟨by rfl, rfl⟩) ?_ ?_
  rotate_left
  · simp only [Act.put, List.setIfInBounds_toArray, List.set_cons_zero, List.set_cons_succ, i64_w, i32_w]
    rfl
  refine pure_ (i := 12) (N := some 24) (v := ?_) (a' := ?_) #[true, true, true, true, true, true, true, true, true, true, true, true, true, false, false, false, false, false, false, false, false] rfl rfl (by kernel_rfl) (fun _ _ _ h => h) (Or.inl ⟨by rfl, ?_⟩) ?_ ?_
  rotate_left
  · intro w'
    go_simp
    with_reducible rfl
  rotate_left
  · simp only [Act.put, List.setIfInBounds_toArray, List.set_cons_zero, List.set_cons_succ, i64_w, i32_w]
    rfl
  refine pure_ (i := 13) (N := some 25) (v := ?_) (a' := ?_) #[true, true, true, true, true, true, true, true, true, true, true, true, true, true, false, false, false, false, false, false, false] rfl rfl (by kernel_rfl) (fun _ _ _ h => h) (Or.inl ⟨by rfl, ?_⟩) ?_ ?_
  rotate_left
  · intro w'
    go_simp
    with_reducible rfl
  rotate_left
  · simp only [Act.put, List.setIfInBounds_toArray, List.set_cons_zero, List.set_cons_succ, i64_w, i32_w]
    rfl
  refine pure_ (i := 14) (N := some 26) (v := undef) (a' := ?_) #[true, true, true, true, true, true, true, true, true, true, true, true, true, true, true, false, false, false, false, false, false] rfl rfl (by kernel_rfl) (fun _ _ _ h => h) (Or.inr ⟨by rfl, rfl⟩) ?_ ?_
  rotate_left
  · simp only [Act.put, List.setIfInBounds_toArray, List.set_cons_zero, List.set_cons_succ, i64_w, i32_w]
    rfl
  refine pure_ (i := 15) (N := some 27) (v := undef) (a' := ?_) #[true, true, true, true, true, true, true, true, true, true, true, true, true, true, true, true, false, false, false, false, false] rfl rfl (by kernel_rfl) (fun _ _ _ h => h) (Or.inr ⟨by rfl, rfl⟩) ?_ ?_
  rotate_left
  · simp only [Act.put, List.setIfInBounds_toArray, List.set_cons_zero, List.set_cons_succ, i64_w, i32_w]
    rfl
  refine pure_ (i := 16) (N := some 28) (v := undef) (a' := ?_) #[true, true, true, true, true, true, true, true, true, true, true, true, true, true, true, true, true, false, false, false, false] rfl rfl (by kernel_rfl) (fun _ _ _ h => h) (Or.inr ⟨by rfl, rfl⟩) ?_ ?_
  rotate_left
  · simp only [Act.put, List.setIfInBounds_toArray, List.set_cons_zero, List.set_cons_succ, i64_w, i32_w]
    rfl
  refine pure_ (i := 17) (N := some 29) (v := undef) (a' := ?_) #[true, true, true, true, true, true, true, true, true, true, true, true, true, true, true, true, true, true, false, false, false] rfl rfl (by kernel_rfl) (fun _ _ _ h => h) (Or.inr ⟨by rfl, rfl⟩) ?_ ?_
  rotate_left
  · simp only [Act.put, List.setIfInBounds_toArray, List.set_cons_zero, List.set_cons_succ, i64_w, i32_w]
    rfl
  refine pure_ (i := 18) (N := some 30) (v := undef) (a' := ?_) #[true, true, true, true, true, true, true, true, true, true, true, true, true, true, true, true, true, true, true, false, false] rfl rfl (by kernel_rfl) (fun _ _ _ h => h) (Or.inr ⟨by rfl, rfl⟩) ?_ ?_
  rotate_left
  · simp only [Act.put, List.setIfInBounds_toArray, List.set_cons_zero, List.set_cons_succ, i64_w, i32_w]
    rfl
  refine pure_ (i := 19) (N := some 31) (v := undef) (a' := ?_) #[true, true, true, true, true, true, true, true, true, true, true, true, true, true, true, true, true, true, true, true, false] rfl rfl (by kernel_rfl) (fun _ _ _ h => h) (Or.inr ⟨by rfl, rfl⟩) ?_ ?_
  rotate_left
  · simp only [Act.put, List.setIfInBounds_toArray, List.set_cons_zero, List.set_cons_succ, i64_w, i32_w]
    rfl
  refine pure_ (i := 20) (N := some 32) (v := ?_) (a' := ?_) #[true, true, true, true, true, true, true, true, true, true, true, true, true, true, true, true, true, true, true, true, true] rfl rfl (by kernel_rfl) (fun _ _ _ h => h) (Or.inl ⟨by rfl, ?_⟩) ?_ ?_
  rotate_left
  · intro w'
    go_simp
    with_reducible rfl
  rotate_left
  · simp only [Act.put, List.setIfInBounds_toArray, List.set_cons_zero, List.set_cons_succ, i64_w, i32_w]
    rfl
  refine done_ (by kernel_rfl) ?_
  generalize W1.drew = W9 at *
  have HX := Lib.hid (blk_below XX.out BW0.out)
  have z0 := blk_frozen HX.out 0
  have z1 := blk_frozen HX.out 1
  have z2 := blk_frozen HX.out 2
  have z3 := blk_frozen HX.out 3
  have y0 := blk_cell HX.out 0
  have y1 := blk_cell HX.out 1
  have y2 := blk_cell HX.out 2
  have y3 := blk_cell HX.out 3
  clear hHeld
  go_wp2
  have h0 := HX.out
  have h1 := blk_set h0 0 (.int .u64 0)
  have h2 := blk_set h1 1 (.int .u64 0)
  have h3 := blk_set h2 2 (.slice none 0 0)
  have h4 := blk_set h3 3 (.slice none 0 0)
  simp only [List.setIfInBounds_toArray, List.set_cons_zero, List.set_cons_succ] at h4
  have gb := (((((below_step B2.out BW0.out).setCell (p := ⟨w.heap.size, 0, none⟩) (Nat.le_refl _) (.int .u64 0)).setCell (p := ⟨w.heap.size, 1, none⟩) (Nat.le_refl _) (.int .u64 0)).setCell (p := ⟨w.heap.size, 2, none⟩) (Nat.le_refl _) (.slice none 0 0)).setCell (p := ⟨w.heap.size, 3, none⟩) (Nat.le_refl _) (.slice none 0 0))
  refine bodyPost_ret (v := .tuple #[.agg #[.int .u64 0, .int .u64 0, .slice none 0 0, .slice none 0 0], .int .i64 200]) ?_ rfl ?_
  · exact res13 _ _ w.heap.size _ _ _ _ _ rfl rfl h4
  · exact ⟨rfl, gb⟩

set_option maxRecDepth 100000 in
set_option maxHeartbeats 8000000 in
theorem readNb (kg kb : Nat) (e s : Int) (ws : List Int) (ls : List S47) (l : List Int) (A : Option Addr) (c : Nat) (w : World) (hr : Kd.C (Kd.int .u8) w A l.length l) (hc : l.length ≤ c) (hg : object_reader_guess.f kg l = some (e, s, ws, ls, true)) (hb : object_Good.f kb e s ws ls = some false) :
    Calls Try.prog 13 #[.slice A l.length c] w fun e' w' => noObj e' ∧ Below w.heap.size w w' := by
  have HGU := Lib.hid fun W => fun hW : Below w.heap.size w W => object_reader_guess.calls kg A c l e s ws ls true W (Kd.C_below hr hW) hc hg
  have HRL := Lib.hid hr
  have HBB := Lib.hid hb
  have hu26 := Try.underlying26
  have B0 := Lib.hid (below_alloc (Below.refl _ w) (.cells #[.int .u64 0, .int .u64 0, .slice none 0 0, .slice none 0 0] 26))
  clear hb
  clear hr hg
  go_enter Try.func13, Try.ntmps13
  go_upto_region 2 with (go_at_call 18; refine (HGU.out _ B0.out).mono ?_; rintro e' w1 ⟨v2, v3, rfl, h2, h3, hd⟩; obtain ⟨A2, c2, rfl, hc2, hC2⟩ := Kd.R_reads h2; obtain ⟨A3, c3, rfl, hc3, hC3⟩ := Kd.R_reads h3; have B1 := Lib.hid (below_step B0.out hd); have HC2 := Lib.hid hC2; have HC3 := Lib.hid hC3; have X1 := Lib.hid (blk_below (blk_new w (.cells #[.int .u64 0, .int .u64 0, .slice none 0 0, .slice none 0 0] 26)) hd); clear h2 h3 hC2 hC3 hd HGU)
  have Y1 := blk_new w1 (.cells #[.int .u64 e, .int .u64 s, .slice A2 ws.length c2, .slice A3 ls.length c3] 26)
  have XX := Lib.hid (blk_alloc X1.out (.cells #[.int .u64 e, .int .u64 s, .slice A2 ws.length c2, .slice A3 ls.length c3] 26))
  have hbl := below_alloc (Below.refl _ w1) (.cells #[.int .u64 e, .int .u64 s, .slice A2 ws.length c2, .slice A3 ls.length c3] 26)
  have B2 := Lib.hid (below_step B1.out hbl)
  have D2 := Lib.hid (Kd.C_below HC2.out hbl)
  have D3 := Lib.hid (Kd.C_below HC3.out hbl)
  have hgw : w.heap.size ≤ w1.heap.size := B1.out.size
  clear HC2 HC3 X1 B1 B0 hbl
  generalize w1.alloc (.cells #[.int .u64 e, .int .u64 s, .slice A2 ws.length c2, .slice A3 ls.length c3] 26) = W1 at *
  generalize w1.heap.size = g4 at *
  have HC := Lib.hid (fun (W : World) (h : Below W1.heap.size W1 W) => (show W.cell? ⟨g4, 0, none⟩ = some (.int .u64 e) ∧ W.cell? ⟨g4, 1, none⟩ = some (.int .u64 s) ∧ W.cell? ⟨g4, 2, none⟩ = some (.slice A2 ws.length c2) ∧ W.cell? ⟨g4, 3, none⟩ = some (.slice A3 ls.length c3) ∧ (convert 29 9 (.slice A l.length c)).run Try.prog W = .ok (.string (strOfNums l)) W from
    ⟨blk_cell (blk_below Y1 h) 0, blk_cell (blk_below Y1 h) 1, blk_cell (blk_below Y1 h) 2, blk_cell (blk_below Y1 h) 3, Kd.C_string (P := Try.prog) (A := A) (c := c) Try.underlying29 Try.underlying5 Try.underlying9 (Kd.C_below HRL.out (below_step B2.out h))⟩))
  have HG := Lib.hid (fun (W : World) (h : Below W1.heap.size W1 W) => object_Good.calls kb e s A2 c2 ws A3 c3 ls false W (Kd.C_below D2.out h) hc2 (Kd.C_below D3.out h) hc3 HBB.out)
  have BW0 := Lib.hid (Below.refl W1.heap.size W1).drew
  clear D2 D3 Y1
  refine start_ (n := 21) (S := fun w' => w'.cell? ⟨g4, 0, none⟩ = some (.int .u64 e) ∧ w'.cell? ⟨g4, 1, none⟩ = some (.int .u64 s) ∧ w'.cell? ⟨g4, 2, none⟩ = some (.slice A2 ws.length c2) ∧ w'.cell? ⟨g4, 3, none⟩ = some (.slice A3 ls.length c3) ∧ (convert 29 9 (.slice A l.length c)).run Try.prog w' = .ok (.string (strOfNums l)) w') (ds := []) #[false, false, false, false, false, false, false, false, false, false, false, false, false, false, false, false, false, false, false, false, false] (by kernel_rfl) rfl rfl ⟨(HC.out _ BW0.out).1, (HC.out _ BW0.out).2.1, (HC.out _ BW0.out).2.2.1, (HC.out _ BW0.out).2.2.2.1, (HC.out _ BW0.out).2.2.2.2⟩ (fun hHeld => ?_)
  refine pure_ (i := 0) (N := some 12) (v := ?_) (a' := ?_) #[true, false, false, false, false, false, false, false, false, false, false, false, false, false, false, false, false, false, false, false, false] rfl rfl (by kernel_rfl) (fun _ _ _ h => h) (Or.inl ⟨by rfl, ?_⟩) ?_ ?_
  rotate_left
  · intro w'
    go_simp
    with_reducible rfl
  rotate_left
  · simp only [Act.put, List.setIfInBounds_toArray, List.set_cons_zero, List.set_cons_succ, i64_w, i32_w]
    rfl
  refine pure_ (i := 1) (N := some 13) (v := ?_) (a' := ?_) #[true, true, false, false, false, false, false, false, false, false, false, false, false, false, false, false, false, false, false, false, false] rfl rfl (by kernel_rfl) (fun _ _ _ h => h) (Or.inl ⟨by rfl, ?_⟩) ?_ ?_
  rotate_left
  · intro w'
    go_simp
    with_reducible rfl
  rotate_left
  · simp only [Act.put, List.setIfInBounds_toArray, List.set_cons_zero, List.set_cons_succ, i64_w, i32_w]
    rfl
  refine pure_ (i := 2) (N := some 14) (v := ?_) (a' := ?_) #[true, true, true, false, false, false, false, false, false, false, false, false, false, false, false, false, false, false, false, false, false] rfl rfl (by kernel_rfl) (fun _ _ _ h => h) (Or.inl ⟨by rfl, ?_⟩) ?_ ?_
  rotate_left
  · intro w'
    go_simp
    with_reducible rfl
  rotate_left
  · simp only [Act.put, List.setIfInBounds_toArray, List.set_cons_zero, List.set_cons_succ, i64_w, i32_w]
    rfl
  refine take_ (i := 3) (N := some 15) (v := ?_) (a' := ?_) #[true, true, true, true, false, false, false, false, false, false, false, false, false, false, false, false, false, false, false, false, false] rfl rfl (by kernel_rfl) (fun _ _ _ h => h) (Or.inl ⟨by rfl, ?_⟩) hHeld ?_ ?_
  rotate_left
  · rintro w' ⟨s0, s1, s2, s3, s4⟩
    go_simp
    with_reducible rfl
  rotate_left
  · simp only [Act.put, List.setIfInBounds_toArray, List.set_cons_zero, List.set_cons_succ, i64_w, i32_w]
    rfl
  refine one_ (i := 4) (N := some 16) #[true, true, true, true, true, false, false, false, false, false, false, false, false, false, false, false, false, false, false, false, false] rfl rfl (by kernel_rfl) (by decide) (fun K hK => ?_)
  refine goes_ Try.func11 (by kernel_rfl) rfl #[.agg #[.int .u64 e, .int .u64 s, .slice A2 ws.length c2, .slice A3 ls.length c3]] (by rfl) rfl rfl (by simp only [List.map_toArray, List.map_cons, List.map_nil]; rfl) ?_
  with_reducible refine (HG.out _ BW0.out).mono ?_
  rintro e' w3 ⟨rfl, hb3⟩
  refine ⟨_, rfl, ?_⟩
  have BW1 := Lib.hid (below_step BW0.out hb3)
  refine hK.out _ _ ⟨(HC.out _ BW1.out).1, (HC.out _ BW1.out).2.1, (HC.out _ BW1.out).2.2.1, (HC.out _ BW1.out).2.2.2.1, (HC.out _ BW1.out).2.2.2.2⟩ (fun hHeld => ?_)
  clear hK K
  refine norm_ (a' := ?_) ?_ ?_
  rotate_left
  · show Act.put _ (some 16) _ = _
    simp only [Act.put, List.setIfInBounds_toArray, List.set_cons_zero, List.set_cons_succ, i64_w, i32_w]
    rfl
  refine pure_ (i := 5) (N := some 17) (v := ?_) (a' := ?_) #[true, true, true, true, true, true, false, false, false, false, false, false, false, false, false, false, false, false, false, false, false] rfl rfl (by kernel_rfl) (fun _ _ _ h => h) (Or.inl ⟨by rfl, ?_⟩) ?_ ?_
  rotate_left
  · intro w'
    go_simp
    with_reducible rfl
  rotate_left
  · simp only [Act.put, List.setIfInBounds_toArray, List.set_cons_zero, List.set_cons_succ, i64_w, i32_w]
    rfl
  refine pure_ (i := 6) (N := some 18) (v := ?_) (a' := ?_) #[true, true, true, true, true, true, true, false, false, false, false, false, false, false, false, false, false, false, false, false, false] rfl rfl (by kernel_rfl) (fun _ _ _ h => h) (Or.inl ⟨by rfl, ?_⟩) ?_ ?_
  rotate_left
  · intro w'
    go_simp
    with_reducible rfl
  rotate_left
  · simp only [Act.put, List.setIfInBounds_toArray, List.set_cons_zero, List.set_cons_succ, i64_w, i32_w]
    rfl
  refine pure_ (i := 7) (N := some 19) (v := ?_) (a' := ?_) #[true, true, true, true, true, true, true, true, false, false, false, false, false, false, false, false, false, false, false, false, false] rfl rfl (by kernel_rfl) (fun _ _ _ h => h) (Or.inl ⟨by rfl, ?_⟩) ?_ ?_
  rotate_left
  · intro w'
    go_simp
    with_reducible rfl
  rotate_left
  · simp only [Act.put, List.setIfInBounds_toArray, List.set_cons_zero, List.set_cons_succ, i64_w, i32_w]
    rfl
  refine pure_ (i := 8) (N := some 20) (v := undef) (a' := ?_) #[true, true, true, true, true, true, true, true, true, false, false, false, false, false, false, false, false, false, false, false, false] rfl rfl (by kernel_rfl) (fun _ _ _ h => h) (Or.inr ⟨by rfl, rfl⟩) ?_ ?_
  rotate_left
  · simp only [Act.put, List.setIfInBounds_toArray, List.set_cons_zero, List.set_cons_succ, i64_w, i32_w]
    rfl
  refine pure_ (i := 9) (N := some 21) (v := undef) (a' := ?_) #[true, true, true, true, true, true, true, true, true, true, false, false, false, false, false, false, false, false, false, false, false] rfl rfl (by kernel_rfl) (fun _ _ _ h => h) (Or.inr ⟨by rfl, rfl⟩) ?_ ?_
  rotate_left
  · simp only [Act.put, List.setIfInBounds_toArray, List.set_cons_zero, List.set_cons_succ, i64_w, i32_w]
    rfl
  refine pure_ (i := 10) (N := some 22) (v := undef) (a' := ?_) #[true, true, true, true, true, true, true, true, true, true, true, false, false, false, false, false, false, false, false, false, false] rfl rfl (by kernel_rfl) (fun _ _ _ h => h) (Or.inr ⟨by rfl, rfl⟩) ?_ ?_
  rotate_left
  · simp only [Act.put, List.setIfInBounds_toArray, List.set_cons_zero, List.set_cons_succ, i64_w, i32_w]
    rfl
  refine pure_ (i := 11) (N := some 23) (v := undef) (a' := ?_) #[true, true, true, true, true, true, true, true, true, true, true, true, false, false, false, false, false, false, false, false, false] rfl rfl (by kernel_rfl) (fun _ _ _ h => h) (Or.inr ⟨by rfl, rfl⟩) ?_ ?_
  rotate_left
  · simp only [Act.put, List.setIfInBounds_toArray, List.set_cons_zero, List.set_cons_succ, i64_w, i32_w]
    rfl
  refine pure_ (i := 12) (N := some 24) (v := ?_) (a' := ?_) #[true, true, true, true, true, true, true, true, true, true, true, true, true, false, false, false, false, false, false, false, false] rfl rfl (by kernel_rfl) (fun _ _ _ h => h) (Or.inl ⟨by rfl, ?_⟩) ?_ ?_
  rotate_left
  · intro w'
    go_simp
    with_reducible rfl
  rotate_left
  · simp only [Act.put, List.setIfInBounds_toArray, List.set_cons_zero, List.set_cons_succ, i64_w, i32_w]
    rfl
  refine pure_ (i := 13) (N := some 25) (v := ?_) (a' := ?_) #[true, true, true, true, true, true, true, true, true, true, true, true, true, true, false, false, false, false, false, false, false] rfl rfl (by kernel_rfl) (fun _ _ _ h => h) (Or.inl ⟨by rfl, ?_⟩) ?_ ?_
  rotate_left
  · intro w'
    go_simp
    with_reducible rfl
  rotate_left
  · simp only [Act.put, List.setIfInBounds_toArray, List.set_cons_zero, List.set_cons_succ, i64_w, i32_w]
    rfl
  refine pure_ (i := 14) (N := some 26) (v := undef) (a' := ?_) #[true, true, true, true, true, true, true, true, true, true, true, true, true, true, true, false, false, false, false, false, false] rfl rfl (by kernel_rfl) (fun _ _ _ h => h) (Or.inr ⟨by rfl, rfl⟩) ?_ ?_
  rotate_left
  · simp only [Act.put, List.setIfInBounds_toArray, List.set_cons_zero, List.set_cons_succ, i64_w, i32_w]
    rfl
  refine pure_ (i := 15) (N := some 27) (v := undef) (a' := ?_) #[true, true, true, true, true, true, true, true, true, true, true, true, true, true, true, true, false, false, false, false, false] rfl rfl (by kernel_rfl) (fun _ _ _ h => h) (Or.inr ⟨by rfl, rfl⟩) ?_ ?_
  rotate_left
  · simp only [Act.put, List.setIfInBounds_toArray, List.set_cons_zero, List.set_cons_succ, i64_w, i32_w]
    rfl
  refine pure_ (i := 16) (N := some 28) (v := undef) (a' := ?_) #[true, true, true, true, true, true, true, true, true, true, true, true, true, true, true, true, true, false, false, false, false] rfl rfl (by kernel_rfl) (fun _ _ _ h => h) (Or.inr ⟨by rfl, rfl⟩) ?_ ?_
  rotate_left
  · simp only [Act.put, List.setIfInBounds_toArray, List.set_cons_zero, List.set_cons_succ, i64_w, i32_w]
    rfl
  refine pure_ (i := 17) (N := some 29) (v := undef) (a' := ?_) #[true, true, true, true, true, true, true, true, true, true, true, true, true, true, true, true, true, true, false, false, false] rfl rfl (by kernel_rfl) (fun _ _ _ h => h) (Or.inr ⟨by rfl, rfl⟩) ?_ ?_
  rotate_left
  · simp only [Act.put, List.setIfInBounds_toArray, List.set_cons_zero, List.set_cons_succ, i64_w, i32_w]
    rfl
  refine pure_ (i := 18) (N := some 30) (v := undef) (a' := ?_) #[true, true, true, true, true, true, true, true, true, true, true, true, true, true, true, true, true, true, true, false, false] rfl rfl (by kernel_rfl) (fun _ _ _ h => h) (Or.inr ⟨by rfl, rfl⟩) ?_ ?_
  rotate_left
  · simp only [Act.put, List.setIfInBounds_toArray, List.set_cons_zero, List.set_cons_succ, i64_w, i32_w]
    rfl
  refine pure_ (i := 19) (N := some 31) (v := undef) (a' := ?_) #[true, true, true, true, true, true, true, true, true, true, true, true, true, true, true, true, true, true, true, true, false] rfl rfl (by kernel_rfl) (fun _ _ _ h => h) (Or.inr ⟨by rfl, rfl⟩) ?_ ?_
  rotate_left
  · simp only [Act.put, List.setIfInBounds_toArray, List.set_cons_zero, List.set_cons_succ, i64_w, i32_w]
    rfl
  refine pure_ (i := 20) (N := some 32) (v := ?_) (a' := ?_) #[true, true, true, true, true, true, true, true, true, true, true, true, true, true, true, true, true, true, true, true, true] rfl rfl (by kernel_rfl) (fun _ _ _ h => h) (Or.inl ⟨by rfl, ?_⟩) ?_ ?_
  rotate_left
  · intro w'
    go_simp
    with_reducible rfl
  rotate_left
  · simp only [Act.put, List.setIfInBounds_toArray, List.set_cons_zero, List.set_cons_succ, i64_w, i32_w]
    rfl
  refine done_ (by kernel_rfl) ?_
  have HX := Lib.hid (blk_below XX.out BW1.out)
  have z0 := blk_frozen HX.out 0
  have z1 := blk_frozen HX.out 1
  have z2 := blk_frozen HX.out 2
  have z3 := blk_frozen HX.out 3
  have y0 := blk_cell HX.out 0
  have y1 := blk_cell HX.out 1
  have y2 := blk_cell HX.out 2
  have y3 := blk_cell HX.out 3
  clear hHeld hb3
  go_wp2
  have h0 := HX.out
  have h1 := blk_set h0 0 (.int .u64 0)
  have h2 := blk_set h1 1 (.int .u64 0)
  have h3 := blk_set h2 2 (.slice none 0 0)
  have h4 := blk_set h3 3 (.slice none 0 0)
  simp only [List.setIfInBounds_toArray, List.set_cons_zero, List.set_cons_succ] at h4
  have gb := (((((below_step B2.out BW1.out).setCell (p := ⟨w.heap.size, 0, none⟩) (Nat.le_refl _) (.int .u64 0)).setCell (p := ⟨w.heap.size, 1, none⟩) (Nat.le_refl _) (.int .u64 0)).setCell (p := ⟨w.heap.size, 2, none⟩) (Nat.le_refl _) (.slice none 0 0)).setCell (p := ⟨w.heap.size, 3, none⟩) (Nat.le_refl _) (.slice none 0 0))
  refine bodyPost_ret (v := .tuple #[.agg #[.int .u64 0, .int .u64 0, .slice none 0 0, .slice none 0 0], .int .i64 200]) ?_ rfl ?_
  · exact res13 _ _ w.heap.size _ _ _ _ _ rfl rfl h4
  · exact ⟨rfl, gb⟩

set_option maxRecDepth 100000 in
set_option maxHeartbeats 8000000 in
theorem readNc (kg kb : Nat) (e s : Int) (ws : List Int) (ls : List S47) (l : List Int) (A : Option Addr) (c : Nat) (w : World) (hr : Kd.C (Kd.int .u8) w A l.length l) (hc : l.length ≤ c) (hg : object_reader_guess.f kg l = some (e, s, ws, ls, true)) (hb : object_Good.f kb e s ws ls = some true) (hF : Fits e s ws ls) (FB : List Int) (hne : ((strOfNums FB).toList == (strOfNums l).toList) = false)
    (HWRITE : ∀ (A2 : Option Addr) (c2 : Nat) (A3 : Option Addr) (c3 : Nat) (w : World), Kd.C (Kd.int .u32) w A2 ws.length ws → ws.length ≤ c2 → Kd.C k47 w A3 ls.length ls → ls.length ≤ c3 → Calls Try.prog 16 #[.agg #[.int .u64 e, .int .u64 s, .slice A2 ws.length c2, .slice A3 ls.length c3]] w fun e' w' => ∃ v, e' = .returned v ∧ w'.ownsRow w.heap.size 5 1 v FB.length (nums .u8 FB) ∧ Below w.heap.size w w') :
    Calls Try.prog 13 #[.slice A l.length c] w fun e' w' => noObj e' ∧ Below w.heap.size w w' := by
  have HGU := Lib.hid fun W => fun hW : Below w.heap.size w W => object_reader_guess.calls kg A c l e s ws ls true W (Kd.C_below hr hW) hc hg
  have HRL := Lib.hid hr
  have HBB := Lib.hid hb
  have HHW := Lib.hid HWRITE
  have HF := Lib.hid hF
  have hu26 := Try.underlying26
  have B0 := Lib.hid (below_alloc (Below.refl _ w) (.cells #[.int .u64 0, .int .u64 0, .slice none 0 0, .slice none 0 0] 26))
  clear hb HWRITE hF
  clear hr hg
  go_enter Try.func13, Try.ntmps13
  go_upto_region 2 with (go_at_call 18; refine (HGU.out _ B0.out).mono ?_; rintro e' w1 ⟨v2, v3, rfl, h2, h3, hd⟩; obtain ⟨A2, c2, rfl, hc2, hC2⟩ := Kd.R_reads h2; obtain ⟨A3, c3, rfl, hc3, hC3⟩ := Kd.R_reads h3; have B1 := Lib.hid (below_step B0.out hd); have HC2 := Lib.hid hC2; have HC3 := Lib.hid hC3; have X1 := Lib.hid (blk_below (blk_new w (.cells #[.int .u64 0, .int .u64 0, .slice none 0 0, .slice none 0 0] 26)) hd); clear h2 h3 hC2 hC3 hd HGU)
  have Y1 := blk_new w1 (.cells #[.int .u64 e, .int .u64 s, .slice A2 ws.length c2, .slice A3 ls.length c3] 26)
  have XX := Lib.hid (blk_alloc X1.out (.cells #[.int .u64 e, .int .u64 s, .slice A2 ws.length c2, .slice A3 ls.length c3] 26))
  have hbl := below_alloc (Below.refl _ w1) (.cells #[.int .u64 e, .int .u64 s, .slice A2 ws.length c2, .slice A3 ls.length c3] 26)
  have B2 := Lib.hid (below_step B1.out hbl)
  have D2 := Lib.hid (Kd.C_below HC2.out hbl)
  have D3 := Lib.hid (Kd.C_below HC3.out hbl)
  have hgw : w.heap.size ≤ w1.heap.size := B1.out.size
  clear HC2 HC3 X1 B1 B0 hbl
  generalize w1.alloc (.cells #[.int .u64 e, .int .u64 s, .slice A2 ws.length c2, .slice A3 ls.length c3] 26) = W1 at *
  generalize w1.heap.size = g4 at *
  have HC := Lib.hid (fun (W : World) (h : Below W1.heap.size W1 W) => (show W.cell? ⟨g4, 0, none⟩ = some (.int .u64 e) ∧ W.cell? ⟨g4, 1, none⟩ = some (.int .u64 s) ∧ W.cell? ⟨g4, 2, none⟩ = some (.slice A2 ws.length c2) ∧ W.cell? ⟨g4, 3, none⟩ = some (.slice A3 ls.length c3) ∧ (convert 29 9 (.slice A l.length c)).run Try.prog W = .ok (.string (strOfNums l)) W from
    ⟨blk_cell (blk_below Y1 h) 0, blk_cell (blk_below Y1 h) 1, blk_cell (blk_below Y1 h) 2, blk_cell (blk_below Y1 h) 3, Kd.C_string (P := Try.prog) (A := A) (c := c) Try.underlying29 Try.underlying5 Try.underlying9 (Kd.C_below HRL.out (below_step B2.out h))⟩))
  have HG := Lib.hid (fun (W : World) (h : Below W1.heap.size W1 W) => object_Good.calls kb e s A2 c2 ws A3 c3 ls true W (Kd.C_below D2.out h) hc2 (Kd.C_below D3.out h) hc3 HBB.out)
  have HP := Lib.hid (fun (W : World) (h : Below W1.heap.size W1 W) => placed_call e s A2 c2 ws A3 c3 ls W (Kd.C_below D3.out h) HF.out.wn HF.out.ln HF.out.n)
  have HWr := Lib.hid (fun (W : World) (h : Below W1.heap.size W1 W) => HHW.out A2 c2 A3 c3 W (Kd.C_below D2.out h) hc2 (Kd.C_below D3.out h) hc3)
  clear HHW
  have BW0 := Lib.hid (Below.refl W1.heap.size W1).drew
  clear D2 D3 Y1
  refine start_ (n := 21) (S := fun w' => w'.cell? ⟨g4, 0, none⟩ = some (.int .u64 e) ∧ w'.cell? ⟨g4, 1, none⟩ = some (.int .u64 s) ∧ w'.cell? ⟨g4, 2, none⟩ = some (.slice A2 ws.length c2) ∧ w'.cell? ⟨g4, 3, none⟩ = some (.slice A3 ls.length c3) ∧ (convert 29 9 (.slice A l.length c)).run Try.prog w' = .ok (.string (strOfNums l)) w') (ds := []) #[false, false, false, false, false, false, false, false, false, false, false, false, false, false, false, false, false, false, false, false, false] (by kernel_rfl) rfl rfl ⟨(HC.out _ BW0.out).1, (HC.out _ BW0.out).2.1, (HC.out _ BW0.out).2.2.1, (HC.out _ BW0.out).2.2.2.1, (HC.out _ BW0.out).2.2.2.2⟩ (fun hHeld => ?_)
  refine pure_ (i := 0) (N := some 12) (v := ?_) (a' := ?_) #[true, false, false, false, false, false, false, false, false, false, false, false, false, false, false, false, false, false, false, false, false] rfl rfl (by kernel_rfl) (fun _ _ _ h => h) (Or.inl ⟨by rfl, ?_⟩) ?_ ?_
  rotate_left
  · intro w'
    go_simp
    with_reducible rfl
  rotate_left
  · simp only [Act.put, List.setIfInBounds_toArray, List.set_cons_zero, List.set_cons_succ, i64_w, i32_w]
    rfl
  refine pure_ (i := 1) (N := some 13) (v := ?_) (a' := ?_) #[true, true, false, false, false, false, false, false, false, false, false, false, false, false, false, false, false, false, false, false, false] rfl rfl (by kernel_rfl) (fun _ _ _ h => h) (Or.inl ⟨by rfl, ?_⟩) ?_ ?_
  rotate_left
  · intro w'
    go_simp
    with_reducible rfl
  rotate_left
  · simp only [Act.put, List.setIfInBounds_toArray, List.set_cons_zero, List.set_cons_succ, i64_w, i32_w]
    rfl
  refine pure_ (i := 2) (N := some 14) (v := ?_) (a' := ?_) #[true, true, true, false, false, false, false, false, false, false, false, false, false, false, false, false, false, false, false, false, false] rfl rfl (by kernel_rfl) (fun _ _ _ h => h) (Or.inl ⟨by rfl, ?_⟩) ?_ ?_
  rotate_left
  · intro w'
    go_simp
    with_reducible rfl
  rotate_left
  · simp only [Act.put, List.setIfInBounds_toArray, List.set_cons_zero, List.set_cons_succ, i64_w, i32_w]
    rfl
  refine take_ (i := 3) (N := some 15) (v := ?_) (a' := ?_) #[true, true, true, true, false, false, false, false, false, false, false, false, false, false, false, false, false, false, false, false, false] rfl rfl (by kernel_rfl) (fun _ _ _ h => h) (Or.inl ⟨by rfl, ?_⟩) hHeld ?_ ?_
  rotate_left
  · rintro w' ⟨s0, s1, s2, s3, s4⟩
    go_simp
    with_reducible rfl
  rotate_left
  · simp only [Act.put, List.setIfInBounds_toArray, List.set_cons_zero, List.set_cons_succ, i64_w, i32_w]
    rfl
  refine one_ (i := 4) (N := some 16) #[true, true, true, true, true, false, false, false, false, false, false, false, false, false, false, false, false, false, false, false, false] rfl rfl (by kernel_rfl) (by decide) (fun K hK => ?_)
  refine goes_ Try.func11 (by kernel_rfl) rfl #[.agg #[.int .u64 e, .int .u64 s, .slice A2 ws.length c2, .slice A3 ls.length c3]] (by rfl) rfl rfl (by simp only [List.map_toArray, List.map_cons, List.map_nil]; rfl) ?_
  with_reducible refine (HG.out _ BW0.out).mono ?_
  rintro e' w3 ⟨rfl, hb3⟩
  refine ⟨_, rfl, ?_⟩
  have BW1 := Lib.hid (below_step BW0.out hb3)
  refine hK.out _ _ ⟨(HC.out _ BW1.out).1, (HC.out _ BW1.out).2.1, (HC.out _ BW1.out).2.2.1, (HC.out _ BW1.out).2.2.2.1, (HC.out _ BW1.out).2.2.2.2⟩ (fun hHeld => ?_)
  clear hK K
  refine norm_ (a' := ?_) ?_ ?_
  rotate_left
  · show Act.put _ (some 16) _ = _
    simp only [Act.put, List.setIfInBounds_toArray, List.set_cons_zero, List.set_cons_succ, i64_w, i32_w]
    rfl
  refine pure_ (i := 5) (N := some 17) (v := ?_) (a' := ?_) #[true, true, true, true, true, true, false, false, false, false, false, false, false, false, false, false, false, false, false, false, false] rfl rfl (by kernel_rfl) (fun _ _ _ h => h) (Or.inl ⟨by rfl, ?_⟩) ?_ ?_
  rotate_left
  · intro w'
    go_simp
    with_reducible rfl
  rotate_left
  · simp only [Act.put, List.setIfInBounds_toArray, List.set_cons_zero, List.set_cons_succ, i64_w, i32_w]
    rfl
  refine pure_ (i := 6) (N := some 18) (v := ?_) (a' := ?_) #[true, true, true, true, true, true, true, false, false, false, false, false, false, false, false, false, false, false, false, false, false] rfl rfl (by kernel_rfl) (fun _ _ _ h => h) (Or.inl ⟨by rfl, ?_⟩) ?_ ?_
  rotate_left
  · intro w'
    go_simp
    with_reducible rfl
  rotate_left
  · simp only [Act.put, List.setIfInBounds_toArray, List.set_cons_zero, List.set_cons_succ, i64_w, i32_w]
    rfl
  refine pure_ (i := 7) (N := some 19) (v := ?_) (a' := ?_) #[true, true, true, true, true, true, true, true, false, false, false, false, false, false, false, false, false, false, false, false, false] rfl rfl (by kernel_rfl) (fun _ _ _ h => h) (Or.inl ⟨by rfl, ?_⟩) ?_ ?_
  rotate_left
  · intro w'
    go_simp
    with_reducible rfl
  rotate_left
  · simp only [Act.put, List.setIfInBounds_toArray, List.set_cons_zero, List.set_cons_succ, i64_w, i32_w]
    rfl
  refine pure_ (i := 10) (N := some 22) (v := ?_) (a' := ?_) #[true, true, true, true, true, true, true, true, false, false, true, false, false, false, false, false, false, false, false, false, false] rfl rfl (by kernel_rfl) (fun _ _ _ h => h) (Or.inl ⟨by rfl, ?_⟩) ?_ ?_
  rotate_left
  · intro w'
    go_simp
    with_reducible rfl
  rotate_left
  · simp only [Act.put, List.setIfInBounds_toArray, List.set_cons_zero, List.set_cons_succ, i64_w, i32_w]
    rfl
  refine take_ (i := 8) (N := some 20) (v := ?_) (a' := ?_) #[true, true, true, true, true, true, true, true, true, false, true, false, false, false, false, false, false, false, false, false, false] rfl rfl (by kernel_rfl) (fun _ _ _ h => h) (Or.inl ⟨by rfl, ?_⟩) hHeld ?_ ?_
  rotate_left
  · rintro w' ⟨s0, s1, s2, s3, s4⟩
    go_simp
    with_reducible rfl
  rotate_left
  · simp only [Act.put, List.setIfInBounds_toArray, List.set_cons_zero, List.set_cons_succ, i64_w, i32_w]
    rfl
  refine one_ (i := 9) (N := some 21) #[true, true, true, true, true, true, true, true, true, true, true, false, false, false, false, false, false, false, false, false, false] rfl rfl (by kernel_rfl) (by decide) (fun K hK => ?_)
  refine goes_ Try.func19 (by kernel_rfl) rfl #[.agg #[.int .u64 e, .int .u64 s, .slice A2 ws.length c2, .slice A3 ls.length c3]] (by rfl) rfl rfl (by simp only [List.map_toArray, List.map_cons, List.map_nil]; rfl) ?_
  with_reducible refine (HP.out _ BW1.out).mono ?_
  rintro e' w4 ⟨rfl, hb4⟩
  refine ⟨_, rfl, ?_⟩
  have BW2 := Lib.hid (below_step BW1.out hb4)
  refine hK.out _ _ ⟨(HC.out _ BW2.out).1, (HC.out _ BW2.out).2.1, (HC.out _ BW2.out).2.2.1, (HC.out _ BW2.out).2.2.2.1, (HC.out _ BW2.out).2.2.2.2⟩ (fun hHeld => ?_)
  clear hK K
  refine norm_ (a' := ?_) ?_ ?_
  rotate_left
  · show Act.put _ (some 21) _ = _
    simp only [Act.put, List.setIfInBounds_toArray, List.set_cons_zero, List.set_cons_succ, i64_w, i32_w]
    rfl
  refine pure_ (i := 11) (N := some 23) (v := ?_) (a' := ?_) #[true, true, true, true, true, true, true, true, true, true, true, true, false, false, false, false, false, false, false, false, false] rfl rfl (by kernel_rfl) (fun _ _ _ h => h) (Or.inl ⟨by rfl, ?_⟩) ?_ ?_
  rotate_left
  · intro w'
    go_simp
    with_reducible rfl
  rotate_left
  · simp only [Act.put, List.setIfInBounds_toArray, List.set_cons_zero, List.set_cons_succ, i64_w, i32_w]
    rfl
  refine pure_ (i := 12) (N := some 24) (v := ?_) (a' := ?_) #[true, true, true, true, true, true, true, true, true, true, true, true, true, false, false, false, false, false, false, false, false] rfl rfl (by kernel_rfl) (fun _ _ _ h => h) (Or.inl ⟨by rfl, ?_⟩) ?_ ?_
  rotate_left
  · intro w'
    go_simp
    with_reducible rfl
  rotate_left
  · simp only [Act.put, List.setIfInBounds_toArray, List.set_cons_zero, List.set_cons_succ, i64_w, i32_w]
    rfl
  refine pure_ (i := 13) (N := some 25) (v := ?_) (a' := ?_) #[true, true, true, true, true, true, true, true, true, true, true, true, true, true, false, false, false, false, false, false, false] rfl rfl (by kernel_rfl) (fun _ _ _ h => h) (Or.inl ⟨by rfl, ?_⟩) ?_ ?_
  rotate_left
  · intro w'
    go_simp
    with_reducible rfl
  rotate_left
  · simp only [Act.put, List.setIfInBounds_toArray, List.set_cons_zero, List.set_cons_succ, i64_w, i32_w]
    rfl
  refine pure_ (i := 17) (N := some 29) (v := ?_) (a' := ?_) #[true, true, true, true, true, true, true, true, true, true, true, true, true, true, false, false, false, true, false, false, false] rfl rfl (by kernel_rfl) (fun _ _ _ h => h) (Or.inl ⟨by rfl, ?_⟩) ?_ ?_
  rotate_left
  · intro w'
    go_simp
    with_reducible rfl
  rotate_left
  · simp only [Act.put, List.setIfInBounds_toArray, List.set_cons_zero, List.set_cons_succ, i64_w, i32_w]
    rfl
  refine take_ (i := 14) (N := some 26) (v := ?_) (a' := ?_) #[true, true, true, true, true, true, true, true, true, true, true, true, true, true, true, false, false, true, false, false, false] rfl rfl (by kernel_rfl) (fun _ _ _ h => h) (Or.inl ⟨by rfl, ?_⟩) hHeld ?_ ?_
  rotate_left
  · rintro w' ⟨s0, s1, s2, s3, s4⟩
    go_simp
    with_reducible rfl
  rotate_left
  · simp only [Act.put, List.setIfInBounds_toArray, List.set_cons_zero, List.set_cons_succ, i64_w, i32_w]
    rfl
  refine take_ (i := 18) (N := some 30) (v := ?_) (a' := ?_) #[true, true, true, true, true, true, true, true, true, true, true, true, true, true, true, false, false, true, true, false, false] rfl rfl (by kernel_rfl) (fun _ _ _ h => h) (Or.inl ⟨by rfl, ?_⟩) hHeld ?_ ?_
  rotate_left
  · rintro w' ⟨s0, s1, s2, s3, s4⟩
    go_simp
    with_reducible rfl
  rotate_left
  · simp only [Act.put, List.setIfInBounds_toArray, List.set_cons_zero, List.set_cons_succ, i64_w, i32_w]
    rfl
  refine one_ (i := 15) (N := some 27) #[true, true, true, true, true, true, true, true, true, true, true, true, true, true, true, true, false, true, true, false, false] rfl rfl (by kernel_rfl) (by decide) (fun K hK => ?_)
  refine goes_ Try.func16 (by kernel_rfl) rfl #[.agg #[.int .u64 e, .int .u64 s, .slice A2 ws.length c2, .slice A3 ls.length c3]] (by rfl) rfl rfl (by simp only [List.map_toArray, List.map_cons, List.map_nil]; rfl) ?_
  with_reducible refine (HWr.out _ BW2.out).mono ?_
  rintro e' w5 ⟨v5, rfl, ho5, hb5⟩
  refine ⟨_, rfl, ?_⟩
  obtain ⟨A5, c5, rfl⟩ := slice_of ho5
  have hcv5 := own_string (src := 29) (dst := 9) Try.underlying29 Try.underlying5 Try.underlying9 ho5
  have BW3 := Lib.hid (below_step BW2.out hb5)
  refine hK.out _ _ ⟨(HC.out _ BW3.out).1, (HC.out _ BW3.out).2.1, (HC.out _ BW3.out).2.2.1, (HC.out _ BW3.out).2.2.2.1, (HC.out _ BW3.out).2.2.2.2⟩ (fun hHeld => ?_)
  clear hK K
  refine norm_ (a' := ?_) ?_ ?_
  rotate_left
  · show Act.put _ (some 27) _ = _
    simp only [Act.put, List.setIfInBounds_toArray, List.set_cons_zero, List.set_cons_succ, i64_w, i32_w]
    rfl
  refine one_ (i := 16) (N := some 28) #[true, true, true, true, true, true, true, true, true, true, true, true, true, true, true, true, true, true, true, false, false] rfl rfl (by kernel_rfl) (by decide) (fun K hK => ?_)
  refine value_ (w1 := ?_) (v := ?_) (by rfl) rfl ?_ ?_
  rotate_left 2
  · go_simp
    constructor
    · rfl
    · rfl
  refine hK.out _ _ ⟨(HC.out _ BW3.out).1, (HC.out _ BW3.out).2.1, (HC.out _ BW3.out).2.2.1, (HC.out _ BW3.out).2.2.2.1, (HC.out _ BW3.out).2.2.2.2⟩ (fun hHeld => ?_)
  clear hK K
  refine norm_ (a' := ?_) ?_ ?_
  rotate_left
  · show Act.put _ (some 28) _ = _
    simp only [Act.put, List.setIfInBounds_toArray, List.set_cons_zero, List.set_cons_succ, i64_w, i32_w]
    rfl
  refine pure_ (i := 19) (N := some 31) (v := ?_) (a' := ?_) #[true, true, true, true, true, true, true, true, true, true, true, true, true, true, true, true, true, true, true, true, false] rfl rfl (by kernel_rfl) (fun _ _ _ h => h) (Or.inl ⟨by rfl, ?_⟩) ?_ ?_
  rotate_left
  · intro w'
    go_simp
    with_reducible rfl
  rotate_left
  · simp only [Act.put, List.setIfInBounds_toArray, List.set_cons_zero, List.set_cons_succ, i64_w, i32_w]
    rfl
  refine pure_ (i := 20) (N := some 32) (v := ?_) (a' := ?_) #[true, true, true, true, true, true, true, true, true, true, true, true, true, true, true, true, true, true, true, true, true] rfl rfl (by kernel_rfl) (fun _ _ _ h => h) (Or.inl ⟨by rfl, ?_⟩) ?_ ?_
  rotate_left
  · intro w'
    go_simp
    with_reducible rfl
  rotate_left
  · simp only [Act.put, List.setIfInBounds_toArray, List.set_cons_zero, List.set_cons_succ, i64_w, i32_w]
    rfl
  refine done_ (by kernel_rfl) ?_
  have HX := Lib.hid (blk_below XX.out BW3.out)
  have z0 := blk_frozen HX.out 0
  have z1 := blk_frozen HX.out 1
  have z2 := blk_frozen HX.out 2
  have z3 := blk_frozen HX.out 3
  have y0 := blk_cell HX.out 0
  have y1 := blk_cell HX.out 1
  have y2 := blk_cell HX.out 2
  have y3 := blk_cell HX.out 3
  clear hcv5 ho5 hb3 hb4 hb5 hHeld
  go_wp2
  have h0 := HX.out
  have h1 := blk_set h0 0 (.int .u64 0)
  have h2 := blk_set h1 1 (.int .u64 0)
  have h3 := blk_set h2 2 (.slice none 0 0)
  have h4 := blk_set h3 3 (.slice none 0 0)
  simp only [List.setIfInBounds_toArray, List.set_cons_zero, List.set_cons_succ] at h4
  have gb := (((((below_step B2.out BW3.out).setCell (p := ⟨w.heap.size, 0, none⟩) (Nat.le_refl _) (.int .u64 0)).setCell (p := ⟨w.heap.size, 1, none⟩) (Nat.le_refl _) (.int .u64 0)).setCell (p := ⟨w.heap.size, 2, none⟩) (Nat.le_refl _) (.slice none 0 0)).setCell (p := ⟨w.heap.size, 3, none⟩) (Nat.le_refl _) (.slice none 0 0))
  refine bodyPost_ret (v := .tuple #[.agg #[.int .u64 0, .int .u64 0, .slice none 0 0, .slice none 0 0], .int .i64 200]) ?_ rfl ?_
  · exact res13 _ _ w.heap.size _ _ _ _ _ rfl rfl h4
  · exact ⟨rfl, gb⟩

end Go.Proofs.Ytelheeekbihfcab.Ob
end

section
set_option linter.unusedVariables false
set_option linter.unusedSimpArgs false
namespace Go.Proofs.Ytelheeekbihfcab.Ob
open Go.RowKit Go.Proofs Go.Proofs.Ytelheeekbihfcab.PObjectReads Go.Proofs.YtelheeekbihfcabW.PrintWords Go.Proofs.YtelheeekbihfcabW.PrintMore

theorem byt_app {a b : List Int} (ha : Byt a) (hb : Byt b) : Byt (a ++ b) := fun x hx => by
  rcases List.mem_append.1 hx with h | h
  · exact ha x h
  · exact hb x h
theorem byt_le : ∀ n x, Byt (le n x)
  | 0, _ => fun y hy => by cases hy
  | n + 1, x => fun y hy => by
    rcases List.mem_cons.1 hy with h | h
    · subst h; omega
    · exact byt_le n _ y h
theorem byt_bytesOf (y : ByteArray) : Byt (bytesOf y) := fun x hx => by
  unfold bytesOf at hx
  obtain ⟨b, _, rfl⟩ := List.mem_map.1 hx
  have := b.toNat_lt
  omega
theorem byt_rep (n : Nat) : Byt (List.replicate n (0 : Int)) := fun x hx => by
  rw [(List.mem_replicate.1 hx).2]; decide
theorem byt_pad {a : List Int} (ha : Byt a) : Byt (pad8 a) := byt_app ha (byt_rep _)
theorem byt_words : ∀ a, Byt (wordsB a)
  | [] => fun x hx => by cases hx
  | x :: r => byt_app (byt_le _ _) (byt_words r)
theorem byt_sect (a b c d e g i h k : Int) : Byt (sectB a b c d e g i h k) := by
  unfold sectB
  repeat' (first | exact byt_le _ _ | refine byt_app ?_ ?_)
theorem byt_head (e s w h : Int) : Byt (headB e s w h) := by
  unfold headB
  repeat' (first | exact byt_le _ _ | exact byt_bytesOf _ | refine byt_app ?_ ?_)
theorem byt_sym (a : Int) (x : S47) : Byt (symB a x) := by
  unfold symB
  repeat' (first | exact byt_le _ _ | exact byt_bytesOf _ | refine byt_app ?_ ?_)
theorem byt_syms : ∀ (l : List S47) (a : Nat), Byt (symsB a l)
  | [], _ => fun x hx => by cases hx
  | x :: r, a => byt_app (byt_sym _ _) (byt_syms r _)
theorem byt_names : ∀ l : List S47, Byt (namesB l)
  | [] => fun x hx => by cases hx
  | x :: r => by
    unfold namesB
    repeat' (first | exact byt_le _ _ | exact byt_bytesOf _ | exact byt_names r | refine byt_app ?_ ?_)
theorem byt_file (e s : Int) (ws : List Int) (ls : List S47) : Byt (fileB e s ws ls) := by
  unfold fileB
  repeat' (first | exact byt_le _ _ | exact byt_bytesOf _ | exact byt_words _ | exact byt_head _ _ _ _ | exact byt_names _ | exact byt_syms _ _ | exact byt_sect _ _ _ _ _ _ _ _ _ | exact byt_pad _ | refine byt_pad ?_ | refine byt_app ?_ ?_)
theorem bytes_str {l : List Int} (h : Byt l) : bytesOf (strOfNums l) = l := by
  simp only [bytesOf, strOfNums]
  rw [List.map_map]
  conv => rhs; rw [← List.map_id l]
  refine List.map_congr_left (fun x hx => ?_)
  obtain ⟨h0, h1⟩ := h x hx
  simp only [Function.comp, id]
  rw [UInt8.toNat_ofNat']
  omega
theorem str_ne {a b : List Int} (ha : Byt a) (hb : Byt b) (h : a ≠ b) : ((strOfNums a).toList == (strOfNums b).toList) = false := by
  rw [beq_eq_false_iff_ne]
  intro he
  exact h (by rw [← bytes_str ha, ← bytes_str hb, bytes_eq he])

/-- No object that may be has these bytes as its file. -/
def NoObj (l : List Int) : Prop := ∀ e s ws ls, Fits e s ws ls → (∃ k, object_Good.f k e s ws ls = some true) → fileB e s ws ls ≠ l
theorem evn_one {α : Type} {f : Nat → Option α} {a b : α} (h1 : Evn f a) (h2 : Evn f b) : a = b := by
  obtain ⟨K, hK⟩ := h1
  obtain ⟨K', hK'⟩ := h2
  have e1 := hK (K + K') (by omega)
  have e2 := hK' (K + K') (by omega)
  rw [e1] at e2
  exact Option.some.inj e2
theorem good_evn {e s : Int} {ws : List Int} {ls : List S47} {b : Bool} (h : ∃ k, object_Good.f k e s ws ls = some b) : Evn (fun k => object_Good.f k e s ws ls) b := evn (fun k => object_Good.mono _ _ _ _ k) h
theorem file_guess {e s : Int} {ws : List Int} {ls : List S47} {l : List Int} (hF : Fits e s ws ls) (hg : ∃ k, object_Good.f k e s ws ls = some true) (hl : l.length ≤ 80000) (he : fileB e s ws ls = l) : Evn (fun k => object_reader_guess.f k l) (e, s, ws, ls, true) := by
  subst he
  obtain ⟨k, hk⟩ := hg
  exact guess_file hF (fun x hx => ((good_names hk).2.2.2 x hx).1) (by omega)

/-- What Read comes to. -/
def ReadOk (l : List Int) (e s : Int) (ws : List Int) (ls : List S47) : Prop := Fits e s ws ls ∧ (∃ k, object_Good.f k e s ws ls = some true) ∧ fileB e s ws ls = l
theorem read_any (HWO : WritesO) {l : List Int} (hl : l.length ≤ 80000) (hb : Byt l) :
    (∃ e s ws ls, ReadOk l e s ws ls ∧ ∀ (A : Option Addr) (c : Nat) (w : World), Kd.C (Kd.int .u8) w A l.length l → l.length ≤ c → Calls Try.prog 13 #[.slice A l.length c] w fun e' w' => ∃ v2 v3, e' = .returned (.tuple #[.agg #[.int .u64 e, .int .u64 s, v2, v3], .int .i64 0]) ∧ Kd.R (Kd.int .u32) 58 w' w.heap.size (fun _ => True) v2 ws ∧ Kd.R k47 47 w' w.heap.size (fun _ => True) v3 ls ∧ Below w.heap.size w w') ∨
    (NoObj l ∧ ∀ (A : Option Addr) (c : Nat) (w : World), Kd.C (Kd.int .u8) w A l.length l → l.length ≤ c → Calls Try.prog 13 #[.slice A l.length c] w fun e' w' => noObj e' ∧ Below w.heap.size w w') := by
  obtain ⟨⟨e, s, ws, ls, ok⟩, hE, hO⟩ := guess_any hl hb
  have hO' : Okay l e s ws ls := hO
  obtain ⟨kg, hkg⟩ := hE
  have hg := hkg kg (Nat.le_refl _)
  have hE : Evn (fun k => object_reader_guess.f k l) (e, s, ws, ls, ok) := ⟨kg, hkg⟩
  have hwn := hO'.wn
  have hln := hO'.ln
  cases ok with
  | false =>
    refine Or.inr ⟨fun e1 s1 ws1 ls1 hF hG he => ?_, fun A c w hr hc => readNa kg e s ws ls l A c w hr hc hg⟩
    have h1 := evn_one (file_guess hF hG hl he) hE
    simp at h1
  | true =>
    obtain ⟨b, ⟨kb, hkb⟩, _, hb5⟩ := goodsB e s ws ls (by omega) (by omega) (fun x hx => by have := hO'.n x hx; omega)
    cases b with
    | false =>
      refine Or.inr ⟨fun e1 s1 ws1 ls1 hF hG he => ?_, fun A c w hr hc => readNb kg kb e s ws ls l A c w hr hc hg hkb⟩
      have h1 := evn_one (file_guess hF hG hl he) hE
      simp only [Prod.mk.injEq, and_true] at h1
      obtain ⟨rfl, rfl, rfl, rfl⟩ := h1
      have h2 := evn_one (good_evn hG) (good_evn ⟨kb, hkb⟩)
      cases h2
    | true =>
      have hF : Fits e s ws ls := ⟨hO'.e, hO'.s, by omega, by omega, hO'.w, hO'.a, fun x hx => by have := hb5 rfl x hx; omega⟩
      by_cases he : fileB e s ws ls = l
      · refine Or.inl ⟨e, s, ws, ls, ⟨hF, ⟨kb, hkb⟩, he⟩, fun A c w hr hc => ?_⟩
        exact readO kg kb e s ws ls l A c w hr hc hg hkb hF he.symm (fun A2 c2 A3 c3 w h1 h2 h3 h4 => HWO e s A2 c2 ws A3 c3 ls w h1 h2 h3 h4 hF)
      · refine Or.inr ⟨fun e1 s1 ws1 ls1 hF1 hG he1 => ?_, fun A c w hr hc => readNc kg kb e s ws ls l A c w hr hc hg hkb hF (fileB e s ws ls) (str_ne (byt_file _ _ _ _) hb he) (fun A2 c2 A3 c3 w h1 h2 h3 h4 => HWO e s A2 c2 ws A3 c3 ls w h1 h2 h3 h4 hF)⟩
        have h1 := evn_one (file_guess hF1 hG hl he1) hE
        simp only [Prod.mk.injEq, and_true] at h1
        obtain ⟨rfl, rfl, rfl, rfl⟩ := h1
        exact he he1
end Go.Proofs.Ytelheeekbihfcab.Ob
end
