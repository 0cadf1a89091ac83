/- What the reference's Read comes to, of any bytes. The reference's Read of an object's file is the object. The law ObjectReads, walked (given what is proved of the program's write). -/
import Derived.Test.YtelheeekbihfcabRdR
import Derived.Test.YtelheeekbihfcabReadA
import Derived.Test.YtelheeekbihfcabFilesW
section
set_option linter.unusedVariables false
set_option linter.unusedSimpArgs false
namespace Go.Proofs.Ytelheeekbihfcab.Ob
open Go.RowKit Go.Proofs Go.Proofs.Ytelheeekbihfcab.PObjectReads Go.Proofs.YtelheeekbihfcabW.PrintWords Go.Proofs.YtelheeekbihfcabW.PrintMore

theorem div_step (X i : Nat) : 256 * (X / 256 ^ (i + 1)) + X / 256 ^ i % 256 = X / 256 ^ i := by
  rw [Nat.pow_succ, ← Nat.div_div_eq_div_mul]
  omega
theorem u64_id (x : Int) (h0 : 0 ≤ x) (h1 : x < 18446744073709551616) : IntKind.u64.wrap x = x := by
  simp [IntKind.wrap, IntKind.bits, IntKind.signed]
  omega
theorem rnum_step (a b : Nat) (h : 256 * a + b < 18446744073709551616) (hb : b < 256) : IntKind.u64.wrap ((IntKind.u64.wrap (256 * (a : Int))) + (IntKind.u64.wrap (b : Int))) = ((256 * a + b : Nat) : Int) := by
  rw [u64_id (256 * (a : Int)) (by omega) (by omega), u64_id (b : Int) (by omega) (by omega), u64_id _ (by omega) (by omega)]
  omega
theorem rnum_go (l : List Int) (at_ n X : Nat) (hn : n ≤ 8) (hX : X < 18446744073709551616) (hlen : at_ + n ≤ l.length) (hl : l.length ≤ 1000000) (hrd : ∀ i : Nat, i < n → rd l ((at_ : Int) + (i : Int)) = byteAt (X : Int) i) : ∀ i : Nat, i ≤ n →
    postbagref30_number.l0 (i + 1) l at_ ((X / 256 ^ i : Nat) : Int) ((i : Int) - 1) = some ((X : Nat) : Int)
  | 0, _ => by
    rw [postbagref30_number.l0, if_neg (by omega), Nat.pow_zero, Nat.div_one]
  | i + 1, hi => by
    have h1 := rnum_go l at_ n X hn hX hlen hl hrd i (by omega)
    have e1 : wrap64 ((at_ : Int) + (((i + 1 : Nat) : Int) - 1)) = (at_ : Int) + (i : Int) := by clear h1; rw [w_small _ (by omega) (by omega)]; omega
    have e3 : wrap64 (((i + 1 : Nat) : Int) - 1 - 1) = (i : Int) - 1 := by clear h1 e1; unfold wrap64; omega
    have hb : X / 256 ^ i % 256 < 256 := Nat.mod_lt _ (by decide)
    have hd := div_step X i
    have hle : X / 256 ^ i ≤ X := Nat.div_le_self _ _
    rw [postbagref30_number.l0, if_pos (by omega), e1, if_pos (by omega), if_pos (by omega), hrd i (by omega), byteAt_nat, rnum_step _ _ (by omega) hb, e3, hd]
    exact h1
theorem rnum_at (F A C : List Int) (n : Nat) (ni ai x : Int) (hni : ni = n) (hF : F = A ++ (le n x ++ C)) (hA : (A.length : Int) = ai) (hn : n ≤ 8) (hn0 : 0 < n) (hx0 : 0 ≤ x) (hx : x < ((256 ^ n : Nat) : Int)) (hl : F.length ≤ 1000000) : TotP (fun v => v = x) (fun k => postbagref30_number.f k F ai ni) := by
  subst hni hA
  obtain ⟨X, rfl⟩ := Int.eq_ofNat_of_zero_le hx0
  have hlen : F.length = A.length + n + C.length := by rw [hF]; simp [le_length]; omega
  have hrd : ∀ i : Nat, i < n → rd F ((A.length : Int) + (i : Int)) = byteAt (X : Int) i := fun i hi => by rw [hF, rd_mid A (le n (X : Int)) C A.length i rfl (by rw [le_length]; exact hi), le_get n _ i hi]
  clear hF
  have hx' : X < 256 ^ n := Int.ofNat_lt.1 hx
  have hX : X < 18446744073709551616 := Nat.lt_of_lt_of_le hx' (Nat.le_trans (Nat.pow_le_pow_right (by decide) hn) (by decide))
  have h0 := rnum_go F A.length n X hn hX (by omega) hl hrd n (Nat.le_refl _)
  rw [Nat.div_eq_of_lt hx'] at h0
  clear hrd hx hx' hx0 hX
  have hc : ¬ ((A.length : Int) > wrap64 ((F.length : Int) - (n : Int))) := by clear h0; rw [w_small _ (by omega) (by omega)]; omega
  have hw : wrap64 ((n : Int) - 1) = (n : Int) - 1 := by clear h0 hc; rw [w_small _ (by omega) (by omega)]
  refine ⟨_, evn (fun k => postbagref30_number.mono _ _ _ k) ⟨n + 2, ?_⟩, rfl⟩
  rw [postbagref30_number.f, if_neg (by omega), postbagref30_number.j0, if_neg (fun h => hc (of_decide_eq_true h)), hw]
  exact h0
theorem rnum_any {l : List Int} (hl : l.length ≤ 100000) (hb : Byt l) (n : Nat) (hn : n ≤ 8) (hn0 : 0 < n) (at_ ni : Int) (hni : ni = n) (hat : 0 ≤ at_) (ha1 : at_ ≤ 1000000000) :
    TotP (fun r : Int => 0 ≤ r ∧ r < ((256 ^ n : Nat) : Int)) (fun k => postbagref30_number.f k l at_ ni) := by
  by_cases hin : at_ + (n : Int) ≤ l.length
  · obtain ⟨a, rfl⟩ := Int.eq_ofNat_of_zero_le hat
    obtain ⟨v, hv, he⟩ := le_of_bytes ((l.drop a).take n) (fun x hx => hb x (List.mem_of_mem_drop (List.mem_of_mem_take hx)))
    have hlen : ((l.drop a).take n).length = n := by rw [List.length_take, List.length_drop]; omega
    rw [hlen] at hv he
    have hF : l = l.take a ++ (le n (v : Int) ++ (l.drop a).drop n) := by rw [he, List.take_append_drop, List.take_append_drop]
    refine tot_mono (rnum_at l (l.take a) ((l.drop a).drop n) n ni (a : Int) (v : Int) hni hF (by rw [List.length_take]; omega) hn hn0 (Int.natCast_nonneg _) (Int.ofNat_lt.2 hv) (by omega)) (fun r hr => ?_)
    rw [hr]
    exact ⟨Int.natCast_nonneg _, Int.ofNat_lt.2 hv⟩
  · subst hni
    have hw : wrap64 ((l.length : Int) - n) = (l.length : Int) - n := by clear hb hin; unfold wrap64; omega
    have hc : at_ > wrap64 ((l.length : Int) - n) := by rw [hw]; omega
    have hp : (0 : Int) < ((256 ^ n : Nat) : Int) := Int.ofNat_lt.2 (Nat.pow_pos (by decide))
    refine ⟨0, ⟨1, fun k hk => ?_⟩, Int.le_refl _, hp⟩
    obtain ⟨k, rfl⟩ : ∃ k', k = k' + 1 := ⟨k - 1, by omega⟩
    simp only [postbagref30_number.f]
    rw [if_neg (by omega), decide_eq_true hc, postbagref30_number.j0, if_pos rfl]

/-- Of what Read comes to. -/
def RdRes (l : List Int) (r : Int × Int × List Int × List S47 × Int) : Prop := r = (0, 0, [], [], 200) ∨ ∃ e s ws ls, r = (e, s, ws, ls, 0) ∧ ReadOk l e s ws ls
theorem up_any (n : Int) (h0 : 0 ≤ n) (h1 : n ≤ 100000000) : TotP (fun v => v = up8 n) (fun _ => postbagref30_up.f n) := ⟨_, ⟨0, fun _ _ => up_f n h0 h1⟩, rfl⟩
theorem rgood_evn {e s : Int} {ws : List Int} {ls : List S47} {b : Bool} (h : ∃ k, postbagref30_Good.f k e s ws ls = some b) : Evn (fun k => postbagref30_Good.f k e s ws ls) b := evn (fun k => postbagref30_Good.mono _ _ _ _ k) h

theorem rl1_any {l : List Int} (hl : l.length ≤ 80000) (hb : Byt l) (S : Int) (hS0 : 0 ≤ S) (hS1 : S ≤ 1000000) (m : Nat) (hm : 24 * m ≤ l.length) (e s : Int) (ws : List Int) : ∀ (d i : Nat) (pos : Int) (ls : List S47), m - i = d → 1 ≤ i → i ≤ m → ls.length + 1 = i → 0 ≤ pos → pos ≤ 1000000 → Okay l e s ws ls →
    TotP (RdRes l) (fun k => postbagref30_Read.l1 k l S (24 * (m : Int)) pos i e s ws ls) := by
  have hend : ∀ ls : List S47, Okay l e s ws ls → TotP (RdRes l) (fun k => (postbagref30_Good.f k e s ws ls).bind fun t196 => (if t196 = true then (if Ob.fitsB e s ws ls = true then (if (strOfNums (Ob.fileB e s ws ls)).toList = (strOfNums l).toList then (some (e, s, ws, ls, (0 : Int))) else (some (0, 0, ([] : List Int), ([] : List S47), 200))) else none) else (some (0, 0, ([] : List Int), ([] : List (S47)), 200)))) := fun ls hO => by
    have hwn := hO.wn
    have hln := hO.ln
    obtain ⟨b, h1, h2, h3⟩ := goodsB e s ws ls (by omega) (by omega) (fun x hx => by have := hO.n x hx; omega)
    refine tot_bind (A := fun v => v = b) ⟨b, rgood_evn h2, rfl⟩ (fun v hv => ?_)
    subst hv
    refine tot_ite (fun hv => ?_) (fun hv => tot_some (Or.inl rfl))
    subst hv
    have hF : Fits e s ws ls := ⟨hO.e, hO.s, by omega, by omega, hO.w, hO.a, fun x hx => by have := h3 rfl x hx; omega⟩
    refine tot_ite (fun _ => ?_) (fun hn => absurd (fits_fitsB hF) hn)
    refine tot_ite (fun he => tot_some (Or.inr ⟨e, s, ws, ls, rfl, hF, h1, ?_⟩)) (fun he => tot_some (Or.inl rfl))
    rw [← bytes_str hb, ← bytes_eq he, bytes_str (byt_file _ _ _ _)]
  intro d
  induction d with
  | zero =>
    intro i pos ls hd hi1 him hls hp0 hp1 hO
    refine tot_succ (fun k => postbagref30_Read.l1.eq_2 _ _ _ _ _ _ _ _ _ k) ?_
    rw [td24 m (by omega)]
    refine tot_ite (fun h => ?_) (fun h => hend ls hO)
    omega
  | succ d ih =>
    intro i pos ls hd hi1 him hls hp0 hp1 hO
    have hcont : ∀ (j : Nat), pos ≤ (j : Int) → j ≤ l.length → TotP (RdRes l) (fun k => (postbagref30_number.f k l (wrap64 ((wrap64 (S + (wrap64 (24 * (i : Int))))) + 8)) 8).bind fun t199 => (if ls.length < 5864062014805 then (postbagref30_Read.l1 k l S (24 * (m : Int)) (wrap64 ((j : Int) + 1)) (wrap64 ((i : Int) + 1)) e s ws (ls ++ [(⟨strOfNums ((l.take (j : Int).toNat).drop (pos : Int).toNat), t199⟩ : S47)])) else (none))) := fun j hj1 hj2 => by
      rw [w_e3 S i hS0 hS1 (by omega) (by omega), w_inc i (by omega), w_inc j (by omega)]
      refine tot_bind (rnum_any (by omega) hb 8 (by omega) (by omega) (S + 24 * (i : Int) + 8) 8 rfl (by omega) (by omega)) (fun v hv => ?_)
      refine tot_ite (fun h3 => ?_) (fun h3 => absurd (small_big _ (by have := hO.ln; omega)) h3)
      refine ih (i + 1) _ _ (by omega) (by omega) (by omega) (by simp; omega) (by omega) (by omega) ⟨hO.e, hO.s, hO.wn, ?_, hO.w, ?_, ?_⟩
      · simp only [List.length_append, List.length_singleton]; omega
      · intro x hx
        rcases List.mem_append.1 hx with h' | h'
        · exact hO.a x h'
        · rw [List.mem_singleton.1 h']
          have h5 := hv.2
          rw [p8] at h5
          exact ⟨hv.1, h5⟩
      · intro x hx
        rcases List.mem_append.1 hx with h' | h'
        · exact hO.n x h'
        · rw [List.mem_singleton.1 h']
          simp only [str_size, List.length_drop, List.length_take]
          omega
    have hin : ∀ (c j : Nat), l.length - j = c → pos ≤ (j : Int) → (j ≤ l.length ∨ (j : Int) = pos) → TotP (RdRes l) (fun k => postbagref30_Read.l2 k l S (24 * (m : Int)) pos i j e s ws ls) := by
      intro c
      induction c with
      | zero =>
        intro j hc hj1 hj2
        refine tot_succ (fun k => postbagref30_Read.l2.eq_2 _ _ _ _ _ _ _ _ _ _ k) ?_
        refine tot_ite (fun h => by omega) (fun h => ?_)
        refine tot_ite (fun h1 => tot_some (Or.inl rfl)) (fun h1 => ?_)
        refine tot_ite (fun _ => ?_) (fun h2 => absurd hp0 h2)
        refine tot_ite (fun _ => ?_) (fun h2 => absurd hj1 h2)
        refine tot_ite (fun h2 => ?_) (fun h2 => by omega)
        exact hcont j hj1 (by omega)
      | succ c ihc =>
        intro j hc hj1 hj2
        refine tot_succ (fun k => postbagref30_Read.l2.eq_2 _ _ _ _ _ _ _ _ _ _ k) ?_
        refine tot_ite (fun h => ?_) (fun h => by omega)
        refine tot_ite (fun _ => ?_) (fun h2 => absurd (Int.natCast_nonneg j) h2)
        refine tot_ite (fun hz => ?_) (fun hz => ?_)
        · refine tot_ite (fun h1 => tot_some (Or.inl rfl)) (fun h1 => ?_)
          refine tot_ite (fun _ => ?_) (fun h2 => absurd hp0 h2)
          refine tot_ite (fun _ => ?_) (fun h2 => absurd hj1 h2)
          refine tot_ite (fun h2 => ?_) (fun h2 => by omega)
          exact hcont j hj1 (by omega)
        · rw [w_inc j (by omega)]
          exact ihc (j + 1) (by omega) (by omega) (Or.inl (by omega))
    refine tot_succ (fun k => postbagref30_Read.l1.eq_2 _ _ _ _ _ _ _ _ _ k) ?_
    rw [td24 m (by omega)]
    refine tot_ite (fun h => ?_) (fun h => hend ls hO)
    obtain ⟨p, rfl⟩ := Int.eq_ofNat_of_zero_le hp0
    exact hin _ p rfl (Int.le_refl _) (Or.inr rfl)

theorem rl0_any {l : List Int} (hl : l.length ≤ 80000) (hb : Byt l) (n : Nat) (hn : 4 * n ≤ l.length) (e s : Int) : ∀ (d i : Nat) (ws : List Int), n - i = d → i ≤ n → ws.length = i → Okay l e s ws [] →
    TotP (RdRes l) (fun k => postbagref30_Read.l0 k l (4 * (n : Int)) i e s ws) := by
  intro d
  induction d with
  | zero =>
    intro i ws hd hin hw hO
    refine tot_succ (fun k => postbagref30_Read.l0.eq_2 _ _ _ _ _ _ k) ?_
    rw [td4' n (by omega), w_small (4 * (n : Int)) (by omega) (by omega), w_small (120 + 4 * (n : Int)) (by omega) (by omega)]
    refine tot_ite (fun h => by omega) (fun h => ?_)
    refine tot_bind (up_any _ (by omega) (by omega)) (fun S hS => ?_)
    have hS0 : 0 ≤ S ∧ S ≤ 200000 := by rw [hS]; unfold up8; omega
    clear hS
    refine tot_bind (rnum_any (by omega) hb 8 (by omega) (by omega) 40 8 rfl (by omega) (by omega)) (fun v hv => ?_)
    have hv0 := hv.1
    clear hv
    have hu : IntKind.u64.wrap (l.length : Int) = (l.length : Int) := u64_small _ (by omega) (by omega)
    rw [hu]
    have hj3 : ∀ (u : Int) (q : Bool), (q = false → 0 ≤ u ∧ u ≤ l.length ∧ Int.tmod u 24 = 0 ∧ 24 ≤ u) → TotP (RdRes l) (fun k => postbagref30_Read.j3 k l S u q e s ws) := fun u q hq => by
      refine tot_succ (fun k => postbagref30_Read.j3.eq_2 _ _ _ _ _ _ _ k) ?_
      refine tot_ite (fun h2 => tot_some (Or.inl rfl)) (fun h2 => ?_)
      obtain ⟨q0, q1, q2, q3⟩ := hq (by cases q <;> simp at h2 ⊢)
      rw [Int.tmod_eq_emod_of_nonneg (by omega)] at q2
      obtain ⟨m, hm⟩ : ∃ m : Nat, u = 24 * (m : Int) := ⟨(u / 24).toNat, by omega⟩
      rw [hm] at q1 q3 ⊢
      rw [w_t2 S (24 * (m : Int)) (by omega) (by omega) (by omega) (by omega)]
      exact rl1_any hl hb S hS0.1 (by omega) m (by omega) e s ws _ 1 _ [] rfl (Nat.le_refl _) (by omega) rfl (by omega) (by omega) hO
    have hj2 : ∀ q : Bool, (q = false → v ≤ l.length) → TotP (RdRes l) (fun k => postbagref30_Read.j2 k l S v q e s ws) := fun q hq => by
      refine tot_succ (fun k => postbagref30_Read.j2.eq_2 _ _ _ _ _ _ _ k) ?_
      refine tot_ite (fun h2 => tot_some (Or.inl rfl)) (fun h2 => ?_)
      have q1 := hq (by cases q <;> simp at h2 ⊢)
      rw [w_t1 v hv0 (by omega)]
      refine tot_bind (rnum_any (by omega) hb 8 (by omega) (by omega) (v + 160) 8 rfl (by omega) (by omega)) (fun u hu2 => ?_)
      have hu0 := hu2.1
      clear hu2
      have ht : ∀ b : Bool, b = true → TotP (RdRes l) (fun k => postbagref30_Read.j3 k l S u b e s ws) := fun b hb => hj3 u b (fun h => by rw [hb] at h; cases h)
      refine tot_ite (fun h3 => ?_) (fun h3 => ht true rfl)
      refine tot_ite (fun h4 => ht true rfl) (fun h4 => ?_)
      have hsub : wrap64 ((l.length : Int) - S) = (l.length : Int) - S := by clear hj3 ht hu; unfold wrap64; omega
      rw [hsub]
      refine tot_ite (fun h5 => ht true rfl) (fun h5 => ?_)
      refine hj3 u _ (fun h => ?_)
      have h6 : ¬ S > (l.length : Int) := of_decide_eq_false h
      rw [u64_small _ (by omega) (by omega)] at h5
      exact ⟨hu0, by omega, h3, by omega⟩
    refine tot_ite (fun h1 => hj2 true (fun h => by cases h)) (fun h1 => hj2 _ (fun _ => by omega))
  | succ d ih =>
    intro i ws hd hin hw hO
    refine tot_succ (fun k => postbagref30_Read.l0.eq_2 _ _ _ _ _ _ k) ?_
    rw [w_e5 i (by omega) (by omega), w_inc i (by omega), td4' n (by omega)]
    refine tot_ite (fun h => ?_) (fun h => by omega)
    refine tot_bind (rnum_any (by omega) hb 4 (by omega) (by omega) (120 + 4 * (i : Int)) 4 rfl (by omega) (by omega)) (fun v hv => ?_)
    clear hv
    refine tot_ite (fun h2 => ?_) (fun h2 => absurd (small_big2 _ (by omega)) h2)
    refine ih (i + 1) _ (by omega) (by omega) (by simp [hw]) ⟨hO.e, hO.s, ?_, hO.ln, ?_, hO.a, hO.n⟩
    · simp only [List.length_append, List.length_singleton]; omega
    · intro x hx
      rcases List.mem_append.1 hx with h' | h'
      · exact hO.w x h'
      · rw [List.mem_singleton.1 h']
        omega

theorem rd_any {l : List Int} (hl : l.length ≤ 80000) (hb : Byt l) : TotP (RdRes l) (fun k => postbagref30_Read.f k l) := by
  unfold postbagref30_Read.f
  refine tot_bind (rnum_any (by omega) hb 8 (by omega) (by omega) 96 8 rfl (by omega) (by omega)) (fun v hv => ?_)
  have hv0 := hv.1
  clear hv
  have hO : ∀ e s : Int, 0 ≤ e ∧ e < 18446744073709551616 → 0 ≤ s ∧ s < 18446744073709551616 → Okay l e s [] [] := fun e s he hs => ⟨he, hs, Nat.zero_le _, Nat.zero_le _, (fun x h => by cases h), (fun x h => by cases h), (fun x h => by cases h)⟩
  have hj : ∀ q : Bool, (q = false → v ≤ l.length ∧ Int.tmod v 4 = 0) → TotP (RdRes l) (fun k => postbagref30_Read.j0 k l v q) := fun q hq => by
    refine tot_succ (fun k => postbagref30_Read.j0.eq_2 _ _ _ k) ?_
    refine tot_ite (fun h2 => tot_some (Or.inl rfl)) (fun h2 => ?_)
    obtain ⟨q1, q2⟩ := hq (by cases q <;> simp at h2 ⊢)
    rw [Int.tmod_eq_emod_of_nonneg hv0] at q2
    obtain ⟨m, hm⟩ : ∃ m : Nat, v = 4 * (m : Int) := ⟨(v / 4).toNat, by omega⟩
    rw [hm] at q1 ⊢
    refine tot_bind (rnum_any (by omega) hb 8 (by omega) (by omega) 24 8 rfl (by omega) (by omega)) (fun v1 h1 => ?_)
    refine tot_bind (rnum_any (by omega) hb 8 (by omega) (by omega) 104 8 rfl (by omega) (by omega)) (fun v2 h3 => ?_)
    have h4 := h1.2
    have h5 := h3.2
    rw [p8] at h4 h5
    exact rl0_any hl hb m (by omega) v1 v2 _ 0 [] rfl (Nat.zero_le _) rfl (hO _ _ ⟨h1.1, h4⟩ ⟨h3.1, h5⟩)
  have ht : TotP (RdRes l) (fun k => postbagref30_Read.j0 k l v true) := hj true (fun h => by cases h)
  refine tot_ite (fun h1 => ht) (fun h1 => ?_)
  refine tot_ite (fun h2 => ?_) (fun h2 => ht)
  refine tot_ite (fun h3 => ht) (fun h3 => ?_)
  refine hj _ (fun h => ⟨?_, h2⟩)
  have h4 : ¬ v > IntKind.u64.wrap (l.length : Int) := of_decide_eq_false h
  rw [u64_small _ (by omega) (by omega)] at h4
  omega
end Go.Proofs.Ytelheeekbihfcab.Ob
end

section
set_option linter.unusedVariables false
set_option linter.unusedSimpArgs false
namespace Go.Proofs.Ytelheeekbihfcab.Ob
open Go.RowKit Go.Proofs Go.Proofs.Ytelheeekbihfcab.PObjectReads Go.Proofs.YtelheeekbihfcabW.PrintWords Go.Proofs.YtelheeekbihfcabW.PrintMore

theorem name_parts (l A C : List Int) (y : ByteArray) (at_ : Nat) (hL : l = A ++ (bytesOf y ++ (0 :: C))) (hA : A.length = at_) (hy : ∀ i : Nat, i < y.size → bt y (i : Int) ≠ 0) :
    at_ + y.size < l.length ∧ (∀ i : Nat, i < y.size → rd l ((at_ + i : Nat) : Int) ≠ 0) ∧ rd l ((at_ + y.size : Nat) : Int) = 0 ∧ strOfNums ((l.take (at_ + y.size)).drop at_) = y := by
  refine ⟨by rw [hL]; simp [hA, bytesOf_length], fun i hi => ?_, ?_, ?_⟩
  · rw [hL, Int.natCast_add, rd_mid A (bytesOf y) (0 :: C) at_ i hA (by rw [bytesOf_length]; exact hi)]
    have := rd_bytesOf y (i : Int)
    unfold rd at this
    rw [Int.toNat_natCast] at this
    rw [this]
    exact hy i hi
  · rw [hL, ← List.append_assoc]
    have h1 := rd_mid (A ++ bytesOf y) (0 :: C) [] (at_ + y.size) 0 (by rw [List.length_append, hA, bytesOf_length]) (by simp)
    simpa using h1
  · rw [hL, ← List.append_assoc, List.take_left' (by rw [List.length_append, hA, bytesOf_length]), List.drop_left' hA, str_bytes]

section
variable {e s : Int} {ws : List Int} {ls : List S47}
theorem rl1_file {l : List Int} (hR : ReadOk l e s ws ls) (hl : l.length ≤ 80000) (hS : 0 ≤ sOf ws ∧ sOf ws ≤ 100000)
    (hN : ∀ (i : Nat) (h : i < ls.length), TotP (fun v => v = ls[i].f1) (fun k => postbagref30_number.f k l (sOf ws + 24 * ((i : Int) + 1) + 8) 8))
    (hY : ∀ (i : Nat) (h : i < ls.length) (p : Nat), sOf ws + lOf ls + 1 + (nm (ls.take i) : Int) = p → p + ls[i].f0.size < l.length ∧ (∀ t : Nat, t < ls[i].f0.size → rd l ((p + t : Nat) : Int) ≠ 0) ∧ rd l ((p + ls[i].f0.size : Nat) : Int) = 0 ∧ strOfNums ((l.take (p + ls[i].f0.size)).drop p) = ls[i].f0) : ∀ (d i : Nat), ls.length - i = d → i ≤ ls.length →
    TotP (fun r => r = (e, s, ws, ls, (0 : Int))) (fun k => postbagref30_Read.l1 k l (sOf ws) (lOf ls) (sOf ws + lOf ls + 1 + (nm (ls.take i) : Int)) (((i + 1 : Nat) : Int)) e s ws (ls.take i)) := by
  obtain ⟨hF, hG, he⟩ := hR
  have hln := hF.ln
  have hlo : lOf ls = 24 * ((ls.length + 1 : Nat) : Int) := by unfold lOf; omega
  intro d
  induction d with
  | zero =>
    intro i hd hi
    obtain rfl : i = ls.length := by omega
    refine tot_succ (fun k => postbagref30_Read.l1.eq_2 _ _ _ _ _ _ _ _ _ k) ?_
    rw [hlo, td24 _ (by omega), List.take_length]
    refine tot_ite (fun h => absurd h (Int.lt_irrefl _)) (fun h => ?_)
    obtain ⟨b, h1, h2, _⟩ := goods e s ws ls hF.wn hF.ln hF.n
    have hb : b = true := evn_one (good_evn h1) (good_evn hG)
    subst hb
    refine tot_bind (A := fun v => v = true) ⟨true, rgood_evn h2, rfl⟩ (fun v hv => ?_)
    refine tot_ite (fun _ => ?_) (fun hn => absurd hv hn)
    refine tot_ite (fun _ => ?_) (fun hn => absurd (fits_fitsB hF) hn)
    rw [he]
    exact tot_ite (fun _ => tot_some rfl) (fun hn => absurd rfl hn)
  | succ d ih =>
    intro i hd hi
    have hlt : i < ls.length := by omega
    have hnl := nm_le (ls.take i) (fun x hx => hF.n x (List.mem_of_mem_take hx))
    rw [List.length_take] at hnl
    have hnt := nm_take ls i hlt
    have hz := hF.n ls[i] (List.getElem_mem hlt)
    have hih := ih (i + 1) (by omega) hlt
    clear ih
    obtain ⟨p, hp⟩ : ∃ p : Nat, sOf ws + lOf ls + 1 + (nm (ls.take i) : Int) = p := ⟨(sOf ws + lOf ls + 1 + (nm (ls.take i) : Int)).toNat, by omega⟩
    obtain ⟨y1, y2, y3, y4⟩ := hY i hlt p hp
    have hpos : sOf ws + lOf ls + 1 + (nm (ls.take (i + 1)) : Int) = ((p + ls[i].f0.size + 1 : Nat) : Int) := by rw [hnt]; omega
    have e4 : ls.take i ++ [(⟨ls[i].f0, ls[i].f1⟩ : S47)] = ls.take (i + 1) := by rw [List.take_succ_eq_append_getElem hlt]
    rw [hpos] at hih
    rw [hp]
    clear hpos hnt hnl
    have hcont : TotP (fun r => r = (e, s, ws, ls, (0 : Int))) (fun k => (postbagref30_number.f k l (wrap64 ((wrap64 (sOf ws + (wrap64 (24 * ((i + 1 : Nat) : Int))))) + 8)) 8).bind fun t199 => (if (ls.take i).length < 5864062014805 then (postbagref30_Read.l1 k l (sOf ws) (lOf ls) (wrap64 (((p + ls[i].f0.size : Nat) : Int) + 1)) (wrap64 (((i + 1 : Nat) : Int) + 1)) e s ws (ls.take i ++ [(⟨strOfNums ((l.take ((p + ls[i].f0.size : Nat) : Int).toNat).drop (p : Int).toNat), t199⟩ : S47)])) else (none))) := by
      rw [w_e3 (sOf ws) ((i + 1 : Nat) : Int) hS.1 (by omega) (by omega) (by omega), w_inc (i + 1) (by omega), w_inc (p + ls[i].f0.size) (by omega), Int.toNat_natCast, Int.toNat_natCast, y4]
      refine tot_bind (hN i hlt) (fun v hv => ?_)
      subst hv
      refine tot_ite (fun _ => ?_) (fun h3 => absurd (small_big _ (by rw [List.length_take]; omega)) h3)
      rw [e4]
      exact hih
    have hin : ∀ (c t : Nat), ls[i].f0.size - t = c → t ≤ ls[i].f0.size → TotP (fun r => r = (e, s, ws, ls, (0 : Int))) (fun k => postbagref30_Read.l2 k l (sOf ws) (lOf ls) p ((i + 1 : Nat) : Int) ((p + t : Nat) : Int) e s ws (ls.take i)) := by
      intro c
      induction c with
      | zero =>
        intro t hc ht
        obtain rfl : t = ls[i].f0.size := by omega
        refine tot_succ (fun k => postbagref30_Read.l2.eq_2 _ _ _ _ _ _ _ _ _ _ k) ?_
        refine tot_ite (fun _ => ?_) (fun h => by omega)
        refine tot_ite (fun _ => ?_) (fun h2 => absurd (Int.natCast_nonneg _) h2)
        refine tot_ite (fun _ => ?_) (fun h2 => absurd y3 h2)
        refine tot_ite (fun h1 => by omega) (fun _ => ?_)
        refine tot_ite (fun _ => ?_) (fun h2 => absurd (Int.natCast_nonneg _) h2)
        refine tot_ite (fun _ => ?_) (fun h2 => by omega)
        refine tot_ite (fun _ => ?_) (fun h2 => by omega)
        exact hcont
      | succ c ihc =>
        intro t hc ht
        refine tot_succ (fun k => postbagref30_Read.l2.eq_2 _ _ _ _ _ _ _ _ _ _ k) ?_
        refine tot_ite (fun _ => ?_) (fun h => by omega)
        refine tot_ite (fun _ => ?_) (fun h2 => absurd (Int.natCast_nonneg _) h2)
        refine tot_ite (fun h2 => absurd h2 (y2 t (by omega))) (fun _ => ?_)
        rw [w_inc (p + t) (by omega)]
        exact ihc (t + 1) (by clear ihc hcont hih; omega) (by clear ihc hcont hih; omega)
    refine tot_succ (fun k => postbagref30_Read.l1.eq_2 _ _ _ _ _ _ _ _ _ k) ?_
    have hdv : wrap64 (Int.tdiv (wrap64 (lOf ls)) 24) = ((ls.length + 1 : Nat) : Int) := by rw [hlo]; exact td24 _ (by omega)
    rw [hdv]
    clear hdv
    refine tot_ite (fun _ => ?_) (fun h => by clear hin hcont hih; omega)
    exact hin _ 0 rfl (Nat.zero_le _)

theorem rl0_file {l : List Int} (hwn : ws.length ≤ 20000) (hw : ∀ x, x ∈ ws → 0 ≤ x ∧ x < 4294967296) {P : Int × Int × List Int × List S47 × Int → Prop}
    (hW : ∀ (i : Nat) (h : i < ws.length), TotP (fun v => v = ws[i]) (fun k => postbagref30_number.f k l (120 + 4 * (i : Int)) 4))
    (hE : TotP P (fun k => postbagref30_Read.l0 k l (4 * (ws.length : Int)) (ws.length : Int) e s ws)) : ∀ (d i : Nat), ws.length - i = d → i ≤ ws.length →
    TotP P (fun k => postbagref30_Read.l0 k l (4 * (ws.length : Int)) (i : Int) e s (ws.take i)) := by
  intro d
  induction d with
  | zero =>
    intro i hd hi
    obtain rfl : i = ws.length := by omega
    rw [List.take_length]
    exact hE
  | succ d ih =>
    intro i hd hi
    have hlt : i < ws.length := by omega
    have hih := ih (i + 1) (by omega) hlt
    clear ih
    have hz := hw ws[i] (List.getElem_mem hlt)
    have e4 : ws.take i ++ [ws[i] % 4294967296] = ws.take (i + 1) := by rw [List.take_succ_eq_append_getElem hlt, Int.emod_eq_of_lt hz.1 hz.2]
    clear hz
    refine tot_succ (fun k => postbagref30_Read.l0.eq_2 _ _ _ _ _ _ k) ?_
    rw [w_e5 i (by omega) (by omega), w_inc i (by omega), td4' _ (by omega)]
    refine tot_ite (fun _ => ?_) (fun h => by omega)
    refine tot_bind (hW i hlt) (fun v hv => ?_)
    subst hv
    refine tot_ite (fun _ => ?_) (fun h2 => absurd (small_big2 _ (by rw [List.length_take]; omega)) h2)
    rw [e4]
    exact hih

theorem rd_file {l : List Int} (hR : ReadOk l e s ws ls) (hl : l.length ≤ 80000) : TotP (fun r => r = (e, s, ws, ls, (0 : Int))) (fun k => postbagref30_Read.f k l) := by
  have hF := hR.1
  have hlen : (fileB e s ws ls).length ≤ 1000000 := by rw [hR.2.2]; omega
  obtain ⟨k0, hk0⟩ := hR.2.1
  have hz := fun x hx => ((good_names hk0).2.2.2 x hx).1
  have he := hR.2.2
  obtain ⟨hl1, hl2, hS0, hS1, hH0, hL1, hH1⟩ := file_big hF
  have hwn := hF.wn
  have hlo : lOf ls = 24 * ((ls.length : Int) + 1) := rfl
  obtain ⟨C24, h24⟩ := at24 e s ws ls
  obtain ⟨C40, h40⟩ := at40 e s ws ls
  obtain ⟨C96, h96⟩ := at96 e s ws ls
  obtain ⟨C104, h104⟩ := at104 e s ws ls
  obtain ⟨CS, hCS⟩ := atSize e s ws ls
  have n24 := rnum_at _ _ C24 8 8 24 e rfl h24 (by simp [le_length, bytesOf_length]; rfl) (by omega) (by omega) hF.e.1 (by have := hF.e.2; omega) hlen
  have n40 := rnum_at _ _ C40 8 8 40 (hOf ws ls) rfl h40 (by simp [le_length, bytesOf_length]; rfl) (by omega) (by omega) hH0 (by omega) hlen
  have n96 := rnum_at _ _ C96 8 8 96 (4 * (ws.length : Int)) rfl h96 (by simp [le_length, bytesOf_length]; rfl) (by omega) (by omega) (by omega) (by omega) hlen
  have n104 := rnum_at _ _ C104 8 8 104 s rfl h104 (by simp [le_length, bytesOf_length]; rfl) (by omega) (by omega) hF.s.1 (by have := hF.s.2; omega) hlen
  have nS := rnum_at _ _ CS 8 8 (hOf ws ls + 160) (lOf ls) rfl hCS (by
    have := body_l e s ws ls
    simp only [List.length_append, le_length, sect_len]
    omega) (by omega) (by omega) (by omega) (by omega) hlen
  have hN : ∀ (i : Nat) (h : i < ls.length), TotP (fun v => v = ls[i].f1) (fun k => postbagref30_number.f k (fileB e s ws ls) (sOf ws + 24 * ((i : Int) + 1) + 8) 8) := fun i h => by
    obtain ⟨C1, hC1⟩ := atLabel e s ws ls i h
    have hra := hF.a ls[i] (List.getElem_mem h)
    have hp1 := part1_len e s ws ls
    exact rnum_at _ _ C1 8 8 (sOf ws + 24 * ((i : Int) + 1) + 8) ls[i].f1 rfl hC1 (by
      simp only [List.length_append, le_length, symsB_len, List.length_take]
      omega) (by omega) (by omega) hra.1 (by have := hra.2; omega) hlen
  have hY : ∀ (i : Nat) (h : i < ls.length) (p : Nat), sOf ws + lOf ls + 1 + (nm (ls.take i) : Int) = p → p + ls[i].f0.size < (fileB e s ws ls).length ∧ (∀ t : Nat, t < ls[i].f0.size → rd (fileB e s ws ls) ((p + t : Nat) : Int) ≠ 0) ∧ rd (fileB e s ws ls) ((p + ls[i].f0.size : Nat) : Int) = 0 ∧ strOfNums (((fileB e s ws ls).take (p + ls[i].f0.size)).drop p) = ls[i].f0 := fun i h p hp => by
    obtain ⟨C2, hC2⟩ := atName e s ws ls i h
    have hp1 := part1_len e s ws ls
    exact name_parts _ _ C2 ls[i].f0 p hC2 (by
      simp only [List.length_append, le_length, symsB_len, namesB_len]
      omega) (hz ls[i] (List.getElem_mem h))
  have hW : ∀ (i : Nat) (h : i < ws.length), TotP (fun v => v = ws[i]) (fun k => postbagref30_number.f k (fileB e s ws ls) (120 + 4 * (i : Int)) 4) := fun i h => by
    obtain ⟨C2, hC2⟩ := atWord e s ws ls i h
    have hw := hF.w ws[i] (List.getElem_mem h)
    exact rnum_at _ _ C2 4 4 (120 + 4 * (i : Int)) ws[i] rfl hC2 (by
      simp only [List.length_append, headB_len, wordsB_len, List.length_take]
      omega) (by omega) (by omega) hw.1 (by have := hw.2; omega) hlen
  rw [he] at n24 n40 n96 n104 nS hN hY hW hl1
  have hzz : (1 : Int) ≤ zOf ls := by unfold zOf; omega
  have hHlow : sOf ws + lOf ls + 34 ≤ hOf ws ls ∧ hOf ws ls % 8 = 0 := by unfold hOf up8; omega
  have hS120 : 120 + 4 * (ws.length : Int) ≤ sOf ws := by unfold sOf up8; omega
  have EL := rl1_file hR hl ⟨hS0, hS1⟩ hN hY ls.length 0 rfl (Nat.zero_le _)
  simp only [List.take_zero, nm, Int.natCast_zero, Int.add_zero, Int.zero_add, Int.ofNat_zero] at EL
  clear hN hY hz hlen h24 h40 h96 h104 hCS hk0
  have ht1 := w_t1 (hOf ws ls) hH0 hH1
  have ht2 := w_t2 (sOf ws) (lOf ls) hS0 (by omega) (by omega) (by omega)
  have hlm : Int.tmod (lOf ls) 24 = 0 := by rw [Int.tmod_eq_emod_of_nonneg (by omega)]; omega
  have hul : IntKind.u64.wrap (l.length : Int) = (l.length : Int) := u64_small _ (by omega) (by omega)
  have hw1 : wrap64 ((l.length : Int) - wrap64 (hOf ws ls)) = 320 := by clear ht1 ht2 hul; rw [w_small (hOf ws ls) (by omega) (by omega), w_small _ (by omega) (by omega)]; omega
  have hw2 : IntKind.u64.wrap (wrap64 ((l.length : Int) - sOf ws)) = (l.length : Int) - sOf ws := by clear ht1 ht2 hul hw1; rw [w_small _ (by omega) (by omega), u64_small _ (by omega) (by omega)]
  have hw3 : wrap64 (120 + wrap64 (4 * (ws.length : Int))) = 120 + 4 * (ws.length : Int) := by clear ht1 ht2 hul hw1 hw2; rw [w_small (4 * (ws.length : Int)) (by omega) (by omega), w_small _ (by omega) (by omega)]
  have EE : TotP (fun r => r = (e, s, ws, ls, (0 : Int))) (fun k => postbagref30_Read.l0 k l (4 * (ws.length : Int)) (ws.length : Int) e s ws) := by
    refine tot_succ (fun k => postbagref30_Read.l0.eq_2 _ _ _ _ _ _ k) ?_
    rw [td4' _ (by omega), hw3, hul]
    clear hw3
    refine tot_ite (fun h => absurd h (Int.lt_irrefl _)) (fun _ => ?_)
    refine tot_bind (A := fun v => v = sOf ws) (up_any _ (by omega) (by omega)) (fun S hS => ?_)
    subst hS
    refine tot_bind n40 (fun v hv => ?_)
    subst hv
    refine tot_ite (fun h => by clear ht1 ht2 hw1 hw2; omega) (fun _ => ?_)
    refine tot_succ (fun k => postbagref30_Read.j2.eq_2 _ _ _ _ _ _ _ k) ?_
    rw [hw1, ht1]
    refine tot_ite (fun h => by simp at h) (fun _ => ?_)
    refine tot_bind nS (fun v hv => ?_)
    subst hv
    refine tot_ite (fun _ => ?_) (fun h => absurd hlm h)
    refine tot_ite (fun h => by clear ht1 ht2 hw1 hw2; omega) (fun _ => ?_)
    rw [hw2]
    refine tot_ite (fun h => by clear ht1 ht2 hw1 hw2; omega) (fun _ => ?_)
    refine tot_succ (fun k => postbagref30_Read.j3.eq_2 _ _ _ _ _ _ _ k) ?_
    rw [ht2]
    refine tot_ite (fun h => ?_) (fun _ => EL)
    have h6 := of_decide_eq_true h
    clear ht1 ht2 hw1 hw2
    omega
  have EW := rl0_file (l := l) (e := e) (s := s) hwn hF.w hW EE ws.length 0 rfl (Nat.zero_le _)
  simp only [List.take_zero, Int.natCast_zero, Int.ofNat_zero] at EW
  clear EE EL ht1 ht2 hw1 hw2 hw3 hW
  unfold postbagref30_Read.f
  refine tot_bind n96 (fun v hv => ?_)
  subst hv
  have hj : TotP (fun r => r = (e, s, ws, ls, (0 : Int))) (fun k => postbagref30_Read.j0 k l (4 * (ws.length : Int)) false) := by
    refine tot_succ (fun k => postbagref30_Read.j0.eq_2 _ _ _ k) ?_
    refine tot_ite (fun h => by simp at h) (fun _ => ?_)
    refine tot_bind n24 (fun v hv => ?_)
    subst hv
    refine tot_bind n104 (fun v hv => ?_)
    subst hv
    exact EW
  refine tot_ite (fun h => by clear hul; omega) (fun _ => ?_)
  refine tot_ite (fun _ => ?_) (fun h => absurd (tm4 ws.length) h)
  refine tot_ite (fun h => by clear hul; omega) (fun _ => ?_)
  rw [hul, decide_eq_false (by clear hul; omega)]
  exact hj
end
end Go.Proofs.Ytelheeekbihfcab.Ob
end

section
set_option linter.unusedVariables false
set_option linter.unusedSimpArgs false
namespace Go.Proofs.Ytelheeekbihfcab.Ob
open Go.RowKit Go.Proofs Go.Proofs.Ytelheeekbihfcab.PObjectReads Go.Proofs.YtelheeekbihfcabW.PrintWords Go.Proofs.YtelheeekbihfcabW.PrintMore Go.Proofs.YtelheeekbihfcabW.PrintLast

/-- Both Reads come to one. -/
theorem read_both (HWO : WritesO) {l : List Int} (hl : l.length ≤ 80000) (hb : Byt l) : ∃ (e s : Int) (ws : List Int) (ls : List S47) (err : Int), ws.length ≤ 20000 ∧ ls.length ≤ 5000 ∧
    (∀ (A : Option Addr) (c : Nat) (w : World), Kd.C (Kd.int .u8) w A l.length l → l.length ≤ c → Calls Try.prog 13 #[.slice A l.length c] w fun e' w' => ∃ v2 v3, e' = .returned (.tuple #[.agg #[.int .u64 e, .int .u64 s, v2, v3], .int .i64 err]) ∧ Kd.R (Kd.int .u32) 58 w' w.heap.size (fun _ => True) v2 ws ∧ Kd.R k47 47 w' w.heap.size (fun _ => True) v3 ls ∧ Below w.heap.size w w') ∧
    (∀ (A : Option Addr) (c : Nat) (w : World), Kd.C (Kd.int .u8) w A l.length l → l.length ≤ c → Calls Try.prog 14 #[.slice A l.length c] w fun e' w' => ∃ v2 v3, e' = .returned (.tuple #[.agg #[.int .u64 e, .int .u64 s, v2, v3], .int .i64 err]) ∧ Kd.R (Kd.int .u32) 58 w' w.heap.size (fun _ => True) v2 ws ∧ Kd.R k47 47 w' w.heap.size (fun _ => True) v3 ls ∧ Below w.heap.size w w') := by
  rcases read_any HWO hl hb with ⟨e, s, ws, ls, hR, h13⟩ | ⟨hno, h13⟩
  · obtain ⟨r, ⟨K, hK⟩, hr⟩ := rd_file hR hl
    subst hr
    exact ⟨e, s, ws, ls, 0, hR.1.wn, hR.1.ln, h13, fun A c w hr hc => postbagref30_Read.calls K A c l e s ws ls 0 w hr hc (hK K (Nat.le_refl _))⟩
  · obtain ⟨r, ⟨K, hK⟩, hr⟩ := rd_any hl hb
    rcases hr with hr | ⟨e, s, ws, ls, hr, hR⟩
    · subst hr
      refine ⟨0, 0, [], [], 200, by simp, by simp, fun A c w hr hc => (h13 A c w hr hc).mono ?_, fun A c w hr hc => postbagref30_Read.calls K A c l 0 0 [] [] 200 w hr hc (hK K (Nat.le_refl _))⟩
      rintro e' w' ⟨he, hd⟩
      exact ⟨_, _, he, Kd.R_nil _ _ _ _ _, Kd.R_nil _ _ _ _ _, hd⟩
    · exact absurd hR.2.2 (hno e s ws ls hR.1 hR.2.1)

set_option maxRecDepth 100000 in
set_option maxHeartbeats 8000000 in
theorem object_reads (HWO' : WritesO) (A : Option Addr) (c : Nat) (l : List Int) (w : World) (hr : Kd.C (Kd.int .u8) w A l.length l) (hc : l.length ≤ c) (hb : Byt l) :
    Calls Try.prog 4 #[.slice A l.length c] w fun e' w' => e' = .returned (.bool true) ∧ Below w.heap.size w w' := by
  have HWO := Lib.hid HWO'
  clear HWO'
  have B0 := Lib.hid (Below.refl w.heap.size w)
  by_cases hbig : (l.length : Int) > 20000
  · have hbig' : decide ((l.length : Int) > 20000) = true := decide_eq_true hbig
    clear hr hb
    go_enter Try.func4, Try.ntmps4
    go_wp2_with (go_at_call 8; refine (lives_any HWO.out _).mono ?_; rintro e' w2 ⟨rfl, hd⟩; have B2 := Lib.hid (below_step B0.out hd); clear hd)
    go_ret
    exact ⟨rfl, B2.out⟩
  · have hbig' : decide ((l.length : Int) > 20000) = false := decide_eq_false hbig
    obtain ⟨e, s, ws, ls, err, hwn, hln, h13, h14⟩ := read_both HWO.out (show l.length ≤ 80000 by omega) hb
    obtain ⟨bs, ⟨ks, hks⟩, hbs⟩ := same_f e s ws ls e s ws ls hln hwn
    obtain rfl : bs = true := hbs.2 ⟨rfl, rfl, rfl, rfl⟩
    have H13 := Lib.hid fun (W : World) (hW : Below w.heap.size w W) => h13 A c W (Kd.C_below hr hW) hc
    have H14 := Lib.hid fun (W : World) (hW : Below w.heap.size w W) => h14 A c W (Kd.C_below hr hW) hc
    have HSM := Lib.hid fun (Ax : Option Addr) (cx : Nat) (Ay : Option Addr) (cy : Nat) (Az : Option Addr) (cz : Nat) (At : Option Addr) (ct : Nat) (W : World) => fun (hx : Kd.C (Kd.int .u32) W Ax ws.length ws) (hcx : ws.length ≤ cx) (hy : Kd.C k47 W Ay ls.length ls) (hcy : ls.length ≤ cy) (hz : Kd.C (Kd.int .u32) W Az ws.length ws) (hcz : ws.length ≤ cz) (ht : Kd.C k47 W At ls.length ls) (hct : ls.length ≤ ct) => postbagref30_Same.calls ks e s Ax cx ws Ay cy ls e s Az cz ws At ct ls true W hx hcx hy hcy hz hcz ht hct hks
    clear hr hb h13 h14 hbs hks hwn hln hbig
    go_enter Try.func4, Try.ntmps4
    go_upto_region 4 with (go_at_call 13; refine (H13.out _ B0.out).mono ?_; rintro e' W1 ⟨v2, v3, rfl, h2, h3, hd⟩; obtain ⟨A5, c5, rfl, hc5, hC5⟩ := Kd.R_reads h2; obtain ⟨A6, c6, rfl, hc6, hC6⟩ := Kd.R_reads h3; have B1 := Lib.hid (below_step B0.out hd); have HC5 := Lib.hid hC5; have HC6 := Lib.hid hC6; clear hd h2 h3 hC5 hC6)
    have Y1 := Lib.hid (blk_new W1 (.cells #[.int .u64 e, .int .u64 s, .slice A5 ws.length c5, .slice A6 ls.length c6] 26))
    have hbl := below_alloc (Below.refl _ W1) (.cells #[.int .u64 e, .int .u64 s, .slice A5 ws.length c5, .slice A6 ls.length c6] 26)
    have B2 := Lib.hid (below_step B1.out hbl)
    have D5 := Lib.hid (Kd.C_below HC5.out hbl)
    have D6 := Lib.hid (Kd.C_below HC6.out hbl)
    generalize W1.alloc (.cells #[.int .u64 e, .int .u64 s, .slice A5 ws.length c5, .slice A6 ls.length c6] 26) = W2 at *
    generalize W1.heap.size = g5 at *
    clear hbl HC5 HC6 B1 H13
    go_upto_region 5 with (go_at_call 14; refine (H14.out _ B2.out).mono ?_; rintro e' W3 ⟨v2, v3, rfl, h2, h3, hd⟩; obtain ⟨A7, c7, rfl, hc7, hC7⟩ := Kd.R_reads h2; obtain ⟨A8, c8, rfl, hc8, hC8⟩ := Kd.R_reads h3; have B3 := Lib.hid (below_step B2.out hd); have HC7 := Lib.hid hC7; have HC8 := Lib.hid hC8; have E5 := Lib.hid (Kd.C_below D5.out hd); have E6 := Lib.hid (Kd.C_below D6.out hd); have Y3 := Lib.hid (blk_below Y1.out hd); clear hd h2 h3 hC7 hC8)
    have Z1 := blk_new W3 (.cells #[.int .u64 e, .int .u64 s, .slice A7 ws.length c7, .slice A8 ls.length c8] 35)
    have hbl := below_alloc (Below.refl _ W3) (.cells #[.int .u64 e, .int .u64 s, .slice A7 ws.length c7, .slice A8 ls.length c8] 35)
    have B4 := Lib.hid (below_step B3.out hbl)
    have D5' := Lib.hid (Kd.C_below E5.out hbl)
    have D6' := Lib.hid (Kd.C_below E6.out hbl)
    have D7 := Lib.hid (Kd.C_below HC7.out hbl)
    have D8 := Lib.hid (Kd.C_below HC8.out hbl)
    have Y4 := blk_below Y3.out hbl
    generalize W3.alloc (.cells #[.int .u64 e, .int .u64 s, .slice A7 ws.length c7, .slice A8 ls.length c8] 35) = W4 at *
    generalize W3.heap.size = g7 at *
    have k0 := blk_cell Y4 0
    have k1 := blk_cell Y4 1
    have k2 := blk_cell Y4 2
    have k3 := blk_cell Y4 3
    have z0 := blk_cell Z1 0
    have z1 := blk_cell Z1 1
    have z2 := blk_cell Z1 2
    have z3 := blk_cell Z1 3
    clear Y4 Z1 Y1 Y3 hbl HC7 HC8 E5 E6 D5 D6 B2 B3 H14
    go_wp2_with (first
      | (go_at_call 15; refine (HSM.out A5 c5 A6 c6 A7 c7 A8 c8 _ D5'.out hc5 D6'.out hc6 D7.out hc7 D8.out hc8).mono ?_; rintro e' w5 ⟨rfl, hd⟩; clear k0 k1 k2 k3 z0 z1 z2 z3; have B5 := Lib.hid (below_step B4.out hd); clear hd)
      | (go_at_call 8; refine (lives_any HWO.out _).mono ?_; rintro e' w6 ⟨rfl, hd⟩; have B6 := Lib.hid (below_step B5.out hd); clear hd))
    go_ret
    exact ⟨rfl, B6.out⟩
end Go.Proofs.Ytelheeekbihfcab.Ob
end
