/- ApartA -/
import Derived.Test.YtjboncbmeanlgaaDoorQPrintW
import Derived.Test.YtjboncbmeanlgaaDoorQSameB
/- Unlike trees that may be have unlike texts: words, expressions, patterns. Plain. -/
set_option linter.unusedVariables false
set_option linter.unusedSimpArgs false
namespace Go.Proofs.YtjboncbmeanlgaaDoor.Tr
open Go.RowKit Go.Proofs Go.Proofs.YtjboncbmeanlgaaDoor.PTreePrints Go.Proofs.YtjboncbmeanlgaaDoorW.PrintWords Go.Proofs.YtjboncbmeanlgaaDoorW.PrintMore Go.Proofs.YtjboncbmeanlgaaDoorW.PrintLast
/-- Does a word end at this byte? -/
def stopB (b : UInt8) : Bool := b == 32 || (b == 40 || (b == 41 || (b == 44 || (b == 59 || (b == 125 || b == 10)))))
def Stop (s : List UInt8) : Prop := ∃ b r, s = b :: r ∧ stopB b = true
def Word (l : List UInt8) : Prop := ∀ b, b ∈ l → stopB b = false
theorem Stop.mk' {b : UInt8} (r : List UInt8) (h : stopB b = true) : Stop (b :: r) := ⟨b, r, rfl, h⟩
theorem word_split : ∀ {a b s t : List UInt8}, Word a → Word b → Stop s → Stop t → a ++ s = b ++ t → a = b ∧ s = t
  | [], [], s, t, _, _, _, _, h => ⟨rfl, h⟩
  | [], y :: b, s, t, _, hb, ⟨c, r, e, hc⟩, _, h => by
    subst e
    rw [List.nil_append, List.cons_append, List.cons.injEq] at h
    obtain ⟨rfl, _⟩ := h
    have := hb c (by simp)
    rw [hc] at this; cases this
  | x :: a, [], s, t, ha, _, _, ⟨c, r, e, hc⟩, h => by
    subst e
    rw [List.nil_append, List.cons_append, List.cons.injEq] at h
    obtain ⟨rfl, _⟩ := h
    have := ha x (by simp)
    rw [hc] at this; cases this
  | x :: a, y :: b, s, t, ha, hb, hs, ht, h => by
    rw [List.cons_append, List.cons_append, List.cons.injEq] at h
    obtain ⟨rfl, h⟩ := h
    obtain ⟨e1, e2⟩ := word_split (fun c hc => ha c (by simp [hc])) (fun c hc => hb c (by simp [hc])) hs ht h
    exact ⟨by rw [e1], e2⟩
theorem word_cons {b : UInt8} {l : List UInt8} (h : stopB b = false) (hl : Word l) : Word (b :: l) := by
  intro c hc
  rcases List.mem_cons.1 hc with rfl | hc
  · exact h
  · exact hl c hc
/-- A letter's byte. -/
def letB (b : UInt8) : Bool := (decide (97 ≤ b.toNat) && decide (b.toNat ≤ 122)) || ((decide (65 ≤ b.toNat) && decide (b.toNat ≤ 90)) || decide (b.toNat = 95))
def numB (b : UInt8) : Bool := (decide (48 ≤ b.toNat) && decide (b.toNat ≤ 57)) || decide (b.toNat = 45)
theorem letB_stop {b : UInt8} (h : letB b = true) : stopB b = false := by
  cases hs : stopB b with
  | false => rfl
  | true =>
    simp only [stopB, Bool.or_eq_true, beq_iff_eq] at hs
    rcases hs with rfl | rfl | rfl | rfl | rfl | rfl | rfl <;> revert h <;> decide
theorem numB_stop {b : UInt8} (h : numB b = true) : stopB b = false := by
  cases hs : stopB b with
  | false => rfl
  | true =>
    simp only [stopB, Bool.or_eq_true, beq_iff_eq] at hs
    rcases hs with rfl | rfl | rfl | rfl | rfl | rfl | rfl <;> revert h <;> decide
theorem let_num {b : UInt8} (h : letB b = true) : numB b = false := by
  unfold letB at h
  unfold numB
  simp only [Bool.or_eq_true, Bool.and_eq_true, decide_eq_true_eq] at h
  simp only [Bool.or_eq_false_iff, Bool.and_eq_false_iff, decide_eq_false_iff_not]
  omega
/-- A numeral's number. -/
def valD (l : List UInt8) : Nat := l.foldl (fun a b => a * 10 + (b.toNat - 48)) 0
theorem dec_cases (u : Nat) : Lib.decDigits u = if u < 10 then [UInt8.ofNat (48 + u)] else Lib.decDigits (u / 10) ++ [UInt8.ofNat (48 + u % 10)] := by
  rw [Lib.decDigits]
  split <;> rfl
theorem dg_nat (u : Nat) (h : u < 10) : (UInt8.ofNat (48 + u)).toNat = 48 + u := by
  rw [UInt8.toNat_ofNat']
  omega
theorem valD_dec (u : Nat) : valD (Lib.decDigits u) = u := by
  induction u using Nat.strongRecOn with
  | _ u ih =>
    rw [dec_cases]
    by_cases h : u < 10
    · rw [if_pos h]
      simp only [valD, List.foldl_cons, List.foldl_nil, dg_nat u h]
      omega
    · rw [if_neg h]
      have h1 := ih (u / 10) (by omega)
      unfold valD at h1 ⊢
      rw [List.foldl_append, h1]
      simp only [List.foldl_cons, List.foldl_nil, dg_nat (u % 10) (by omega)]
      omega
theorem dec_num (u : Nat) : ∀ b, b ∈ Lib.decDigits u → 48 ≤ b.toNat ∧ b.toNat ≤ 57 := by
  induction u using Nat.strongRecOn with
  | _ u ih =>
    intro b hb
    rw [dec_cases] at hb
    by_cases h : u < 10
    · rw [if_pos h] at hb
      obtain rfl := List.mem_singleton.1 hb
      rw [dg_nat u h]; omega
    · rw [if_neg h] at hb
      rcases List.mem_append.1 hb with hb | hb
      · exact ih (u / 10) (by omega) b hb
      · obtain rfl := List.mem_singleton.1 hb
        rw [dg_nat _ (by omega)]; omega
theorem dec_ne (u : Nat) : Lib.decDigits u ≠ [] := by
  rw [dec_cases]
  split <;> simp
theorem itoa_all (n : Int) : ∀ b, b ∈ Lib.itoa n → numB b = true := by
  intro b hb
  unfold Lib.itoa at hb
  have dg : ∀ u, b ∈ Lib.decDigits u → numB b = true := fun u h => by
    have := dec_num u b h
    simp only [numB, Bool.or_eq_true, Bool.and_eq_true, decide_eq_true_eq]
    omega
  split at hb
  · rcases List.mem_cons.1 hb with rfl | hb
    · decide
    · exact dg _ hb
  · exact dg _ hb
theorem itoa_word (n : Int) : Word (Lib.itoa n) := fun b hb => numB_stop (itoa_all n b hb)
theorem itoa_hd (n : Int) : ∃ b r, Lib.itoa n = b :: r ∧ numB b = true := by
  have hne : Lib.itoa n ≠ [] := by
    unfold Lib.itoa
    split
    · simp
    · exact dec_ne _
  obtain ⟨b, r, e⟩ := List.exists_cons_of_ne_nil hne
  exact ⟨b, r, e, itoa_all n b (by rw [e]; simp)⟩
theorem itoa_inj {n m : Int} (h : Lib.itoa n = Lib.itoa m) : n = m := by
  have hd : ∀ u (l : List UInt8), Lib.decDigits u ≠ 45 :: l := fun u l e => by
    have := dec_num u 45 (by rw [e]; simp)
    exact absurd this.1 (by decide)
  unfold Lib.itoa at h
  split at h <;> split at h
  · have h1 := congrArg valD (List.cons.inj h).2
    rw [valD_dec, valD_dec] at h1
    omega
  · exact absurd h.symm (hd _ _)
  · exact absurd h (hd _ _)
  · have h1 := congrArg valD h
    rw [valD_dec, valD_dec] at h1
    omega
theorem part_B {b : UInt8} (h : partB ((b.toNat : Nat) : Int) = true) : letB b = true ∨ numB b = true := by
  unfold partB digitB letterB at h
  simp only [letB, numB, Bool.or_eq_true, Bool.and_eq_true, decide_eq_true_eq, beq_iff_eq] at h ⊢
  omega
theorem bt_at {s : ByteArray} {i : Nat} (h : i < (bl s).length) : bt s (i : Int) = (((bl s)[i].toNat : Nat) : Int) := by
  have h' : i < s.size := by rw [size_bl]; exact h
  unfold bt
  rw [dif_pos (by simpa using h')]
  simp only [Int.toNat_natCast]
  rfl
theorem name_all {s : ByteArray} (h : nameOk s = true) : ∀ b, b ∈ bl s → letB b = true ∨ numB b = true := by
  intro b hb
  unfold nameOk at h
  simp only [Bool.and_eq_true] at h
  obtain ⟨i, hi, rfl⟩ := List.mem_iff_getElem.1 hb
  have h1 := List.all_eq_true.1 h.2.2.2.2 i (List.mem_range.2 (by rw [size_bl]; exact hi))
  rw [bt_at hi] at h1
  exact part_B h1
theorem name_word {s : ByteArray} (h : nameOk s = true) : Word (bl s) := fun b hb => by
  rcases name_all h b hb with h | h
  · exact letB_stop h
  · exact numB_stop h
theorem name_hd {s : ByteArray} (h : nameOk s = true) : ∃ b r, bl s = b :: r ∧ letB b = true := by
  have h0 := h
  unfold nameOk at h0
  simp only [Bool.and_eq_true, decide_eq_true_eq, Bool.not_eq_true'] at h0
  have hl : 0 < (bl s).length := by rw [← size_bl]; exact h0.1
  refine ⟨(bl s)[0], (bl s).drop 1, ?_, ?_⟩
  · exact (List.drop_eq_getElem_cons hl).symm ▸ rfl
  · have h1 := List.all_eq_true.1 h0.2.2.2.2 0 (List.mem_range.2 h0.1)
    have h2 := h0.2.2.2.1
    rw [show ((0 : Int)) = ((0 : Nat) : Int) from rfl, bt_at hl] at h2
    rw [bt_at hl] at h1
    unfold partB digitB letterB at h1
    unfold digitB at h2
    simp only [letB, Bool.or_eq_true, Bool.and_eq_true, decide_eq_true_eq, beq_iff_eq] at h1 ⊢
    simp only [Bool.and_eq_false_iff, decide_eq_false_iff_not] at h2
    omega
theorem name_key {s : ByteArray} (h : nameOk s = true) {l : List UInt8} (hk : keywords.contains l = true) : bl s ≠ l := by
  intro e
  unfold nameOk at h
  simp only [Bool.and_eq_true, Bool.not_eq_true'] at h
  have := h.2.2.1
  rw [toList_bl, e, hk] at this
  cases this
theorem bl_nil {s : ByteArray} (h : (s.toList == ([] : List UInt8)) = true) : s.toList = [] := by simpa using h
theorem bl_same {s t : ByteArray} (h : bl s = bl t) : (s.toList == t.toList) = true := by rw [toList_bl, toList_bl, h]; simp
/-- Texts with commas ahead. -/
def sepT {α : Type} (f : α → List UInt8) : List α → List UInt8
  | [] => []
  | x :: r => 44 :: 32 :: (f x ++ sepT f r)
def sepL {α : Type} (f : α → List UInt8) : List α → List UInt8
  | [] => []
  | x :: r => f x ++ sepT f r
theorem sepT_stop {α : Type} (f : α → List UInt8) (l : List α) {c : UInt8} (hc : stopB c = true) (s : List UInt8) : Stop (sepT f l ++ c :: s) := by
  cases l with
  | nil => exact Stop.mk' _ hc
  | cons x r => exact ⟨44, _, rfl, by decide⟩
/-- One thing's text tells it. -/
def Tells {α : Type} (f : α → List UInt8) (good : α → Bool) (same : α → α → Bool) (x : α) : Prop := ∀ (y : α) (s t : List UInt8), good x = true → good y = true → Stop s → Stop t → f x ++ s = f y ++ t → same x y = true ∧ s = t
theorem sepT_tells {α : Type} {f : α → List UInt8} {good : α → Bool} {same : α → α → Bool} {c : UInt8} (hc : stopB c = true) (h44 : c ≠ 44) : ∀ (l m : List α) (s t : List UInt8), (∀ x, x ∈ l → Tells f good same x) → (∀ x, x ∈ l → good x = true) → (∀ x, x ∈ m → good x = true) → sepT f l ++ c :: s = sepT f m ++ c :: t → all2 same l m = true ∧ s = t
  | [], [], s, t, _, _, _, h => ⟨rfl, (List.cons.inj h).2⟩
  | [], y :: m, s, t, _, _, _, h => absurd (List.cons.inj h).1 h44
  | x :: l, [], s, t, _, _, _, h => absurd (List.cons.inj h).1.symm h44
  | x :: l, y :: m, s, t, hT, hl, hm, h => by
    simp only [sepT, List.cons_append, List.cons.injEq, true_and, List.append_assoc] at h
    obtain ⟨h1, h2⟩ := hT x (by simp) y _ _ (hl x (by simp)) (hm y (by simp)) (sepT_stop f l hc s) (sepT_stop f m hc t) h
    obtain ⟨h3, h4⟩ := sepT_tells hc h44 l m s t (fun z hz => hT z (by simp [hz])) (fun z hz => hl z (by simp [hz])) (fun z hz => hm z (by simp [hz])) h2
    exact ⟨by rw [all2, h1, h3]; rfl, h4⟩
/-- Texts with commas between, up to a mark. -/
theorem sepL_tells {α : Type} {f : α → List UInt8} {good : α → Bool} {same : α → α → Bool} {c : UInt8} (hc : stopB c = true) (h44 : c ≠ 44) (hh : ∀ y r, good y = true → ∀ s, f y ++ r ≠ c :: s) (l m : List α) (s t : List UInt8) (hT : ∀ x, x ∈ l → Tells f good same x) (hl : ∀ x, x ∈ l → good x = true) (hm : ∀ x, x ∈ m → good x = true) (h : sepL f l ++ c :: s = sepL f m ++ c :: t) : all2 same l m = true ∧ s = t := by
  match l, m, h with
  | [], [], h => exact ⟨rfl, (List.cons.inj h).2⟩
  | [], y :: m, h => exact absurd (by simpa [sepL] using h.symm) (hh y (sepT f m ++ c :: t) (hm y (by simp)) s)
  | x :: l, [], h => exact absurd (by simpa [sepL] using h) (hh x (sepT f l ++ c :: s) (hl x (by simp)) t)
  | x :: l, y :: m, h =>
    simp only [sepL, List.append_assoc] at h
    obtain ⟨h1, h2⟩ := hT x (by simp) y _ _ (hl x (by simp)) (hm y (by simp)) (sepT_stop f l hc s) (sepT_stop f m hc t) h
    obtain ⟨h3, h4⟩ := sepT_tells hc h44 l m s t (fun z hz => hT z (by simp [hz])) (fun z hz => hl z (by simp [hz])) (fun z hz => hm z (by simp [hz])) h2
    exact ⟨by rw [all2, h1, h3]; rfl, h4⟩
theorem prET_sep : ∀ l, prET l = sepT prE l
  | [] => by rw [prET, sepT]
  | x :: r => by rw [prET, sepT, prET_sep r]
theorem prEL_sep : ∀ l, prEL l = sepL prE l
  | [] => by rw [prEL, sepL]
  | x :: r => by rw [prEL, sepL, prET_sep r]
theorem prPT_sep : ∀ l, prPT l = sepT prP l
  | [] => by rw [prPT, sepT]
  | x :: r => by rw [prPT, sepT, prPT_sep r]
theorem prPL_sep : ∀ l, prPL l = sepL prP l
  | [] => by rw [prPL, sepL]
  | x :: r => by rw [prPL, sepL, prPT_sep r]
theorem sameEL_all : ∀ (a b : List S31), sameEL a b = all2 sameE a b
  | [], b => by rw [sameEL, all2]
  | x :: r, [] => by rw [sameEL, all2]
  | x :: r, y :: s => by rw [sameEL, all2, sameEL_all r s]
theorem samePL_all : ∀ (a b : List S83), samePL a b = all2 sameP a b
  | [], b => by rw [samePL, all2]
  | x :: r, [] => by rw [samePL, all2]
  | x :: r, y :: s => by rw [samePL, all2, samePL_all r s]
/-- What an expression that may be is: a word, a tuple, or two with a sign between. -/
theorem goodE_kinds {x : S31} (h : goodE x = true) :
    (x.f4 = [] ∧ Word (prE x) ∧ ((x.f0 = 1 ∧ x.f3.toList = [] ∧ prE x = Lib.itoa x.f2) ∨ (x.f0 = 2 ∧ x.f2 = 0 ∧ nameOk x.f3 = true ∧ prE x = 39 :: bl x.f3) ∨ (x.f0 = 3 ∧ x.f2 = 0 ∧ nameOk x.f3 = true ∧ prE x = bl x.f3) ∨ (x.f0 = 4 ∧ x.f2 = 0 ∧ x.f3.toList = [] ∧ prE x = [115, 101, 108, 102])))
    ∨ (x.f0 = 5 ∧ x.f2 = 0 ∧ x.f3.toList = [] ∧ goodEL x.f4 = true ∧ prE x = 123 :: (sepL prE x.f4 ++ [125]))
    ∨ (x.f0 = 6 ∧ x.f2 = 0 ∧ Word (bl x.f3) ∧ ∃ a b, x.f4 = [a, b] ∧ goodE a = true ∧ goodE b = true ∧ prE x = 40 :: (prE a ++ (32 :: (bl x.f3 ++ (32 :: (prE b ++ [41])))))) := by
  obtain ⟨k, pl, n, s, args⟩ := x
  rw [goodE] at h
  simp only
  by_cases h1 : k = 1
  · subst h1
    simp only [if_true, Bool.and_eq_true, decide_eq_true_eq, List.length_eq_zero_iff] at h
    have e : prE ⟨1, pl, n, s, args⟩ = Lib.itoa n := by rw [prE]; simp
    exact .inl ⟨h.1, by rw [e]; exact itoa_word n, .inl ⟨rfl, bl_nil h.2.2, e⟩⟩
  · rw [if_neg h1, Bool.and_eq_true, decide_eq_true_eq] at h
    obtain ⟨hn, h⟩ := h
    by_cases h2 : k = 2 ∨ k = 3
    · rw [if_pos h2] at h
      simp only [Bool.and_eq_true, decide_eq_true_eq, List.length_eq_zero_iff] at h
      rcases h2 with h2 | h2
      · subst h2
        have e : prE ⟨2, pl, n, s, args⟩ = 39 :: bl s := by rw [prE]; simp
        exact .inl ⟨h.1, by rw [e]; exact word_cons (by decide) (name_word h.2), .inr (.inl ⟨rfl, hn, h.2, e⟩)⟩
      · subst h2
        have e : prE ⟨3, pl, n, s, args⟩ = bl s := by rw [prE]; simp
        exact .inl ⟨h.1, by rw [e]; exact name_word h.2, .inr (.inr (.inl ⟨rfl, hn, h.2, e⟩))⟩
    · rw [if_neg h2] at h
      by_cases h4 : k = 4
      · subst h4
        simp only [if_true, Bool.and_eq_true, decide_eq_true_eq, List.length_eq_zero_iff] at h
        have e : prE ⟨4, pl, n, s, args⟩ = [115, 101, 108, 102] := by rw [prE]; simp
        exact .inl ⟨h.1, by rw [e]; intro b hb; revert b; decide, .inr (.inr (.inr ⟨rfl, hn, bl_nil h.2, e⟩))⟩
      · rw [if_neg h4] at h
        by_cases h5 : k = 5
        · subst h5
          simp only [if_true, Bool.and_eq_true] at h
          exact .inr (.inl ⟨rfl, hn, bl_nil h.1, h.2.1, by rw [prE, ← prEL_sep]; simp⟩)
        · rw [if_neg h5] at h
          by_cases h6 : k = 6
          · subst h6
            simp only [if_true, Bool.and_eq_true, withinB, decide_eq_true_eq] at h
            obtain ⟨hs, hg, hl⟩ := h
            match args, hg, hl with
            | [], hg, hl => simp at hl
            | [a], hg, hl => simp at hl
            | [a, b], hg, hl =>
              refine .inr (.inr ⟨rfl, hn, ?_, a, b, rfl, goodEL_mem _ a hg (by simp), goodEL_mem _ b hg (by simp), by rw [prE]; simp [prA, prC]⟩)
              unfold signB at hs
              simp only [Bool.or_eq_true, beq_iff_eq, toList_bl] at hs
              rcases hs with h | h | h | h | h <;> rw [h] <;> (intro b hb; revert b; decide)
            | a :: b :: c :: r, hg, hl => simp only [List.length_cons] at hl; omega
          · rw [if_neg h6] at h
            exact absurd h (by decide)
theorem prE_hd {x : S31} (h : goodE x = true) : ∃ b r, prE x = b :: r ∧ (stopB b = false ∨ b = 40) := by
  rcases goodE_kinds h with ⟨_, hw, hk⟩ | ⟨_, _, _, _, e⟩ | ⟨_, _, _, _, _, _, _, _, e⟩
  · have hne : prE x ≠ [] := by
      rcases hk with ⟨_, _, e⟩ | ⟨_, _, _, e⟩ | ⟨_, _, hn, e⟩ | ⟨_, _, _, e⟩ <;> rw [e]
      · obtain ⟨b, r, e2, _⟩ := itoa_hd x.f2; rw [e2]; simp
      · simp
      · obtain ⟨b, r, e2, _⟩ := name_hd hn; rw [e2]; simp
      · simp
    obtain ⟨b, r, e⟩ := List.exists_cons_of_ne_nil hne
    exact ⟨b, r, e, .inl (hw b (by rw [e]; simp))⟩
  · exact ⟨_, _, e, .inl (by decide)⟩
  · exact ⟨_, _, e, .inr rfl⟩
theorem prE_ne {x : S31} (h : goodE x = true) {c : UInt8} (hc : stopB c = true) (h40 : c ≠ 40) (r s : List UInt8) : prE x ++ r ≠ c :: s := by
  obtain ⟨b, q, e, hb⟩ := prE_hd h
  rw [e, List.cons_append]
  intro he
  obtain rfl := (List.cons.inj he).1
  rcases hb with hb | hb
  · rw [hc] at hb; cases hb
  · exact h40 hb
/-- An expression's word tells it. -/
theorem wordE {x y : S31} (h : prE x = prE y) (hx : (x.f0 = 1 ∧ x.f3.toList = [] ∧ prE x = Lib.itoa x.f2) ∨ (x.f0 = 2 ∧ x.f2 = 0 ∧ nameOk x.f3 = true ∧ prE x = 39 :: bl x.f3) ∨ (x.f0 = 3 ∧ x.f2 = 0 ∧ nameOk x.f3 = true ∧ prE x = bl x.f3) ∨ (x.f0 = 4 ∧ x.f2 = 0 ∧ x.f3.toList = [] ∧ prE x = [115, 101, 108, 102]))
    (hy : (y.f0 = 1 ∧ y.f3.toList = [] ∧ prE y = Lib.itoa y.f2) ∨ (y.f0 = 2 ∧ y.f2 = 0 ∧ nameOk y.f3 = true ∧ prE y = 39 :: bl y.f3) ∨ (y.f0 = 3 ∧ y.f2 = 0 ∧ nameOk y.f3 = true ∧ prE y = bl y.f3) ∨ (y.f0 = 4 ∧ y.f2 = 0 ∧ y.f3.toList = [] ∧ prE y = [115, 101, 108, 102])) :
    x.f0 = y.f0 ∧ x.f2 = y.f2 ∧ x.f3.toList = y.f3.toList := by
  have num_not : ∀ {b : UInt8} {r : List UInt8} {n : Int}, Lib.itoa n = b :: r → numB b = true := fun {b r n} e => itoa_all n b (by rw [e]; simp)
  rcases hx with ⟨a1, a2, a3⟩ | ⟨a1, a2, a4, a3⟩ | ⟨a1, a2, a4, a3⟩ | ⟨a1, a2, a4, a3⟩ <;> rcases hy with ⟨b1, b2, b3⟩ | ⟨b1, b2, b4, b3⟩ | ⟨b1, b2, b4, b3⟩ | ⟨b1, b2, b4, b3⟩ <;> rw [a3, b3] at h
  · exact ⟨by rw [a1, b1], itoa_inj h, by rw [a2, b2]⟩
  · exact absurd (num_not h) (by decide)
  · obtain ⟨b, r, e, hb⟩ := name_hd b4
    rw [e] at h
    have := num_not h
    rw [let_num hb] at this; cases this
  · exact absurd (num_not h) (by decide)
  · exact absurd (num_not h.symm) (by decide)
  · exact ⟨by rw [a1, b1], by rw [a2, b2], by rw [toList_bl, toList_bl]; exact (List.cons.inj h).2⟩
  · obtain ⟨b, r, e, hb⟩ := name_hd b4
    rw [e] at h
    obtain rfl := (List.cons.inj h).1
    exact absurd hb (by decide)
  · exact absurd (List.cons.inj h).1 (by decide)
  · obtain ⟨b, r, e, hb⟩ := name_hd a4
    rw [e] at h
    have := num_not h.symm
    rw [let_num hb] at this; cases this
  · obtain ⟨b, r, e, hb⟩ := name_hd a4
    rw [e] at h
    obtain rfl := (List.cons.inj h).1
    exact absurd hb (by decide)
  · exact ⟨by rw [a1, b1], by rw [a2, b2], by rw [toList_bl, toList_bl]; exact h⟩
  · exact absurd h (name_key a4 (by decide))
  · exact absurd (num_not h.symm) (by decide)
  · exact absurd (List.cons.inj h).1 (by decide)
  · exact absurd h.symm (name_key b4 (by decide))
  · exact ⟨by rw [a1, b1], by rw [a2, b2], by rw [a4, b4]⟩
theorem sameE_mk {x y : S31} (h0 : x.f0 = y.f0) (h2 : x.f2 = y.f2) (h3 : x.f3.toList = y.f3.toList) (h4 : all2 sameE x.f4 y.f4 = true) : sameE x y = true := by
  rw [sameE_eq, sameEL_all, h0, h2, h3, h4]; simp
/-- An expression's text tells it. -/
theorem tellsE : ∀ (n : Nat) (x : S31), SizeOf.sizeOf x ≤ n → Tells prE goodE sameE x := by
  intro n
  induction n with
  | zero =>
    intro x h
    cases x
    simp at h
  | succ n ih =>
    intro x hsz y s t hx hy hs ht h
    have hch : ∀ z, z ∈ x.f4 → Tells prE goodE sameE z := fun z hz => ih z (by
      have h2 := List.sizeOf_lt_of_mem hz
      cases x
      simp at hsz h2 ⊢
      omega)
    have hgl : ∀ {l : List S31}, goodEL l = true → ∀ z, z ∈ l → goodE z = true := fun {l} hl z hz => goodEL_mem l z hl hz
    rcases goodE_kinds hx with ⟨a4, aw, ak⟩ | ⟨a0, a2, a3, ag, ae⟩ | ⟨a0, a2, aw, a, b, a4, ga, gb, ae⟩ <;> rcases goodE_kinds hy with ⟨b4, bw, bk⟩ | ⟨b0, b2, b3, bg, be⟩ | ⟨b0, b2, bw, a', b', b4, ga', gb', be⟩
    · obtain ⟨e1, e2⟩ := word_split aw bw hs ht h
      obtain ⟨c0, c2, c3⟩ := wordE e1 ak bk
      exact ⟨sameE_mk c0 c2 c3 (by rw [a4, b4]; rfl), e2⟩
    · rw [be] at h
      obtain ⟨c, r, e, hc⟩ := prE_hd hx
      exfalso
      rw [e] at h
      obtain rfl := (List.cons.inj h).1
      rcases ak with ⟨_, _, e3⟩ | ⟨_, _, _, e3⟩ | ⟨_, _, hn, e3⟩ | ⟨_, _, _, e3⟩ <;> rw [e] at e3
      · have := itoa_all x.f2 123 (by rw [← e3]; simp); revert this; decide
      · exact absurd (List.cons.inj e3).1 (by decide)
      · obtain ⟨b, q, e4, hb⟩ := name_hd hn
        rw [e4] at e3
        obtain rfl := (List.cons.inj e3).1
        revert hb; decide
      · exact absurd (List.cons.inj e3).1 (by decide)
    · rw [be] at h
      obtain ⟨c, r, e, hc⟩ := prE_hd hx
      exfalso
      have hc2 := aw c (by rw [e]; simp)
      rw [e] at h
      obtain rfl := (List.cons.inj h).1
      exact absurd hc2 (by decide)
    · rw [ae] at h
      obtain ⟨c, r, e, hc⟩ := prE_hd hy
      exfalso
      rw [e] at h
      obtain rfl := (List.cons.inj h).1
      rcases bk with ⟨_, _, e3⟩ | ⟨_, _, _, e3⟩ | ⟨_, _, hn, e3⟩ | ⟨_, _, _, e3⟩ <;> rw [e] at e3
      · have := itoa_all y.f2 123 (by rw [← e3]; simp); revert this; decide
      · exact absurd (List.cons.inj e3).1 (by decide)
      · obtain ⟨b, q, e4, hb⟩ := name_hd hn
        rw [e4] at e3
        obtain rfl := (List.cons.inj e3).1
        revert hb; decide
      · exact absurd (List.cons.inj e3).1 (by decide)
    · rw [ae, be] at h
      simp only [List.cons_append, List.cons.injEq, true_and, List.append_assoc, List.nil_append] at h
      obtain ⟨e1, e2⟩ := sepL_tells (f := prE) (good := goodE) (same := sameE) (c := 125) (by decide) (by decide) (fun y r hy s => prE_ne hy (by decide) (by decide) r s) x.f4 y.f4 s t hch (hgl ag) (hgl bg) h
      exact ⟨sameE_mk (by rw [a0, b0]) (by rw [a2, b2]) (by rw [a3, b3]) e1, e2⟩
    · rw [ae, be] at h
      exact absurd (List.cons.inj h).1 (by decide)
    · rw [ae] at h
      obtain ⟨c, r, e, hc⟩ := prE_hd hy
      exfalso
      have hc2 := bw c (by rw [e]; simp)
      rw [e] at h
      obtain rfl := (List.cons.inj h).1
      exact absurd hc2 (by decide)
    · rw [ae, be] at h
      exact absurd (List.cons.inj h).1 (by decide)
    · rw [ae, be] at h
      simp only [List.cons_append, List.cons.injEq, true_and, List.append_assoc, List.nil_append] at h
      rw [a4] at hch
      obtain ⟨e1, h⟩ := hch a (by simp) a' _ _ ga ga' (Stop.mk' _ (by decide)) (Stop.mk' _ (by decide)) h
      obtain ⟨e2, h⟩ := word_split aw bw (Stop.mk' _ (by decide)) (Stop.mk' _ (by decide)) (List.cons.inj h).2
      obtain ⟨e3, h⟩ := hch b (by simp) b' _ _ gb gb' (Stop.mk' _ (by decide)) (Stop.mk' _ (by decide)) (List.cons.inj h).2
      exact ⟨sameE_mk (by rw [a0, b0]) (by rw [a2, b2]) (by rw [toList_bl, toList_bl, e2]) (by rw [a4, b4]; simp [all2, e1, e3]), (List.cons.inj h).2⟩
theorem tellE (x : S31) : Tells prE goodE sameE x := tellsE _ x (Nat.le_refl _)
theorem goodP_kinds {x : S83} (h : goodP x = true) :
    (x.f4 = [] ∧ Word (prP x) ∧ ((x.f0 = 1 ∧ x.f2 = 0 ∧ x.f3.toList = [] ∧ prP x = [95]) ∨ (x.f0 = 2 ∧ x.f3.toList = [] ∧ prP x = Lib.itoa x.f2) ∨ (x.f0 = 3 ∧ x.f2 = 0 ∧ nameOk x.f3 = true ∧ prP x = 39 :: bl x.f3) ∨ (x.f0 = 4 ∧ x.f2 = 0 ∧ nameOk x.f3 = true ∧ prP x = bl x.f3)))
    ∨ (x.f0 = 5 ∧ x.f2 = 0 ∧ x.f3.toList = [] ∧ goodPL x.f4 = true ∧ prP x = 123 :: (sepL prP x.f4 ++ [125])) := by
  obtain ⟨k, pl, n, s, args⟩ := x
  rw [goodP] at h
  simp only
  by_cases h5 : k = 5
  · subst h5
    simp only [if_true, Bool.and_eq_true, decide_eq_true_eq] at h
    exact .inr ⟨rfl, h.1, bl_nil h.2.2.1, h.2.1, by rw [prP, ← prPL_sep]; simp⟩
  · rw [if_neg h5, Bool.and_eq_true, decide_eq_true_eq, List.length_eq_zero_iff] at h
    obtain ⟨ha, h⟩ := h
    by_cases h2 : k = 2
    · subst h2
      simp only [if_true, Bool.and_eq_true] at h
      have e : prP ⟨2, pl, n, s, args⟩ = Lib.itoa n := by rw [prP]; simp
      exact .inl ⟨ha, by rw [e]; exact itoa_word n, .inr (.inl ⟨rfl, bl_nil h.2, e⟩)⟩
    · rw [if_neg h2, Bool.and_eq_true, decide_eq_true_eq] at h
      obtain ⟨hn, h⟩ := h
      by_cases h1 : k = 1
      · subst h1
        simp only [if_true] at h
        have e : prP ⟨1, pl, n, s, args⟩ = [95] := by rw [prP]; simp
        exact .inl ⟨ha, by rw [e]; intro b hb; revert b; decide, .inl ⟨rfl, hn, bl_nil h, e⟩⟩
      · rw [if_neg h1] at h
        by_cases h3 : k = 3 ∨ k = 4
        · rw [if_pos h3] at h
          rcases h3 with h3 | h3
          · subst h3
            have e : prP ⟨3, pl, n, s, args⟩ = 39 :: bl s := by rw [prP]; simp
            exact .inl ⟨ha, by rw [e]; exact word_cons (by decide) (name_word h), .inr (.inr (.inl ⟨rfl, hn, h, e⟩))⟩
          · subst h3
            have e : prP ⟨4, pl, n, s, args⟩ = bl s := by rw [prP]; simp
            exact .inl ⟨ha, by rw [e]; exact name_word h, .inr (.inr (.inr ⟨rfl, hn, h, e⟩))⟩
        · rw [if_neg h3] at h
          exact absurd h (by decide)
theorem prP_hd {x : S83} (h : goodP x = true) : ∃ b r, prP x = b :: r ∧ stopB b = false := by
  rcases goodP_kinds h with ⟨_, hw, hk⟩ | ⟨_, _, _, _, e⟩
  · have hne : prP x ≠ [] := by
      rcases hk with ⟨_, _, _, e⟩ | ⟨_, _, e⟩ | ⟨_, _, _, e⟩ | ⟨_, _, hn, e⟩ <;> rw [e]
      · simp
      · obtain ⟨b, r, e2, _⟩ := itoa_hd x.f2; rw [e2]; simp
      · simp
      · obtain ⟨b, r, e2, _⟩ := name_hd hn; rw [e2]; simp
    obtain ⟨b, r, e⟩ := List.exists_cons_of_ne_nil hne
    exact ⟨b, r, e, hw b (by rw [e]; simp)⟩
  · exact ⟨_, _, e, by decide⟩
theorem prP_ne {x : S83} (h : goodP x = true) {c : UInt8} (hc : stopB c = true) (r s : List UInt8) : prP x ++ r ≠ c :: s := by
  obtain ⟨b, q, e, hb⟩ := prP_hd h
  rw [e, List.cons_append]
  intro he
  obtain rfl := (List.cons.inj he).1
  rw [hc] at hb; cases hb
theorem prP_brace {x : S83} (h : goodP x = true) (hk : (x.f0 = 1 ∧ x.f2 = 0 ∧ x.f3.toList = [] ∧ prP x = [95]) ∨ (x.f0 = 2 ∧ x.f3.toList = [] ∧ prP x = Lib.itoa x.f2) ∨ (x.f0 = 3 ∧ x.f2 = 0 ∧ nameOk x.f3 = true ∧ prP x = 39 :: bl x.f3) ∨ (x.f0 = 4 ∧ x.f2 = 0 ∧ nameOk x.f3 = true ∧ prP x = bl x.f3)) (r s : List UInt8) : prP x ++ r ≠ 123 :: s := by
  intro he
  rcases hk with ⟨_, _, _, e⟩ | ⟨_, _, e⟩ | ⟨_, _, _, e⟩ | ⟨_, _, hn, e⟩ <;> rw [e] at he
  · exact absurd (List.cons.inj he).1 (by decide)
  · obtain ⟨b, q, e2, hb⟩ := itoa_hd x.f2
    rw [e2] at he
    obtain rfl := (List.cons.inj he).1
    revert hb; decide
  · exact absurd (List.cons.inj he).1 (by decide)
  · obtain ⟨b, q, e2, hb⟩ := name_hd hn
    rw [e2] at he
    obtain rfl := (List.cons.inj he).1
    revert hb; decide
theorem wordP {x y : S83} (h : prP x = prP y) (hx : (x.f0 = 1 ∧ x.f2 = 0 ∧ x.f3.toList = [] ∧ prP x = [95]) ∨ (x.f0 = 2 ∧ x.f3.toList = [] ∧ prP x = Lib.itoa x.f2) ∨ (x.f0 = 3 ∧ x.f2 = 0 ∧ nameOk x.f3 = true ∧ prP x = 39 :: bl x.f3) ∨ (x.f0 = 4 ∧ x.f2 = 0 ∧ nameOk x.f3 = true ∧ prP x = bl x.f3))
    (hy : (y.f0 = 1 ∧ y.f2 = 0 ∧ y.f3.toList = [] ∧ prP y = [95]) ∨ (y.f0 = 2 ∧ y.f3.toList = [] ∧ prP y = Lib.itoa y.f2) ∨ (y.f0 = 3 ∧ y.f2 = 0 ∧ nameOk y.f3 = true ∧ prP y = 39 :: bl y.f3) ∨ (y.f0 = 4 ∧ y.f2 = 0 ∧ nameOk y.f3 = true ∧ prP y = bl y.f3)) :
    x.f0 = y.f0 ∧ x.f2 = y.f2 ∧ x.f3.toList = y.f3.toList := by
  have num_not : ∀ {b : UInt8} {r : List UInt8} {n : Int}, Lib.itoa n = b :: r → numB b = true := fun {b r n} e => itoa_all n b (by rw [e]; simp)
  rcases hx with ⟨a1, a2, a4, a3⟩ | ⟨a1, a2, a3⟩ | ⟨a1, a2, a4, a3⟩ | ⟨a1, a2, a4, a3⟩ <;> rcases hy with ⟨b1, b2, b4, b3⟩ | ⟨b1, b2, b3⟩ | ⟨b1, b2, b4, b3⟩ | ⟨b1, b2, b4, b3⟩ <;> rw [a3, b3] at h
  · exact ⟨by rw [a1, b1], by rw [a2, b2], by rw [a4, b4]⟩
  · exact absurd (num_not h.symm) (by decide)
  · exact absurd (List.cons.inj h).1 (by decide)
  · exact absurd h.symm (name_key b4 (by decide))
  · exact absurd (num_not h) (by decide)
  · exact ⟨by rw [a1, b1], itoa_inj h, by rw [a2, b2]⟩
  · exact absurd (num_not h) (by decide)
  · obtain ⟨b, r, e, hb⟩ := name_hd b4
    rw [e] at h
    have := num_not h
    rw [let_num hb] at this; cases this
  · exact absurd (List.cons.inj h).1 (by decide)
  · exact absurd (num_not h.symm) (by decide)
  · exact ⟨by rw [a1, b1], by rw [a2, b2], by rw [toList_bl, toList_bl]; exact (List.cons.inj h).2⟩
  · obtain ⟨b, r, e, hb⟩ := name_hd b4
    rw [e] at h
    obtain rfl := (List.cons.inj h).1
    exact absurd hb (by decide)
  · exact absurd h (name_key a4 (by decide))
  · obtain ⟨b, r, e, hb⟩ := name_hd a4
    rw [e] at h
    have := num_not h.symm
    rw [let_num hb] at this; cases this
  · obtain ⟨b, r, e, hb⟩ := name_hd a4
    rw [e] at h
    obtain rfl := (List.cons.inj h).1
    exact absurd hb (by decide)
  · exact ⟨by rw [a1, b1], by rw [a2, b2], by rw [toList_bl, toList_bl]; exact h⟩
theorem sameP_mk {x y : S83} (h0 : x.f0 = y.f0) (h2 : x.f2 = y.f2) (h3 : x.f3.toList = y.f3.toList) (h4 : all2 sameP x.f4 y.f4 = true) : sameP x y = true := by
  rw [sameP_eq, samePL_all, h0, h2, h3, h4]; simp
theorem goodPL_all : ∀ (l : List S83), goodPL l = true → ∀ x, x ∈ l → goodP x = true
  | y :: l, h, x, hm => by
    rw [goodPL, Bool.and_eq_true] at h
    rcases List.mem_cons.1 hm with rfl | hm
    · exact h.1
    · exact goodPL_all l h.2 x hm
theorem tellsP : ∀ (n : Nat) (x : S83), SizeOf.sizeOf x ≤ n → Tells prP goodP sameP x := by
  intro n
  induction n with
  | zero =>
    intro x h
    cases x
    simp at h
  | succ n ih =>
    intro x hsz y s t hx hy hs ht h
    have hch : ∀ z, z ∈ x.f4 → Tells prP goodP sameP z := fun z hz => ih z (by
      have h2 := List.sizeOf_lt_of_mem hz
      cases x
      simp at hsz h2 ⊢
      omega)
    rcases goodP_kinds hx with ⟨a4, aw, ak⟩ | ⟨a0, a2, a3, ag, ae⟩ <;> rcases goodP_kinds hy with ⟨b4, bw, bk⟩ | ⟨b0, b2, b3, bg, be⟩
    · obtain ⟨e1, e2⟩ := word_split aw bw hs ht h
      obtain ⟨c0, c2, c3⟩ := wordP e1 ak bk
      exact ⟨sameP_mk c0 c2 c3 (by rw [a4, b4]; rfl), e2⟩
    · rw [be] at h
      exact absurd h (prP_brace hx ak _ _)
    · rw [ae] at h
      exact absurd h.symm (prP_brace hy bk _ _)
    · rw [ae, be] at h
      simp only [List.cons_append, List.cons.injEq, true_and, List.append_assoc, List.nil_append] at h
      obtain ⟨e1, e2⟩ := sepL_tells (f := prP) (good := goodP) (same := sameP) (c := 125) (by decide) (by decide) (fun y r hy s => prP_ne hy (by decide) r s) x.f4 y.f4 s t hch (goodPL_all _ ag) (goodPL_all _ bg) h
      exact ⟨sameP_mk (by rw [a0, b0]) (by rw [a2, b2]) (by rw [a3, b3]) e1, e2⟩
theorem tellP (x : S83) : Tells prP goodP sameP x := tellsP _ x (Nat.le_refl _)
end Go.Proofs.YtjboncbmeanlgaaDoor.Tr
