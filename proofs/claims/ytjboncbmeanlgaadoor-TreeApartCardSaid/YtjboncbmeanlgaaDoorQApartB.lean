/- ApartB -/
import Derived.Test.YtjboncbmeanlgaaDoorQApartA
/- Unlike trees that may be have unlike texts: statements, bodies, programs. Plain. -/
set_option linter.unusedVariables false
set_option linter.unusedSimpArgs false
namespace Go.Proofs.YtjboncbmeanlgaaDoor.Tr
open Go.RowKit Go.Proofs Go.Proofs.YtjboncbmeanlgaaDoor.PTreePrints Go.Proofs.YtjboncbmeanlgaaDoorW.PrintWords Go.Proofs.YtjboncbmeanlgaaDoorW.PrintMore Go.Proofs.YtjboncbmeanlgaaDoorW.PrintLast
theorem goodEL_all {l : List S31} (h : goodEL l = true) : ∀ x, x ∈ l → goodE x = true := fun x hx => goodEL_mem l x h hx
theorem one_of {l : List S31} (h : goodEL l = true) (h1 : withinB l.length 1 1 = true) : ∃ x, l = [x] ∧ goodE x = true := by
  simp only [withinB, Bool.and_eq_true, decide_eq_true_eq] at h1
  match l, h, h1 with
  | [], h, h1 => simp at h1
  | [x], h, h1 => exact ⟨x, rfl, goodEL_mem _ x h (by simp)⟩
  | x :: y :: r, h, h1 => simp only [List.length_cons] at h1; omega
/-- What a statement that may be is. -/
theorem goodSt_kinds {x : S37} (h : goodSt x = true) :
    (x.f0 = 1 ∧ nameOk x.f2 = true ∧ x.f3.toList = [] ∧ ∃ e, x.f4 = [e] ∧ goodE e = true ∧ prS x = [108, 101, 116, 32] ++ (bl x.f2 ++ (32 :: 61 :: 32 :: (prE e ++ [59, 32]))))
    ∨ (x.f0 = 2 ∧ nameOk x.f2 = true ∧ nameOk x.f3 = true ∧ goodEL x.f4 = true ∧ prS x = [108, 101, 116, 32] ++ (bl x.f2 ++ (32 :: 61 :: 32 :: ([115, 112, 97, 119, 110] ++ (32 :: (bl x.f3 ++ (40 :: (sepL prE x.f4 ++ [41, 59, 32]))))))))
    ∨ (x.f0 = 3 ∧ x.f2.toList = [] ∧ x.f3.toList = [] ∧ goodEL x.f4 = true ∧ prS x = [115, 101, 110, 100, 32] ++ (sepL prE x.f4 ++ [59, 32]))
    ∨ (x.f0 = 4 ∧ x.f2.toList = [] ∧ x.f3.toList = [] ∧ ∃ e, x.f4 = [e] ∧ goodE e = true ∧ prS x = [111, 117, 116, 32] ++ (prE e ++ [59, 32])) := by
  obtain ⟨k, pl, s, t, args⟩ := x
  unfold goodSt at h
  simp only at h ⊢
  by_cases h1 : k = 1
  · subst h1
    simp only [if_true, Bool.and_eq_true] at h
    obtain ⟨e, rfl, he⟩ := one_of h.2.2.1 h.2.2.2
    exact .inl ⟨rfl, h.1, bl_nil h.2.1, e, rfl, he, by simp [prS, prH]⟩
  · rw [if_neg h1] at h
    by_cases h2 : k = 2
    · subst h2
      simp only [if_true, Bool.and_eq_true] at h
      exact .inr (.inl ⟨rfl, h.1, h.2.1, h.2.2.1, by simp [prS, prEL_sep]⟩)
    · rw [if_neg h2] at h
      by_cases h3 : k = 3
      · subst h3
        simp only [if_true, Bool.and_eq_true] at h
        exact .inr (.inr (.inl ⟨rfl, bl_nil h.1, bl_nil h.2.1, h.2.2.1, by simp [prS, prEL_sep]⟩))
      · rw [if_neg h3] at h
        by_cases h4 : k = 4
        · subst h4
          simp only [if_true, Bool.and_eq_true] at h
          obtain ⟨e, rfl, he⟩ := one_of h.2.2.1 h.2.2.2
          exact .inr (.inr (.inr ⟨rfl, bl_nil h.1, bl_nil h.2.1, e, rfl, he, by simp [prS, prH]⟩))
        · rw [if_neg h4] at h
          exact absurd h (by decide)
/-- An expression is no word of a statement. -/
theorem expr_not {e : S31} (he : goodE e = true) {w : List UInt8} (hw : Word w) {b : UInt8} {r : List UInt8} (hb : w = b :: r) (h123 : b ≠ 123) {s t : List UInt8} (h : prE e ++ 59 :: s = w ++ 32 :: t) : False := by
  rcases goodE_kinds he with ⟨_, aw, _⟩ | ⟨_, _, _, _, ae⟩ | ⟨_, _, _, _, _, _, _, _, ae⟩
  · have := (word_split aw hw (Stop.mk' _ (by decide)) (Stop.mk' _ (by decide)) h).2
    exact absurd (List.cons.inj this).1 (by decide)
  · rw [ae, hb] at h
    exact h123 (List.cons.inj h).1.symm
  · rw [ae, hb] at h
    have h1 := (List.cons.inj h).1
    have := hw b (by rw [hb]; simp)
    rw [← h1] at this
    exact absurd this (by decide)
theorem sameSt_mk {x y : S37} (h0 : x.f0 = y.f0) (h2 : x.f2.toList = y.f2.toList) (h3 : x.f3.toList = y.f3.toList) (h4 : all2 sameE x.f4 y.f4 = true) : sameSt x y = true := by
  unfold sameSt
  rw [sameEL_all, h0, h2, h3, h4]; simp
theorem exprs_tell {c : UInt8} (hc : stopB c = true) (h40 : c ≠ 40) (h44 : c ≠ 44) {l m : List S31} (hl : goodEL l = true) (hm : goodEL m = true) {s t : List UInt8} (h : sepL prE l ++ c :: s = sepL prE m ++ c :: t) : all2 sameE l m = true ∧ s = t :=
  sepL_tells (f := prE) (good := goodE) (same := sameE) hc h44 (fun y r hy s => prE_ne hy hc h40 r s) l m s t (fun x _ => tellE x) (goodEL_all hl) (goodEL_all hm) h
/-- A statement's text tells it. -/
theorem tellS {x y : S37} (hx : goodSt x = true) (hy : goodSt y = true) {s t : List UInt8} (h : prS x ++ s = prS y ++ t) : sameSt x y = true ∧ s = t := by
  rcases goodSt_kinds hx with ⟨a0, an, a3, e, a4, ae, ax⟩ | ⟨a0, an, am, ag, ax⟩ | ⟨a0, a2, a3, ag, ax⟩ | ⟨a0, a2, a3, e, a4, ae, ax⟩ <;> rcases goodSt_kinds hy with ⟨b0, bn, b3, e', b4, be, bx⟩ | ⟨b0, bn, bm, bg, bx⟩ | ⟨b0, b2, b3, bg, bx⟩ | ⟨b0, b2, b3, e', b4, be, bx⟩ <;> rw [ax, bx] at h <;> simp only [List.cons_append, List.nil_append, List.append_assoc, List.cons.injEq, true_and] at h
  · obtain ⟨e1, h⟩ := word_split (name_word an) (name_word bn) (Stop.mk' _ (by decide)) (Stop.mk' _ (by decide)) h
    simp only [List.cons.injEq, true_and] at h
    obtain ⟨e2, h⟩ := tellE e e' _ _ ae be (Stop.mk' _ (by decide)) (Stop.mk' _ (by decide)) h
    simp only [List.cons.injEq, true_and] at h
    exact ⟨sameSt_mk (by rw [a0, b0]) (by rw [toList_bl, toList_bl, e1]) (by rw [a3, b3]) (by rw [a4, b4]; simp [all2, e2]), h⟩
  · obtain ⟨e1, h⟩ := word_split (name_word an) (name_word bn) (Stop.mk' _ (by decide)) (Stop.mk' _ (by decide)) h
    simp only [List.cons.injEq, true_and] at h
    exact (expr_not ae (w := [115, 112, 97, 119, 110]) (by intro b hb; revert b; decide) rfl (by decide) h).elim
  · exact absurd h.1 (by decide)
  · exact absurd h.1 (by decide)
  · obtain ⟨e1, h⟩ := word_split (name_word an) (name_word bn) (Stop.mk' _ (by decide)) (Stop.mk' _ (by decide)) h
    simp only [List.cons.injEq, true_and] at h
    exact (expr_not be (w := [115, 112, 97, 119, 110]) (by intro b hb; revert b; decide) rfl (by decide) h.symm).elim
  · obtain ⟨e1, h⟩ := word_split (name_word an) (name_word bn) (Stop.mk' _ (by decide)) (Stop.mk' _ (by decide)) h
    simp only [List.cons.injEq, true_and] at h
    obtain ⟨e2, h⟩ := word_split (name_word am) (name_word bm) (Stop.mk' _ (by decide)) (Stop.mk' _ (by decide)) h
    simp only [List.cons.injEq, true_and] at h
    obtain ⟨e3, h⟩ := exprs_tell (by decide) (by decide) (by decide) ag bg h
    simp only [List.cons.injEq, true_and] at h
    exact ⟨sameSt_mk (by rw [a0, b0]) (by rw [toList_bl, toList_bl, e1]) (by rw [toList_bl, toList_bl, e2]) e3, h⟩
  · exact absurd h.1 (by decide)
  · exact absurd h.1 (by decide)
  · exact absurd h.1 (by decide)
  · exact absurd h.1 (by decide)
  · obtain ⟨e3, h⟩ := exprs_tell (by decide) (by decide) (by decide) ag bg h
    simp only [List.cons.injEq, true_and] at h
    exact ⟨sameSt_mk (by rw [a0, b0]) (by rw [a2, b2]) (by rw [a3, b3]) e3, h⟩
  · exact absurd h.1 (by decide)
  · exact absurd h.1 (by decide)
  · exact absurd h.1 (by decide)
  · exact absurd h.1 (by decide)
  · obtain ⟨e2, h⟩ := tellE e e' _ _ ae be (Stop.mk' _ (by decide)) (Stop.mk' _ (by decide)) h
    simp only [List.cons.injEq, true_and] at h
    exact ⟨sameSt_mk (by rw [a0, b0]) (by rw [a2, b2]) (by rw [a3, b3]) (by rw [a4, b4]; simp [all2, e2]), h⟩
/-- How a statement begins, and a body's end does not. -/
def stB (s : List UInt8) : Bool := match s with
  | b :: c :: _ => b == 108 || (b == 111 || (b == 115 && c == 101))
  | _ => false
theorem prS_st {x : S37} (hx : goodSt x = true) (s : List UInt8) : stB (prS x ++ s) = true := by
  rcases goodSt_kinds hx with ⟨_, _, _, _, _, _, ax⟩ | ⟨_, _, _, _, ax⟩ | ⟨_, _, _, _, ax⟩ | ⟨_, _, _, _, _, _, ax⟩ <;> rw [ax] <;> rfl
theorem tellSL : ∀ (l m : List S37), goodSL l = true → goodSL m = true → ∀ {s t : List UInt8}, stB s = false → stB t = false → prSL l ++ s = prSL m ++ t → all2 sameSt l m = true ∧ s = t
  | [], [], _, _, s, t, _, _, h => ⟨rfl, h⟩
  | [], y :: m, _, hm, s, t, hs, ht, h => by
    rw [goodSL, Bool.and_eq_true] at hm
    rw [prSL, prSL, List.nil_append, List.append_assoc] at h
    rw [h, prS_st hm.1] at hs; cases hs
  | x :: l, [], hl, _, s, t, hs, ht, h => by
    rw [goodSL, Bool.and_eq_true] at hl
    rw [prSL, prSL, List.nil_append, List.append_assoc] at h
    rw [← h, prS_st hl.1] at ht; cases ht
  | x :: l, y :: m, hl, hm, s, t, hs, ht, h => by
    rw [goodSL, Bool.and_eq_true] at hl hm
    rw [prSL, prSL, List.append_assoc, List.append_assoc] at h
    obtain ⟨e1, h⟩ := tellS hl.1 hm.1 h
    obtain ⟨e2, h⟩ := tellSL l m hl.2 hm.2 hs ht h
    exact ⟨by rw [all2, e1, e2]; rfl, h⟩
/-- A body's text tells it. -/
def TellsB (x : S42) : Prop := ∀ (y : S42) (s t : List UInt8), goodB x = true → goodB y = true → prB x ++ s = prB y ++ t → sameB x y = true ∧ s = t
/-- What stands behind arms is no arm. -/
def NoArm (T : List UInt8) : Prop := ∀ p R, goodP p = true → Stop R → T ≠ 32 :: (prP p ++ R)
theorem prWL_stop (g : List S31) (s : List UInt8) : Stop (prWL g ++ 32 :: s) := by
  cases g with
  | nil => exact Stop.mk' _ (by decide)
  | cons x r => exact ⟨32, _, rfl, by decide⟩
theorem arm_eq (x : Arm) : prArm x = 32 :: (prP x.1 ++ (prWL x.2.1 ++ (32 :: prB x.2.2))) := by
  obtain ⟨p, g, b⟩ := x
  rw [prArm, prGd]
theorem prB_hd (x : S42) : ∃ r, prB x = 123 :: r := by
  obtain ⟨f0, f1, f2, f3, f4, f5, f6, f7, f8⟩ := x
  rw [prB]
  exact ⟨_, rfl⟩
theorem goodA_eq (x : Arm) : goodA x = (goodP x.1 && ((goodEL x.2.1 && withinB x.2.1.length 0 1) && goodB x.2.2)) := by
  obtain ⟨p, g, b⟩ := x
  rw [goodA, goodG]
theorem guard_tell {g g' : List S31} (hg : goodEL g = true) (hg' : goodEL g' = true) (h1 : withinB g.length 0 1 = true) (h1' : withinB g'.length 0 1 = true) {b b' : S42} {s t : List UInt8} (h : prWL g ++ 32 :: (prB b ++ s) = prWL g' ++ 32 :: (prB b' ++ t)) :
    all2 sameE g g' = true ∧ prB b ++ s = prB b' ++ t := by
  obtain ⟨r, er⟩ := prB_hd b
  obtain ⟨r', er'⟩ := prB_hd b'
  simp only [withinB, Bool.and_eq_true, decide_eq_true_eq] at h1 h1'
  match g, g', hg, hg', h1, h1', h with
  | [], [], _, _, _, _, h => exact ⟨rfl, (List.cons.inj h).2⟩
  | [], [y], _, _, _, _, h =>
    rw [er] at h
    simp only [prWL, List.cons_append, List.nil_append, List.cons.injEq, true_and] at h
    exact absurd h.1 (by decide)
  | [x], [], _, _, _, _, h =>
    rw [er'] at h
    simp only [prWL, List.cons_append, List.nil_append, List.cons.injEq, true_and] at h
    exact absurd h.1 (by decide)
  | [x], [y], hg, hg', _, _, h =>
    simp only [prWL, List.cons_append, List.nil_append, List.cons.injEq, true_and, List.append_nil, List.append_assoc] at h
    obtain ⟨e1, h⟩ := tellE x y _ _ (goodEL_all hg x (by simp)) (goodEL_all hg' y (by simp)) (Stop.mk' _ (by decide)) (Stop.mk' _ (by decide)) h
    exact ⟨by simp [all2, e1], (List.cons.inj h).2⟩
  | x :: y :: r, _, _, _, h1, _, _ => simp only [List.length_cons] at h1; omega
  | _, x :: y :: r, _, _, _, h1', _ => simp only [List.length_cons] at h1'; omega
theorem tellAL : ∀ (l m : List Arm), (∀ x, x ∈ l → TellsB x.2.2) → goodAL l = true → goodAL m = true → ∀ {s t : List UInt8}, NoArm s → NoArm t → prAL l ++ s = prAL m ++ t → all2 sameA l m = true ∧ s = t
  | [], [], _, _, _, s, t, _, _, h => ⟨rfl, h⟩
  | [], y :: m, _, _, hm, s, t, hs, ht, h => by
    rw [goodAL, Bool.and_eq_true, goodA_eq, Bool.and_eq_true] at hm
    rw [prAL, prAL, List.nil_append, List.append_assoc, arm_eq] at h
    simp only [List.cons_append, List.append_assoc] at h
    exact absurd h (hs _ _ hm.1.1 (prWL_stop _ _))
  | x :: l, [], _, hl, _, s, t, hs, ht, h => by
    rw [goodAL, Bool.and_eq_true, goodA_eq, Bool.and_eq_true] at hl
    rw [prAL, prAL, List.nil_append, List.append_assoc, arm_eq] at h
    simp only [List.cons_append, List.append_assoc] at h
    exact absurd h.symm (ht _ _ hl.1.1 (prWL_stop _ _))
  | x :: l, y :: m, hT, hl, hm, s, t, hs, ht, h => by
    rw [goodAL, Bool.and_eq_true, goodA_eq, Bool.and_eq_true, Bool.and_eq_true, Bool.and_eq_true] at hl hm
    rw [prAL, prAL, List.append_assoc, List.append_assoc, arm_eq, arm_eq] at h
    simp only [List.cons_append, List.append_assoc, List.cons.injEq, true_and] at h
    obtain ⟨e1, h⟩ := tellP x.1 y.1 _ _ hl.1.1 hm.1.1 (prWL_stop _ _) (prWL_stop _ _) h
    obtain ⟨e2, h⟩ := guard_tell hl.1.2.1.1 hm.1.2.1.1 hl.1.2.1.2 hm.1.2.1.2 h
    obtain ⟨e3, h⟩ := hT x (by simp) y.2.2 _ _ hl.1.2.2 hm.1.2.2 h
    obtain ⟨e4, h⟩ := tellAL l m (fun z hz => hT z (by simp [hz])) hl.2 hm.2 hs ht h
    exact ⟨by rw [all2, sameA_eq, e1, sameEL_all, e2, e3, e4]; rfl, h⟩
/-- What stands behind arms: what comes after a time. -/
def prLate (x : S42) : List UInt8 := (if x.f7 = true then [32, 97, 102, 116, 101, 114, 32] ++ (Lib.itoa x.f8 ++ (32 :: prO x.f5)) else []) ++ [32, 125]
theorem late_noArm (x : S42) (s : List UInt8) : NoArm (prLate x ++ s) := by
  intro p R hp hR h
  unfold prLate at h
  split at h
  · simp only [List.cons_append, List.append_assoc, List.cons.injEq, true_and, List.nil_append] at h
    rcases goodP_kinds hp with ⟨_, aw, ak⟩ | ⟨_, _, _, _, ae⟩
    · have hw := (word_split (a := [97, 102, 116, 101, 114]) (b := prP p) (s := 32 :: (Lib.itoa x.f8 ++ (32 :: (prO x.f5 ++ 32 :: 125 :: s)))) (by intro b hb; revert b; decide) aw (Stop.mk' _ (by decide)) hR (by simpa using h)).1
      rcases ak with ⟨_, _, _, e⟩ | ⟨_, _, e⟩ | ⟨_, _, _, e⟩ | ⟨_, _, hn, e⟩ <;> rw [e] at hw
      · exact absurd hw (by decide)
      · have := itoa_all x.f2 97
        have h2 := itoa_all p.f2 97 (by rw [← hw]; simp)
        exact absurd h2 (by decide)
      · exact absurd (List.cons.inj hw).1 (by decide)
      · exact name_key hn (by decide) hw.symm
    · rw [ae] at h
      exact absurd (List.cons.inj h).1 (by decide)
  · simp only [List.cons_append, List.append_assoc, List.cons.injEq, true_and, List.nil_append] at h
    exact prP_ne hp (c := 125) (by decide) _ _ h.symm
/-- A body's end, written. -/
def prEnd (x : S42) : List UInt8 :=
  if x.f1 = 1 then [98, 101, 99, 111, 109, 101, 32] ++ (bl x.f3 ++ (40 :: (prEL x.f4 ++ [41]))) else if x.f1 = 2 then [115, 116, 111, 112] else if x.f1 = 3 then [105, 102, 32] ++ (prH x.f4 ++ (32 :: prI x.f5)) else [114, 101, 99, 101, 105, 118, 101, 32, 123] ++ (prAL x.f6 ++ prLate x)
theorem prB_eq (x : S42) : prB x = 123 :: 32 :: (prSL x.f0 ++ (prEnd x ++ [32, 125])) := by
  obtain ⟨f0, f1, f2, f3, f4, f5, f6, f7, f8⟩ := x
  rw [prB]
  simp [prEnd, prLate]
/-- What a body's end that may be is. -/
theorem goodB_kinds {x : S42} (h : goodB x = true) : goodSL x.f0 = true ∧ goodBL x.f5 = true ∧ goodAL x.f6 = true ∧
    ((x.f1 = 1 ∧ nameOk x.f3 = true ∧ goodEL x.f4 = true ∧ x.f5 = [] ∧ x.f6 = [] ∧ x.f7 = false ∧ x.f8 = 0 ∧ prEnd x = [98, 101, 99, 111, 109, 101, 32] ++ (bl x.f3 ++ (40 :: (sepL prE x.f4 ++ [41]))))
    ∨ (x.f1 = 2 ∧ x.f3.toList = [] ∧ x.f4 = [] ∧ x.f5 = [] ∧ x.f6 = [] ∧ x.f7 = false ∧ x.f8 = 0 ∧ prEnd x = [115, 116, 111, 112])
    ∨ (x.f1 = 3 ∧ x.f3.toList = [] ∧ x.f6 = [] ∧ x.f7 = false ∧ x.f8 = 0 ∧ ∃ e a b, x.f4 = [e] ∧ goodE e = true ∧ x.f5 = [a, b] ∧ goodB a = true ∧ goodB b = true ∧ prEnd x = [105, 102, 32] ++ (prE e ++ (32 :: (prB a ++ ([32, 101, 108, 115, 101, 32] ++ prB b)))))
    ∨ (x.f1 = 4 ∧ x.f3.toList = [] ∧ x.f4 = [] ∧ prEnd x = [114, 101, 99, 101, 105, 118, 101, 32, 123] ++ (prAL x.f6 ++ prLate x) ∧ ((x.f7 = true ∧ ∃ a, x.f5 = [a] ∧ goodB a = true ∧ prLate x = [32, 97, 102, 116, 101, 114, 32] ++ (Lib.itoa x.f8 ++ (32 :: (prB a ++ [32, 125])))) ∨ (x.f7 = false ∧ x.f5 = [] ∧ x.f8 = 0 ∧ prLate x = [32, 125])))) := by
  obtain ⟨f0, f1, f2, f3, f4, f5, f6, f7, f8⟩ := x
  rw [goodB, Bool.and_eq_true, Bool.and_eq_true, Bool.and_eq_true] at h
  obtain ⟨g0, g5, g6, h⟩ := h
  refine ⟨g0, g5, g6, ?_⟩
  unfold goodEnd at h
  simp only at h g5 g6 ⊢
  by_cases h4 : f1 = 4
  · subst h4
    simp only [if_true, Bool.and_eq_true, decide_eq_true_eq, List.length_eq_zero_iff] at h
    refine .inr (.inr (.inr ⟨rfl, bl_nil h.1, h.2.1, by simp [prEnd], ?_⟩))
    have h5 := h.2.2.1
    have h8 := h.2.2.2.1
    cases f7 with
    | true =>
      simp only [if_true] at h5
      match f5, h5, g5 with
      | [a], _, g5 =>
        exact .inl ⟨rfl, a, rfl, goodBL_mem _ a g5 (by simp), by simp [prLate, prO]⟩
    | false =>
      simp only [Bool.false_eq_true, if_false, List.length_eq_zero_iff] at h5
      simp only [Bool.false_eq_true, if_false, withinB, Bool.and_eq_true, decide_eq_true_eq] at h8
      exact .inr ⟨rfl, h5, by omega, by simp [prLate]⟩
  · rw [if_neg h4] at h
    simp only [Bool.and_eq_true, decide_eq_true_eq, List.length_eq_zero_iff, Bool.not_eq_true'] at h
    obtain ⟨h6, h7, h8, h⟩ := h
    by_cases h1 : f1 = 1
    · subst h1
      simp only [if_true, Bool.and_eq_true, decide_eq_true_eq, List.length_eq_zero_iff] at h
      exact .inl ⟨rfl, h.1, h.2.1.1, h.2.2, h6, h7, h8, by simp [prEnd, prEL_sep]⟩
    · rw [if_neg h1, Bool.and_eq_true] at h
      obtain ⟨h3, h⟩ := h
      by_cases h2 : f1 = 2
      · subst h2
        simp only [if_true, Bool.and_eq_true, decide_eq_true_eq, List.length_eq_zero_iff] at h
        exact .inr (.inl ⟨rfl, bl_nil h3, h.1, h.2, h6, h7, h8, by simp [prEnd]⟩)
      · rw [if_neg h2] at h
        by_cases h33 : f1 = 3
        · subst h33
          simp only [if_true, Bool.and_eq_true, decide_eq_true_eq] at h
          obtain ⟨e, rfl, he⟩ := one_of h.1.1 h.1.2
          match f5, h.2, g5 with
          | [a, b], _, g5 =>
            exact .inr (.inr (.inl ⟨rfl, bl_nil h3, h6, h7, h8, e, a, b, rfl, he, rfl, goodBL_mem _ a g5 (by simp), goodBL_mem _ b g5 (by simp), by simp [prEnd, prH, prI, prO]⟩))
        · rw [if_neg h33] at h
          exact absurd h (by decide)
theorem end_st {x : S42} (h : goodB x = true) (s : List UInt8) : stB (prEnd x ++ s) = false := by
  rcases (goodB_kinds h).2.2.2 with ⟨_, _, _, _, _, _, _, e⟩ | ⟨_, _, _, _, _, _, _, e⟩ | ⟨_, _, _, _, _, _, _, _, _, _, _, _, _, e⟩ | ⟨_, _, _, e, _⟩ <;> rw [e] <;> rfl
theorem sameB_mk {x y : S42} (h1 : x.f1 = y.f1) (h3 : x.f3.toList = y.f3.toList) (h7 : x.f7 = y.f7) (h8 : x.f8 = y.f8) (h4 : all2 sameE x.f4 y.f4 = true) (h5 : all2 sameB x.f5 y.f5 = true) (h0 : all2 sameSt x.f0 y.f0 = true) (h6 : all2 sameA x.f6 y.f6 = true) : sameB x y = true := by
  rw [sameB_eq, sameEL_all, sameBL_all, h1, h3, h7, h8, h4, h5, h0, h6]; simp
theorem tellsB : ∀ (n : Nat) (x : S42), SizeOf.sizeOf x ≤ n → TellsB x := by
  intro n
  induction n with
  | zero =>
    intro x h
    cases x
    simp at h
  | succ n ih =>
    intro x hsz y s t hx hy h
    have hch : ∀ z, z ∈ x.f5 → TellsB z := fun z hz => ih z (by
      have h2 := List.sizeOf_lt_of_mem hz
      cases x
      simp at hsz h2 ⊢
      omega)
    have hca : ∀ z, z ∈ x.f6 → TellsB z.2.2 := fun z hz => ih z.2.2 (by
      have h2 := List.sizeOf_lt_of_mem hz
      obtain ⟨z1, z2, z3⟩ := z
      cases x
      simp at hsz h2 ⊢
      omega)
    obtain ⟨x0, x5, x6, kx⟩ := goodB_kinds hx
    obtain ⟨y0, y5, y6, ky⟩ := goodB_kinds hy
    rw [prB_eq, prB_eq] at h
    simp only [List.cons_append, List.append_assoc, List.cons.injEq, true_and, List.nil_append] at h
    obtain ⟨e0, h⟩ := tellSL x.f0 y.f0 x0 y0 (end_st hx _) (end_st hy _) h
    rcases kx with ⟨a1, an, ag, a5, a6, a7, a8, ax⟩ | ⟨a1, a3, a4, a5, a6, a7, a8, ax⟩ | ⟨a1, a3, a6, a7, a8, e, a, b, a4, ae, a5, ga, gb, ax⟩ | ⟨a1, a3, a4, ax, ak⟩ <;> rcases ky with ⟨b1, bn, bg, b5, b6, b7, b8, bx⟩ | ⟨b1, b3, b4, b5, b6, b7, b8, bx⟩ | ⟨b1, b3, b6, b7, b8, e', a', b', b4, be, b5, ga', gb', bx⟩ | ⟨b1, b3, b4, bx, bk⟩ <;> rw [ax, bx] at h <;> simp only [List.cons_append, List.nil_append, List.append_assoc, List.cons.injEq, true_and] at h
    · obtain ⟨e1, h⟩ := word_split (name_word an) (name_word bn) (Stop.mk' _ (by decide)) (Stop.mk' _ (by decide)) h
      simp only [List.cons.injEq, true_and] at h
      obtain ⟨e3, h⟩ := exprs_tell (by decide) (by decide) (by decide) ag bg h
      simp only [List.cons.injEq, true_and] at h
      exact ⟨sameB_mk (by rw [a1, b1]) (by rw [toList_bl, toList_bl, e1]) (by rw [a7, b7]) (by rw [a8, b8]) e3 (by rw [a5, b5]; rfl) e0 (by rw [a6, b6]; rfl), h⟩
    · exact absurd h.1 (by decide)
    · exact absurd h.1 (by decide)
    · exact absurd h.1 (by decide)
    · exact absurd h.1 (by decide)
    · exact ⟨sameB_mk (by rw [a1, b1]) (by rw [a3, b3]) (by rw [a7, b7]) (by rw [a8, b8]) (by rw [a4, b4]; rfl) (by rw [a5, b5]; rfl) e0 (by rw [a6, b6]; rfl), h⟩
    · exact absurd h.1 (by decide)
    · exact absurd h.1 (by decide)
    · exact absurd h.1 (by decide)
    · exact absurd h.1 (by decide)
    · obtain ⟨e1, h⟩ := tellE e e' _ _ ae be (Stop.mk' _ (by decide)) (Stop.mk' _ (by decide)) h
      simp only [List.cons.injEq, true_and] at h
      rw [a5] at hch
      obtain ⟨e2, h⟩ := hch a (by simp) a' _ _ ga ga' h
      simp only [List.cons.injEq, true_and] at h
      obtain ⟨e3, h⟩ := hch b (by simp) b' _ _ gb gb' h
      simp only [List.cons.injEq, true_and] at h
      exact ⟨sameB_mk (by rw [a1, b1]) (by rw [a3, b3]) (by rw [a7, b7]) (by rw [a8, b8]) (by rw [a4, b4]; simp [all2, e1]) (by rw [a5, b5]; simp [all2, e2, e3]) e0 (by rw [a6, b6]; rfl), h⟩
    · exact absurd h.1 (by decide)
    · exact absurd h.1 (by decide)
    · exact absurd h.1 (by decide)
    · exact absurd h.1 (by decide)
    · obtain ⟨e6, h⟩ := tellAL x.f6 y.f6 hca x6 y6 (late_noArm x _) (late_noArm y _) h
      rcases ak with ⟨a7, a, a5, ga, al⟩ | ⟨a7, a5, a8, al⟩ <;> rcases bk with ⟨b7, a', b5, ga', bl'⟩ | ⟨b7, b5, b8, bl'⟩ <;> rw [al, bl'] at h <;> simp only [List.cons_append, List.nil_append, List.append_assoc, List.cons.injEq, true_and] at h
      · obtain ⟨e8, h⟩ := word_split (itoa_word _) (itoa_word _) (Stop.mk' _ (by decide)) (Stop.mk' _ (by decide)) h
        simp only [List.cons.injEq, true_and] at h
        rw [a5] at hch
        obtain ⟨e2, h⟩ := hch a (by simp) a' _ _ ga ga' h
        simp only [List.cons.injEq, true_and] at h
        exact ⟨sameB_mk (by rw [a1, b1]) (by rw [a3, b3]) (by rw [a7, b7]) (itoa_inj e8) (by rw [a4, b4]; rfl) (by rw [a5, b5]; simp [all2, e2]) e0 e6, h⟩
      · exact absurd h.1 (by decide)
      · exact absurd h.1 (by decide)
      · exact ⟨sameB_mk (by rw [a1, b1]) (by rw [a3, b3]) (by rw [a7, b7]) (by rw [a8, b8]) (by rw [a4, b4]; rfl) (by rw [a5, b5]; rfl) e0 e6, h⟩
theorem tellB (x : S42) : TellsB x := tellsB _ x (Nat.le_refl _)
/-- Are two names the same? -/
def sameN (a b : ByteArray) : Bool := a.toList == b.toList
def sameD (x y : S44) : Bool := x.f1.toList == y.f1.toList && (all2 sameN x.f2 y.f2 && sameB x.f3 y.f3)
/-- Are two programs the same? -/
def samePr (x y : S25) : Bool := x.f2.toList == y.f2.toList && (sameEL x.f3 y.f3 && all2 sameD x.f0 y.f0)
theorem join_sep : ∀ l : List ByteArray, Lib.join (l.map bl) [44, 32] = sepL bl l := by
  have tl : ∀ l : List ByteArray, Lib.joinTail [44, 32] (l.map bl) = sepT bl l := by
    intro l
    induction l with
    | nil => simp [Lib.joinTail, sepT]
    | cons x r ih =>
      simp only [Lib.joinTail, List.map_cons, List.flatten_cons, List.map_map] at ih ⊢
      rw [sepT, ← ih]
      simp
  intro l
  cases l with
  | nil => simp [Lib.join_nil, sepL]
  | cons x r => rw [List.map_cons, Lib.join_cons, sepL, tl]
theorem tellN (x : ByteArray) : Tells bl nameOk sameN x := by
  intro y s t hx hy hs ht h
  obtain ⟨e1, e2⟩ := word_split (name_word hx) (name_word hy) hs ht h
  exact ⟨bl_same e1, e2⟩
theorem bl_ne {x : ByteArray} (h : nameOk x = true) {c : UInt8} (hc : stopB c = true) (r s : List UInt8) : bl x ++ r ≠ c :: s := by
  obtain ⟨b, q, e, hb⟩ := name_hd h
  rw [e, List.cons_append]
  intro he
  obtain rfl := (List.cons.inj he).1
  have := letB_stop hb
  rw [hc] at this; cases this
theorem tellD {x y : S44} (hx : goodDef x = true) (hy : goodDef y = true) {s t : List UInt8} (h : prD x ++ s = prD y ++ t) : sameD x y = true ∧ s = t := by
  unfold goodDef at hx hy
  simp only [Bool.and_eq_true, List.all_eq_true] at hx hy
  unfold prD at h
  rw [join_sep, join_sep] at h
  simp only [List.cons_append, List.nil_append, List.append_assoc, List.cons.injEq, true_and] at h
  obtain ⟨e1, h⟩ := word_split (name_word hx.1) (name_word hy.1) (Stop.mk' _ (by decide)) (Stop.mk' _ (by decide)) h
  simp only [List.cons.injEq, true_and] at h
  obtain ⟨e2, h⟩ := sepL_tells (f := bl) (good := nameOk) (same := sameN) (c := 41) (by decide) (by decide) (fun y r hy s => bl_ne hy (by decide) r s) x.f2 y.f2 _ _ (fun z _ => tellN z) hx.2.2.2 hy.2.2.2 h
  simp only [List.cons.injEq, true_and] at h
  obtain ⟨e3, h⟩ := tellB x.f3 y.f3 _ _ hx.2.2.1 hy.2.2.1 h
  simp only [List.cons.injEq, true_and] at h
  exact ⟨by unfold sameD; rw [toList_bl, toList_bl, e1, e2, e3]; simp, h⟩
theorem tellDL : ∀ (l m : List S44), (∀ x, x ∈ l → goodDef x = true) → (∀ x, x ∈ m → goodDef x = true) → ∀ {s t : List UInt8}, prDL l ++ 109 :: s = prDL m ++ 109 :: t → all2 sameD l m = true ∧ s = t
  | [], [], _, _, s, t, h => ⟨rfl, (List.cons.inj h).2⟩
  | [], y :: m, _, _, s, t, h => absurd (List.cons.inj h).1 (by decide)
  | x :: l, [], _, _, s, t, h => absurd (List.cons.inj h).1 (by decide)
  | x :: l, y :: m, hl, hm, s, t, h => by
    rw [prDL, prDL, List.append_assoc, List.append_assoc] at h
    obtain ⟨e1, h⟩ := tellD (hl x (by simp)) (hm y (by simp)) h
    obtain ⟨e2, h⟩ := tellDL l m (fun z hz => hl z (by simp [hz])) (fun z hz => hm z (by simp [hz])) h
    exact ⟨by rw [all2, e1, e2]; rfl, h⟩
/-- A program's text tells it. -/
theorem tellPr {x y : S25} (hx : goodPr x = true) (hy : goodPr y = true) (h : prPr x = prPr y) : samePr x y = true := by
  unfold goodPr goodHd at hx hy
  simp only [Bool.and_eq_true, List.all_eq_true] at hx hy
  unfold prPr at h
  rw [prEL_sep, prEL_sep] at h
  simp only [List.cons_append, List.nil_append] at h
  obtain ⟨e1, h⟩ := tellDL x.f0 y.f0 hx.2 hy.2 h
  simp only [List.cons.injEq, true_and] at h
  obtain ⟨e2, h⟩ := word_split (name_word hx.1.2.2.2.1) (name_word hy.1.2.2.2.1) (Stop.mk' _ (by decide)) (Stop.mk' _ (by decide)) h
  simp only [List.cons.injEq, true_and] at h
  obtain ⟨e3, h⟩ := exprs_tell (by decide) (by decide) (by decide) hx.1.2.2.2.2.1 hy.1.2.2.2.2.1 h
  unfold samePr
  rw [toList_bl, toList_bl, e2, sameEL_all, e3, e1]; simp
theorem all2_map {α : Type} {same : α → α → Bool} {β : Type} {f : α → β} : ∀ {l m : List α}, (∀ x, x ∈ l → ∀ y, same x y = true → f x = f y) → all2 same l m = true → l.map f = m.map f
  | [], [], _, _ => rfl
  | [], y :: m, _, h => by simp [all2] at h
  | x :: l, [], _, h => by simp [all2] at h
  | x :: l, y :: m, hf, h => by
    rw [all2, Bool.and_eq_true] at h
    rw [List.map_cons, List.map_cons, hf x (by simp) y h.1, all2_map (fun z hz => hf z (by simp [hz])) h.2]
theorem sepT_map {α : Type} (f : α → List UInt8) : ∀ {l m : List α}, l.map f = m.map f → sepT f l = sepT f m
  | [], [], _ => rfl
  | [], y :: m, h => by simp at h
  | x :: l, [], h => by simp at h
  | x :: l, y :: m, h => by
    rw [List.map_cons, List.map_cons, List.cons.injEq] at h
    rw [sepT, sepT, h.1, sepT_map f h.2]
theorem sepL_map {α : Type} (f : α → List UInt8) {l m : List α} (h : l.map f = m.map f) : sepL f l = sepL f m := by
  match l, m, h with
  | [], [], _ => rfl
  | [], y :: m, h => simp at h
  | x :: l, [], h => simp at h
  | x :: l, y :: m, h =>
    rw [List.map_cons, List.map_cons, List.cons.injEq] at h
    rw [sepL, sepL, h.1, sepT_map f h.2]
theorem bl_toList {a b : ByteArray} (h : a.toList = b.toList) : bl a = bl b := by rw [← toList_bl, ← toList_bl, h]
/-- An expression's text, its arguments' texts given. -/
theorem prA_map (s : List UInt8) {l m : List S31} (h : l.map prE = m.map prE) : prA s l = prA s m := by
  have hc : ∀ {l m : List S31}, l.map prE = m.map prE → prC l = prC m := fun {l m} h => by
    match l, m, h with
    | [], [], _ => rfl
    | [], y :: m, h => simp at h
    | x :: l, [], h => simp at h
    | x :: l, y :: m, h => rw [List.map_cons, List.map_cons, List.cons.injEq] at h; rw [prC, prC, h.1]
  match l, m, h with
  | [], [], _ => rfl
  | [], y :: m, h => simp at h
  | x :: l, [], h => simp at h
  | x :: l, y :: m, h => rw [List.map_cons, List.map_cons, List.cons.injEq] at h; rw [prA, prA, h.1, hc h.2]
theorem likeE : ∀ (n : Nat) (x : S31), SizeOf.sizeOf x ≤ n → ∀ y, sameE x y = true → prE x = prE y := by
  intro n
  induction n with
  | zero =>
    intro x h
    cases x
    simp at h
  | succ n ih =>
    intro x hsz y h
    rw [sameE_eq, sameEL_all] at h
    simp only [Bool.and_eq_true, beq_iff_eq] at h
    obtain ⟨h0, h2, h3, h4⟩ := h
    have hm := all2_map (f := prE) (fun z hz w => ih z (by
      have h2 := List.sizeOf_lt_of_mem hz
      cases x
      simp at hsz h2 ⊢
      omega) w) h4
    obtain ⟨k, p, n, s, l⟩ := x
    obtain ⟨k', p', n', s', l'⟩ := y
    simp only at h0 h2 h3 hm
    subst h0 h2
    rw [prE, prE, bl_toList h3, prEL_sep, prEL_sep, sepL_map _ hm, prA_map _ hm]
theorem likeE1 {x y : S31} (h : sameE x y = true) : prE x = prE y := likeE _ x (Nat.le_refl _) y h
theorem likeEL {l m : List S31} (h : all2 sameE l m = true) : l.map prE = m.map prE := all2_map (fun x _ y h => likeE1 h) h
theorem likeP : ∀ (n : Nat) (x : S83), SizeOf.sizeOf x ≤ n → ∀ y, sameP x y = true → prP x = prP y := by
  intro n
  induction n with
  | zero =>
    intro x h
    cases x
    simp at h
  | succ n ih =>
    intro x hsz y h
    rw [sameP_eq, samePL_all] at h
    simp only [Bool.and_eq_true, beq_iff_eq] at h
    obtain ⟨h0, h2, h3, h4⟩ := h
    have hm := all2_map (f := prP) (fun z hz w => ih z (by
      have h2 := List.sizeOf_lt_of_mem hz
      cases x
      simp at hsz h2 ⊢
      omega) w) h4
    obtain ⟨k, p, n, s, l⟩ := x
    obtain ⟨k', p', n', s', l'⟩ := y
    simp only at h0 h2 h3 hm
    subst h0 h2
    rw [prP, prP, bl_toList h3, prPL_sep, prPL_sep, sepL_map _ hm]
theorem likeP1 {x y : S83} (h : sameP x y = true) : prP x = prP y := likeP _ x (Nat.le_refl _) y h
theorem prH_map {l m : List S31} (h : l.map prE = m.map prE) : prH l = prH m := by
  match l, m, h with
  | [], [], _ => rfl
  | [], y :: m, h => simp at h
  | x :: l, [], h => simp at h
  | x :: l, y :: m, h => rw [List.map_cons, List.map_cons, List.cons.injEq] at h; rw [prH, prH, h.1]
theorem prWL_map : ∀ {l m : List S31}, l.map prE = m.map prE → prWL l = prWL m
  | [], [], _ => rfl
  | [], y :: m, h => by simp at h
  | x :: l, [], h => by simp at h
  | x :: l, y :: m, h => by
    rw [List.map_cons, List.map_cons, List.cons.injEq] at h
    rw [prWL, prWL, h.1, prWL_map h.2]
theorem likeS {x y : S37} (h : sameSt x y = true) : prS x = prS y := by
  unfold sameSt at h
  rw [sameEL_all] at h
  simp only [Bool.and_eq_true, beq_iff_eq] at h
  obtain ⟨h0, h2, h3, h4⟩ := h
  have hm := likeEL h4
  unfold prS
  rw [h0, bl_toList h2, bl_toList h3, prH_map hm, prEL_sep, prEL_sep, sepL_map _ hm]
theorem prSL_map : ∀ (l : List S37), prSL l = (l.map prS).flatten
  | [] => rfl
  | x :: r => by rw [prSL, prSL_map r]; rfl
theorem prAL_map : ∀ (l : List Arm), prAL l = (l.map prArm).flatten
  | [] => by rw [prAL]; rfl
  | x :: r => by rw [prAL, prAL_map r]; rfl
theorem prDL_map : ∀ (l : List S44), prDL l = (l.map prD).flatten
  | [] => rfl
  | x :: r => by rw [prDL, prDL_map r]; rfl
theorem prO_map {l m : List S42} (h : l.map prB = m.map prB) : prO l = prO m := by
  match l, m, h with
  | [], [], _ => rfl
  | [], y :: m, h => simp at h
  | x :: l, [], h => simp at h
  | x :: l, y :: m, h => rw [List.map_cons, List.map_cons, List.cons.injEq] at h; rw [prO, prO, h.1]
theorem prI_map {l m : List S42} (h : l.map prB = m.map prB) : prI l = prI m := by
  match l, m, h with
  | [], [], _ => rfl
  | [], y :: m, h => simp at h
  | x :: l, [], h => simp at h
  | x :: l, y :: m, h => rw [List.map_cons, List.map_cons, List.cons.injEq] at h; rw [prI, prI, h.1, prO_map h.2]
theorem likeB : ∀ (n : Nat) (x : S42), SizeOf.sizeOf x ≤ n → ∀ y, sameB x y = true → prB x = prB y := by
  intro n
  induction n with
  | zero =>
    intro x h
    cases x
    simp at h
  | succ n ih =>
    intro x hsz y h
    rw [sameB_eq, sameEL_all, sameBL_all] at h
    simp only [Bool.and_eq_true, beq_iff_eq] at h
    obtain ⟨h1, h3, h7, h8, h4, h5, h0, h6⟩ := h
    have m5 := all2_map (f := prB) (fun z hz w => ih z (by
      have h2 := List.sizeOf_lt_of_mem hz
      cases x
      simp at hsz h2 ⊢
      omega) w) h5
    have m6 := all2_map (f := prArm) (fun z hz w hw => by
      rw [sameA_eq, sameEL_all] at hw
      simp only [Bool.and_eq_true] at hw
      rw [arm_eq, arm_eq, likeP1 hw.1, prWL_map (likeEL hw.2.1), ih z.2.2 (by
        have h2 := List.sizeOf_lt_of_mem hz
        obtain ⟨z1, z2, z3⟩ := z
        cases x
        simp at hsz h2 ⊢
        omega) w.2.2 hw.2.2]) h6
    have m0 := all2_map (f := prS) (fun z _ w => likeS) h0
    have m4 := likeEL h4
    have hE : prEnd x = prEnd y := by
      unfold prEnd prLate
      rw [h1, bl_toList h3, prEL_sep, prEL_sep, sepL_map _ m4, prH_map m4, prI_map m5, prAL_map, prAL_map, m6, h7, h8, prO_map m5]
    rw [prB_eq, prB_eq, prSL_map, prSL_map, m0, hE]
theorem likeD {x y : S44} (h : sameD x y = true) : prD x = prD y := by
  unfold sameD at h
  simp only [Bool.and_eq_true, beq_iff_eq] at h
  have m2 := all2_map (f := bl) (fun z _ w hw => bl_toList (by unfold sameN at hw; simpa using hw)) h.2.1
  unfold prD
  rw [bl_toList h.1, m2, likeB _ x.f3 (Nat.le_refl _) y.f3 h.2.2]
theorem likePr {x y : S25} (h : samePr x y = true) : prPr x = prPr y := by
  unfold samePr at h
  rw [sameEL_all] at h
  simp only [Bool.and_eq_true, beq_iff_eq] at h
  unfold prPr
  rw [prDL_map, prDL_map, all2_map (f := prD) (fun z _ w hw => likeD hw) h.2.2, bl_toList h.1, prEL_sep, prEL_sep, sepL_map _ (likeEL h.2.1)]
/-- Two programs that may be have one text just if they are the same. -/
theorem apart {x y : S25} (hx : goodPr x = true) (hy : goodPr y = true) : printed x = printed y ↔ samePr x y = true := by
  unfold printed
  rw [if_pos hx, if_pos hy]
  exact ⟨tellPr hx hy, likePr⟩
end Go.Proofs.YtjboncbmeanlgaaDoor.Tr
