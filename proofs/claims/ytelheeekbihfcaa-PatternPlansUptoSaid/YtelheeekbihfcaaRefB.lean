/- RefP; RefQ -/
import Derived.Test.YtelheeekbihfcaaPPatternPlansx3
import Derived.Test.YtelheeekbihfcaaPPatternPlansx5
import Derived.Test.YtelheeekbihfcaaGoB
import Derived.Test.YtelheeekbihfcaaFirstW
section
/- The reference's tests, nodes and ways are the program's, plain. -/
set_option linter.unusedVariables false
set_option linter.unusedSimpArgs false
namespace Go.Proofs.Ytelheeekbihfcaa.Pt
open Go.RowKit Go.Proofs Go.Proofs.Ytelheeekbihfcaa.PPatternFirst Go.Proofs.YtelheeekbihfcaaW.PrintWords Go.Proofs.YtelheeekbihfcaaW.PrintMore Go.Proofs.YtelheeekbihfcaaW.PrintLast
open Go.Proofs.Ytelheeekbihfcaa.PPatternPlans (S42 S44 k42 k44 rd_T42 rd_T44 postbagref17_last.f postbagref17_last.l0 postbagref17_longer.f postbagref17_tests.f postbagref17_tests.l0 postbagref17_Tests.f postbagref02_Ints.f postbagref02_Ints.l0 postbagref17_SameTest.f postbagref17_has.f postbagref17_has.l0 postbagref17_Plan.f postbagref17_Plan.l0 postbagref17_Plan.l1 postbagref17_Plan.l2 postbagref17_Plan.l3 postbagref17_Go.f postbagref17_Go.l0 postbagref17_Go.j1 postbagref17_Fits.f postbagref17_At.f postbagref17_At.l0 postbagref17_last.mono postbagref17_tests.mono_l postbagref17_Plan.mono_l postbagref17_has.mono postbagref17_SameTest.mono postbagref17_Tests.mono postbagref02_Ints.mono postbagref17_Fits.mono)
def c42 (t : S39) : S42 := ⟨t.f0, t.f1, t.f2⟩
def c44 (n : S41) : S44 := ⟨c42 n.f0, n.f1, n.f2, n.f3⟩
theorem rdOf_get (l : List ByteArray) (i : Nat) (h : i < l.length) : rdOf ByteArray.empty l (i : Int) = l[i] := by
  unfold rdOf
  rw [Int.toNat_natCast, List.getD_eq_getElem?_getD, List.getElem?_eq_getElem h]
  rfl
theorem last_l0 (l : List ByteArray) (s : ByteArray) (hn : l.length ≤ 1000000) : ∀ (d i : Nat) (x : Int), l.length - i = d → i ≤ l.length → postbagref17_last.l0 (d + 1) l s x i = some (if lastOf (l.drop i) s = -1 then x else (i : Int) + lastOf (l.drop i) s) := by
  intro d
  induction d with
  | zero =>
    intro i x hd hi
    obtain rfl : i = l.length := by omega
    rw [postbagref17_last.l0, if_neg (by omega), List.drop_length]
    rfl
  | succ d ih =>
    intro i x hd hi
    have hlt : i < l.length := by omega
    have h0 := lastOf_ge (l.drop (i + 1)) s
    rw [postbagref17_last.l0, if_pos (by omega), if_pos (by omega), rdOf_get l i hlt, w_inc i (by omega), ih (i + 1) _ (by omega) (by omega), ih (i + 1) _ (by omega) (by omega), List.drop_eq_getElem_cons hlt, lastOf]
    by_cases h1 : lastOf (l.drop (i + 1)) s = -1
    · rw [if_pos h1, if_pos h1, if_pos h1]
      by_cases h2 : l[i].toList = s.toList
      · simp [h2]
      · simp [h2]
    · rw [if_neg h1, if_neg h1, if_neg h1]
      have h3 : ¬ lastOf (l.drop (i + 1)) s + 1 = -1 := by omega
      rw [if_neg h3]
      split <;> (congr 1; omega)
theorem last_f (l : List ByteArray) (s : ByteArray) (hn : l.length ≤ 1000000) : postbagref17_last.f (l.length + 1) l s = some (lastOf l s) := by
  have h := last_l0 l s hn l.length 0 (-1) (by omega) (Nat.zero_le _)
  unfold postbagref17_last.f
  rw [List.drop_zero] at h
  refine h.trans ?_
  split
  · rename_i h1; rw [h1]
  · simp
theorem longer_f (l : List Int) (i : Int) (hn : l.length ≤ 2000000) : postbagref17_longer.f l i = some (l ++ [i]) := by
  unfold postbagref17_longer.f
  rw [Option.bind_some, List.length_nil, if_pos (by omega), Option.bind_some, List.nil_append, if_pos (by omega)]
theorem tests_f (at_ : List ByteArray) (hal : at_.length ≤ 1000000) : ∀ (N : Nat) (p : S53) (path : List Int), nodesP p ≤ N → path.length + N ≤ 2000000 → N ≤ 1000000 → ∃ k, postbagref17_tests.f k p.f0 p.f1 p.f2 p.f3 p.f4 at_ path = some ((testsP at_ p path).map c42) := by
  intro N
  induction N with
  | zero =>
    intro p path h
    cases p
    simp [nodesP] at h
  | succ N ih =>
    intro p path h hp hN
    obtain ⟨a, b, c, s, args⟩ := p
    have hlen := nodesL_le args
    have h1 : nodesL args ≤ N := by simp only [nodesP] at h; omega
    have hloop : ∀ (d i : Nat) (acc : List S42) (z0 z1 z2 : Int) (z3 : ByteArray), args.length - i = d → i ≤ args.length → acc.length + nodesL (args.drop i) ≤ 3000000 → ∃ k, postbagref17_tests.l0 k at_ path acc i z0 z1 z2 z3 args = some (acc ++ (testsL at_ (args.drop i) path i).map c42) := by
      intro d
      induction d with
      | zero =>
        intro i acc z0 z1 z2 z3 hd hi hacc
        obtain rfl : i = args.length := by omega
        exact ⟨1, by rw [postbagref17_tests.l0, if_neg (by omega), List.drop_length]; simp [testsL]⟩
      | succ d ih2 =>
        intro i acc z0 z1 z2 z3 hd hi hacc
        have hlt : i < args.length := by omega
        have hm := nodesL_get hlt
        rw [List.drop_eq_getElem_cons hlt, nodesL] at hacc
        obtain ⟨k1, e1⟩ := ih args[i] (path ++ [(i : Int)]) (by omega) (by simp; omega) (by omega)
        have htl := testsP_len at_ args[i] (path ++ [(i : Int)])
        obtain ⟨k2, e2⟩ := ih2 (i + 1) (acc ++ (testsP at_ args[i] (path ++ [(i : Int)])).map c42) z0 z1 z2 z3 (by omega) (by omega) (by rw [List.length_append, List.length_map]; omega)
        refine ⟨k1 + k2 + 1, ?_⟩
        rw [postbagref17_tests.l0, if_pos (by omega), if_pos (by omega), longer_f path i (by omega), Option.bind_some, rd53 args i hlt, leo_up (fun k => (postbagref17_tests.mono_l k).1 _ _ _ _ _ _ _) e1 k2, Option.bind_some, if_pos (by rw [List.length_map]; omega), w_inc i (by omega), show k1 + k2 = k2 + k1 by omega, leo_up (fun k => (postbagref17_tests.mono_l k).2 _ _ _ _ _ _ _ _ _) e2 k1, List.drop_eq_getElem_cons hlt, testsL, List.map_append, List.append_assoc]
    simp only
    by_cases e2 : a = 2
    · subst e2
      exact ⟨1, by rw [postbagref17_tests.f, if_pos rfl]; simp [testsP, ownT, c42]⟩
    · by_cases e3 : a = 3
      · subst e3
        exact ⟨at_.length + 1 + 1, by rw [postbagref17_tests.f, if_neg (by omega), if_pos rfl, last_f at_ s hal, Option.bind_some]; simp [testsP, ownT, c42]⟩
      · by_cases e5 : a = 5
        · subst e5
          obtain ⟨k, e⟩ := hloop args.length 0 [(⟨path, 5, (args.length : Int)⟩ : S42)] 5 b c s (by omega) (Nat.zero_le _) (by rw [List.drop_zero]; simp only [List.length_singleton]; omega)
          refine ⟨k + 1, ?_⟩
          rw [postbagref17_tests.f, if_neg (by omega), if_neg (by omega), if_pos rfl]
          refine e.trans ?_
          simp [testsP, ownT, c42]
        · exact ⟨1, by rw [postbagref17_tests.f, if_neg e2, if_neg e3, if_neg e5]; simp [testsP, ownT, e2, e3, e5]⟩
theorem Tests_f (at_ : List ByteArray) (hal : at_.length ≤ 1000000) (p : S53) (hp : nodesP p ≤ 1000000) : ∃ k, postbagref17_Tests.f k p.f0 p.f1 p.f2 p.f3 p.f4 at_ = some ((testsP at_ p []).map c42) := by
  obtain ⟨k, e⟩ := tests_f at_ hal 1000000 p [] hp (by simp) (Nat.le_refl _)
  exact ⟨k, by unfold postbagref17_Tests.f; rw [e]; rfl⟩
theorem ints_l0 (a b : List Int) (hl : a.length = b.length) (hn : a.length ≤ 2000000) : ∀ (d i : Nat), a.length - i = d → i ≤ a.length → postbagref02_Ints.l0 (d + 1) a b i = some (decide (a.drop i = b.drop i)) := by
  intro d
  induction d with
  | zero =>
    intro i hd hi
    obtain rfl : i = a.length := by omega
    rw [postbagref02_Ints.l0, if_neg (by omega), List.drop_length, hl, List.drop_length]
    rfl
  | succ d ih =>
    intro i hd hi
    have hlt : i < a.length := by omega
    have hlt2 : i < b.length := by omega
    have hw : wrap64 ((i : Int) + 1) = ((i + 1 : Nat) : Int) := by rw [w_small _ (by omega) (by omega)]; omega
    rw [postbagref02_Ints.l0, if_pos (by omega), if_pos (by omega), if_pos (by omega), rd_get a i hlt, rd_get b i hlt2, hw, ih (i + 1) (by omega) (by omega), List.drop_eq_getElem_cons hlt, List.drop_eq_getElem_cons hlt2]
    by_cases h : a[i] = b[i]
    · rw [if_pos h]
      simp only [List.cons.injEq, h, true_and]
    · rw [if_neg h]
      simp only [List.cons.injEq, h, false_and, decide_false]
theorem ints_f (a b : List Int) (hn : a.length ≤ 2000000) : postbagref02_Ints.f (a.length + 1) a b = some (decide (a = b)) := by
  unfold postbagref02_Ints.f
  by_cases h : a.length = b.length
  · rw [if_pos (by omega)]
    have h4 := ints_l0 a b h hn a.length 0 rfl (Nat.zero_le _)
    rw [List.drop_zero, List.drop_zero] at h4
    exact h4
  · rw [if_neg (by omega)]
    congr 1
    symm
    exact decide_eq_false (fun e => h (by rw [e]))
theorem same17_f (a b : S39) (hn : a.f0.length ≤ 2000000) : postbagref17_SameTest.f (a.f0.length + 1) a.f0 a.f1 a.f2 b.f0 b.f1 b.f2 = some (sameT a b) := by
  unfold postbagref17_SameTest.f
  rw [ints_f a.f0 b.f0 hn, Option.bind_some]
  unfold sameT
  by_cases h1 : a.f1 = b.f1
  · rw [if_pos h1]
    by_cases h2 : a.f2 = b.f2
    · rw [if_pos h2, h1, h2]
      simp only [beq_self_eq_true, Bool.true_and]
      congr 1
      rw [Bool.eq_iff_iff]
      simp
    · rw [if_neg h2]
      simp [h2]
  · rw [if_neg h1]
    simp [h1]
theorem rd42 (l : List S39) (i : Nat) (h : i < l.length) : rd_T42 (l.map c42) (i : Int) = c42 l[i] := by
  unfold PPatternPlans.rd_T42
  rw [Int.toNat_natCast, List.getD_eq_getElem?_getD, List.getElem?_map, List.getElem?_eq_getElem h]
  rfl
theorem has_l0 (l : List S39) (t : S39) (K : Nat) (hl : l.length ≤ 1000000) (hK : ∀ x, x ∈ l → x.f0.length + 1 ≤ K) (hK2 : ∀ x, x ∈ l → x.f0.length ≤ 2000000) : ∀ (d i : Nat), l.length - i = d → i ≤ l.length → postbagref17_has.l0 (K + d + 1) (l.map c42) i t.f0 t.f1 t.f2 = some (hasT (l.drop i) t) := by
  intro d
  induction d with
  | zero =>
    intro i hd hi
    obtain rfl : i = l.length := by omega
    rw [postbagref17_has.l0, if_neg (by rw [List.length_map]; omega), List.drop_length]
    rfl
  | succ d ih =>
    intro i hd hi
    have hlt : i < l.length := by omega
    have hm := List.getElem_mem hlt
    have hs := leo_le (fun k => postbagref17_SameTest.mono _ _ _ _ _ _ k) (same17_f l[i] t (hK2 _ hm)) (show _ ≤ K + (d + 1) by have := hK _ hm; omega)
    rw [postbagref17_has.l0, if_pos (by rw [List.length_map]; omega), if_pos (by omega), rd42 l i hlt]
    show ((postbagref17_SameTest.f (K + (d + 1)) l[i].f0 l[i].f1 l[i].f2 t.f0 t.f1 t.f2).bind _) = _
    rw [hs, Option.bind_some, w_inc i (by omega), List.drop_eq_getElem_cons hlt, hasT, List.any_cons]
    have hsym : sameT t l[i] = sameT l[i] t := by
      rw [Bool.eq_iff_iff, sameT_iff, sameT_iff]
      exact eq_comm
    rw [hsym]
    cases sameT l[i] t with
    | true => rw [if_pos rfl]; rfl
    | false =>
      rw [if_neg (by simp), Bool.false_or]
      exact ih (i + 1) (by omega) (by omega)
theorem has_f (l : List S39) (t : S39) (hl : l.length ≤ 1000000) (hK2 : ∀ x, x ∈ l → x.f0.length ≤ 1000000) : ∃ k, postbagref17_has.f k (l.map c42) t.f0 t.f1 t.f2 = some (hasT l t) :=
  ⟨_, by unfold postbagref17_has.f; exact has_l0 l t 1000001 hl (fun x hx => by have := hK2 x hx; omega) (fun x hx => by have := hK2 x hx; omega) l.length 0 (by omega) (Nat.zero_le _)⟩
end Go.Proofs.Ytelheeekbihfcaa.Pt
end
section
/- The reference's Plan and Go are the program's, plain. -/
set_option linter.unusedVariables false
set_option linter.unusedSimpArgs false
namespace Go.Proofs.Ytelheeekbihfcaa.Pt
open Go.RowKit Go.Proofs Go.Proofs.Ytelheeekbihfcaa.PPatternFirst Go.Proofs.YtelheeekbihfcaaW.PrintWords Go.Proofs.YtelheeekbihfcaaW.PrintMore Go.Proofs.YtelheeekbihfcaaW.PrintLast
open Go.Proofs.Ytelheeekbihfcaa.PPatternPlans (S42 S44 k42 k44 rd_T42 rd_T44 postbagref17_has.f postbagref17_Plan.f postbagref17_Plan.l0 postbagref17_Plan.l1 postbagref17_Plan.l2 postbagref17_Plan.l3 postbagref17_Go.f postbagref17_Go.l0 postbagref17_Go.j1 postbagref17_Fits.f postbagref17_At.f postbagref17_At.l0 postbagref17_Plan.mono_l postbagref17_has.mono postbagref17_Tests.f postbagref17_Tests.mono postbagref17_Fits.mono)
theorem rdL5 (all : List (List S39)) (j : Nat) (h : j < all.length) : PPatternPlans.rd_L5 (all.map (List.map c42)) (j : Int) = all[j].map c42 := by
  unfold PPatternPlans.rd_L5
  rw [Int.toNat_natCast, List.getD_eq_getElem?_getD, List.getElem?_map, List.getElem?_eq_getElem h]
  rfl
section
variable (l : List S53) (all : List (List S39)) (firsts : List Int) (e : Int) (hl : l.length = all.length) (hf : firsts.length = all.length) (hn : all.length ≤ 1000) (hlen : ∀ ts, ts ∈ all → ts.length ≤ 1000000) (hpath : ∀ ts t, ts ∈ all → t ∈ ts → t.f0.length ≤ 1000000)
include hl hf hn hlen hpath
/-- The look for the next pattern that has the test not. -/
theorem plan_l3 (out : List S44) (k i : Nat) (hk : k < all.length) (hi : i < all[k].length) (ho : out.length ≤ 2000000) (r : List S44 × List Int)
    (h2 : ∃ K, postbagref17_Plan.l2 K l firsts (all.map (List.map c42)) e (out ++ [⟨c42 all[k][i], (out.length : Int) + 1, nextG all firsts e all[k][i] (all.length - (k + 1)) (k + 1), -1⟩]) k ((i + 1 : Nat) : Int) = some r) :
    ∀ (d j : Nat), j - k = d → k ≤ j → j < all.length → ∃ K, postbagref17_Plan.l3 K l firsts (all.map (List.map c42)) e out k i (nextG all firsts e all[k][i] (all.length - (j + 1)) (j + 1)) j = some r := by
  intro d
  induction d with
  | zero =>
    intro j hd hkj hj
    obtain rfl : j = k := by omega
    obtain ⟨K, e2⟩ := h2
    refine ⟨K + 1, ?_⟩
    rw [postbagref17_Plan.l3, if_neg (by omega), if_pos (by omega), if_pos (by rw [List.length_map]; omega), if_pos (by omega), rdL5 all j hk, if_pos (by rw [List.length_map]; omega), if_pos (by omega), rd42 _ i hi, w_small _ (by omega) (by omega), w_inc i (by have := hlen _ (List.getElem_mem hk); omega)]
    exact e2
  | succ d ih =>
    intro j hd hkj hj
    obtain ⟨q, rfl⟩ : ∃ q, j = q + 1 := ⟨j - 1, by omega⟩
    obtain ⟨K2, e2⟩ := ih q (by omega) (by omega) (by omega)
    have hmem := List.getElem_mem (l := all) hj
    obtain ⟨K1, e1⟩ := has_f all[q + 1] all[k][i] (hlen _ hmem) (fun x hx => hpath _ _ hmem hx)
    have hw : wrap64 (((q + 1 : Nat) : Int) - 1) = (q : Int) := by rw [w_small _ (by omega) (by omega)]; omega
    refine ⟨K1 + K2 + 1, ?_⟩
    rw [postbagref17_Plan.l3, if_pos (by omega), if_pos (by omega), if_pos (by rw [List.length_map]; omega), if_pos (by omega), if_pos (by rw [List.length_map]; omega), if_pos (by omega), rdL5 all k hk, if_pos (by rw [List.length_map]; omega), rdL5 all (q + 1) hj, rd42 _ i hi]
    show ((postbagref17_has.f (K1 + K2) (all[q + 1].map c42) all[k][i].f0 all[k][i].f1 all[k][i].f2).bind _) = _
    rw [leo_up (fun k => postbagref17_has.mono _ _ _ _ k) e1 K2, Option.bind_some, hw, show K1 + K2 = K2 + K1 by omega]
    have hg : nextG all firsts e all[k][i] (all.length - (q + 1)) (q + 1) = if hasT all[q + 1] all[k][i] = true then nextG all firsts e all[k][i] (all.length - (q + 1 + 1)) (q + 1 + 1) else firsts.getD (q + 1) 0 := by
      rw [show all.length - (q + 1) = (all.length - (q + 1 + 1)) + 1 by omega, nextG, List.getD_eq_getElem?_getD, List.getElem?_eq_getElem hj]
      rfl
    rw [hg] at e2
    cases hh : hasT all[q + 1] all[k][i] with
    | true =>
      rw [hh, if_pos rfl] at e2
      rw [if_pos rfl]
      exact leo_up (fun k => (postbagref17_Plan.mono_l k).2.2.2 _ _ _ _ _ _ _ _ _) e2 K1
    | false =>
      rw [hh, if_neg (by simp)] at e2
      rw [if_neg (by simp), if_pos (by omega), show rd firsts ((q + 1 : Nat) : Int) = firsts.getD (q + 1) 0 from by unfold rd; rw [Int.toNat_natCast]]
      exact leo_up (fun k => (postbagref17_Plan.mono_l k).2.2.2 _ _ _ _ _ _ _ _ _) e2 K1
/-- The nodes of one pattern. -/
theorem plan_l2 (k : Nat) (hk : k < all.length) (out : List S44) (ho : out.length + all[k].length ≤ 1900000) (r : List S44 × List Int)
    (h1 : ∃ K, postbagref17_Plan.l1 K l firsts (all.map (List.map c42)) e (out ++ (blockOf all firsts e all.length k all[k] out.length).map c44 ++ [c44 (leafOf (k : Nat))]) ((k + 1 : Nat) : Int) = some r) :
    ∀ (d i : Nat), all[k].length - i = d → i ≤ all[k].length → ∃ K, postbagref17_Plan.l2 K l firsts (all.map (List.map c42)) e (out ++ (blockOf all firsts e all.length k (all[k].take i) out.length).map c44) k i = some r := by
  intro d
  induction d with
  | zero =>
    intro i hd hi
    obtain rfl : i = all[k].length := by omega
    obtain ⟨K, e1⟩ := h1
    refine ⟨K + 1, ?_⟩
    rw [postbagref17_Plan.l2, if_pos (by omega), if_pos (by rw [List.length_map]; omega), rdL5 all k hk, if_neg (by rw [List.length_map]; omega), List.take_length, if_pos (by rw [List.length_append, List.length_map, blockOf_len]; omega), w_inc k (by omega)]
    exact e1
  | succ d ih =>
    intro i hd hi
    have hlt : i < all[k].length := by omega
    obtain ⟨K2, e2⟩ := ih (i + 1) (by omega) (by omega)
    have hol : (out ++ (blockOf all firsts e all.length k (all[k].take i) out.length).map c44).length = out.length + i := by
      rw [List.length_append, List.length_map, blockOf_len, List.length_take, Nat.min_eq_left (Nat.le_of_lt hlt)]
    have hsn : out ++ (blockOf all firsts e all.length k (all[k].take (i + 1)) out.length).map c44 = (out ++ (blockOf all firsts e all.length k (all[k].take i) out.length).map c44) ++ [⟨c42 all[k][i], ((out ++ (blockOf all firsts e all.length k (all[k].take i) out.length).map c44).length : Int) + 1, nextG all firsts e all[k][i] (all.length - (k + 1)) (k + 1), -1⟩] := by
      rw [hol, List.take_succ_eq_append_getElem hlt, blockOf_snoc, List.map_append, List.append_assoc, List.length_take, Nat.min_eq_left (Nat.le_of_lt hlt)]
      rfl
    rw [hsn] at e2
    have h3 := plan_l3 l all firsts e hl hf hn hlen hpath (out ++ (blockOf all firsts e all.length k (all[k].take i) out.length).map c44) k i hk hlt (by rw [hol]; omega) r ⟨K2, e2⟩ (all.length - 1 - k) (all.length - 1) rfl (by omega) (by omega)
    obtain ⟨K3, e3⟩ := h3
    refine ⟨K3 + 1, ?_⟩
    rw [postbagref17_Plan.l2, if_pos (by omega), if_pos (by rw [List.length_map]; omega), rdL5 all k hk, if_pos (by rw [List.length_map]; omega)]
    rw [show all.length - (all.length - 1 + 1) = 0 by omega, nextG] at e3
    rw [w_small _ (by omega) (by omega), hl, show ((all.length : Int) - 1) = ((all.length - 1 : Nat) : Int) by omega]
    exact e3
/-- All patterns' nodes. -/
theorem plan_l1 (hend : endOf all ≤ 1800000) : ∀ (d k : Nat), all.length - k = d → k ≤ all.length → ∃ K, postbagref17_Plan.l1 K l firsts (all.map (List.map c42)) e ((nodesOf all firsts e all.length (all.take k) 0 0).map c44) k = some ((nodesOf all firsts e all.length all 0 0 ++ [leafOf (-2)]).map c44, firsts) := by
  intro d
  induction d with
  | zero =>
    intro k hd hk
    obtain rfl : k = all.length := by omega
    refine ⟨1, ?_⟩
    rw [postbagref17_Plan.l1, if_neg (by omega), List.take_length, if_pos (by rw [List.length_map, nodesOf_len]; omega), List.map_append]
    rfl
  | succ d ih =>
    intro k hd hk
    have hlt : k < all.length := by omega
    obtain ⟨K1, e1⟩ := ih (k + 1) (by omega) (by omega)
    have hts := endOf_take_succ all k hlt
    have hte := endOf_take all (k + 1)
    have hol : ((nodesOf all firsts e all.length (all.take k) 0 0).map c44).length = endOf (all.take k) := by rw [List.length_map, nodesOf_len]
    have hsn : (nodesOf all firsts e all.length (all.take (k + 1)) 0 0).map c44 = (nodesOf all firsts e all.length (all.take k) 0 0).map c44 ++ (blockOf all firsts e all.length k all[k] ((nodesOf all firsts e all.length (all.take k) 0 0).map c44).length).map c44 ++ [c44 (leafOf (k : Nat))] := by
      rw [hol, List.take_succ_eq_append_getElem hlt, nodesOf_snoc, List.length_take, Nat.min_eq_left (Nat.le_of_lt hlt), Nat.zero_add, Nat.zero_add, List.map_append, List.map_append, List.append_assoc]
      rfl
    rw [hsn] at e1
    obtain ⟨K2, e2⟩ := plan_l2 l all firsts e hl hf hn hlen hpath k hlt ((nodesOf all firsts e all.length (all.take k) 0 0).map c44) (by rw [hol]; omega) _ ⟨K1, e1⟩ all[k].length 0 (by omega) (Nat.zero_le _)
    refine ⟨K2 + 1, ?_⟩
    rw [postbagref17_Plan.l1, if_pos (by omega)]
    rw [List.take_zero, blockOf, List.map_nil, List.append_nil] at e2
    exact e2
end
theorem plan_l0 (at_ : List ByteArray) (hal : at_.length ≤ 1000000) (l : List S53) (hn : l.length ≤ 1000) (hnl : nodesL l ≤ 900000) : ∀ (d i : Nat), l.length - i = d → i ≤ l.length → ∃ K, postbagref17_Plan.l0 K l at_ (firstsOf ((allOf at_ l).take i) 0) (((allOf at_ l).take i).map (List.map c42)) ((endOf ((allOf at_ l).take i) : Nat) : Int) i = some ((planN at_ l).map c44, firstsOf (allOf at_ l) 0) := by
  have hall : (allOf at_ l).length = l.length := by simp [allOf]
  have hend := endOf_nodes at_ l
  intro d
  induction d with
  | zero =>
    intro i hd hi
    obtain rfl : i = l.length := by omega
    have hlen : ∀ ts, ts ∈ allOf at_ l → ts.length ≤ 1000000 := by
      intro ts hts
      obtain ⟨p, hp, rfl⟩ := List.mem_map.1 hts
      have h1 := testsP_len at_ p []
      have h2 := nodesL_mem l p hp
      omega
    have hpath : ∀ ts t, ts ∈ allOf at_ l → t ∈ ts → t.f0.length ≤ 1000000 := by
      intro ts t hts ht
      obtain ⟨p, hp, rfl⟩ := List.mem_map.1 hts
      have h1 := testsP_path at_ p [] t ht
      have h2 := nodesL_mem l p hp
      simp only [List.length_nil] at h1
      omega
    obtain ⟨K, e1⟩ := plan_l1 l (allOf at_ l) (firstsOf (allOf at_ l) 0) ((endOf (allOf at_ l) : Nat) : Int) hall.symm (firstsOf_len _ _) (by omega) hlen hpath (by omega) (allOf at_ l).length 0 (by omega) (Nat.zero_le _)
    refine ⟨K + 1, ?_⟩
    rw [postbagref17_Plan.l0, if_neg (by omega), show (allOf at_ l).take l.length = allOf at_ l from by rw [← hall, List.take_length]]
    rw [List.take_zero, nodesOf, List.map_nil] at e1
    refine e1.trans ?_
    unfold planN
    rw [hall]
  | succ d ih =>
    intro i hd hi
    have hlt : i < l.length := by omega
    obtain ⟨K2, e2⟩ := ih (i + 1) (by omega) (by omega)
    have hx : (allOf at_ l)[i]'(by omega) = testsP at_ l[i] [] := by simp [allOf]
    have hnp := nodesL_mem l l[i] (List.getElem_mem hlt)
    obtain ⟨K1, e1⟩ := Tests_f at_ hal l[i] (by omega)
    have hte := endOf_take (allOf at_ l) (i + 1)
    have hts := endOf_take_succ (allOf at_ l) i (by omega)
    rw [hx] at hts
    have hfs : firstsOf ((allOf at_ l).take (i + 1)) 0 = firstsOf ((allOf at_ l).take i) 0 ++ [((endOf ((allOf at_ l).take i) : Nat) : Int)] := by
      rw [List.take_succ_eq_append_getElem (by omega), firstsOf_snoc, Nat.zero_add]
    have has_ : ((allOf at_ l).take (i + 1)).map (List.map c42) = ((allOf at_ l).take i).map (List.map c42) ++ [(testsP at_ l[i] []).map c42] := by
      rw [List.take_succ_eq_append_getElem (by omega), hx, List.map_append]
      rfl
    rw [hfs, has_, hts] at e2
    refine ⟨K1 + K2 + 1, ?_⟩
    rw [postbagref17_Plan.l0, if_pos (by omega), if_pos (by rw [firstsOf_len, List.length_take]; omega), if_pos (by omega), rd53 l i hlt, leo_up (fun k => postbagref17_Tests.mono _ _ _ _ _ _ k) e1 K2, Option.bind_some, if_pos (by rw [List.length_map, List.length_take]; omega), List.length_map, w_inc i (by omega)]
    have hw : wrap64 (wrap64 (((endOf ((allOf at_ l).take i) : Nat) : Int) + ((testsP at_ l[i] []).length : Int)) + 1) = ((endOf ((allOf at_ l).take i) + (testsP at_ l[i] []).length + 1 : Nat) : Int) := by
      rw [w_small (((endOf ((allOf at_ l).take i) : Nat) : Int) + ((testsP at_ l[i] []).length : Int)) (by omega) (by omega), w_small _ (by omega) (by omega)]
      omega
    rw [hw, show K1 + K2 = K2 + K1 by omega]
    exact leo_up (fun k => (postbagref17_Plan.mono_l k).1 _ _ _ _ _ _) e2 K1
theorem plan17_f (at_ : List ByteArray) (hal : at_.length ≤ 1000000) (l : List S53) (hn : l.length ≤ 1000) (hnl : nodesL l ≤ 900000) : ∃ K, postbagref17_Plan.f K l at_ = some ((planN at_ l).map c44, firstsOf (allOf at_ l) 0) := by
  obtain ⟨K, e⟩ := plan_l0 at_ hal l hn hnl l.length 0 (by omega) (Nat.zero_le _)
  exact ⟨K, e⟩
theorem at17_l0 (path : List Int) (hn : path.length ≤ 1000000) : ∀ (d i : Nat) (x : S27), path.length - i = d → i ≤ path.length → postbagref17_At.l0 (d + 1) path i x.f0 x.f1 x.f2 = some (atR (atV x (path.drop i))) := by
  intro d
  induction d with
  | zero =>
    intro i x hd hi
    obtain rfl : i = path.length := by omega
    rw [postbagref17_At.l0, if_neg (by omega), List.drop_length]
    rfl
  | succ d ih =>
    intro i x hd hi
    have hlt : i < path.length := by omega
    rw [postbagref17_At.l0, if_pos (by omega), if_pos (by omega), rd_get path i hlt, List.drop_eq_getElem_cons hlt, atV]
    by_cases h1 : path[i] < 0
    · rw [if_pos h1, if_pos h1]; rfl
    · rw [if_neg h1, if_neg h1]
      by_cases h2 : path[i] ≥ (x.f2.length : Int)
      · rw [if_pos h2, if_pos h2]; rfl
      · rw [if_neg h2, if_neg h2, if_pos (by omega), if_pos (by omega), w_inc i (by omega)]
        exact ih (i + 1) _ (by omega) (by omega)
theorem fits17_f (v : S27) (t : S39) (hn : t.f0.length ≤ 1000000) : postbagref17_Fits.f (t.f0.length + 1) t.f0 t.f1 t.f2 v.f0 v.f1 v.f2 = some (fitsV v t) := by
  have h := at17_l0 t.f0 hn t.f0.length 0 v (by omega) (Nat.zero_le _)
  rw [List.drop_zero] at h
  unfold postbagref17_Fits.f postbagref17_At.f
  rw [show (((0 : Nat) : Int)) = 0 from rfl] at h
  rw [h]
  unfold fitsV
  cases atV v t.f0 with
  | none => rfl
  | some x =>
    simp only [atR, Option.bind_some, if_true]
    by_cases h2 : t.f1 = 2
    · rw [if_pos h2, if_pos h2]; by_cases h1 : x.f0 = 1 <;> simp [h1]
    · rw [if_neg h2, if_neg h2]
      by_cases h3 : t.f1 = 3
      · rw [if_pos h3, if_pos h3]; by_cases h1 : x.f0 = 2 <;> simp [h1]
      · rw [if_neg h3, if_neg h3]
        by_cases h5 : t.f1 = 5
        · rw [if_pos h5, if_pos h5]; by_cases h1 : x.f0 = 4 <;> simp [h1]
        · rw [if_neg h5, if_neg h5]
theorem rd44 (nodes : List S41) (i : Int) (h0 : 0 ≤ i) (h1 : i < nodes.length) : rd_T44 (nodes.map c44) i = c44 (rd_T41 nodes i) := by
  unfold PPatternPlans.rd_T44 rd_T41
  rw [List.getD_eq_getElem?_getD, List.getD_eq_getElem?_getD, List.getElem?_map, List.getElem?_eq_getElem (by omega)]
  rfl
theorem go17_l0 (nodes : List S41) (v : S27) (K : Nat) (hn : nodes.length ≤ 1000000) (hp : ∀ x, x ∈ nodes → x.f0.f0.length + 1 ≤ K) (hp2 : ∀ x, x ∈ nodes → x.f0.f0.length ≤ 1000000) : ∀ (d s : Nat) (i : Int), nodes.length + 1 - s = d → s ≤ nodes.length + 1 → postbagref17_Go.l0 (K + 2 * d + 1) (nodes.map c44) i s v.f0 v.f1 v.f2 = some (goV nodes v d i) := by
  intro d
  induction d with
  | zero =>
    intro s i hd hs
    rw [postbagref17_Go.l0, if_neg (by rw [List.length_map]; omega)]
    rfl
  | succ d ih =>
    intro s i hd hs
    rw [show K + 2 * (d + 1) + 1 = (K + 2 * d + 1 + 1) + 1 by omega, postbagref17_Go.l0, if_pos (by rw [List.length_map]; omega), goV, List.length_map]
    have hj : ∀ q : Bool, postbagref17_Go.j1 (K + 2 * d + 1 + 1) (nodes.map c44) i s q v.f0 v.f1 v.f2 = if q = true then some (-2) else (if 0 ≤ i then (if i < (nodes.length : Int) then (if ((rd_T44 (nodes.map c44) i).f3) = (-1) then ((postbagref17_Fits.f (K + 2 * d + 1) ((rd_T44 (nodes.map c44) i).f0.f0) ((rd_T44 (nodes.map c44) i).f0.f1) ((rd_T44 (nodes.map c44) i).f0.f2) v.f0 v.f1 v.f2).bind fun t175 => (if t175 = true then (postbagref17_Go.l0 (K + 2 * d + 1) (nodes.map c44) ((rd_T44 (nodes.map c44) i).f1) (wrap64 (s + 1)) v.f0 v.f1 v.f2) else (postbagref17_Go.l0 (K + 2 * d + 1) (nodes.map c44) ((rd_T44 (nodes.map c44) i).f2) (wrap64 (s + 1)) v.f0 v.f1 v.f2))) else (some ((rd_T44 (nodes.map c44) i).f3))) else (none)) else (none)) := fun q => by rw [postbagref17_Go.j1, List.length_map]
    rw [hj, hj]
    by_cases h0 : i < 0
    · rw [if_pos h0, if_pos rfl, if_pos (Or.inl h0)]
    · rw [if_neg h0]
      by_cases h1 : i ≥ (nodes.length : Int)
      · rw [if_pos (by simpa using h1), if_pos (Or.inr h1)]
      · rw [if_neg (show ¬ (decide (i ≥ (nodes.length : Int)) = true) by simpa using h1), if_pos (show 0 ≤ i by omega), if_pos (show i < (nodes.length : Int) by omega), if_neg (show ¬ (i < 0 ∨ i ≥ (nodes.length : Int)) by omega), rd44 nodes i (by omega) (by omega)]
        have hm := rd41_mem nodes i (by omega) (by omega)
        generalize rd_T41 nodes i = nd at *
        show (if nd.f3 = -1 then ((postbagref17_Fits.f (K + 2 * d + 1) nd.f0.f0 nd.f0.f1 nd.f0.f2 v.f0 v.f1 v.f2).bind fun t175 => (if t175 = true then (postbagref17_Go.l0 (K + 2 * d + 1) (nodes.map c44) nd.f1 (wrap64 (s + 1)) v.f0 v.f1 v.f2) else (postbagref17_Go.l0 (K + 2 * d + 1) (nodes.map c44) nd.f2 (wrap64 (s + 1)) v.f0 v.f1 v.f2))) else some nd.f3) = _
        by_cases h3 : nd.f3 = -1
        · have hf := leo_le (fun k => postbagref17_Fits.mono _ _ _ _ _ _ k) (fits17_f v nd.f0 (hp2 _ hm)) (show _ ≤ K + 2 * d + 1 by have := hp _ hm; omega)
          rw [if_pos h3, if_pos h3, hf, Option.bind_some]
          have h6 := fun q => ih (s + 1) q (by omega) (by omega)
          rw [w_inc s (by omega)]
          cases hfv : fitsV v nd.f0 with
          | true => rw [if_pos rfl, if_pos rfl]; exact h6 _
          | false => rw [if_neg (by simp), if_neg (by simp)]; exact h6 _
        · rw [if_neg h3, if_neg h3]
theorem go17_f (nodes : List S41) (v : S27) (i : Int) (hn : nodes.length ≤ 1000000) (hp2 : ∀ x, x ∈ nodes → x.f0.f0.length ≤ 1000000) : ∃ k, postbagref17_Go.f k (nodes.map c44) i v.f0 v.f1 v.f2 = some (goV nodes v (nodes.length + 1) i) := by
  refine ⟨1000001 + 2 * (nodes.length + 1) + 1, ?_⟩
  unfold postbagref17_Go.f
  exact go17_l0 nodes v 1000001 hn (fun x hx => by have := hp2 x hx; omega) hp2 (nodes.length + 1) 0 i (by omega) (by omega)
end Go.Proofs.Ytelheeekbihfcaa.Pt
end
