/- BoundP -/
import Derived.Test.YtjboncbmeanlgaaDoorQDeepP
import Derived.Test.YtjboncbmeanlgaaDoorQPrintW
import Derived.Lib.ItoaLen
/- How long a good program's text may be: plain. -/
set_option linter.unusedVariables false
set_option linter.unusedSimpArgs false
namespace Go.Proofs.YtjboncbmeanlgaaDoor.Tr
open Go.RowKit Go.Proofs Go.Proofs.YtjboncbmeanlgaaDoor.PTreePrints Go.Proofs.YtjboncbmeanlgaaDoorW.PrintWords Go.Proofs.YtjboncbmeanlgaaDoorW.PrintMore Go.Proofs.YtjboncbmeanlgaaDoorW.PrintLast
/-- A number told of, counted on by a, up to 4097. -/
def sat (m : Int) (a : Nat) : Int := if m + a < 4097 then m + a else 4097
theorem sat_le (m : Int) (a : Nat) : sat m a ≤ 4097 := by unfold sat; split <;> omega
theorem sat_nn {m : Int} (h : 0 ≤ m) (a : Nat) : 0 ≤ sat m a := by unfold sat; split <;> omega
theorem sat_sat {m : Int} (a b : Nat) : sat (sat m a) b = sat m (a + b) := by unfold sat; split <;> split <;> (try split) <;> omega
theorem sat_z {m : Int} (h : m ≤ 4097) : sat m 0 = m := by unfold sat; split <;> omega
theorem stS_sat {m : Int} (h : 0 ≤ m) (h2 : m ≤ 4097) (lv : Int) : stS m lv = sat m 1 := by
  unfold stS sat wrap64; split <;> split <;> omega
mutual
def cnE : S31 → Nat → Nat
  | ⟨_, _, _, _, args⟩, k => match k with
    | 0 => 0
    | k + 1 => 1 + cnEL args k
def cnEL : List S31 → Nat → Nat
  | [], _ => 0
  | x :: r, k => cnE x k + cnEL r k
end
mutual
def cnP : S83 → Nat → Nat
  | ⟨_, _, _, _, args⟩, k => match k with
    | 0 => 0
    | k + 1 => 1 + cnPL args k
def cnPL : List S83 → Nat → Nat
  | [], _ => 0
  | x :: r, k => cnP x k + cnPL r k
end
def cnSL : List S37 → Nat → Nat
  | [], _ => 0
  | x :: r, k => (1 + cnEL x.f4 k) + cnSL r k
mutual
def cnB : S42 → Nat → Nat
  | ⟨f0, _, _, _, f4, f5, f6, _, _⟩, k => match k with
    | 0 => 0
    | k + 1 => 1 + (cnEL f4 k + (cnSL f0 k + (cnBL f5 k + cnAL f6 k)))
def cnBL : List S42 → Nat → Nat
  | [], _ => 0
  | x :: r, k => cnB x k + cnBL r k
def cnAL : List (S83 × List S31 × S42) → Nat → Nat
  | [], _ => 0
  | x :: r, k => cnA x k + cnAL r k
def cnA : S83 × List S31 × S42 → Nat → Nat
  | (p, q), k => cnPL [p] k + cnG q k
def cnG : List S31 × S42 → Nat → Nat
  | (g, b), k => cnEL g k + cnB b k
end
def cnDL : List S44 → Nat
  | [] => 0
  | x :: r => (1 + (x.f2.length + cnB x.f3 65)) + cnDL r
mutual
theorem satE : ∀ (x : S31) (lv k : Nat) (m : Int), lv + k = 66 → 0 ≤ m → m ≤ 4097 → walkE stS x lv m = sat m (cnE x k)
  | ⟨_, _, _, _, args⟩, lv, 0, m, h, h1, h2 => by
    rw [walkE, if_neg (by omega)]; simp only [cnE]; rw [sat_z h2]
  | ⟨_, _, _, _, args⟩, lv, k + 1, m, h, h1, h2 => by
    rw [walkE, if_pos (by omega), stS_sat h1 h2, satEL args (lv + 1) k _ (by omega) (sat_nn h1 _) (sat_le _ _), sat_sat]
    simp only [cnE]
theorem satEL : ∀ (l : List S31) (lv k : Nat) (m : Int), lv + k = 66 → 0 ≤ m → m ≤ 4097 → walkEL stS l lv m = sat m (cnEL l k)
  | [], lv, k, m, h, h1, h2 => by simp only [walkEL, cnEL]; rw [sat_z h2]
  | x :: r, lv, k, m, h, h1, h2 => by
    rw [walkEL, satE x lv k m h h1 h2, satEL r lv k _ h (sat_nn h1 _) (sat_le _ _), cnEL, sat_sat]
end
mutual
theorem satP : ∀ (x : S83) (lv k : Nat) (m : Int), lv + k = 66 → 0 ≤ m → m ≤ 4097 → walkP stS x lv m = sat m (cnP x k)
  | ⟨_, _, _, _, args⟩, lv, 0, m, h, h1, h2 => by
    rw [walkP, if_neg (by omega)]; simp only [cnP]; rw [sat_z h2]
  | ⟨_, _, _, _, args⟩, lv, k + 1, m, h, h1, h2 => by
    rw [walkP, if_pos (by omega), stS_sat h1 h2, satPL args (lv + 1) k _ (by omega) (sat_nn h1 _) (sat_le _ _), sat_sat]
    simp only [cnP]
theorem satPL : ∀ (l : List S83) (lv k : Nat) (m : Int), lv + k = 66 → 0 ≤ m → m ≤ 4097 → walkPL stS l lv m = sat m (cnPL l k)
  | [], lv, k, m, h, h1, h2 => by simp only [walkPL, cnPL]; rw [sat_z h2]
  | x :: r, lv, k, m, h, h1, h2 => by
    rw [walkPL, satP x lv k m h h1 h2, satPL r lv k _ h (sat_nn h1 _) (sat_le _ _), cnPL, sat_sat]
end
theorem satSL : ∀ (l : List S37) (lv k : Nat) (m : Int), lv + 1 + k = 66 → 0 ≤ m → m ≤ 4097 → walkSL stS l lv m = sat m (cnSL l k)
  | [], lv, k, m, h, h1, h2 => by simp only [walkSL, cnSL]; rw [sat_z h2]
  | x :: r, lv, k, m, h, h1, h2 => by
    rw [walkSL, stS_sat h1 h2, satEL x.f4 (lv + 1) k _ h (sat_nn h1 _) (sat_le _ _), sat_sat, satSL r lv k _ h (sat_nn h1 _) (sat_le _ _), cnSL, sat_sat]
mutual
theorem satB : ∀ (x : S42) (lv k : Nat) (m : Int), lv + k = 66 → 0 ≤ m → m ≤ 4097 → walkB stS x lv m = sat m (cnB x k)
  | ⟨f0, _, _, _, f4, f5, f6, _, _⟩, lv, 0, m, h, h1, h2 => by
    rw [walkB, if_neg (by omega)]; simp only [cnB]; rw [sat_z h2]
  | ⟨f0, _, _, _, f4, f5, f6, _, _⟩, lv, k + 1, m, h, h1, h2 => by
    rw [walkB, if_pos (by omega), stS_sat h1 h2, satEL f4 (lv + 1) k _ (by omega) (sat_nn h1 _) (sat_le _ _), sat_sat, satSL f0 lv k _ (by omega) (sat_nn h1 _) (sat_le _ _), sat_sat,
      satBL f5 lv k _ (by omega) (sat_nn h1 _) (sat_le _ _), sat_sat, satAL f6 lv k _ (by omega) (sat_nn h1 _) (sat_le _ _), sat_sat]
    simp only [cnB]
    congr 1
    omega
theorem satBL : ∀ (l : List S42) (lv k : Nat) (m : Int), lv + 1 + k = 66 → 0 ≤ m → m ≤ 4097 → walkBL stS l lv m = sat m (cnBL l k)
  | [], lv, k, m, h, h1, h2 => by simp only [walkBL, cnBL]; rw [sat_z h2]
  | x :: r, lv, k, m, h, h1, h2 => by
    rw [walkBL, satB x (lv + 1) k m h h1 h2, satBL r lv k _ h (sat_nn h1 _) (sat_le _ _), cnBL, sat_sat]
theorem satAL : ∀ (l : List (S83 × List S31 × S42)) (lv k : Nat) (m : Int), lv + 1 + k = 66 → 0 ≤ m → m ≤ 4097 → walkAL stS l lv m = sat m (cnAL l k)
  | [], lv, k, m, h, h1, h2 => by simp only [walkAL, cnAL]; rw [sat_z h2]
  | x :: r, lv, k, m, h, h1, h2 => by
    rw [walkAL, satA x lv k m h h1 h2, satAL r lv k _ h (sat_nn h1 _) (sat_le _ _), cnAL, sat_sat]
theorem satA : ∀ (x : S83 × List S31 × S42) (lv k : Nat) (m : Int), lv + 1 + k = 66 → 0 ≤ m → m ≤ 4097 → walkA stS x lv m = sat m (cnA x k)
  | (p, q), lv, k, m, h, h1, h2 => by
    rw [walkA, satPL [p] (lv + 1) k m h h1 h2, satG q lv k _ h (sat_nn h1 _) (sat_le _ _), cnA, sat_sat]
theorem satG : ∀ (x : List S31 × S42) (lv k : Nat) (m : Int), lv + 1 + k = 66 → 0 ≤ m → m ≤ 4097 → walkG stS x lv m = sat m (cnG x k)
  | (g, b), lv, k, m, h, h1, h2 => by
    rw [walkG, satEL g (lv + 1) k m h h1 h2, satB b (lv + 1) k _ h (sat_nn h1 _) (sat_le _ _), cnG, sat_sat]
end
theorem satN : ∀ (n : Nat) (m : Int), 0 ≤ m → m ≤ 4097 → walkN stS n m = sat m n
  | 0, m, h1, h2 => by rw [walkN, sat_z h2]
  | n + 1, m, h1, h2 => by rw [walkN, stS_sat h1 h2, satN n _ (sat_nn h1 _) (sat_le _ _), sat_sat, Nat.add_comm]
theorem satDL : ∀ (l : List S44) (m : Int), 0 ≤ m → m ≤ 4097 → walkDL stS l m = sat m (cnDL l)
  | [], m, h1, h2 => by simp only [walkDL, cnDL]; rw [sat_z h2]
  | x :: r, m, h1, h2 => by
    rw [walkDL, stS_sat h1 h2, satN _ _ (sat_nn h1 _) (sat_le _ _), sat_sat, satB x.f3 1 65 _ rfl (sat_nn h1 _) (sat_le _ _), sat_sat, satDL r _ (sat_nn h1 _) (sat_le _ _), cnDL, sat_sat]
    congr 1
    omega
/-- A good program's parts are few. -/
theorem few_parts {x : S25} (h : walkPr stS x 0 ≤ 4096) : cnDL x.f0 + cnEL x.f3 65 ≤ 4096 := by
  rw [walkPr, satDL x.f0 0 (by omega) (by omega), satEL x.f3 1 65 _ rfl (sat_nn (by omega) _) (sat_le _ _), sat_sat] at h
  unfold sat at h
  split at h <;> omega
theorem mx_l (a b : Int) : a ≤ mx a b := by unfold mx; split <;> omega
theorem mx_r (a b : Int) : b ≤ mx a b := by unfold mx; split <;> omega
theorem prEL_le (l : List S31) : (prEL l).length ≤ (prET l).length := by
  cases l with
  | nil => simp [prEL]
  | cons x r => simp only [prEL, prET, List.length_cons, List.length_append]; omega
theorem prPL_le (l : List S83) : (prPL l).length ≤ (prPT l).length := by
  cases l with
  | nil => simp [prPL]
  | cons x r => simp only [prPL, prPT, List.length_cons, List.length_append]; omega
theorem prH_le (l : List S31) : (prH l).length ≤ (prET l).length := by
  cases l with
  | nil => simp [prH]
  | cons x r => simp only [prH, prET, List.length_cons, List.length_append]; omega
theorem prC_le (l : List S31) : (prC l).length ≤ (prET l).length + 1 := by
  cases l with
  | nil => simp [prC]
  | cons x r => simp only [prC, prET, List.length_cons, List.length_append, List.length_nil]; omega
theorem prA_le (s : List UInt8) (l : List S31) : (prA s l).length ≤ (prET l).length + s.length + 1 := by
  cases l with
  | nil => simp [prA]
  | cons x r =>
    have := prC_le r
    simp only [prA, prET, List.length_cons, List.length_append, List.length_nil]; omega
mutual
theorem lenE : ∀ (x : S31) (k : Nat), goodE x = true → dpE x k < k → (prE x).length + 8 ≤ 128 * cnE x k
  | ⟨f, a, n, s, args⟩, 0, hg, hd => by simp only [dpE] at hd; omega
  | ⟨f, a, n, s, args⟩, k + 1, hg, hd => by
    simp only [dpE] at hd
    have hL := fun h => lenEL args k h (by omega)
    have h1 := prEL_le args
    have h2 := prA_le (32 :: (bl s ++ [32])) args
    have h3 := size_bl s
    simp only [List.length_cons, List.length_append, List.length_nil] at h2
    simp only [cnE]
    rcases goodE_cases hg with ⟨rfl, h, h'⟩ | ⟨rfl, h⟩ | ⟨rfl, h⟩ | rfl | ⟨rfl, h⟩ | ⟨rfl, h, h', _⟩
    · have := Lib.itoa_length_le n (by omega) (by omega)
      rw [prE, if_pos rfl]; omega
    · rw [prE, if_neg (by decide), if_pos rfl, List.length_cons]; omega
    · rw [prE, if_neg (by decide), if_neg (by decide), if_pos rfl]; omega
    · rw [prE, if_neg (by decide), if_neg (by decide), if_neg (by decide), if_pos rfl]; simp only [List.length_cons, List.length_nil]; omega
    · have := hL h
      rw [prE, if_neg (by decide), if_neg (by decide), if_neg (by decide), if_neg (by decide), if_pos rfl]; simp only [List.length_cons, List.length_append, List.length_nil]; omega
    · have := hL h'
      rw [prE, if_neg (by decide), if_neg (by decide), if_neg (by decide), if_neg (by decide), if_neg (by decide)]; simp only [List.length_cons, List.length_append, List.length_nil]; omega
theorem lenEL : ∀ (l : List S31) (k : Nat), goodEL l = true → dpEL l k < k → (prET l).length ≤ 128 * cnEL l k
  | [], k, hg, hd => by simp [prET]
  | x :: r, k, hg, hd => by
    rw [goodEL, Bool.and_eq_true] at hg
    rw [dpEL] at hd
    have h1 := lenE x k hg.1 (by have := mx_l (dpE x k) (dpEL r k); omega)
    have h2 := lenEL r k hg.2 (by have := mx_r (dpE x k) (dpEL r k); omega)
    rw [prET, cnEL]
    simp only [List.length_cons, List.length_append]
    omega
end
theorem lenWL : ∀ (l : List S31) (k : Nat), goodEL l = true → dpEL l k < k → (prWL l).length ≤ 128 * cnEL l k
  | [], k, hg, hd => by simp [prWL]
  | x :: r, k, hg, hd => by
    rw [goodEL, Bool.and_eq_true] at hg
    rw [dpEL] at hd
    have h1 := lenE x k hg.1 (by have := mx_l (dpE x k) (dpEL r k); omega)
    have h2 := lenWL r k hg.2 (by have := mx_r (dpE x k) (dpEL r k); omega)
    rw [prWL, cnEL]
    simp only [List.length_cons, List.length_append, List.length_nil]
    omega
mutual
theorem lenP : ∀ (x : S83) (k : Nat), goodP x = true → dpP x k < k → (prP x).length + 8 ≤ 128 * cnP x k
  | ⟨f, a, n, s, args⟩, 0, hg, hd => by simp only [dpP] at hd; omega
  | ⟨f, a, n, s, args⟩, k + 1, hg, hd => by
    simp only [dpP] at hd
    have hL := fun h => lenPL args k h (by omega)
    have h1 := prPL_le args
    have h3 := size_bl s
    simp only [cnP]
    rcases goodP_cases hg with rfl | ⟨rfl, h, h'⟩ | ⟨rfl, h⟩ | ⟨rfl, h⟩ | ⟨rfl, h⟩
    · rw [prP, if_pos rfl]; simp only [List.length_cons, List.length_nil]; omega
    · have := Lib.itoa_length_le n (by omega) (by omega)
      rw [prP, if_neg (by decide), if_pos rfl]; omega
    · rw [prP, if_neg (by decide), if_neg (by decide), if_pos rfl, List.length_cons]; omega
    · rw [prP, if_neg (by decide), if_neg (by decide), if_neg (by decide), if_pos rfl]; omega
    · have := hL h
      rw [prP, if_neg (by decide), if_neg (by decide), if_neg (by decide), if_neg (by decide)]; simp only [List.length_cons, List.length_append, List.length_nil]; omega
theorem lenPL : ∀ (l : List S83) (k : Nat), goodPL l = true → dpPL l k < k → (prPT l).length ≤ 128 * cnPL l k
  | [], k, hg, hd => by simp [prPT]
  | x :: r, k, hg, hd => by
    rw [goodPL, Bool.and_eq_true] at hg
    rw [dpPL] at hd
    have h1 := lenP x k hg.1 (by have := mx_l (dpP x k) (dpPL r k); omega)
    have h2 := lenPL r k hg.2 (by have := mx_r (dpP x k) (dpPL r k); omega)
    rw [prPT, cnPL]
    simp only [List.length_cons, List.length_append]
    omega
end
theorem lenS (x : S37) (k : Nat) (hg : goodSt x = true) (hd : dpEL x.f4 k < k) : (prS x).length ≤ 128 * (1 + cnEL x.f4 k) := by
  obtain ⟨f, a, s, t, args⟩ := x
  simp only at hd ⊢
  have h1 := prEL_le args
  have h2 := prH_le args
  have h3 := size_bl s
  have h4 := size_bl t
  have one : ∀ x, args = [x] → goodE x = true → goodEL args = true := fun x hx h => by subst hx; simp [goodEL, h]
  rcases goodSt_cases hg with ⟨rfl, h, x, hx, hgx⟩ | ⟨rfl, h, h', hgl⟩ | ⟨rfl, hgl⟩ | ⟨rfl, x, hx, hgx⟩
  · have := lenEL args k (one x hx hgx) hd
    simp only [prS, if_true, List.length_cons, List.length_append, List.length_nil]; omega
  · have := lenEL args k hgl hd
    rw [prS, if_neg (show ¬ (2 : Int) = 1 by decide), if_pos rfl]
    simp only [List.length_cons, List.length_append, List.length_nil]; omega
  · have := lenEL args k hgl hd
    rw [prS, if_neg (show ¬ (3 : Int) = 1 by decide), if_neg (show ¬ (3 : Int) = 2 by decide), if_pos rfl]
    simp only [List.length_cons, List.length_append, List.length_nil]; omega
  · have := lenEL args k (one x hx hgx) hd
    rw [prS, if_neg (show ¬ (4 : Int) = 1 by decide), if_neg (show ¬ (4 : Int) = 2 by decide), if_neg (show ¬ (4 : Int) = 3 by decide)]
    simp only [List.length_cons, List.length_append, List.length_nil]; omega
theorem lenSL : ∀ (l : List S37) (k : Nat), goodSL l = true → (l = [] ∨ dpSL l k < k) → (prSL l).length ≤ 128 * cnSL l k
  | [], k, hg, hd => by simp [prSL]
  | x :: r, k, hg, hd => by
    rw [goodSL, Bool.and_eq_true] at hg
    rcases hd with hd | hd
    · cases hd
    rw [dpSL] at hd
    have h1 := lenS x k hg.1 (by have := mx_l (dpEL x.f4 k) (dpSL r k); omega)
    have h2 := lenSL r k hg.2 (.inr (by have := mx_r (dpEL x.f4 k) (dpSL r k); omega))
    rw [prSL, cnSL]
    simp only [List.length_cons, List.length_append]
    omega
def lenBs : List S42 → Nat
  | [] => 0
  | x :: r => (prB x).length + lenBs r
theorem prO_le (l : List S42) : (prO l).length ≤ lenBs l := by
  cases l with
  | nil => simp [prO]
  | cons x r => rw [prO, lenBs]; omega
theorem prI_le (l : List S42) : (prI l).length ≤ lenBs l + 6 := by
  cases l with
  | nil => simp [prI]
  | cons x r =>
    have := prO_le r
    rw [prI, lenBs]
    simp only [List.length_cons, List.length_append, List.length_nil]; omega
mutual
theorem lenB : ∀ (x : S42) (k : Nat), goodB x = true → dpB x k < k → (prB x).length ≤ 128 * cnB x k
  | ⟨f0, f1, f2, f3, f4, f5, f6, f7, f8⟩, 0, hg, hd => by simp only [dpB] at hd; omega
  | ⟨f0, f1, f2, f3, f4, f5, f6, f7, f8⟩, k + 1, hg, hd => by
    simp only [dpB] at hd
    obtain ⟨hS, hB, hA, hc⟩ := goodB_cases hg
    have m1 := mx_l (mx (mx (dpEL f4 k) (dpSL f0 k)) (dpBL f5 k)) (dpAL f6 k)
    have m2 := mx_r (mx (mx (dpEL f4 k) (dpSL f0 k)) (dpBL f5 k)) (dpAL f6 k)
    have m3 := mx_l (mx (dpEL f4 k) (dpSL f0 k)) (dpBL f5 k)
    have m4 := mx_r (mx (dpEL f4 k) (dpSL f0 k)) (dpBL f5 k)
    have m5 := mx_l (dpEL f4 k) (dpSL f0 k)
    have m6 := mx_r (dpEL f4 k) (dpSL f0 k)
    have e1 := lenSL f0 k hS (.inr (by omega))
    have e2 := lenBL f5 k hB (by omega)
    have e3 := lenAL f6 k hA (by omega)
    have e4 := prI_le f5
    have e5 := prO_le f5
    have e6 := prEL_le f4
    have e7 := prH_le f4
    have e8 := size_bl f3
    simp only [cnB]
    rcases hc with ⟨rfl, h, hgl⟩ | rfl | ⟨rfl, ⟨p, hp, hgp⟩, _⟩ | ⟨rfl, h7⟩
    · have := lenEL f4 k hgl (by omega)
      rw [prB, if_pos rfl]
      simp only [List.length_cons, List.length_append, List.length_nil]; omega
    · rw [prB, if_neg (by decide), if_pos rfl]
      simp only [List.length_cons, List.length_append, List.length_nil]; omega
    · have := lenEL f4 k (by subst hp; simp [goodEL, hgp]) (by omega)
      rw [prB, if_neg (by decide), if_neg (by decide), if_pos rfl]
      simp only [List.length_cons, List.length_append, List.length_nil]; omega
    · rw [prB, if_neg (by decide), if_neg (by decide), if_neg (by decide)]
      cases f7 with
      | false =>
        simp only [List.length_cons, List.length_append, List.length_nil, Bool.false_eq_true, if_false]; omega
      | true =>
        have h8 := (h7 rfl).2
        have := Lib.itoa_length_le f8 (by omega) (by omega)
        simp only [List.length_cons, List.length_append, List.length_nil, if_true]; omega
theorem lenBL : ∀ (l : List S42) (k : Nat), goodBL l = true → dpBL l k < k → lenBs l ≤ 128 * cnBL l k
  | [], k, hg, hd => by simp [lenBs]
  | x :: r, k, hg, hd => by
    rw [goodBL, Bool.and_eq_true] at hg
    rw [dpBL] at hd
    have h1 := lenB x k hg.1 (by have := mx_l (dpB x k) (dpBL r k); omega)
    have h2 := lenBL r k hg.2 (by have := mx_r (dpB x k) (dpBL r k); omega)
    rw [lenBs, cnBL]
    omega
theorem lenAL : ∀ (l : List (S83 × List S31 × S42)) (k : Nat), goodAL l = true → dpAL l k < k → (prAL l).length ≤ 128 * cnAL l k
  | [], k, hg, hd => by simp [prAL]
  | x :: r, k, hg, hd => by
    rw [goodAL, Bool.and_eq_true] at hg
    rw [dpAL] at hd
    have h1 := lenArm x k hg.1 (by have := mx_l (dpA x k) (dpAL r k); omega)
    have h2 := lenAL r k hg.2 (by have := mx_r (dpA x k) (dpAL r k); omega)
    rw [prAL, cnAL]
    simp only [List.length_append]
    omega
theorem lenArm : ∀ (x : S83 × List S31 × S42) (k : Nat), goodA x = true → dpA x k < k → (prArm x).length ≤ 128 * cnA x k
  | (p, q), k, hg, hd => by
    rw [goodA, Bool.and_eq_true] at hg
    rw [dpA] at hd
    have hp : dpP p k < k := by
      have := mx_l (dpPL [p] k) (dpG q k)
      simp only [dpPL] at this hd
      have := mx_l (dpP p k) 0
      omega
    have h1 := lenP p k hg.1 hp
    have h2 := lenG q k hg.2 (by have := mx_r (dpPL [p] k) (dpG q k); omega)
    rw [prArm, cnA]
    simp only [List.length_cons, List.length_append, cnPL]
    omega
theorem lenG : ∀ (x : List S31 × S42) (k : Nat), goodG x = true → dpG x k < k → (prGd x).length ≤ 128 * cnG x k + 1
  | (g, b), k, hg, hd => by
    rw [goodG, Bool.and_eq_true, Bool.and_eq_true] at hg
    rw [dpG] at hd
    have h1 := lenWL g k hg.1.1 (by have := mx_l (dpEL g k) (dpB b k); omega)
    have h2 := lenB b k hg.2 (by have := mx_r (dpEL g k) (dpB b k); omega)
    rw [prGd, cnG]
    simp only [List.length_cons, List.length_append]
    omega
end
theorem lenJT : ∀ (l : List ByteArray), (∀ n, n ∈ l → n.size ≤ 32) → (Lib.joinTail [44, 32] (l.map bl)).length ≤ 34 * l.length
  | [], h => by simp [Lib.joinTail]
  | x :: r, h => by
    have h1 := h x (by simp)
    have h2 := lenJT r (fun n hn => h n (by simp [hn]))
    have h3 := size_bl x
    simp only [Lib.joinTail, List.map_cons, List.flatten_cons, List.length_append, List.length_cons, List.length_nil] at h2 ⊢
    omega
theorem lenJ (l : List ByteArray) (h : ∀ n, n ∈ l → n.size ≤ 32) : (Lib.join (l.map bl) [44, 32]).length ≤ 34 * l.length := by
  cases l with
  | nil => simp [Lib.join_nil]
  | cons x r =>
    have h1 := h x (by simp)
    have h2 := lenJT r (fun n hn => h n (by simp [hn]))
    have h3 := size_bl x
    rw [List.map_cons, Lib.join_cons, List.length_append, List.length_cons]
    omega
theorem lenDL : ∀ (l : List S44), l.all goodDef = true → dpDL l ≤ 64 → (prDL l).length ≤ 128 * cnDL l
  | [], hg, hd => by simp [prDL]
  | d :: r, hg, hd => by
    rw [List.all_cons, Bool.and_eq_true] at hg
    rw [dpDL] at hd
    have h2 := lenDL r hg.2 (by have := mx_r (dpB d.f3 65) (dpDL r); omega)
    have hgd := hg.1
    simp only [goodDef, Bool.and_eq_true, decide_eq_true_eq] at hgd
    have hn1 : d.f1.size ≤ 32 := nameOk_le hgd.1
    have h1 := lenB d.f3 65 hgd.2.2.1 (by have := mx_l (dpB d.f3 65) (dpDL r); omega)
    have h3 := lenJ d.f2 (fun n hn => nameOk_le (List.all_eq_true.mp hgd.2.2.2 n hn))
    have h4 := size_bl d.f1
    rw [prDL, prD, cnDL]
    simp only [List.length_cons, List.length_append, List.length_nil]
    omega
/-- A good program's text is not long. -/
theorem short_good (x : S25) (hg : goodPr x = true) : (prPr x).length ≤ 140737488355328 := by
  have hall : x.f0.all goodDef = true := by rw [goodPr, Bool.and_eq_true] at hg; exact hg.2
  have hhd : goodHd x = true := by rw [goodPr, Bool.and_eq_true] at hg; exact hg.1
  simp only [goodHd, Bool.and_eq_true, decide_eq_true_eq] at hhd
  have hgl : goodEL x.f3 = true := hhd.2.2.2.2.1
  have hn : x.f2.size ≤ 32 := nameOk_le hhd.2.2.2.1
  have hf := few_parts hhd.2.1
  have hd := hhd.2.2.1
  rw [deepPr, dpPr] at hd
  have h1 := lenDL x.f0 hall (by have := mx_r (dpEL x.f3 65) (dpDL x.f0); omega)
  have h2 := lenEL x.f3 65 hgl (by have := mx_l (dpEL x.f3 65) (dpDL x.f0); omega)
  have h3 := prEL_le x.f3
  have h4 := size_bl x.f2
  rw [prPr]
  simp only [List.length_cons, List.length_append, List.length_nil]
  omega
end Go.Proofs.YtjboncbmeanlgaaDoor.Tr
