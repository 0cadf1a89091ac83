/- DeepP, 1 declarations cut -/
import Derived.Test.YtjboncbmeanlgaaDoorQWalkA
/- The document's depth, plain, and that the walk's depth is that. -/
set_option linter.unusedVariables false
set_option linter.unusedSimpArgs false
namespace Go.Proofs.YtjboncbmeanlgaaDoor.Tr
open Go.RowKit Go.Proofs Go.Proofs.YtjboncbmeanlgaaDoor.PTreePrints Go.Proofs.YtjboncbmeanlgaaDoorW.PrintWords Go.Proofs.YtjboncbmeanlgaaDoorW.PrintMore Go.Proofs.YtjboncbmeanlgaaDoorW.PrintLast
/-- The greater. -/
def mx (a b : Int) : Int := if a < b then b else a
mutual
def dpE : S31 → Nat → Int
  | ⟨_, _, _, _, args⟩, k => match k with
    | 0 => 0
    | k + 1 => 1 + dpEL args k
def dpEL : List S31 → Nat → Int
  | [], _ => 0
  | x :: r, k => mx (dpE x k) (dpEL r k)
end
mutual
def dpP : S83 → Nat → Int
  | ⟨_, _, _, _, args⟩, k => match k with
    | 0 => 0
    | k + 1 => 1 + dpPL args k
def dpPL : List S83 → Nat → Int
  | [], _ => 0
  | x :: r, k => mx (dpP x k) (dpPL r k)
end
def dpSL : List S37 → Nat → Int
  | [], _ => 0
  | x :: r, k => mx (dpEL x.f4 k) (dpSL r k)
mutual
def dpB : S42 → Nat → Int
  | ⟨f0, _, _, _, f4, f5, f6, _, _⟩, k => match k with
    | 0 => 0
    | k + 1 => 1 + mx (mx (mx (dpEL f4 k) (dpSL f0 k)) (dpBL f5 k)) (dpAL f6 k)
def dpBL : List S42 → Nat → Int
  | [], _ => 0
  | x :: r, k => mx (dpB x k) (dpBL r k)
def dpAL : List (S83 × List S31 × S42) → Nat → Int
  | [], _ => 0
  | x :: r, k => mx (dpA x k) (dpAL r k)
def dpA : S83 × List S31 × S42 → Nat → Int
  | (p, q), k => mx (dpPL [p] k) (dpG q k)
def dpG : List S31 × S42 → Nat → Int
  | (g, b), k => mx (dpEL g k) (dpB b k)
end
def dpDL : List S44 → Int
  | [] => 0
  | x :: r => mx (dpB x.f3 65) (dpDL r)
/-- A program's depth. -/
def dpPr (x : S25) : Int := mx (dpEL x.f3 65) (dpDL x.f0)
mutual
theorem dpE_nn : ∀ (x : S31) (k : Nat), 0 ≤ dpE x k
  | ⟨_, _, _, _, args⟩, 0 => by simp only [dpE]; omega
  | ⟨_, _, _, _, args⟩, k + 1 => by have := dpEL_nn args k; simp only [dpE]; omega
theorem dpEL_nn : ∀ (l : List S31) (k : Nat), 0 ≤ dpEL l k
  | [], k => by simp only [dpEL]; omega
  | x :: r, k => by have := dpE_nn x k; have := dpEL_nn r k; simp only [dpEL, mx]; split <;> omega
end
mutual
theorem dpP_nn : ∀ (x : S83) (k : Nat), 0 ≤ dpP x k
  | ⟨_, _, _, _, args⟩, 0 => by simp only [dpP]; omega
  | ⟨_, _, _, _, args⟩, k + 1 => by have := dpPL_nn args k; simp only [dpP]; omega
theorem dpPL_nn : ∀ (l : List S83) (k : Nat), 0 ≤ dpPL l k
  | [], k => by simp only [dpPL]; omega
  | x :: r, k => by have := dpP_nn x k; have := dpPL_nn r k; simp only [dpPL, mx]; split <;> omega
end
theorem dpSL_nn : ∀ (l : List S37) (k : Nat), 0 ≤ dpSL l k
  | [], k => by simp only [dpSL]; omega
  | x :: r, k => by have := dpEL_nn x.f4 k; have := dpSL_nn r k; simp only [dpSL, mx]; split <;> omega
theorem mx_nn {a b : Int} (h : 0 ≤ a) (k : 0 ≤ b) : 0 ≤ mx a b := by unfold mx; split <;> omega
mutual
theorem dpB_nn : ∀ (x : S42) (k : Nat), 0 ≤ dpB x k
  | ⟨f0, _, _, _, f4, f5, f6, _, _⟩, 0 => by simp only [dpB]; omega
  | ⟨f0, _, _, _, f4, f5, f6, _, _⟩, k + 1 => by
    have h := mx_nn (mx_nn (mx_nn (dpEL_nn f4 k) (dpSL_nn f0 k)) (dpBL_nn f5 k)) (dpAL_nn f6 k)
    simp only [dpB]; omega
theorem dpBL_nn : ∀ (l : List S42) (k : Nat), 0 ≤ dpBL l k
  | [], k => by simp only [dpBL]; omega
  | x :: r, k => by rw [dpBL]; exact mx_nn (dpB_nn x k) (dpBL_nn r k)
theorem dpAL_nn : ∀ (l : List (S83 × List S31 × S42)) (k : Nat), 0 ≤ dpAL l k
  | [], k => by simp only [dpAL]; omega
  | x :: r, k => by rw [dpAL]; exact mx_nn (dpA_nn x k) (dpAL_nn r k)
theorem dpA_nn : ∀ (x : S83 × List S31 × S42) (k : Nat), 0 ≤ dpA x k
  | (p, q), k => by rw [dpA]; exact mx_nn (dpPL_nn [p] k) (dpG_nn q k)
theorem dpG_nn : ∀ (x : List S31 × S42) (k : Nat), 0 ≤ dpG x k
  | (g, b), k => by rw [dpG]; exact mx_nn (dpEL_nn g k) (dpB_nn b k)
end
theorem dpDL_nn : ∀ (l : List S44), 0 ≤ dpDL l
  | [] => by simp only [dpDL]; omega
  | x :: r => by rw [dpDL]; exact mx_nn (dpB_nn x.f3 65) (dpDL_nn r)
/-- What a part's depth is at its level: nothing, where there is no part. -/
def lift (lv : Nat) (d : Int) : Int := if 0 < d then lv - 1 + d else 0
theorem mx_assoc (a b c : Int) : mx (mx a b) c = mx a (mx b c) := by unfold mx; split <;> split <;> (try split) <;> (try split) <;> omega
theorem lift_mx {lv : Nat} (h : 1 ≤ lv) {a b : Int} (ha : 0 ≤ a) (hb : 0 ≤ b) : lift lv (mx a b) = mx (lift lv a) (lift lv b) := by
  unfold lift mx; split <;> split <;> (try split) <;> (try split) <;> (try split) <;> omega
theorem mx_z {m : Int} (h : 0 ≤ m) (lv : Nat) : mx m (lift lv 0) = m := by unfold mx lift; split <;> (try split) <;> omega
theorem mx_ge (m a : Int) : m ≤ mx m a := by unfold mx; split <;> omega
theorem stD_mx (m lv : Int) : stD m lv = mx m lv := rfl
theorem deep_step {lv : Nat} {m a : Int} (h : 1 ≤ lv) (hm : 0 ≤ m) (ha : 0 ≤ a) : mx (mx m lv) (lift (lv + 1) a) = mx m (lift lv (1 + a)) := by
  unfold lift mx; split <;> split <;> (try split) <;> (try split) <;> (try split) <;> omega
mutual
theorem deepE : ∀ (x : S31) (lv k : Nat) (m : Int), lv + k = 66 → 1 ≤ lv → 0 ≤ m → walkE stD x lv m = mx m (lift lv (dpE x k))
  | ⟨_, _, _, _, args⟩, lv, 0, m, h, h1, hm => by
    rw [walkE, if_neg (by omega)]; simp only [dpE]; rw [mx_z hm]
  | ⟨_, _, _, _, args⟩, lv, k + 1, m, h, h1, hm => by
    rw [walkE, if_pos (by omega), stD_mx, deepEL args (lv + 1) k _ (by omega) (by omega) (Int.le_trans hm (mx_ge _ _)), deep_step h1 hm (dpEL_nn args k)]
    simp only [dpE]
theorem deepEL : ∀ (l : List S31) (lv k : Nat) (m : Int), lv + k = 66 → 1 ≤ lv → 0 ≤ m → walkEL stD l lv m = mx m (lift lv (dpEL l k))
  | [], lv, k, m, h, h1, hm => by simp only [walkEL, dpEL]; rw [mx_z hm]
  | x :: r, lv, k, m, h, h1, hm => by
    rw [walkEL, deepE x lv k m h h1 hm, deepEL r lv k _ h h1 (Int.le_trans hm (mx_ge _ _)), dpEL, lift_mx h1 (dpE_nn x k) (dpEL_nn r k), mx_assoc]
end
mutual
theorem deepP : ∀ (x : S83) (lv k : Nat) (m : Int), lv + k = 66 → 1 ≤ lv → 0 ≤ m → walkP stD x lv m = mx m (lift lv (dpP x k))
  | ⟨_, _, _, _, args⟩, lv, 0, m, h, h1, hm => by
    rw [walkP, if_neg (by omega)]; simp only [dpP]; rw [mx_z hm]
  | ⟨_, _, _, _, args⟩, lv, k + 1, m, h, h1, hm => by
    rw [walkP, if_pos (by omega), stD_mx, deepPL args (lv + 1) k _ (by omega) (by omega) (Int.le_trans hm (mx_ge _ _)), deep_step h1 hm (dpPL_nn args k)]
    simp only [dpP]
theorem deepPL : ∀ (l : List S83) (lv k : Nat) (m : Int), lv + k = 66 → 1 ≤ lv → 0 ≤ m → walkPL stD l lv m = mx m (lift lv (dpPL l k))
  | [], lv, k, m, h, h1, hm => by simp only [walkPL, dpPL]; rw [mx_z hm]
  | x :: r, lv, k, m, h, h1, hm => by
    rw [walkPL, deepP x lv k m h h1 hm, deepPL r lv k _ h h1 (Int.le_trans hm (mx_ge _ _)), dpPL, lift_mx h1 (dpP_nn x k) (dpPL_nn r k), mx_assoc]
end
theorem deepSL : ∀ (l : List S37) (lv k : Nat) (m : Int), lv + 1 + k = 66 → 1 ≤ lv → 0 ≤ m → walkSL stD l lv m = mx m (lift (lv + 1) (dpSL l k))
  | [], lv, k, m, h, h1, hm => by simp only [walkSL, dpSL]; rw [mx_z hm]
  | x :: r, lv, k, m, h, h1, hm => by
    have e : stD m 0 = m := by unfold stD; split <;> omega
    rw [walkSL, e, deepEL x.f4 (lv + 1) k m h (by omega) hm, deepSL r lv k _ h h1 (Int.le_trans hm (mx_ge _ _)), dpSL, lift_mx (by omega) (dpEL_nn x.f4 k) (dpSL_nn r k), mx_assoc]
mutual
theorem deepB : ∀ (x : S42) (lv k : Nat) (m : Int), lv + k = 66 → 1 ≤ lv → 0 ≤ m → walkB stD x lv m = mx m (lift lv (dpB x k))
  | ⟨f0, _, _, _, f4, f5, f6, _, _⟩, lv, 0, m, h, h1, hm => by
    rw [walkB, if_neg (by omega)]; simp only [dpB]; rw [mx_z hm]
  | ⟨f0, _, _, _, f4, f5, f6, _, _⟩, lv, k + 1, m, h, h1, hm => by
    have h0 : 0 ≤ mx m lv := Int.le_trans hm (mx_ge _ _)
    have n1 := dpEL_nn f4 k
    have n2 := dpSL_nn f0 k
    have n3 := dpBL_nn f5 k
    have n4 := dpAL_nn f6 k
    rw [walkB, if_pos (by omega), stD_mx, deepEL f4 (lv + 1) k _ (by omega) (by omega) h0, deepSL f0 lv k _ (by omega) h1 (Int.le_trans h0 (mx_ge _ _)), mx_assoc, ← lift_mx (by omega) n1 n2,
      deepBL f5 lv k _ (by omega) h1 (Int.le_trans h0 (mx_ge _ _)), mx_assoc, ← lift_mx (by omega) (mx_nn n1 n2) n3,
      deepAL f6 lv k _ (by omega) h1 (Int.le_trans h0 (mx_ge _ _)), mx_assoc, ← lift_mx (by omega) (mx_nn (mx_nn n1 n2) n3) n4, deep_step h1 hm (mx_nn (mx_nn (mx_nn n1 n2) n3) n4)]
    simp only [dpB]
theorem deepBL : ∀ (l : List S42) (lv k : Nat) (m : Int), lv + 1 + k = 66 → 1 ≤ lv → 0 ≤ m → walkBL stD l lv m = mx m (lift (lv + 1) (dpBL l k))
  | [], lv, k, m, h, h1, hm => by simp only [walkBL, dpBL]; rw [mx_z hm]
  | x :: r, lv, k, m, h, h1, hm => by
    rw [walkBL, deepB x (lv + 1) k m h (by omega) hm, deepBL r lv k _ h h1 (Int.le_trans hm (mx_ge _ _)), dpBL, lift_mx (by omega) (dpB_nn x k) (dpBL_nn r k), mx_assoc]
theorem deepAL : ∀ (l : List (S83 × List S31 × S42)) (lv k : Nat) (m : Int), lv + 1 + k = 66 → 1 ≤ lv → 0 ≤ m → walkAL stD l lv m = mx m (lift (lv + 1) (dpAL l k))
  | [], lv, k, m, h, h1, hm => by simp only [walkAL, dpAL]; rw [mx_z hm]
  | x :: r, lv, k, m, h, h1, hm => by
    rw [walkAL, deepA x lv k m h h1 hm, deepAL r lv k _ h h1 (Int.le_trans hm (mx_ge _ _)), dpAL, lift_mx (by omega) (dpA_nn x k) (dpAL_nn r k), mx_assoc]
theorem deepA : ∀ (x : S83 × List S31 × S42) (lv k : Nat) (m : Int), lv + 1 + k = 66 → 1 ≤ lv → 0 ≤ m → walkA stD x lv m = mx m (lift (lv + 1) (dpA x k))
  | (p, q), lv, k, m, h, h1, hm => by
    rw [walkA, deepPL [p] (lv + 1) k m h (by omega) hm, deepG q lv k _ h h1 (Int.le_trans hm (mx_ge _ _)), dpA, lift_mx (by omega) (dpPL_nn [p] k) (dpG_nn q k), mx_assoc]
theorem deepG : ∀ (x : List S31 × S42) (lv k : Nat) (m : Int), lv + 1 + k = 66 → 1 ≤ lv → 0 ≤ m → walkG stD x lv m = mx m (lift (lv + 1) (dpG x k))
  | (g, b), lv, k, m, h, h1, hm => by
    rw [walkG, deepEL g (lv + 1) k m h (by omega) hm, deepB b (lv + 1) k _ h (by omega) (Int.le_trans hm (mx_ge _ _)), dpG, lift_mx (by omega) (dpEL_nn g k) (dpB_nn b k), mx_assoc]
end
theorem stD_zero (m : Int) (h : 0 ≤ m) : stD m 0 = m := by unfold stD; split <;> omega
theorem deepN : ∀ (n : Nat) (m : Int), 0 ≤ m → walkN stD n m = m
  | 0, m, h => rfl
  | n + 1, m, h => by rw [walkN, stD_zero m h, deepN n m h]
theorem lift1 {d : Int} (h : 0 ≤ d) : lift 1 d = d := by unfold lift; split <;> omega
theorem deepDL : ∀ (l : List S44) (m : Int), 0 ≤ m → walkDL stD l m = mx m (dpDL l)
  | [], m, h => by simp only [walkDL, dpDL]; unfold mx; split <;> omega
  | x :: r, m, h => by
    rw [walkDL, stD_zero m h, deepN _ m h, deepB x.f3 1 65 m rfl (by omega) h, lift1 (dpB_nn _ _), deepDL r _ (Int.le_trans h (mx_ge _ _)), dpDL, mx_assoc]
theorem mx_comm (a b : Int) : mx a b = mx b a := by unfold mx; split <;> split <;> omega
/-- The walk's depth is the document's. -/
theorem deepPr (x : S25) : walkPr stD x 0 = dpPr x := by
  have h := mx_nn (Int.le_refl 0) (dpDL_nn x.f0)
  rw [walkPr, deepDL _ _ (Int.le_refl 0), deepEL x.f3 1 65 _ rfl (by omega) h, lift1 (dpEL_nn _ _), dpPr, mx_comm (dpEL x.f3 65)]
  congr 1
  have := dpDL_nn x.f0
  unfold mx; split <;> omega
theorem dpEL_snoc : ∀ (l : List S31) (x : S31) (k : Nat), dpEL (l ++ [x]) k = mx (dpEL l k) (dpE x k)
  | [], x, k => by simp only [List.nil_append, dpEL]; exact mx_comm _ _
  | y :: l, x, k => by rw [List.cons_append, dpEL, dpEL_snoc l x k, dpEL, mx_assoc]
theorem dpPL_snoc : ∀ (l : List S83) (x : S83) (k : Nat), dpPL (l ++ [x]) k = mx (dpPL l k) (dpP x k)
  | [], x, k => by simp only [List.nil_append, dpPL]; exact mx_comm _ _
  | y :: l, x, k => by rw [List.cons_append, dpPL, dpPL_snoc l x k, dpPL, mx_assoc]
theorem dpSL_snoc : ∀ (l : List S37) (x : S37) (k : Nat), dpSL (l ++ [x]) k = mx (dpSL l k) (dpEL x.f4 k)
  | [], x, k => by simp only [List.nil_append, dpSL]; exact mx_comm _ _
  | y :: l, x, k => by rw [List.cons_append, dpSL, dpSL_snoc l x k, dpSL, mx_assoc]
theorem dpBL_snoc : ∀ (l : List S42) (x : S42) (k : Nat), dpBL (l ++ [x]) k = mx (dpBL l k) (dpB x k)
  | [], x, k => by simp only [List.nil_append, dpBL]; exact mx_comm _ _
  | y :: l, x, k => by rw [List.cons_append, dpBL, dpBL_snoc l x k, dpBL, mx_assoc]
theorem dpAL_snoc : ∀ (l : List Arm) (x : Arm) (k : Nat), dpAL (l ++ [x]) k = mx (dpAL l k) (dpA x k)
  | [], x, k => by simp only [List.nil_append, dpAL]; exact mx_comm _ _
  | y :: l, x, k => by rw [List.cons_append, dpAL, dpAL_snoc l x k, dpAL, mx_assoc]
theorem dpDL_snoc : ∀ (l : List S44) (x : S44), dpDL (l ++ [x]) = mx (dpDL l) (dpB x.f3 65)
  | [], x => by simp only [List.nil_append, dpDL]; exact mx_comm _ _
  | y :: l, x => by rw [List.cons_append, dpDL, dpDL_snoc l x, dpDL, mx_assoc]
end Go.Proofs.YtjboncbmeanlgaaDoor.Tr
