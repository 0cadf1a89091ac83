/- DepthE -/
import Derived.Test.YtjboncbmeanlgaaDoorQDeepP
/- The document's depth: expressions, patterns. -/
set_option linter.unusedVariables false
set_option linter.unusedSimpArgs false
namespace Go.Proofs.YtjboncbmeanlgaaDoor.Tr
open Go.RowKit Go.Proofs Go.Proofs.YtjboncbmeanlgaaDoor.PTreePrints Go.Proofs.YtjboncbmeanlgaaDoorW.PrintWords Go.Proofs.YtjboncbmeanlgaaDoorW.PrintMore Go.Proofs.YtjboncbmeanlgaaDoorW.PrintLast
theorem mx_le {a b c : Int} (h : a ≤ c) (k : b ≤ c) : mx a b ≤ c := by unfold mx; split <;> omega
mutual
theorem dpE_le : ∀ (x : S31) (k : Nat), dpE x k ≤ k
  | ⟨_, _, _, _, args⟩, 0 => by simp only [dpE]; omega
  | ⟨_, _, _, _, args⟩, k + 1 => by have := dpEL_le args k; simp only [dpE]; omega
theorem dpEL_le : ∀ (l : List S31) (k : Nat), dpEL l k ≤ k
  | [], k => by simp only [dpEL]; omega
  | x :: r, k => by rw [dpEL]; exact mx_le (dpE_le x k) (dpEL_le r k)
end
mutual
theorem dpP_le : ∀ (x : S83) (k : Nat), dpP x k ≤ k
  | ⟨_, _, _, _, args⟩, 0 => by simp only [dpP]; omega
  | ⟨_, _, _, _, args⟩, k + 1 => by have := dpPL_le args k; simp only [dpP]; omega
theorem dpPL_le : ∀ (l : List S83) (k : Nat), dpPL l k ≤ k
  | [], k => by simp only [dpPL]; omega
  | x :: r, k => by rw [dpPL]; exact mx_le (dpP_le x k) (dpPL_le r k)
end
theorem dpSL_le : ∀ (l : List S37) (k : Nat), dpSL l k ≤ k
  | [], k => by simp only [dpSL]; omega
  | x :: r, k => by rw [dpSL]; exact mx_le (dpEL_le x.f4 k) (dpSL_le r k)
mutual
theorem dpB_le : ∀ (x : S42) (k : Nat), dpB x k ≤ k
  | ⟨f0, _, _, _, f4, f5, f6, _, _⟩, 0 => by simp only [dpB]; omega
  | ⟨f0, _, _, _, f4, f5, f6, _, _⟩, k + 1 => by
    have h := mx_le (mx_le (mx_le (dpEL_le f4 k) (dpSL_le f0 k)) (dpBL_le f5 k)) (dpAL_le f6 k)
    simp only [dpB]; omega
theorem dpBL_le : ∀ (l : List S42) (k : Nat), dpBL l k ≤ k
  | [], k => by simp only [dpBL]; omega
  | x :: r, k => by rw [dpBL]; exact mx_le (dpB_le x k) (dpBL_le r k)
theorem dpAL_le : ∀ (l : List (S83 × List S31 × S42)) (k : Nat), dpAL l k ≤ k
  | [], k => by simp only [dpAL]; omega
  | x :: r, k => by rw [dpAL]; exact mx_le (dpA_le x k) (dpAL_le r k)
theorem dpA_le : ∀ (x : S83 × List S31 × S42) (k : Nat), dpA x k ≤ k
  | (p, q), k => by rw [dpA]; exact mx_le (dpPL_le [p] k) (dpG_le q k)
theorem dpG_le : ∀ (x : List S31 × S42) (k : Nat), dpG x k ≤ k
  | (g, b), k => by rw [dpG]; exact mx_le (dpEL_le g k) (dpB_le b k)
end
theorem dpE_s : ∀ (x : S31) (k : Nat), dpE x (k + 1) = 1 + dpEL x.f4 k
  | ⟨_, _, _, _, args⟩, k => by simp only [dpE]
theorem dpP_s : ∀ (x : S83) (k : Nat), dpP x (k + 1) = 1 + dpPL x.f4 k
  | ⟨_, _, _, _, args⟩, k => by simp only [dpP]
theorem dpEL_z (l : List S31) : dpEL l 0 = 0 := by have := dpEL_le l 0; have := dpEL_nn l 0; omega
theorem dpPL_z (l : List S83) : dpPL l 0 = 0 := by have := dpPL_le l 0; have := dpPL_nn l 0; omega
/-- A depth, told. -/
def TellsD (d : Int) (W : World) (e : Ending) (W' : World) : Prop := e = .returned (.int .i64 d) ∧ Below W.heap.size W W'
/-- What is to be shown of some expressions. -/
def DE (w0 : World) (l : List S31) : Prop := ∀ (A : Option Addr) (c k : Nat) (W : World), k ≤ 65 → Below w0.heap.size w0 W → Kd.C k31 w0 A l.length l → l.length ≤ 9223372036854775807 → l.length ≤ c →
  Calls Tryd.prog 32 #[.agg #[], .slice A l.length c, .int .i64 (k : Int)] W (TellsD (dpEL l k) W)
set_option maxRecDepth 100000 in
set_option maxHeartbeats 16000000 in
theorem DE_ok (w0 : World) (l : List S31) (hI : ∀ y, y ∈ l → DE w0 y.f4) : DE w0 l := by
  intro A c k W hk hW hC hlen hc
  have HI := Lib.hid hI
  have HC := Lib.hid hC
  have HW := Lib.hid hW
  clear hI hC hW
  go_enter Tryd.func32, Tryd.ntmps32
  have hal := below_alloc (Below.refl _ W) (.cells #[] 68)
  have XP := Lib.hid (blk_new W (.cells #[] 68))
  have BL := Lib.hid hal
  clear hal
  go_upto_region 1 with fail
  generalize W.alloc (.cells #[] 68) = wp at *
  generalize hgx : W.heap.size = gx at *
  have BW := Lib.hid (show Below W.heap.size W wp by rw [hgx]; exact BL.out)
  clear BL hgx
  cases k with
  | zero =>
    go_wp2
    go_loopw [8, 7] (fun v8 v7 wr => v8 = .int .i64 0 ∧ v7 = .int .i64 0 ∧ Hid (wr = wp)) (fun _ _ _ => 0)
    case atStart => exact ⟨rfl, rfl, Lib.hid rfl⟩
    case round =>
      obtain ⟨rfl, rfl, HE⟩ := hrel
      have he := HE.out
      subst he
      cases l with
      | nil =>
        go_wp2
        go_ret
        exact ⟨by rw [dpEL_z]; rfl, BW.out⟩
      | cons y r =>
        have h0 : (0 : Int) < ((r.length + 1 : Nat) : Int) := by omega
        simp only [List.length_cons] at *
        go_wp2
        go_ret
        exact ⟨by rw [dpEL_z]; rfl, BW.out⟩
  | succ k =>
    have hk0 : ((k + 1 : Nat) : Int) > 0 := by omega
    have hkw : wrap64 (((k + 1 : Nat) : Int) - 1) = (k : Int) := by unfold wrap64; omega
    generalize hq : ((k + 1 : Nat) : Int) = kq at *
    have HQ := Lib.hid hq
    clear hq
    go_wp2
    go_loopw [8, 7] (fun v8 v7 wr => ∃ i : Nat, v8 = .int .i64 i ∧ v7 = .int .i64 (dpEL (l.take i) (k + 1)) ∧ i ≤ l.length ∧ Hid (Below wp.heap.size wp wr)) (fun v8 _ _ => l.length - (intOf v8).toNat)
    case atStart => exact ⟨0, by go_num, by simp only [List.take_zero, dpEL], Nat.zero_le _, Lib.hid (Below.refl _ _)⟩
    case round =>
      obtain ⟨i, rfl, rfl, hil, HB⟩ := hrel
      obtain ⟨wq, hwq⟩ : ∃ wq, wq = wr := ⟨_, rfl⟩
      subst hwq
      by_cases hlt : i < l.length
      · have q1 : (i : Int) < (l.length : Int) := by omega
        have q0 : (0 : Int) ≤ (i : Int) := by omega
        have BQ := Lib.hid (below_step (below_step (Below.refl _ W) BW.out) HB.out)
        have BR := Lib.hid (below_step HW.out BQ.out)
        obtain ⟨ad, A5, c5, hA, u0, u1, u2, u3, u4, hc5, hC5⟩ := at_T31 HC.out (i : Int) q0 q1
        subst hA
        rw [rd31 l i hlt, Int.toNat_natCast] at u0 u1 u2 u3 u4
        rw [rd31 l i hlt] at hc5 hC5
        replace u4 := (BR.out.cell (World.block_lt_of_cell? w0 _ u4)).trans u4
        clear u0 u1 u2 u3
        have HE := Lib.hid (HI.out l[i] (List.getElem_mem hlt))
        have HT := Lib.hid (show dpEL (l.take (i + 1)) (k + 1) = mx (dpEL (l.take i) (k + 1)) (1 + dpEL l[i].f4 k) by rw [List.take_succ_eq_append_getElem hlt, dpEL_snoc]; rw [dpE_s])
        have HC5 := Lib.hid hC5
        have hnn := dpEL_nn l[i].f4 k
        have hle := dpEL_le l[i].f4 k
        clear hC5
        generalize l[i] = x at *
        generalize dpEL (l.take i) (k + 1) = mi at *
        have XQ := Lib.hid (blk_below XP.out HB.out)
        have HEX := Lib.hid (fun (W' : World) (hB : Below w0.heap.size w0 W') => (show Calls Tryd.prog 32 #[.agg #[], .slice A5 x.f4.length c5, .int .i64 (wrap64 (kq - 1))] W' (TellsD (dpEL x.f4 k) W') by rw [hkw]; exact HE.out A5 c5 k W' (by omega) hB HC5.out (C_len HC5.out) hc5))
        have hwr : wrap64 (1 + dpEL x.f4 k) = 1 + dpEL x.f4 k := by unfold wrap64; omega
        obtain ⟨dq, hdq⟩ : ∃ dq, dq = dpEL x.f4 k := ⟨_, rfl⟩
        rw [← hdq] at hwr
        have HDQ := Lib.hid hdq
        clear hdq hnn hle
        go_upto_region 5 with fail
        refine start_ (n := 13) (S := fun w' => w'.heap[gx]? = some (.cells #[] 68 (0, 0)) ∧ w'.cell? ⟨(ad.add (i * 5)).block, (ad.add (i * 5)).off + 4, none⟩ = some (.slice A5 x.f4.length c5)) (ds := []) #[false, false, false, false, false, false, false, false, false, false, false, false, false] (by kernel_rfl) rfl rfl ⟨XQ.out, u4⟩ (fun hHeld => ?_)
        have BD0 := Lib.hid HB.out.drew
        have BD := Lib.hid BR.out.drew
        have XD := Lib.hid (show wq.drew.heap[gx]? = some (.cells #[] 68 (0, 0)) from XQ.out)
        have UD := Lib.hid (show wq.drew.cell? ⟨(ad.add (i * 5)).block, (ad.add (i * 5)).off + 4, none⟩ = some (.slice A5 x.f4.length c5) from u4)
        generalize wq.drew = WD at *
        refine pure_ (i := 0) (N := some 19) (v := ?_) (a' := ?_) #[true, false, false, false, false, false, false, false, false, false, false, false, false] rfl rfl (by kernel_rfl) (fun _ _ _ h => h) (Or.inl ⟨by rfl, ?_⟩) ?_ ?_
        rotate_left
        · intro w'
          go_simp
          with_reducible rfl
        rotate_left
        · simp only [Act.put, List.setIfInBounds_toArray, List.set_cons_zero, List.set_cons_succ, i64_w, i32_w]
          rfl
        refine pure_ (i := 2) (N := some 21) (v := ?_) (a' := ?_) #[true, false, true, false, false, false, false, false, false, false, false, false, false] rfl rfl (by kernel_rfl) (fun _ _ _ h => h) (Or.inl ⟨by rfl, ?_⟩) ?_ ?_
        rotate_left
        · intro w'
          go_simp
          with_reducible rfl
        rotate_left
        · simp only [Act.put, List.setIfInBounds_toArray, List.set_cons_zero, List.set_cons_succ, i64_w, i32_w]
          rfl
        refine pure_ (i := 3) (N := some 22) (v := ?_) (a' := ?_) #[true, false, true, true, false, false, false, false, false, false, false, false, false] rfl rfl (by kernel_rfl) (fun _ _ _ h => h) (Or.inl ⟨by rfl, ?_⟩) ?_ ?_
        rotate_left
        · intro w'
          go_simp
          with_reducible rfl
        rotate_left
        · simp only [Act.put, List.setIfInBounds_toArray, List.set_cons_zero, List.set_cons_succ, i64_w, i32_w]
          rfl
        refine pure_ (i := 4) (N := some 23) (v := ?_) (a' := ?_) #[true, false, true, true, true, false, false, false, false, false, false, false, false] rfl rfl (by kernel_rfl) (fun _ _ _ h => h) (Or.inl ⟨by rfl, ?_⟩) ?_ ?_
        rotate_left
        · intro w'
          go_simp
          with_reducible rfl
        rotate_left
        · simp only [Act.put, List.setIfInBounds_toArray, List.set_cons_zero, List.set_cons_succ, i64_w, i32_w]
          rfl
        refine pure_ (i := 5) (N := some 24) (v := ?_) (a' := ?_) #[true, false, true, true, true, true, false, false, false, false, false, false, false] rfl rfl (by kernel_rfl) (fun _ _ _ h => h) (Or.inl ⟨by rfl, ?_⟩) ?_ ?_
        rotate_left
        · intro w'
          go_simp
          with_reducible rfl
        rotate_left
        · simp only [Act.put, List.setIfInBounds_toArray, List.set_cons_zero, List.set_cons_succ, i64_w, i32_w]
          rfl
        refine pure_ (i := 7) (N := some 26) (v := ?_) (a' := ?_) #[true, false, true, true, true, true, false, true, false, false, false, false, false] rfl rfl (by kernel_rfl) (fun _ _ _ h => h) (Or.inl ⟨by rfl, ?_⟩) ?_ ?_
        rotate_left
        · intro w'
          go_simp
          with_reducible rfl
        rotate_left
        · simp only [Act.put, List.setIfInBounds_toArray, List.set_cons_zero, List.set_cons_succ, i64_w, i32_w]
          rfl
        refine pure_ (i := 8) (N := some 27) (v := ?_) (a' := ?_) #[true, false, true, true, true, true, false, true, true, false, false, false, false] rfl rfl (by kernel_rfl) (fun _ _ _ h => h) (Or.inl ⟨by rfl, ?_⟩) ?_ ?_
        rotate_left
        · intro w'
          go_simp
          with_reducible rfl
        rotate_left
        · simp only [Act.put, List.setIfInBounds_toArray, List.set_cons_zero, List.set_cons_succ, i64_w, i32_w]
          rfl
        refine take_ (i := 1) (N := some 20) (v := ?_) (a' := ?_) #[true, true, true, true, true, true, false, true, true, false, false, false, false] rfl rfl (by kernel_rfl) (fun _ _ _ h => h) (Or.inl ⟨by rfl, ?_⟩) hHeld ?_ ?_
        rotate_left
        · rintro w' ⟨s0, s1⟩
          go_simp
          with_reducible rfl
        rotate_left
        · simp only [Act.put, List.setIfInBounds_toArray, List.set_cons_zero, List.set_cons_succ, i64_w, i32_w]
          rfl
        refine take_ (i := 6) (N := some 25) (v := ?_) (a' := ?_) #[true, true, true, true, true, true, true, true, true, false, false, false, false] rfl rfl (by kernel_rfl) (fun _ _ _ h => h) (Or.inl ⟨by rfl, ?_⟩) hHeld ?_ ?_
        rotate_left
        · rintro w' ⟨s0, s1⟩
          go_simp
          with_reducible rfl
        rotate_left
        · simp only [Act.put, List.setIfInBounds_toArray, List.set_cons_zero, List.set_cons_succ, i64_w, i32_w]
          rfl
        refine one_ (i := 9) (N := some 28) #[true, true, true, true, true, true, true, true, true, true, false, false, false] rfl rfl (by kernel_rfl) (by decide) (fun K hK => ?_)
        refine goes_ Tryd.func32 (by kernel_rfl) rfl #[.agg #[], .slice A5 x.f4.length c5, .int .i64 (wrap64 (kq - 1))] (by rfl) rfl rfl (by simp only [List.map_toArray, List.map_cons, List.map_nil]; rfl) ?_
        with_reducible refine (HEX.out _ BD.out).mono ?_
        rintro e w9 ⟨rfl, hb9⟩
        refine ⟨_, rfl, ?_⟩
        have B9 := Lib.hid (below_step BD0.out hb9)
        rw [← HDQ.out]
        refine hK.out _ _ ⟨(blk_below XD.out hb9), ((hb9.cell (World.block_lt_of_cell? _ _ UD.out)).trans UD.out)⟩ (fun hHeld => ?_)
        clear hK K
        refine norm_ (a' := ?_) ?_ ?_
        rotate_left
        · show Act.put _ (some 28) _ = _
          simp only [Act.put, List.setIfInBounds_toArray, List.set_cons_zero, List.set_cons_succ, i64_w, i32_w]
          rfl
        refine pure_ (i := 10) (N := some 29) (v := ?_) (a' := ?_) #[true, true, true, true, true, true, true, true, true, true, true, false, false] rfl rfl (by kernel_rfl) (fun _ _ _ h => h) (Or.inl ⟨by rfl, ?_⟩) ?_ ?_
        rotate_left
        · intro w'
          go_simp
          with_reducible rfl
        rotate_left
        · simp only [Act.put, List.setIfInBounds_toArray, List.set_cons_zero, List.set_cons_succ, i64_w, i32_w]
          rfl
        refine pure_ (i := 11) (N := some 30) (v := ?_) (a' := ?_) #[true, true, true, true, true, true, true, true, true, true, true, true, false] rfl rfl (by kernel_rfl) (fun _ _ _ h => h) (Or.inl ⟨by rfl, ?_⟩) ?_ ?_
        rotate_left
        · intro w'
          go_simp
          with_reducible rfl
        rotate_left
        · simp only [Act.put, List.setIfInBounds_toArray, List.set_cons_zero, List.set_cons_succ, i64_w, i32_w]
          rfl
        refine pure_ (i := 12) (N := some 7) (v := ?_) (a' := ?_) #[true, true, true, true, true, true, true, true, true, true, true, true, true] rfl rfl (by kernel_rfl) (fun _ _ _ h => h) (Or.inl ⟨by rfl, ?_⟩) ?_ ?_
        rotate_left
        · intro w'
          go_simp
          with_reducible rfl
        rotate_left
        · simp only [Act.put, List.setIfInBounds_toArray, List.set_cons_zero, List.set_cons_succ, i64_w, i32_w]
          rfl
        refine done_ (by kernel_rfl) ?_
        clear hHeld
        go_wp2
        go_roundw
        case rel => first | exact ⟨i + 1, by go_num, by rw [HT.out, ← HDQ.out]; rfl, hlt, B9⟩ | exact ⟨i + 1, by go_num, by rw [HT.out, ← HDQ.out]; simp only [mx], hlt, B9⟩
        case measure => simp [intOf]; omega
      · obtain rfl : i = l.length := by omega
        rw [List.take_length]
        go_wp2
        go_ret
        exact ⟨rfl, below_step BW.out HB.out⟩
theorem DE_any (w0 : World) : ∀ (n : Nat) (l : List S31), SizeOf.sizeOf l ≤ n → DE w0 l := by
  intro n
  induction n with
  | zero =>
    intro l hl
    cases l <;> simp at hl
  | succ n ih =>
    intro l hl
    refine DE_ok w0 l (fun x hx => ih x.f4 ?_)
    have h1 := List.sizeOf_lt_of_mem hx
    cases x
    simp at h1 ⊢
    omega
theorem DE_call (w0 : World) (l : List S31) : DE w0 l := DE_any w0 _ l (Nat.le_refl _)
/-- What is to be shown of some patterns. -/
def DPt (w0 : World) (l : List S83) : Prop := ∀ (A : Option Addr) (c k : Nat) (W : World), k ≤ 65 → Below w0.heap.size w0 W → RdP w0 w0.heap.size W A l → l.length ≤ 9223372036854775807 → l.length ≤ c →
  Calls Tryd.prog 59 #[.agg #[], .slice A l.length c, .int .i64 (k : Int)] W (TellsD (dpPL l k) W)
set_option maxRecDepth 100000 in
set_option maxHeartbeats 16000000 in
theorem DPt_ok (w0 : World) (l : List S83) (hI : ∀ y, y ∈ l → DPt w0 y.f4) : DPt w0 l := by
  intro A c k W hk hW hC hlen hc
  have HI := Lib.hid hI
  have HC := Lib.hid hC
  have HW := Lib.hid hW
  clear hI hC hW
  go_enter Tryd.func59, Tryd.ntmps59
  have hal := below_alloc (Below.refl _ W) (.cells #[] 68)
  have XP := Lib.hid (blk_new W (.cells #[] 68))
  have BL := Lib.hid hal
  clear hal
  go_upto_region 1 with fail
  generalize W.alloc (.cells #[] 68) = wp at *
  generalize hgx : W.heap.size = gx at *
  have BW := Lib.hid (show Below W.heap.size W wp by rw [hgx]; exact BL.out)
  clear BL hgx
  cases k with
  | zero =>
    go_wp2
    go_loopw [8, 7] (fun v8 v7 wr => v8 = .int .i64 0 ∧ v7 = .int .i64 0 ∧ Hid (wr = wp)) (fun _ _ _ => 0)
    case atStart => exact ⟨rfl, rfl, Lib.hid rfl⟩
    case round =>
      obtain ⟨rfl, rfl, HE⟩ := hrel
      have he := HE.out
      subst he
      cases l with
      | nil =>
        go_wp2
        go_ret
        exact ⟨by rw [dpPL_z]; rfl, BW.out⟩
      | cons y r =>
        have h0 : (0 : Int) < ((r.length + 1 : Nat) : Int) := by omega
        simp only [List.length_cons] at *
        go_wp2
        go_ret
        exact ⟨by rw [dpPL_z]; rfl, BW.out⟩
  | succ k =>
    have hk0 : ((k + 1 : Nat) : Int) > 0 := by omega
    have hkw : wrap64 (((k + 1 : Nat) : Int) - 1) = (k : Int) := by unfold wrap64; omega
    generalize hq : ((k + 1 : Nat) : Int) = kq at *
    have HQ := Lib.hid hq
    clear hq
    go_wp2
    go_loopw [8, 7] (fun v8 v7 wr => ∃ i : Nat, v8 = .int .i64 i ∧ v7 = .int .i64 (dpPL (l.take i) (k + 1)) ∧ i ≤ l.length ∧ Hid (Below wp.heap.size wp wr)) (fun v8 _ _ => l.length - (intOf v8).toNat)
    case atStart => exact ⟨0, by go_num, by simp only [List.take_zero, dpPL], Nat.zero_le _, Lib.hid (Below.refl _ _)⟩
    case round =>
      obtain ⟨i, rfl, rfl, hil, HB⟩ := hrel
      obtain ⟨wq, hwq⟩ : ∃ wq, wq = wr := ⟨_, rfl⟩
      subst hwq
      by_cases hlt : i < l.length
      · have q1 : (i : Int) < (l.length : Int) := by omega
        have q0 : (0 : Int) ≤ (i : Int) := by omega
        have BQ := Lib.hid (below_step (below_step (Below.refl _ W) BW.out) HB.out)
        have BR := Lib.hid (below_step HW.out BQ.out)
        obtain ⟨ad, A5, c5, hA, u0, u1, u2, u3, u4, hc5, hC5⟩ := HC.out wq (KX.of_below BQ.out) i hlt
        subst hA
        clear u0 u1 u2 u3
        have HE := Lib.hid (HI.out l[i] (List.getElem_mem hlt))
        have HT := Lib.hid (show dpPL (l.take (i + 1)) (k + 1) = mx (dpPL (l.take i) (k + 1)) (1 + dpPL l[i].f4 k) by rw [List.take_succ_eq_append_getElem hlt, dpPL_snoc]; rw [dpP_s])
        have HC5 := Lib.hid hC5
        have hnn := dpPL_nn l[i].f4 k
        have hle := dpPL_le l[i].f4 k
        clear hC5
        generalize l[i] = x at *
        generalize dpPL (l.take i) (k + 1) = mi at *
        have XQ := Lib.hid (blk_below XP.out HB.out)
        have HEX := Lib.hid (fun (W' : World) (hB : Below w0.heap.size w0 W') => (show Calls Tryd.prog 59 #[.agg #[], .slice A5 x.f4.length c5, .int .i64 (wrap64 (kq - 1))] W' (TellsD (dpPL x.f4 k) W') by rw [hkw]; exact HE.out A5 c5 k W' (by omega) hB (RdP.of_C hB (Nat.le_refl _) HC5.out) (C_len HC5.out) hc5))
        have hwr : wrap64 (1 + dpPL x.f4 k) = 1 + dpPL x.f4 k := by unfold wrap64; omega
        obtain ⟨dq, hdq⟩ : ∃ dq, dq = dpPL x.f4 k := ⟨_, rfl⟩
        rw [← hdq] at hwr
        have HDQ := Lib.hid hdq
        clear hdq hnn hle
        go_upto_region 5 with fail
        refine start_ (n := 13) (S := fun w' => w'.heap[gx]? = some (.cells #[] 68 (0, 0)) ∧ w'.cell? ⟨(ad.add (i * 5)).block, (ad.add (i * 5)).off + 4, none⟩ = some (.slice A5 x.f4.length c5)) (ds := []) #[false, false, false, false, false, false, false, false, false, false, false, false, false] (by kernel_rfl) rfl rfl ⟨XQ.out, u4⟩ (fun hHeld => ?_)
        have BD0 := Lib.hid HB.out.drew
        have BD := Lib.hid BR.out.drew
        have XD := Lib.hid (show wq.drew.heap[gx]? = some (.cells #[] 68 (0, 0)) from XQ.out)
        have UD := Lib.hid (show wq.drew.cell? ⟨(ad.add (i * 5)).block, (ad.add (i * 5)).off + 4, none⟩ = some (.slice A5 x.f4.length c5) from u4)
        generalize wq.drew = WD at *
        refine pure_ (i := 0) (N := some 19) (v := ?_) (a' := ?_) #[true, false, false, false, false, false, false, false, false, false, false, false, false] rfl rfl (by kernel_rfl) (fun _ _ _ h => h) (Or.inl ⟨by rfl, ?_⟩) ?_ ?_
        rotate_left
        · intro w'
          go_simp
          with_reducible rfl
        rotate_left
        · simp only [Act.put, List.setIfInBounds_toArray, List.set_cons_zero, List.set_cons_succ, i64_w, i32_w]
          rfl
        refine pure_ (i := 2) (N := some 21) (v := ?_) (a' := ?_) #[true, false, true, false, false, false, false, false, false, false, false, false, false] rfl rfl (by kernel_rfl) (fun _ _ _ h => h) (Or.inl ⟨by rfl, ?_⟩) ?_ ?_
        rotate_left
        · intro w'
          go_simp
          with_reducible rfl
        rotate_left
        · simp only [Act.put, List.setIfInBounds_toArray, List.set_cons_zero, List.set_cons_succ, i64_w, i32_w]
          rfl
        refine pure_ (i := 3) (N := some 22) (v := ?_) (a' := ?_) #[true, false, true, true, false, false, false, false, false, false, false, false, false] rfl rfl (by kernel_rfl) (fun _ _ _ h => h) (Or.inl ⟨by rfl, ?_⟩) ?_ ?_
        rotate_left
        · intro w'
          go_simp
          with_reducible rfl
        rotate_left
        · simp only [Act.put, List.setIfInBounds_toArray, List.set_cons_zero, List.set_cons_succ, i64_w, i32_w]
          rfl
        refine pure_ (i := 4) (N := some 23) (v := ?_) (a' := ?_) #[true, false, true, true, true, false, false, false, false, false, false, false, false] rfl rfl (by kernel_rfl) (fun _ _ _ h => h) (Or.inl ⟨by rfl, ?_⟩) ?_ ?_
        rotate_left
        · intro w'
          go_simp
          with_reducible rfl
        rotate_left
        · simp only [Act.put, List.setIfInBounds_toArray, List.set_cons_zero, List.set_cons_succ, i64_w, i32_w]
          rfl
        refine pure_ (i := 5) (N := some 24) (v := ?_) (a' := ?_) #[true, false, true, true, true, true, false, false, false, false, false, false, false] rfl rfl (by kernel_rfl) (fun _ _ _ h => h) (Or.inl ⟨by rfl, ?_⟩) ?_ ?_
        rotate_left
        · intro w'
          go_simp
          with_reducible rfl
        rotate_left
        · simp only [Act.put, List.setIfInBounds_toArray, List.set_cons_zero, List.set_cons_succ, i64_w, i32_w]
          rfl
        refine pure_ (i := 7) (N := some 26) (v := ?_) (a' := ?_) #[true, false, true, true, true, true, false, true, false, false, false, false, false] rfl rfl (by kernel_rfl) (fun _ _ _ h => h) (Or.inl ⟨by rfl, ?_⟩) ?_ ?_
        rotate_left
        · intro w'
          go_simp
          with_reducible rfl
        rotate_left
        · simp only [Act.put, List.setIfInBounds_toArray, List.set_cons_zero, List.set_cons_succ, i64_w, i32_w]
          rfl
        refine pure_ (i := 8) (N := some 27) (v := ?_) (a' := ?_) #[true, false, true, true, true, true, false, true, true, false, false, false, false] rfl rfl (by kernel_rfl) (fun _ _ _ h => h) (Or.inl ⟨by rfl, ?_⟩) ?_ ?_
        rotate_left
        · intro w'
          go_simp
          with_reducible rfl
        rotate_left
        · simp only [Act.put, List.setIfInBounds_toArray, List.set_cons_zero, List.set_cons_succ, i64_w, i32_w]
          rfl
        refine take_ (i := 1) (N := some 20) (v := ?_) (a' := ?_) #[true, true, true, true, true, true, false, true, true, false, false, false, false] rfl rfl (by kernel_rfl) (fun _ _ _ h => h) (Or.inl ⟨by rfl, ?_⟩) hHeld ?_ ?_
        rotate_left
        · rintro w' ⟨s0, s1⟩
          go_simp
          with_reducible rfl
        rotate_left
        · simp only [Act.put, List.setIfInBounds_toArray, List.set_cons_zero, List.set_cons_succ, i64_w, i32_w]
          rfl
        refine take_ (i := 6) (N := some 25) (v := ?_) (a' := ?_) #[true, true, true, true, true, true, true, true, true, false, false, false, false] rfl rfl (by kernel_rfl) (fun _ _ _ h => h) (Or.inl ⟨by rfl, ?_⟩) hHeld ?_ ?_
        rotate_left
        · rintro w' ⟨s0, s1⟩
          go_simp
          with_reducible rfl
        rotate_left
        · simp only [Act.put, List.setIfInBounds_toArray, List.set_cons_zero, List.set_cons_succ, i64_w, i32_w]
          rfl
        refine one_ (i := 9) (N := some 28) #[true, true, true, true, true, true, true, true, true, true, false, false, false] rfl rfl (by kernel_rfl) (by decide) (fun K hK => ?_)
        refine goes_ Tryd.func59 (by kernel_rfl) rfl #[.agg #[], .slice A5 x.f4.length c5, .int .i64 (wrap64 (kq - 1))] (by rfl) rfl rfl (by simp only [List.map_toArray, List.map_cons, List.map_nil]; rfl) ?_
        with_reducible refine (HEX.out _ BD.out).mono ?_
        rintro e w9 ⟨rfl, hb9⟩
        refine ⟨_, rfl, ?_⟩
        have B9 := Lib.hid (below_step BD0.out hb9)
        rw [← HDQ.out]
        refine hK.out _ _ ⟨(blk_below XD.out hb9), ((hb9.cell (World.block_lt_of_cell? _ _ UD.out)).trans UD.out)⟩ (fun hHeld => ?_)
        clear hK K
        refine norm_ (a' := ?_) ?_ ?_
        rotate_left
        · show Act.put _ (some 28) _ = _
          simp only [Act.put, List.setIfInBounds_toArray, List.set_cons_zero, List.set_cons_succ, i64_w, i32_w]
          rfl
        refine pure_ (i := 10) (N := some 29) (v := ?_) (a' := ?_) #[true, true, true, true, true, true, true, true, true, true, true, false, false] rfl rfl (by kernel_rfl) (fun _ _ _ h => h) (Or.inl ⟨by rfl, ?_⟩) ?_ ?_
        rotate_left
        · intro w'
          go_simp
          with_reducible rfl
        rotate_left
        · simp only [Act.put, List.setIfInBounds_toArray, List.set_cons_zero, List.set_cons_succ, i64_w, i32_w]
          rfl
        refine pure_ (i := 11) (N := some 30) (v := ?_) (a' := ?_) #[true, true, true, true, true, true, true, true, true, true, true, true, false] rfl rfl (by kernel_rfl) (fun _ _ _ h => h) (Or.inl ⟨by rfl, ?_⟩) ?_ ?_
        rotate_left
        · intro w'
          go_simp
          with_reducible rfl
        rotate_left
        · simp only [Act.put, List.setIfInBounds_toArray, List.set_cons_zero, List.set_cons_succ, i64_w, i32_w]
          rfl
        refine pure_ (i := 12) (N := some 7) (v := ?_) (a' := ?_) #[true, true, true, true, true, true, true, true, true, true, true, true, true] rfl rfl (by kernel_rfl) (fun _ _ _ h => h) (Or.inl ⟨by rfl, ?_⟩) ?_ ?_
        rotate_left
        · intro w'
          go_simp
          with_reducible rfl
        rotate_left
        · simp only [Act.put, List.setIfInBounds_toArray, List.set_cons_zero, List.set_cons_succ, i64_w, i32_w]
          rfl
        refine done_ (by kernel_rfl) ?_
        clear hHeld
        go_wp2
        go_roundw
        case rel => first | exact ⟨i + 1, by go_num, by rw [HT.out, ← HDQ.out]; rfl, hlt, B9⟩ | exact ⟨i + 1, by go_num, by rw [HT.out, ← HDQ.out]; simp only [mx], hlt, B9⟩
        case measure => simp [intOf]; omega
      · obtain rfl : i = l.length := by omega
        rw [List.take_length]
        go_wp2
        go_ret
        exact ⟨rfl, below_step BW.out HB.out⟩
theorem DPt_any (w0 : World) : ∀ (n : Nat) (l : List S83), SizeOf.sizeOf l ≤ n → DPt w0 l := by
  intro n
  induction n with
  | zero =>
    intro l hl
    cases l <;> simp at hl
  | succ n ih =>
    intro l hl
    refine DPt_ok w0 l (fun x hx => ih x.f4 ?_)
    have h1 := List.sizeOf_lt_of_mem hx
    cases x
    simp at h1 ⊢
    omega
theorem DPt_call (w0 : World) (l : List S83) : DPt w0 l := DPt_any w0 _ l (Nat.le_refl _)
end Go.Proofs.YtjboncbmeanlgaaDoor.Tr
