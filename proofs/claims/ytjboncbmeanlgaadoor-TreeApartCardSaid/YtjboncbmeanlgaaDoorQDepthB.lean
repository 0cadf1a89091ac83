/- DepthB -/
import Derived.Test.YtjboncbmeanlgaaDoorQDepthE
/- The document's depth: bodies, programs. -/
set_option linter.unusedVariables false
set_option linter.unusedSimpArgs false
namespace Go.Proofs.YtjboncbmeanlgaaDoor.Tr
open Go.RowKit Go.Proofs Go.Proofs.YtjboncbmeanlgaaDoor.PTreePrints Go.Proofs.YtjboncbmeanlgaaDoorW.PrintWords Go.Proofs.YtjboncbmeanlgaaDoorW.PrintMore Go.Proofs.YtjboncbmeanlgaaDoorW.PrintLast
theorem mx_shift (a b c : Int) : mx a (mx b c) = mx (mx a b) c := (mx_assoc a b c).symm
theorem mx_zero {a : Int} (h : 0 ≤ a) : mx a 0 = a := by unfold mx; split <;> omega
/-- What is to be shown of a body. -/
def DB (w0 : World) (x : S42) : Prop := ∀ (A0 : Option Addr) (c0 : Nat) (A4 : Option Addr) (c4 : Nat) (A5 : Option Addr) (c5 : Nat) (A6 : Option Addr) (c6 : Nat) (k : Nat) (W : World), k ≤ 65 → Below w0.heap.size w0 W → BodyC w0 x A0 c0 A4 c4 A5 c5 A6 c6 →
  Calls Tryd.prog 33 #[.agg #[], bodyV x A0 c0 A4 c4 A5 c5 A6 c6, .int .i64 (k : Int)] W (TellsD (dpB x k) W)
set_option maxRecDepth 100000 in
set_option maxHeartbeats 64000000 in
theorem DB_ok (w0 : World) (x : S42) (hI : ∀ y, y ∈ x.f5 → DB w0 y) (hJ : ∀ y, y ∈ x.f6 → DB w0 y.2.2) : DB w0 x := by
  obtain ⟨f0, f1, f2, f3, f4, f5, f6, f7, f8⟩ := x
  intro A0 c0 A4 c4 A5 c5 A6 c6 k W hk hW hB
  simp only at hI hJ
  have hln0 := C_len hB.g0
  have hln5 := C_len hB.g5
  have hln6 := C_len hB.g6
  simp only at hln0 hln5 hln6
  have HI := Lib.hid hI
  have HJ := Lib.hid hJ
  have HB := Lib.hid hB
  have HW := Lib.hid hW
  clear hI hJ hB hW
  unfold bodyV
  simp only
  go_enter Tryd.func33, Tryd.ntmps33
  have s1 : (W.alloc (.cells #[] 68)).heap.size = W.heap.size + 1 := by simp
  have X4 := blk_new (W.alloc (.cells #[] 68)) (.cells #[.slice A0 f0.length c0, .int .i64 f1, .int .i64 f2, .string f3, .slice A4 f4.length c4, .slice A5 f5.length c5, .slice A6 f6.length c6, .bool f7, .int .i64 f8] 42)
  have X3 := Lib.hid (blk_alloc (blk_new W (.cells #[] 68)) (.cells #[.slice A0 f0.length c0, .int .i64 f1, .int .i64 f2, .string f3, .slice A4 f4.length c4, .slice A5 f5.length c5, .slice A6 f6.length c6, .bool f7, .int .i64 f8] 42))
  rw [s1] at X4
  have XP := Lib.hid X4
  have BL := Lib.hid (below_alloc (below_alloc (Below.refl _ W) (.cells #[] 68)) (.cells #[.slice A0 f0.length c0, .int .i64 f1, .int .i64 f2, .string f3, .slice A4 f4.length c4, .slice A5 f5.length c5, .slice A6 f6.length c6, .bool f7, .int .i64 f8] 42))
  have hsz : ((W.alloc (.cells #[] 68)).alloc (.cells #[.slice A0 f0.length c0, .int .i64 f1, .int .i64 f2, .string f3, .slice A4 f4.length c4, .slice A5 f5.length c5, .slice A6 f6.length c6, .bool f7, .int .i64 f8] 42)).heap.size = W.heap.size + 1 + 1 := by simp
  clear s1 X4
  go_upto_region 1 with fail
  generalize ((W.alloc (.cells #[] 68)).alloc (.cells #[.slice A0 f0.length c0, .int .i64 f1, .int .i64 f2, .string f3, .slice A4 f4.length c4, .slice A5 f5.length c5, .slice A6 f6.length c6, .bool f7, .int .i64 f8] 42)) = wp at *
  have HSZ := Lib.hid (show w0.heap.size < wp.heap.size by have := HW.out.size; omega)
  clear hsz
  generalize hgy : W.heap.size + 1 = gy at *
  generalize hgx : W.heap.size = gx at *
  have BW := Lib.hid (show Below W.heap.size W wp by rw [hgx]; exact BL.out)
  clear BL hgx hgy
  cases k with
  | zero =>
    go_wp2
    go_ret
    exact ⟨by have h1 := dpB_le ⟨f0, f1, f2, f3, f4, f5, f6, f7, f8⟩ 0; have h2 := dpB_nn ⟨f0, f1, f2, f3, f4, f5, f6, f7, f8⟩ 0; rw [show dpB ⟨f0, f1, f2, f3, f4, f5, f6, f7, f8⟩ 0 = 0 by omega]; rfl, BW.out⟩
  | succ k =>
    have hk0 : ¬ (((k + 1 : Nat) : Int) = 0) := by omega
    have hkw : wrap64 (((k + 1 : Nat) : Int) - 1) = (k : Int) := by unfold wrap64; omega
    have HV := Lib.hid (show dpB ⟨f0, f1, f2, f3, f4, f5, f6, f7, f8⟩ (k + 1) = 1 + mx (mx (mx (dpEL f4 k) (dpSL f0 k)) (dpBL f5 k)) (dpAL f6 k) by simp only [dpB])
    generalize hq : ((k + 1 : Nat) : Int) = kq at *
    have HQ := Lib.hid hq
    clear hq
    have HBW := Lib.hid (below_step HW.out BW.out)
    have CEx := Lib.hid (fun (l : List S31) (A : Option Addr) (c : Nat) (W' : World) (hB : Below w0.heap.size w0 W') (hC : Kd.C k31 w0 A l.length l) (hc : l.length ≤ c) => (show Calls Tryd.prog 32 #[.agg #[], .slice A l.length c, .int .i64 (wrap64 (kq - 1))] W' (TellsD (dpEL l k) W') by rw [hkw]; exact DE_call w0 l A c k W' (by omega) hB hC (C_len hC) hc))
    have CPx := Lib.hid (fun (l : List S83) (A : Option Addr) (c : Nat) (W' : World) (hB : Below w0.heap.size w0 W') (hC : RdP w0 w0.heap.size W' A l) (hl : l.length ≤ 9223372036854775807) (hc : l.length ≤ c) => (show Calls Tryd.prog 59 #[.agg #[], .slice A l.length c, .int .i64 (wrap64 (kq - 1))] W' (TellsD (dpPL l k) W') by rw [hkw]; exact DPt_call w0 l A c k W' (by omega) hB hC hl hc))
    have y4 := blk_cell XP.out 4
    have z3 := X3.out
    go_upto_region 4 with (go_at_call 32; refine ((show Calls Tryd.prog 32 #[.agg #[], .slice A4 f4.length c4, .int .i64 (k : Int)] _ (TellsD (dpEL f4 k) _) from by have h := CEx.out f4 A4 c4 _ HBW.out HB.out.g4 HB.out.l4; rwa [hkw] at h)).mono ?_; rintro e w6 ⟨rfl, hd⟩; have B6 := Lib.hid hd; clear hd)
    clear y4 z3
    obtain ⟨d0, hd0⟩ : ∃ q, q = dpEL f4 k := ⟨_, rfl⟩
    rw [← hd0]
    have HD0 := Lib.hid hd0
    clear hd0
    have F3 := Lib.hid (fun (W' : World) (h : Below wp.heap.size wp W') => blk_below X3.out h)
    have F4 := Lib.hid (fun (W' : World) (h : Below wp.heap.size wp W') => blk_below XP.out h)
    have y0 := blk_cell (F4.out _ B6.out) 0
    have HNd0 := Lib.hid (show 0 ≤ d0 by rw [HD0.out]; exact dpEL_nn f4 k)
    have BCd0 := Lib.hid B6.out
    clear B6
    generalize w6 = wp' at *
    go_wp2
    go_loopw [8, 7] (fun vi v7 wr => ∃ i : Nat, vi = .int .i64 i ∧ v7 = .int .i64 (mx d0 (dpSL (f0.take i) k)) ∧ i ≤ f0.length ∧ Hid (Below wp.heap.size wp wr)) (fun vi _ _ => f0.length - (intOf vi).toNat)
    case atStart => exact ⟨0, by go_num, by rw [List.take_zero]; simp only [dpSL]; rw [mx_zero HNd0.out], Nat.zero_le _, BCd0⟩
    case round =>
      obtain ⟨i, rfl, rfl, hil, HQB⟩ := hrel
      clear y0
      have y0 := blk_cell (F4.out _ HQB.out) 0
      obtain ⟨wq, hwq⟩ : ∃ wq, wq = wr := ⟨_, rfl⟩
      subst hwq
      by_cases hlt : i < f0.length
      · have q1 : (i : Int) < (f0.length : Int) := by omega
        have q0 : (0 : Int) ≤ (i : Int) := by omega
        obtain ⟨ad_, A9, c9, hA_, u0, u1, u2, u3, u4, hX_⟩ := at_T37 HB.out.g0 (i : Int) q0 q1
        subst hA_
        rw [rd37 f0 i hlt, Int.toNat_natCast] at u0 u1 u2 u3 u4
        rw [rd37 f0 i hlt] at hX_
        have V0 := Lib.hid (fun (W' : World) (h : Below wp.heap.size wp W') => ((below_step HBW.out h).cell (World.block_lt_of_cell? w0 _ u0)).trans u0)
        have V1 := Lib.hid (fun (W' : World) (h : Below wp.heap.size wp W') => ((below_step HBW.out h).cell (World.block_lt_of_cell? w0 _ u1)).trans u1)
        have V2 := Lib.hid (fun (W' : World) (h : Below wp.heap.size wp W') => ((below_step HBW.out h).cell (World.block_lt_of_cell? w0 _ u2)).trans u2)
        have V3 := Lib.hid (fun (W' : World) (h : Below wp.heap.size wp W') => ((below_step HBW.out h).cell (World.block_lt_of_cell? w0 _ u3)).trans u3)
        have V4 := Lib.hid (fun (W' : World) (h : Below wp.heap.size wp W') => ((below_step HBW.out h).cell (World.block_lt_of_cell? w0 _ u4)).trans u4)
        clear u0 u1 u2 u3 u4
        have HT := Lib.hid (show mx d0 (dpSL (f0.take (i + 1)) k) = mx (mx d0 (dpSL (f0.take i) k)) (dpEL f0[i].f4 k) by rw [List.take_succ_eq_append_getElem hlt, dpSL_snoc, mx_shift])
        have HZ := Lib.hid hX_
        clear hX_
        generalize f0[i] = x at *
        generalize mx d0 (dpSL (f0.take i) k) = mi at *
        go_upto_region 7 with fail
        have BD1 := Lib.hid (HQB.out).drew
        refine start_ (n := 13) (S := fun w' => w'.heap[gx]? = some (.cells #[] 68 (0, 0)) ∧ w'.cell? ⟨gy, 0, none⟩ = some (.slice (some ad_) f0.length c0) ∧ w'.cell? ⟨(ad_.add (i * 5)).block, (ad_.add (i * 5)).off + 4, none⟩ = some (.slice A9 x.f4.length c9)) (ds := []) #[false, false, false, false, false, false, false, false, false, false, false, false, false] (by kernel_rfl) rfl rfl ⟨(F3.out _ BD1.out), (blk_cell (F4.out _ BD1.out) 0), (V4.out _ BD1.out)⟩ (fun hHeld => ?_)
        generalize wq.drew = WD1 at *
        refine pure_ (i := 0) (N := some 26) (v := ?_) (a' := ?_) #[true, false, false, false, false, false, false, false, false, false, false, false, false] rfl rfl (by kernel_rfl) (fun _ _ _ h => h) (Or.inl ⟨by rfl, ?_⟩) ?_ ?_
        rotate_left
        · intro w'
          go_simp
          with_reducible rfl
        rotate_left
        · simp only [Act.put, List.setIfInBounds_toArray, List.set_cons_zero, List.set_cons_succ, i64_w, i32_w]
          rfl
        refine pure_ (i := 2) (N := some 28) (v := ?_) (a' := ?_) #[true, false, true, false, false, false, false, false, false, false, false, false, false] rfl rfl (by kernel_rfl) (fun _ _ _ h => h) (Or.inl ⟨by rfl, ?_⟩) ?_ ?_
        rotate_left
        · intro w'
          go_simp
          with_reducible rfl
        rotate_left
        · simp only [Act.put, List.setIfInBounds_toArray, List.set_cons_zero, List.set_cons_succ, i64_w, i32_w]
          rfl
        refine pure_ (i := 4) (N := some 30) (v := ?_) (a' := ?_) #[true, false, true, false, true, false, false, false, false, false, false, false, false] rfl rfl (by kernel_rfl) (fun _ _ _ h => h) (Or.inl ⟨by rfl, ?_⟩) ?_ ?_
        rotate_left
        · intro w'
          go_simp
          with_reducible rfl
        rotate_left
        · simp only [Act.put, List.setIfInBounds_toArray, List.set_cons_zero, List.set_cons_succ, i64_w, i32_w]
          rfl
        refine pure_ (i := 8) (N := some 34) (v := ?_) (a' := ?_) #[true, false, true, false, true, false, false, false, true, false, false, false, false] rfl rfl (by kernel_rfl) (fun _ _ _ h => h) (Or.inl ⟨by rfl, ?_⟩) ?_ ?_
        rotate_left
        · intro w'
          go_simp
          with_reducible rfl
        rotate_left
        · simp only [Act.put, List.setIfInBounds_toArray, List.set_cons_zero, List.set_cons_succ, i64_w, i32_w]
          rfl
        refine pure_ (i := 9) (N := some 35) (v := ?_) (a' := ?_) #[true, false, true, false, true, false, false, false, true, true, false, false, false] rfl rfl (by kernel_rfl) (fun _ _ _ h => h) (Or.inl ⟨by rfl, ?_⟩) ?_ ?_
        rotate_left
        · intro w'
          go_simp
          with_reducible rfl
        rotate_left
        · simp only [Act.put, List.setIfInBounds_toArray, List.set_cons_zero, List.set_cons_succ, i64_w, i32_w]
          rfl
        refine take_ (i := 1) (N := some 27) (v := ?_) (a' := ?_) #[true, true, true, false, true, false, false, false, true, true, false, false, false] rfl rfl (by kernel_rfl) (fun _ _ _ h => h) (Or.inl ⟨by rfl, ?_⟩) hHeld ?_ ?_
        rotate_left
        · rintro w' ⟨s0, s1, s2⟩
          go_simp
          with_reducible rfl
        rotate_left
        · simp only [Act.put, List.setIfInBounds_toArray, List.set_cons_zero, List.set_cons_succ, i64_w, i32_w]
          rfl
        refine take_ (i := 3) (N := some 29) (v := ?_) (a' := ?_) #[true, true, true, true, true, false, false, false, true, true, false, false, false] rfl rfl (by kernel_rfl) (fun _ _ _ h => h) (Or.inl ⟨by rfl, ?_⟩) hHeld ?_ ?_
        rotate_left
        · rintro w' ⟨s0, s1, s2⟩
          go_simp
          with_reducible rfl
        rotate_left
        · simp only [Act.put, List.setIfInBounds_toArray, List.set_cons_zero, List.set_cons_succ, i64_w, i32_w]
          rfl
        refine pure_ (i := 5) (N := some 31) (v := ?_) (a' := ?_) #[true, true, true, true, true, true, false, false, true, true, false, false, false] rfl rfl (by kernel_rfl) (fun _ _ _ h => h) (Or.inl ⟨by rfl, ?_⟩) ?_ ?_
        rotate_left
        · intro w'
          go_simp
          with_reducible rfl
        rotate_left
        · simp only [Act.put, List.setIfInBounds_toArray, List.set_cons_zero, List.set_cons_succ, i64_w, i32_w]
          rfl
        refine pure_ (i := 6) (N := some 32) (v := ?_) (a' := ?_) #[true, true, true, true, true, true, true, false, true, true, false, false, false] rfl rfl (by kernel_rfl) (fun _ _ _ h => h) (Or.inl ⟨by rfl, ?_⟩) ?_ ?_
        rotate_left
        · intro w'
          go_simp
          with_reducible rfl
        rotate_left
        · simp only [Act.put, List.setIfInBounds_toArray, List.set_cons_zero, List.set_cons_succ, i64_w, i32_w]
          rfl
        refine take_ (i := 7) (N := some 33) (v := ?_) (a' := ?_) #[true, true, true, true, true, true, true, true, true, true, false, false, false] rfl rfl (by kernel_rfl) (fun _ _ _ h => h) (Or.inl ⟨by rfl, ?_⟩) hHeld ?_ ?_
        rotate_left
        · rintro w' ⟨s0, s1, s2⟩
          go_simp
          with_reducible rfl
        rotate_left
        · simp only [Act.put, List.setIfInBounds_toArray, List.set_cons_zero, List.set_cons_succ, i64_w, i32_w]
          rfl
        refine one_ (i := 10) (N := some 36) #[true, true, true, true, true, true, true, true, true, true, true, false, false] rfl rfl (by kernel_rfl) (by decide) (fun K hK => ?_)
        refine goes_ Tryd.func32 (by kernel_rfl) rfl #[.agg #[], .slice A9 x.f4.length c9, .int .i64 (wrap64 (kq - 1))] (by rfl) rfl rfl (by simp only [List.map_toArray, List.map_cons, List.map_nil]; rfl) ?_
        with_reducible refine (CEx.out x.f4 A9 c9 _ (below_step HBW.out BD1.out) HZ.out.2 HZ.out.1).mono ?_
        rintro e w91 ⟨rfl, hb9⟩
        refine ⟨_, rfl, ?_⟩
        have B91 := Lib.hid (below_step BD1.out hb9)
        refine hK.out _ _ ⟨(F3.out _ B91.out), (blk_cell (F4.out _ B91.out) 0), (V4.out _ B91.out)⟩ (fun hHeld => ?_)
        clear hK K
        refine norm_ (a' := ?_) ?_ ?_
        rotate_left
        · show Act.put _ (some 36) _ = _
          simp only [Act.put, List.setIfInBounds_toArray, List.set_cons_zero, List.set_cons_succ, i64_w, i32_w]
          rfl
        refine pure_ (i := 11) (N := some 37) (v := ?_) (a' := ?_) #[true, true, true, true, true, true, true, true, true, true, true, true, false] rfl rfl (by kernel_rfl) (fun _ _ _ h => h) (Or.inl ⟨by rfl, ?_⟩) ?_ ?_
        rotate_left
        · intro w'
          go_simp
          with_reducible rfl
        rotate_left
        · simp only [Act.put, List.setIfInBounds_toArray, List.set_cons_zero, List.set_cons_succ, i64_w, i32_w]
          rfl
        refine pure_ (i := 12) (N := some 7) (v := ?_) (a' := ?_) #[true, true, true, true, true, true, true, true, true, true, true, true, true] rfl rfl (by kernel_rfl) (fun _ _ _ h => h) (Or.inl ⟨by rfl, ?_⟩) ?_ ?_
        rotate_left
        · intro w'
          go_simp
          with_reducible rfl
        rotate_left
        · simp only [Act.put, List.setIfInBounds_toArray, List.set_cons_zero, List.set_cons_succ, i64_w, i32_w]
          rfl
        refine done_ (by kernel_rfl) ?_
        clear hHeld
        go_wp2
        go_roundw
        case rel => exact ⟨i + 1, by go_num, by rw [HT.out]; rfl, hlt, B91⟩
        case measure => simp [intOf]; omega
      · obtain rfl : i = f0.length := by omega
        rw [List.take_length]
        obtain ⟨d1, hd1⟩ : ∃ q, q = mx d0 (dpSL f0 k) := ⟨_, rfl⟩
        have HNd1 := Lib.hid (show 0 ≤ d1 by rw [hd1]; exact mx_nn HNd0.out (dpSL_nn f0 k))
        rw [← hd1]
        have HD_d1 := Lib.hid hd1
        clear hd1
        have BCd1 := Lib.hid HQB.out
        clear HQB
        have y5 := blk_cell (F4.out _ BCd1.out) 5
        generalize wq = wp'' at *
        go_wp2
        go_loopw [9, 7] (fun vi v7 wr => ∃ i : Nat, vi = .int .i64 i ∧ v7 = .int .i64 (mx d1 (dpBL (f5.take i) k)) ∧ i ≤ f5.length ∧ Hid (Below wp.heap.size wp wr)) (fun vi _ _ => f5.length - (intOf vi).toNat)
        case atStart => exact ⟨0, by go_num, by rw [List.take_zero]; simp only [dpBL]; rw [mx_zero HNd1.out], Nat.zero_le _, BCd1⟩
        case round =>
          obtain ⟨i, rfl, rfl, hil, HQB⟩ := hrel
          clear y5
          have y5 := blk_cell (F4.out _ HQB.out) 5
          obtain ⟨wq, hwq⟩ : ∃ wq, wq = wr := ⟨_, rfl⟩
          subst hwq
          by_cases hlt : i < f5.length
          · have q1 : (i : Int) < (f5.length : Int) := by omega
            have q0 : (0 : Int) ≤ (i : Int) := by omega
            obtain ⟨ad_, B0, b0, B4, b4, B5, b5, B6, b6, hA_, u0, u1, u2, u3, u4, u5, u6, u7, u8, hX_⟩ := at_T42 HB.out.g5 (i : Int) q0 q1
            subst hA_
            rw [rd42 f5 i hlt, Int.toNat_natCast] at u0 u1 u2 u3 u4 u5 u6 u7 u8
            rw [rd42 f5 i hlt] at hX_
            have V0 := Lib.hid (fun (W' : World) (h : Below wp.heap.size wp W') => ((below_step HBW.out h).cell (World.block_lt_of_cell? w0 _ u0)).trans u0)
            have V1 := Lib.hid (fun (W' : World) (h : Below wp.heap.size wp W') => ((below_step HBW.out h).cell (World.block_lt_of_cell? w0 _ u1)).trans u1)
            have V2 := Lib.hid (fun (W' : World) (h : Below wp.heap.size wp W') => ((below_step HBW.out h).cell (World.block_lt_of_cell? w0 _ u2)).trans u2)
            have V3 := Lib.hid (fun (W' : World) (h : Below wp.heap.size wp W') => ((below_step HBW.out h).cell (World.block_lt_of_cell? w0 _ u3)).trans u3)
            have V4 := Lib.hid (fun (W' : World) (h : Below wp.heap.size wp W') => ((below_step HBW.out h).cell (World.block_lt_of_cell? w0 _ u4)).trans u4)
            have V5 := Lib.hid (fun (W' : World) (h : Below wp.heap.size wp W') => ((below_step HBW.out h).cell (World.block_lt_of_cell? w0 _ u5)).trans u5)
            have V6 := Lib.hid (fun (W' : World) (h : Below wp.heap.size wp W') => ((below_step HBW.out h).cell (World.block_lt_of_cell? w0 _ u6)).trans u6)
            have V7 := Lib.hid (fun (W' : World) (h : Below wp.heap.size wp W') => ((below_step HBW.out h).cell (World.block_lt_of_cell? w0 _ u7)).trans u7)
            have V8 := Lib.hid (fun (W' : World) (h : Below wp.heap.size wp W') => ((below_step HBW.out h).cell (World.block_lt_of_cell? w0 _ u8)).trans u8)
            clear u0 u1 u2 u3 u4 u5 u6 u7 u8
            have HT := Lib.hid (show mx d1 (dpBL (f5.take (i + 1)) k) = mx (mx d1 (dpBL (f5.take i) k)) (dpB f5[i] k) by rw [List.take_succ_eq_append_getElem hlt, dpBL_snoc, mx_shift])
            have HZ := Lib.hid hX_
            clear hX_
            have HE := Lib.hid (fun (W' : World) (hB : Below w0.heap.size w0 W') (hC : BodyC w0 f5[i] B0 b0 B4 b4 B5 b5 B6 b6) => (show Calls Tryd.prog 33 #[.agg #[], bodyV f5[i] B0 b0 B4 b4 B5 b5 B6 b6, .int .i64 (wrap64 (kq - 1))] W' (TellsD (dpB f5[i] k) W') by rw [hkw]; exact HI.out f5[i] (List.getElem_mem hlt) B0 b0 B4 b4 B5 b5 B6 b6 k W' (by omega) hB hC))
            generalize f5[i] = x at *
            generalize mx d1 (dpBL (f5.take i) k) = mi at *
            go_upto_region 11 with fail
            have BD2 := Lib.hid (HQB.out).drew
            refine start_ (n := 12) (S := fun w' => w'.heap[gx]? = some (.cells #[] 68 (0, 0)) ∧ w'.cell? ⟨gy, 5, none⟩ = some (.slice (some ad_) f5.length c5) ∧ w'.cell? (ad_.add (i * 9)) = some (.slice B0 x.f0.length b0) ∧ w'.cell? ⟨(ad_.add (i * 9)).block, (ad_.add (i * 9)).off + 1, none⟩ = some (.int .i64 x.f1) ∧ w'.cell? ⟨(ad_.add (i * 9)).block, (ad_.add (i * 9)).off + 2, none⟩ = some (.int .i64 x.f2) ∧ w'.cell? ⟨(ad_.add (i * 9)).block, (ad_.add (i * 9)).off + 3, none⟩ = some (.string x.f3) ∧ w'.cell? ⟨(ad_.add (i * 9)).block, (ad_.add (i * 9)).off + 4, none⟩ = some (.slice B4 x.f4.length b4) ∧ w'.cell? ⟨(ad_.add (i * 9)).block, (ad_.add (i * 9)).off + 5, none⟩ = some (.slice B5 x.f5.length b5) ∧ w'.cell? ⟨(ad_.add (i * 9)).block, (ad_.add (i * 9)).off + 6, none⟩ = some (.slice B6 x.f6.length b6) ∧ w'.cell? ⟨(ad_.add (i * 9)).block, (ad_.add (i * 9)).off + 7, none⟩ = some (.bool x.f7) ∧ w'.cell? ⟨(ad_.add (i * 9)).block, (ad_.add (i * 9)).off + 8, none⟩ = some (.int .i64 x.f8)) (ds := []) #[false, false, false, false, false, false, false, false, false, false, false, false] (by kernel_rfl) rfl rfl ⟨(F3.out _ BD2.out), (blk_cell (F4.out _ BD2.out) 5), (V0.out _ BD2.out), (V1.out _ BD2.out), (V2.out _ BD2.out), (V3.out _ BD2.out), (V4.out _ BD2.out), (V5.out _ BD2.out), (V6.out _ BD2.out), (V7.out _ BD2.out), (V8.out _ BD2.out)⟩ (fun hHeld => ?_)
            generalize wq.drew = WD2 at *
            refine pure_ (i := 0) (N := some 45) (v := ?_) (a' := ?_) #[true, false, false, false, false, false, false, false, false, false, false, false] rfl rfl (by kernel_rfl) (fun _ _ _ h => h) (Or.inl ⟨by rfl, ?_⟩) ?_ ?_
            rotate_left
            · intro w'
              go_simp
              with_reducible rfl
            rotate_left
            · simp only [Act.put, List.setIfInBounds_toArray, List.set_cons_zero, List.set_cons_succ, i64_w, i32_w]
              rfl
            refine pure_ (i := 2) (N := some 47) (v := ?_) (a' := ?_) #[true, false, true, false, false, false, false, false, false, false, false, false] rfl rfl (by kernel_rfl) (fun _ _ _ h => h) (Or.inl ⟨by rfl, ?_⟩) ?_ ?_
            rotate_left
            · intro w'
              go_simp
              with_reducible rfl
            rotate_left
            · simp only [Act.put, List.setIfInBounds_toArray, List.set_cons_zero, List.set_cons_succ, i64_w, i32_w]
              rfl
            refine pure_ (i := 4) (N := some 49) (v := ?_) (a' := ?_) #[true, false, true, false, true, false, false, false, false, false, false, false] rfl rfl (by kernel_rfl) (fun _ _ _ h => h) (Or.inl ⟨by rfl, ?_⟩) ?_ ?_
            rotate_left
            · intro w'
              go_simp
              with_reducible rfl
            rotate_left
            · simp only [Act.put, List.setIfInBounds_toArray, List.set_cons_zero, List.set_cons_succ, i64_w, i32_w]
              rfl
            refine pure_ (i := 7) (N := some 52) (v := ?_) (a' := ?_) #[true, false, true, false, true, false, false, true, false, false, false, false] rfl rfl (by kernel_rfl) (fun _ _ _ h => h) (Or.inl ⟨by rfl, ?_⟩) ?_ ?_
            rotate_left
            · intro w'
              go_simp
              with_reducible rfl
            rotate_left
            · simp only [Act.put, List.setIfInBounds_toArray, List.set_cons_zero, List.set_cons_succ, i64_w, i32_w]
              rfl
            refine pure_ (i := 8) (N := some 53) (v := ?_) (a' := ?_) #[true, false, true, false, true, false, false, true, true, false, false, false] rfl rfl (by kernel_rfl) (fun _ _ _ h => h) (Or.inl ⟨by rfl, ?_⟩) ?_ ?_
            rotate_left
            · intro w'
              go_simp
              with_reducible rfl
            rotate_left
            · simp only [Act.put, List.setIfInBounds_toArray, List.set_cons_zero, List.set_cons_succ, i64_w, i32_w]
              rfl
            refine take_ (i := 1) (N := some 46) (v := ?_) (a' := ?_) #[true, true, true, false, true, false, false, true, true, false, false, false] rfl rfl (by kernel_rfl) (fun _ _ _ h => h) (Or.inl ⟨by rfl, ?_⟩) hHeld ?_ ?_
            rotate_left
            · rintro w' ⟨s0, s1, s2, s3, s4, s5, s6, s7, s8, s9, s10⟩
              go_simp
              with_reducible rfl
            rotate_left
            · simp only [Act.put, List.setIfInBounds_toArray, List.set_cons_zero, List.set_cons_succ, i64_w, i32_w]
              rfl
            refine take_ (i := 3) (N := some 48) (v := ?_) (a' := ?_) #[true, true, true, true, true, false, false, true, true, false, false, false] rfl rfl (by kernel_rfl) (fun _ _ _ h => h) (Or.inl ⟨by rfl, ?_⟩) hHeld ?_ ?_
            rotate_left
            · rintro w' ⟨s0, s1, s2, s3, s4, s5, s6, s7, s8, s9, s10⟩
              go_simp
              with_reducible rfl
            rotate_left
            · simp only [Act.put, List.setIfInBounds_toArray, List.set_cons_zero, List.set_cons_succ, i64_w, i32_w]
              rfl
            refine pure_ (i := 5) (N := some 50) (v := ?_) (a' := ?_) #[true, true, true, true, true, true, false, true, true, false, false, false] rfl rfl (by kernel_rfl) (fun _ _ _ h => h) (Or.inl ⟨by rfl, ?_⟩) ?_ ?_
            rotate_left
            · intro w'
              go_simp
              with_reducible rfl
            rotate_left
            · simp only [Act.put, List.setIfInBounds_toArray, List.set_cons_zero, List.set_cons_succ, i64_w, i32_w]
              rfl
            refine take_ (i := 6) (N := some 51) (v := ?_) (a' := ?_) #[true, true, true, true, true, true, true, true, true, false, false, false] rfl rfl (by kernel_rfl) (fun _ _ _ h => h) (Or.inl ⟨by rfl, ?_⟩) hHeld ?_ ?_
            rotate_left
            · rintro w' ⟨s0, s1, s2, s3, s4, s5, s6, s7, s8, s9, s10⟩
              go_simp
              with_reducible rfl
            rotate_left
            · simp only [Act.put, List.setIfInBounds_toArray, List.set_cons_zero, List.set_cons_succ, i64_w, i32_w]
              rfl
            refine one_ (i := 9) (N := some 54) #[true, true, true, true, true, true, true, true, true, true, false, false] rfl rfl (by kernel_rfl) (by decide) (fun K hK => ?_)
            refine goes_ Tryd.func33 (by kernel_rfl) rfl #[.agg #[], .agg #[.slice B0 x.f0.length b0, .int .i64 x.f1, .int .i64 x.f2, .string x.f3, .slice B4 x.f4.length b4, .slice B5 x.f5.length b5, .slice B6 x.f6.length b6, .bool x.f7, .int .i64 x.f8], .int .i64 (wrap64 (kq - 1))] (by rfl) rfl rfl (by simp only [List.map_toArray, List.map_cons, List.map_nil]; rfl) ?_
            with_reducible refine (HE.out _ (below_step HBW.out BD2.out) HZ.out).mono ?_
            rintro e w92 ⟨rfl, hb9⟩
            refine ⟨_, rfl, ?_⟩
            have B92 := Lib.hid (below_step BD2.out hb9)
            refine hK.out _ _ ⟨(F3.out _ B92.out), (blk_cell (F4.out _ B92.out) 5), (V0.out _ B92.out), (V1.out _ B92.out), (V2.out _ B92.out), (V3.out _ B92.out), (V4.out _ B92.out), (V5.out _ B92.out), (V6.out _ B92.out), (V7.out _ B92.out), (V8.out _ B92.out)⟩ (fun hHeld => ?_)
            clear hK K
            refine norm_ (a' := ?_) ?_ ?_
            rotate_left
            · show Act.put _ (some 54) _ = _
              simp only [Act.put, List.setIfInBounds_toArray, List.set_cons_zero, List.set_cons_succ, i64_w, i32_w]
              rfl
            refine pure_ (i := 10) (N := some 55) (v := ?_) (a' := ?_) #[true, true, true, true, true, true, true, true, true, true, true, false] rfl rfl (by kernel_rfl) (fun _ _ _ h => h) (Or.inl ⟨by rfl, ?_⟩) ?_ ?_
            rotate_left
            · intro w'
              go_simp
              with_reducible rfl
            rotate_left
            · simp only [Act.put, List.setIfInBounds_toArray, List.set_cons_zero, List.set_cons_succ, i64_w, i32_w]
              rfl
            refine pure_ (i := 11) (N := some 7) (v := ?_) (a' := ?_) #[true, true, true, true, true, true, true, true, true, true, true, true] rfl rfl (by kernel_rfl) (fun _ _ _ h => h) (Or.inl ⟨by rfl, ?_⟩) ?_ ?_
            rotate_left
            · intro w'
              go_simp
              with_reducible rfl
            rotate_left
            · simp only [Act.put, List.setIfInBounds_toArray, List.set_cons_zero, List.set_cons_succ, i64_w, i32_w]
              rfl
            refine done_ (by kernel_rfl) ?_
            clear hHeld
            go_wp2
            go_roundw
            case rel => exact ⟨i + 1, by go_num, by rw [HT.out]; rfl, hlt, B92⟩
            case measure => simp [intOf]; omega
          · obtain rfl : i = f5.length := by omega
            rw [List.take_length]
            obtain ⟨d2, hd2⟩ : ∃ q, q = mx d1 (dpBL f5 k) := ⟨_, rfl⟩
            have HNd2 := Lib.hid (show 0 ≤ d2 by rw [hd2]; exact mx_nn HNd1.out (dpBL_nn f5 k))
            rw [← hd2]
            have HD_d2 := Lib.hid hd2
            clear hd2
            have BCd2 := Lib.hid HQB.out
            clear HQB
            have y6 := blk_cell (F4.out _ BCd2.out) 6
            generalize wq = wp'' at *
            go_wp2
            go_loopw [10, 7] (fun vi v7 wr => ∃ i : Nat, vi = .int .i64 i ∧ v7 = .int .i64 (mx d2 (dpAL (f6.take i) k)) ∧ i ≤ f6.length ∧ Hid (Below wp.heap.size wp wr)) (fun vi _ _ => f6.length - (intOf vi).toNat)
            case atStart => exact ⟨0, by go_num, by rw [List.take_zero]; simp only [dpAL]; rw [mx_zero HNd2.out], Nat.zero_le _, BCd2⟩
            case round =>
              obtain ⟨i, rfl, rfl, hil, HQB⟩ := hrel
              clear y6
              have y6 := blk_cell (F4.out _ HQB.out) 6
              obtain ⟨wq, hwq⟩ : ∃ wq, wq = wr := ⟨_, rfl⟩
              subst hwq
              by_cases hlt : i < f6.length
              · have q1 : (i : Int) < (f6.length : Int) := by omega
                have q0 : (0 : Int) ≤ (i : Int) := by omega
                obtain ⟨ad_, Ap, cp, Ag, cg, B0, b0, B4, b4, B5, b5, B6, b6, hA_, u0, u1, u2, u3, u4, u5, u6, u7, u8, u9, u10, u11, u12, u13, u14, hX_⟩ := at_TArm HB.out.g6 (i : Int) q0 q1
                subst hA_
                rw [rdArm f6 i hlt, Int.toNat_natCast] at u0 u1 u2 u3 u4 u5 u6 u7 u8 u9 u10 u11 u12 u13 u14
                rw [rdArm f6 i hlt] at hX_
                have V0 := Lib.hid (fun (W' : World) (h : Below wp.heap.size wp W') => ((below_step HBW.out h).cell (World.block_lt_of_cell? w0 _ u0)).trans u0)
                have V1 := Lib.hid (fun (W' : World) (h : Below wp.heap.size wp W') => ((below_step HBW.out h).cell (World.block_lt_of_cell? w0 _ u1)).trans u1)
                have V2 := Lib.hid (fun (W' : World) (h : Below wp.heap.size wp W') => ((below_step HBW.out h).cell (World.block_lt_of_cell? w0 _ u2)).trans u2)
                have V3 := Lib.hid (fun (W' : World) (h : Below wp.heap.size wp W') => ((below_step HBW.out h).cell (World.block_lt_of_cell? w0 _ u3)).trans u3)
                have V4 := Lib.hid (fun (W' : World) (h : Below wp.heap.size wp W') => ((below_step HBW.out h).cell (World.block_lt_of_cell? w0 _ u4)).trans u4)
                have V5 := Lib.hid (fun (W' : World) (h : Below wp.heap.size wp W') => ((below_step HBW.out h).cell (World.block_lt_of_cell? w0 _ u5)).trans u5)
                have V6 := Lib.hid (fun (W' : World) (h : Below wp.heap.size wp W') => ((below_step HBW.out h).cell (World.block_lt_of_cell? w0 _ u6)).trans u6)
                have V7 := Lib.hid (fun (W' : World) (h : Below wp.heap.size wp W') => ((below_step HBW.out h).cell (World.block_lt_of_cell? w0 _ u7)).trans u7)
                have V8 := Lib.hid (fun (W' : World) (h : Below wp.heap.size wp W') => ((below_step HBW.out h).cell (World.block_lt_of_cell? w0 _ u8)).trans u8)
                have V9 := Lib.hid (fun (W' : World) (h : Below wp.heap.size wp W') => ((below_step HBW.out h).cell (World.block_lt_of_cell? w0 _ u9)).trans u9)
                have V10 := Lib.hid (fun (W' : World) (h : Below wp.heap.size wp W') => ((below_step HBW.out h).cell (World.block_lt_of_cell? w0 _ u10)).trans u10)
                have V11 := Lib.hid (fun (W' : World) (h : Below wp.heap.size wp W') => ((below_step HBW.out h).cell (World.block_lt_of_cell? w0 _ u11)).trans u11)
                have V12 := Lib.hid (fun (W' : World) (h : Below wp.heap.size wp W') => ((below_step HBW.out h).cell (World.block_lt_of_cell? w0 _ u12)).trans u12)
                have V13 := Lib.hid (fun (W' : World) (h : Below wp.heap.size wp W') => ((below_step HBW.out h).cell (World.block_lt_of_cell? w0 _ u13)).trans u13)
                have V14 := Lib.hid (fun (W' : World) (h : Below wp.heap.size wp W') => ((below_step HBW.out h).cell (World.block_lt_of_cell? w0 _ u14)).trans u14)
                clear u0 u1 u2 u3 u4 u5 u6 u7 u8 u9 u10 u11 u12 u13 u14
                have HT := Lib.hid (show mx d2 (dpAL (f6.take (i + 1)) k) = mx (mx d2 (dpAL (f6.take i) k)) (dpA f6[i] k) by rw [List.take_succ_eq_append_getElem hlt, dpAL_snoc, mx_shift])
                have HZ := Lib.hid hX_
                clear hX_
                have HE := Lib.hid (fun (W' : World) (hB : Below w0.heap.size w0 W') (hC : BodyC w0 f6[i].2.2 B0 b0 B4 b4 B5 b5 B6 b6) => (show Calls Tryd.prog 33 #[.agg #[], bodyV f6[i].2.2 B0 b0 B4 b4 B5 b5 B6 b6, .int .i64 (wrap64 (kq - 1))] W' (TellsD (dpB f6[i].2.2 k) W') by rw [hkw]; exact HJ.out f6[i] (List.getElem_mem hlt) B0 b0 B4 b4 B5 b5 B6 b6 k W' (by omega) hB hC))
                generalize f6[i] = x at *
                generalize mx d2 (dpAL (f6.take i) k) = mi at *
                have HXA := Lib.hid (show dpA x k = mx (dpPL [x.1] k) (mx (dpEL x.2.1 k) (dpB x.2.2 k)) by obtain ⟨p, q, b⟩ := x; simp only [dpA, dpG])
                have CP1 := Lib.hid (fun (A : Option Addr) (W' : World) (hB : Below w0.heap.size w0 W') (hC : RdP w0 w0.heap.size W' A [x.1]) => (show Calls Tryd.prog 59 #[.agg #[], .slice A 1 1, .int .i64 (wrap64 (kq - 1))] W' (TellsD (dpPL [x.1] k) W') from CPx.out [x.1] A 1 W' hB hC (by simp) (by simp)))
                go_upto_region 15 with fail
                have BD3 := Lib.hid (HQB.out).drew
                refine start_ (n := 14) (S := fun w' => w'.heap[gx]? = some (.cells #[] 68 (0, 0)) ∧ w'.cell? ⟨gy, 6, none⟩ = some (.slice (some ad_) f6.length c6) ∧ w'.cell? (ad_.add (i * 15)) = some (.int .i64 x.1.f0) ∧ w'.cell? ⟨(ad_.add (i * 15)).block, (ad_.add (i * 15)).off + 1, none⟩ = some (.int .i64 x.1.f1) ∧ w'.cell? ⟨(ad_.add (i * 15)).block, (ad_.add (i * 15)).off + 2, none⟩ = some (.int .i64 x.1.f2) ∧ w'.cell? ⟨(ad_.add (i * 15)).block, (ad_.add (i * 15)).off + 3, none⟩ = some (.string x.1.f3) ∧ w'.cell? ⟨(ad_.add (i * 15)).block, (ad_.add (i * 15)).off + 4, none⟩ = some (.slice Ap x.1.f4.length cp)) (ds := []) #[false, false, false, false, false, false, false, false, false, false, false, false, false, false] (by kernel_rfl) rfl rfl ⟨(F3.out _ BD3.out), (blk_cell (F4.out _ BD3.out) 6), (V0.out _ BD3.out), (V1.out _ BD3.out), (V2.out _ BD3.out), (V3.out _ BD3.out), (V4.out _ BD3.out)⟩ (fun hHeld => ?_)
                generalize wq.drew = WD3 at *
                refine pure_ (i := 0) (N := some 63) (v := ?_) (a' := ?_) #[true, false, false, false, false, false, false, false, false, false, false, false, false, false] rfl rfl (by kernel_rfl) (fun _ _ _ h => h) (Or.inl ⟨by rfl, ?_⟩) ?_ ?_
                rotate_left
                · intro w'
                  go_simp
                  with_reducible rfl
                rotate_left
                · simp only [Act.put, List.setIfInBounds_toArray, List.set_cons_zero, List.set_cons_succ, i64_w, i32_w]
                  rfl
                refine pure_ (i := 2) (N := some 65) (v := ?_) (a' := ?_) #[true, false, true, false, false, false, false, false, false, false, false, false, false, false] rfl rfl (by kernel_rfl) (fun _ _ _ h => h) (Or.inl ⟨by rfl, ?_⟩) ?_ ?_
                rotate_left
                · intro w'
                  go_simp
                  with_reducible rfl
                rotate_left
                · simp only [Act.put, List.setIfInBounds_toArray, List.set_cons_zero, List.set_cons_succ, i64_w, i32_w]
                  rfl
                refine pure_ (i := 4) (N := some 67) (v := ?_) (a' := ?_) #[true, false, true, false, true, false, false, false, false, false, false, false, false, false] rfl rfl (by kernel_rfl) (fun _ _ _ h => h) (Or.inl ⟨by rfl, ?_⟩) ?_ ?_
                rotate_left
                · intro w'
                  go_simp
                  with_reducible rfl
                rotate_left
                · simp only [Act.put, List.setIfInBounds_toArray, List.set_cons_zero, List.set_cons_succ, i64_w, i32_w]
                  rfl
                refine pure_ (i := 9) (N := some 72) (v := ?_) (a' := ?_) #[true, false, true, false, true, false, false, false, false, true, false, false, false, false] rfl rfl (by kernel_rfl) (fun _ _ _ h => h) (Or.inl ⟨by rfl, ?_⟩) ?_ ?_
                rotate_left
                · intro w'
                  go_simp
                  with_reducible rfl
                rotate_left
                · simp only [Act.put, List.setIfInBounds_toArray, List.set_cons_zero, List.set_cons_succ, i64_w, i32_w]
                  rfl
                refine pure_ (i := 10) (N := some 73) (v := ?_) (a' := ?_) #[true, false, true, false, true, false, false, false, false, true, true, false, false, false] rfl rfl (by kernel_rfl) (fun _ _ _ h => h) (Or.inl ⟨by rfl, ?_⟩) ?_ ?_
                rotate_left
                · intro w'
                  go_simp
                  with_reducible rfl
                rotate_left
                · simp only [Act.put, List.setIfInBounds_toArray, List.set_cons_zero, List.set_cons_succ, i64_w, i32_w]
                  rfl
                refine take_ (i := 1) (N := some 64) (v := ?_) (a' := ?_) #[true, true, true, false, true, false, false, false, false, true, true, false, false, false] rfl rfl (by kernel_rfl) (fun _ _ _ h => h) (Or.inl ⟨by rfl, ?_⟩) hHeld ?_ ?_
                rotate_left
                · rintro w' ⟨s0, s1, s2, s3, s4, s5, s6⟩
                  go_simp
                  with_reducible rfl
                rotate_left
                · simp only [Act.put, List.setIfInBounds_toArray, List.set_cons_zero, List.set_cons_succ, i64_w, i32_w]
                  rfl
                refine take_ (i := 3) (N := some 66) (v := ?_) (a' := ?_) #[true, true, true, true, true, false, false, false, false, true, true, false, false, false] rfl rfl (by kernel_rfl) (fun _ _ _ h => h) (Or.inl ⟨by rfl, ?_⟩) hHeld ?_ ?_
                rotate_left
                · rintro w' ⟨s0, s1, s2, s3, s4, s5, s6⟩
                  go_simp
                  with_reducible rfl
                rotate_left
                · simp only [Act.put, List.setIfInBounds_toArray, List.set_cons_zero, List.set_cons_succ, i64_w, i32_w]
                  rfl
                refine pure_ (i := 5) (N := some 68) (v := ?_) (a' := ?_) #[true, true, true, true, true, true, false, false, false, true, true, false, false, false] rfl rfl (by kernel_rfl) (fun _ _ _ h => h) (Or.inl ⟨by rfl, ?_⟩) ?_ ?_
                rotate_left
                · intro w'
                  go_simp
                  with_reducible rfl
                rotate_left
                · simp only [Act.put, List.setIfInBounds_toArray, List.set_cons_zero, List.set_cons_succ, i64_w, i32_w]
                  rfl
                refine pure_ (i := 6) (N := some 69) (v := ?_) (a' := ?_) #[true, true, true, true, true, true, true, false, false, true, true, false, false, false] rfl rfl (by kernel_rfl) (fun _ _ _ h => h) (Or.inl ⟨by rfl, ?_⟩) ?_ ?_
                rotate_left
                · intro w'
                  go_simp
                  with_reducible rfl
                rotate_left
                · simp only [Act.put, List.setIfInBounds_toArray, List.set_cons_zero, List.set_cons_succ, i64_w, i32_w]
                  rfl
                refine take_ (i := 7) (N := some 70) (v := ?_) (a' := ?_) #[true, true, true, true, true, true, true, true, false, true, true, false, false, false] rfl rfl (by kernel_rfl) (fun _ _ _ h => h) (Or.inl ⟨by rfl, ?_⟩) hHeld ?_ ?_
                rotate_left
                · rintro w' ⟨s0, s1, s2, s3, s4, s5, s6⟩
                  go_simp
                  with_reducible rfl
                rotate_left
                · simp only [Act.put, List.setIfInBounds_toArray, List.set_cons_zero, List.set_cons_succ, i64_w, i32_w]
                  rfl
                refine one_ (i := 8) (N := some 71) #[true, true, true, true, true, true, true, true, true, true, true, false, false, false] rfl rfl (by kernel_rfl) (by decide) (fun K hK => ?_)
                refine value_ (w1 := ?_) (v := ?_) (by rfl) rfl ?_ ?_
                rotate_left 2
                · go_simp
                  constructor
                  · rfl
                  · rfl
                have BA3 := Lib.hid (below_alloc BD3.out (.cells #[.int .i64 x.1.f0, .int .i64 x.1.f1, .int .i64 x.1.f2, .string x.1.f3, .slice Ap x.1.f4.length cp] 83))
                refine hK.out _ _ ⟨(F3.out _ BA3.out), (blk_cell (F4.out _ BA3.out) 6), (V0.out _ BA3.out), (V1.out _ BA3.out), (V2.out _ BA3.out), (V3.out _ BA3.out), (V4.out _ BA3.out)⟩ (fun hHeld => ?_)
                clear hK K
                refine norm_ (a' := ?_) ?_ ?_
                rotate_left
                · show Act.put _ (some 71) _ = _
                  simp only [Act.put, List.setIfInBounds_toArray, List.set_cons_zero, List.set_cons_succ, i64_w, i32_w]
                  rfl
                refine one_ (i := 11) (N := some 74) #[true, true, true, true, true, true, true, true, true, true, true, true, false, false] rfl rfl (by kernel_rfl) (by decide) (fun K hK => ?_)
                refine goes_ Tryd.func59 (by kernel_rfl) rfl #[.agg #[], .slice (some ⟨WD3.heap.size, 0, none⟩) 1 1, .int .i64 (wrap64 (kq - 1))] (by rfl) rfl rfl (by simp only [List.map_toArray, List.map_cons, List.map_nil]; rfl) ?_
                with_reducible refine (CP1.out _ _ (below_step HBW.out BA3.out) (RdP.of_block (blk_new WD3 (.cells #[.int .i64 x.1.f0, .int .i64 x.1.f1, .int .i64 x.1.f2, .string x.1.f3, .slice Ap x.1.f4.length cp] 83)) (by have h1 := HSZ.out; have h2 := BD3.out.size; omega) HZ.out.1 HZ.out.2.1)).mono ?_
                rintro e w93 ⟨rfl, hb9⟩
                refine ⟨_, rfl, ?_⟩
                have B93 := Lib.hid (below_step BA3.out hb9)
                refine hK.out _ _ ⟨(F3.out _ B93.out), (blk_cell (F4.out _ B93.out) 6), (V0.out _ B93.out), (V1.out _ B93.out), (V2.out _ B93.out), (V3.out _ B93.out), (V4.out _ B93.out)⟩ (fun hHeld => ?_)
                clear hK K
                refine norm_ (a' := ?_) ?_ ?_
                rotate_left
                · show Act.put _ (some 74) _ = _
                  simp only [Act.put, List.setIfInBounds_toArray, List.set_cons_zero, List.set_cons_succ, i64_w, i32_w]
                  rfl
                refine pure_ (i := 12) (N := some 75) (v := ?_) (a' := ?_) #[true, true, true, true, true, true, true, true, true, true, true, true, true, false] rfl rfl (by kernel_rfl) (fun _ _ _ h => h) (Or.inl ⟨by rfl, ?_⟩) ?_ ?_
                rotate_left
                · intro w'
                  go_simp
                  with_reducible rfl
                rotate_left
                · simp only [Act.put, List.setIfInBounds_toArray, List.set_cons_zero, List.set_cons_succ, i64_w, i32_w]
                  rfl
                refine pure_ (i := 13) (N := some 7) (v := ?_) (a' := ?_) #[true, true, true, true, true, true, true, true, true, true, true, true, true, true] rfl rfl (by kernel_rfl) (fun _ _ _ h => h) (Or.inl ⟨by rfl, ?_⟩) ?_ ?_
                rotate_left
                · intro w'
                  go_simp
                  with_reducible rfl
                rotate_left
                · simp only [Act.put, List.setIfInBounds_toArray, List.set_cons_zero, List.set_cons_succ, i64_w, i32_w]
                  rfl
                refine done_ (by kernel_rfl) ?_
                clear hHeld
                go_upto_region 16 with fail
                have BD4 := Lib.hid (B93.out).drew
                refine start_ (n := 13) (S := fun w' => w'.heap[gx]? = some (.cells #[] 68 (0, 0)) ∧ w'.cell? ⟨gy, 6, none⟩ = some (.slice (some ad_) f6.length c6) ∧ w'.cell? ⟨(ad_.add (i * 15)).block, (ad_.add (i * 15)).off + 5, none⟩ = some (.slice Ag x.2.1.length cg)) (ds := []) #[false, false, false, false, false, false, false, false, false, false, false, false, false] (by kernel_rfl) rfl rfl ⟨(F3.out _ BD4.out), (blk_cell (F4.out _ BD4.out) 6), (V5.out _ BD4.out)⟩ (fun hHeld => ?_)
                generalize w93.drew = WD4 at *
                refine pure_ (i := 0) (N := some 76) (v := ?_) (a' := ?_) #[true, false, false, false, false, false, false, false, false, false, false, false, false] rfl rfl (by kernel_rfl) (fun _ _ _ h => h) (Or.inl ⟨by rfl, ?_⟩) ?_ ?_
                rotate_left
                · intro w'
                  go_simp
                  with_reducible rfl
                rotate_left
                · simp only [Act.put, List.setIfInBounds_toArray, List.set_cons_zero, List.set_cons_succ, i64_w, i32_w]
                  rfl
                refine pure_ (i := 2) (N := some 78) (v := ?_) (a' := ?_) #[true, false, true, false, false, false, false, false, false, false, false, false, false] rfl rfl (by kernel_rfl) (fun _ _ _ h => h) (Or.inl ⟨by rfl, ?_⟩) ?_ ?_
                rotate_left
                · intro w'
                  go_simp
                  with_reducible rfl
                rotate_left
                · simp only [Act.put, List.setIfInBounds_toArray, List.set_cons_zero, List.set_cons_succ, i64_w, i32_w]
                  rfl
                refine pure_ (i := 4) (N := some 80) (v := ?_) (a' := ?_) #[true, false, true, false, true, false, false, false, false, false, false, false, false] rfl rfl (by kernel_rfl) (fun _ _ _ h => h) (Or.inl ⟨by rfl, ?_⟩) ?_ ?_
                rotate_left
                · intro w'
                  go_simp
                  with_reducible rfl
                rotate_left
                · simp only [Act.put, List.setIfInBounds_toArray, List.set_cons_zero, List.set_cons_succ, i64_w, i32_w]
                  rfl
                refine pure_ (i := 8) (N := some 84) (v := ?_) (a' := ?_) #[true, false, true, false, true, false, false, false, true, false, false, false, false] rfl rfl (by kernel_rfl) (fun _ _ _ h => h) (Or.inl ⟨by rfl, ?_⟩) ?_ ?_
                rotate_left
                · intro w'
                  go_simp
                  with_reducible rfl
                rotate_left
                · simp only [Act.put, List.setIfInBounds_toArray, List.set_cons_zero, List.set_cons_succ, i64_w, i32_w]
                  rfl
                refine pure_ (i := 9) (N := some 85) (v := ?_) (a' := ?_) #[true, false, true, false, true, false, false, false, true, true, false, false, false] rfl rfl (by kernel_rfl) (fun _ _ _ h => h) (Or.inl ⟨by rfl, ?_⟩) ?_ ?_
                rotate_left
                · intro w'
                  go_simp
                  with_reducible rfl
                rotate_left
                · simp only [Act.put, List.setIfInBounds_toArray, List.set_cons_zero, List.set_cons_succ, i64_w, i32_w]
                  rfl
                refine take_ (i := 1) (N := some 77) (v := ?_) (a' := ?_) #[true, true, true, false, true, false, false, false, true, true, false, false, false] rfl rfl (by kernel_rfl) (fun _ _ _ h => h) (Or.inl ⟨by rfl, ?_⟩) hHeld ?_ ?_
                rotate_left
                · rintro w' ⟨s0, s1, s2⟩
                  go_simp
                  with_reducible rfl
                rotate_left
                · simp only [Act.put, List.setIfInBounds_toArray, List.set_cons_zero, List.set_cons_succ, i64_w, i32_w]
                  rfl
                refine take_ (i := 3) (N := some 79) (v := ?_) (a' := ?_) #[true, true, true, true, true, false, false, false, true, true, false, false, false] rfl rfl (by kernel_rfl) (fun _ _ _ h => h) (Or.inl ⟨by rfl, ?_⟩) hHeld ?_ ?_
                rotate_left
                · rintro w' ⟨s0, s1, s2⟩
                  go_simp
                  with_reducible rfl
                rotate_left
                · simp only [Act.put, List.setIfInBounds_toArray, List.set_cons_zero, List.set_cons_succ, i64_w, i32_w]
                  rfl
                refine pure_ (i := 5) (N := some 81) (v := ?_) (a' := ?_) #[true, true, true, true, true, true, false, false, true, true, false, false, false] rfl rfl (by kernel_rfl) (fun _ _ _ h => h) (Or.inl ⟨by rfl, ?_⟩) ?_ ?_
                rotate_left
                · intro w'
                  go_simp
                  with_reducible rfl
                rotate_left
                · simp only [Act.put, List.setIfInBounds_toArray, List.set_cons_zero, List.set_cons_succ, i64_w, i32_w]
                  rfl
                refine pure_ (i := 6) (N := some 82) (v := ?_) (a' := ?_) #[true, true, true, true, true, true, true, false, true, true, false, false, false] rfl rfl (by kernel_rfl) (fun _ _ _ h => h) (Or.inl ⟨by rfl, ?_⟩) ?_ ?_
                rotate_left
                · intro w'
                  go_simp
                  with_reducible rfl
                rotate_left
                · simp only [Act.put, List.setIfInBounds_toArray, List.set_cons_zero, List.set_cons_succ, i64_w, i32_w]
                  rfl
                refine take_ (i := 7) (N := some 83) (v := ?_) (a' := ?_) #[true, true, true, true, true, true, true, true, true, true, false, false, false] rfl rfl (by kernel_rfl) (fun _ _ _ h => h) (Or.inl ⟨by rfl, ?_⟩) hHeld ?_ ?_
                rotate_left
                · rintro w' ⟨s0, s1, s2⟩
                  go_simp
                  with_reducible rfl
                rotate_left
                · simp only [Act.put, List.setIfInBounds_toArray, List.set_cons_zero, List.set_cons_succ, i64_w, i32_w]
                  rfl
                refine one_ (i := 10) (N := some 86) #[true, true, true, true, true, true, true, true, true, true, true, false, false] rfl rfl (by kernel_rfl) (by decide) (fun K hK => ?_)
                refine goes_ Tryd.func32 (by kernel_rfl) rfl #[.agg #[], .slice Ag x.2.1.length cg, .int .i64 (wrap64 (kq - 1))] (by rfl) rfl rfl (by simp only [List.map_toArray, List.map_cons, List.map_nil]; rfl) ?_
                with_reducible refine (CEx.out x.2.1 Ag cg _ (below_step HBW.out BD4.out) HZ.out.2.2.2.1 HZ.out.2.2.1).mono ?_
                rintro e w94 ⟨rfl, hb9⟩
                refine ⟨_, rfl, ?_⟩
                have B94 := Lib.hid (below_step BD4.out hb9)
                refine hK.out _ _ ⟨(F3.out _ B94.out), (blk_cell (F4.out _ B94.out) 6), (V5.out _ B94.out)⟩ (fun hHeld => ?_)
                clear hK K
                refine norm_ (a' := ?_) ?_ ?_
                rotate_left
                · show Act.put _ (some 86) _ = _
                  simp only [Act.put, List.setIfInBounds_toArray, List.set_cons_zero, List.set_cons_succ, i64_w, i32_w]
                  rfl
                refine pure_ (i := 11) (N := some 87) (v := ?_) (a' := ?_) #[true, true, true, true, true, true, true, true, true, true, true, true, false] rfl rfl (by kernel_rfl) (fun _ _ _ h => h) (Or.inl ⟨by rfl, ?_⟩) ?_ ?_
                rotate_left
                · intro w'
                  go_simp
                  with_reducible rfl
                rotate_left
                · simp only [Act.put, List.setIfInBounds_toArray, List.set_cons_zero, List.set_cons_succ, i64_w, i32_w]
                  rfl
                refine pure_ (i := 12) (N := some 7) (v := ?_) (a' := ?_) #[true, true, true, true, true, true, true, true, true, true, true, true, true] rfl rfl (by kernel_rfl) (fun _ _ _ h => h) (Or.inl ⟨by rfl, ?_⟩) ?_ ?_
                rotate_left
                · intro w'
                  go_simp
                  with_reducible rfl
                rotate_left
                · simp only [Act.put, List.setIfInBounds_toArray, List.set_cons_zero, List.set_cons_succ, i64_w, i32_w]
                  rfl
                refine done_ (by kernel_rfl) ?_
                clear hHeld
                go_upto_region 17 with fail
                have BD5 := Lib.hid (B94.out).drew
                refine start_ (n := 13) (S := fun w' => w'.heap[gx]? = some (.cells #[] 68 (0, 0)) ∧ w'.cell? ⟨gy, 6, none⟩ = some (.slice (some ad_) f6.length c6) ∧ w'.cell? ⟨(ad_.add (i * 15)).block, (ad_.add (i * 15)).off + 6, none⟩ = some (.slice B0 x.2.2.f0.length b0) ∧ w'.cell? ⟨(ad_.add (i * 15)).block, (ad_.add (i * 15)).off + 7, none⟩ = some (.int .i64 x.2.2.f1) ∧ w'.cell? ⟨(ad_.add (i * 15)).block, (ad_.add (i * 15)).off + 8, none⟩ = some (.int .i64 x.2.2.f2) ∧ w'.cell? ⟨(ad_.add (i * 15)).block, (ad_.add (i * 15)).off + 9, none⟩ = some (.string x.2.2.f3) ∧ w'.cell? ⟨(ad_.add (i * 15)).block, (ad_.add (i * 15)).off + 10, none⟩ = some (.slice B4 x.2.2.f4.length b4) ∧ w'.cell? ⟨(ad_.add (i * 15)).block, (ad_.add (i * 15)).off + 11, none⟩ = some (.slice B5 x.2.2.f5.length b5) ∧ w'.cell? ⟨(ad_.add (i * 15)).block, (ad_.add (i * 15)).off + 12, none⟩ = some (.slice B6 x.2.2.f6.length b6) ∧ w'.cell? ⟨(ad_.add (i * 15)).block, (ad_.add (i * 15)).off + 13, none⟩ = some (.bool x.2.2.f7) ∧ w'.cell? ⟨(ad_.add (i * 15)).block, (ad_.add (i * 15)).off + 14, none⟩ = some (.int .i64 x.2.2.f8)) (ds := []) #[false, false, false, false, false, false, false, false, false, false, false, false, false] (by kernel_rfl) rfl rfl ⟨(F3.out _ BD5.out), (blk_cell (F4.out _ BD5.out) 6), (V6.out _ BD5.out), (V7.out _ BD5.out), (V8.out _ BD5.out), (V9.out _ BD5.out), (V10.out _ BD5.out), (V11.out _ BD5.out), (V12.out _ BD5.out), (V13.out _ BD5.out), (V14.out _ BD5.out)⟩ (fun hHeld => ?_)
                generalize w94.drew = WD5 at *
                refine pure_ (i := 0) (N := some 88) (v := ?_) (a' := ?_) #[true, false, false, false, false, false, false, false, false, false, false, false, false] rfl rfl (by kernel_rfl) (fun _ _ _ h => h) (Or.inl ⟨by rfl, ?_⟩) ?_ ?_
                rotate_left
                · intro w'
                  go_simp
                  with_reducible rfl
                rotate_left
                · simp only [Act.put, List.setIfInBounds_toArray, List.set_cons_zero, List.set_cons_succ, i64_w, i32_w]
                  rfl
                refine pure_ (i := 2) (N := some 90) (v := ?_) (a' := ?_) #[true, false, true, false, false, false, false, false, false, false, false, false, false] rfl rfl (by kernel_rfl) (fun _ _ _ h => h) (Or.inl ⟨by rfl, ?_⟩) ?_ ?_
                rotate_left
                · intro w'
                  go_simp
                  with_reducible rfl
                rotate_left
                · simp only [Act.put, List.setIfInBounds_toArray, List.set_cons_zero, List.set_cons_succ, i64_w, i32_w]
                  rfl
                refine pure_ (i := 4) (N := some 92) (v := ?_) (a' := ?_) #[true, false, true, false, true, false, false, false, false, false, false, false, false] rfl rfl (by kernel_rfl) (fun _ _ _ h => h) (Or.inl ⟨by rfl, ?_⟩) ?_ ?_
                rotate_left
                · intro w'
                  go_simp
                  with_reducible rfl
                rotate_left
                · simp only [Act.put, List.setIfInBounds_toArray, List.set_cons_zero, List.set_cons_succ, i64_w, i32_w]
                  rfl
                refine pure_ (i := 8) (N := some 96) (v := ?_) (a' := ?_) #[true, false, true, false, true, false, false, false, true, false, false, false, false] rfl rfl (by kernel_rfl) (fun _ _ _ h => h) (Or.inl ⟨by rfl, ?_⟩) ?_ ?_
                rotate_left
                · intro w'
                  go_simp
                  with_reducible rfl
                rotate_left
                · simp only [Act.put, List.setIfInBounds_toArray, List.set_cons_zero, List.set_cons_succ, i64_w, i32_w]
                  rfl
                refine pure_ (i := 9) (N := some 97) (v := ?_) (a' := ?_) #[true, false, true, false, true, false, false, false, true, true, false, false, false] rfl rfl (by kernel_rfl) (fun _ _ _ h => h) (Or.inl ⟨by rfl, ?_⟩) ?_ ?_
                rotate_left
                · intro w'
                  go_simp
                  with_reducible rfl
                rotate_left
                · simp only [Act.put, List.setIfInBounds_toArray, List.set_cons_zero, List.set_cons_succ, i64_w, i32_w]
                  rfl
                refine take_ (i := 1) (N := some 89) (v := ?_) (a' := ?_) #[true, true, true, false, true, false, false, false, true, true, false, false, false] rfl rfl (by kernel_rfl) (fun _ _ _ h => h) (Or.inl ⟨by rfl, ?_⟩) hHeld ?_ ?_
                rotate_left
                · rintro w' ⟨s0, s1, s2, s3, s4, s5, s6, s7, s8, s9, s10⟩
                  go_simp
                  with_reducible rfl
                rotate_left
                · simp only [Act.put, List.setIfInBounds_toArray, List.set_cons_zero, List.set_cons_succ, i64_w, i32_w]
                  rfl
                refine take_ (i := 3) (N := some 91) (v := ?_) (a' := ?_) #[true, true, true, true, true, false, false, false, true, true, false, false, false] rfl rfl (by kernel_rfl) (fun _ _ _ h => h) (Or.inl ⟨by rfl, ?_⟩) hHeld ?_ ?_
                rotate_left
                · rintro w' ⟨s0, s1, s2, s3, s4, s5, s6, s7, s8, s9, s10⟩
                  go_simp
                  with_reducible rfl
                rotate_left
                · simp only [Act.put, List.setIfInBounds_toArray, List.set_cons_zero, List.set_cons_succ, i64_w, i32_w]
                  rfl
                refine pure_ (i := 5) (N := some 93) (v := ?_) (a' := ?_) #[true, true, true, true, true, true, false, false, true, true, false, false, false] rfl rfl (by kernel_rfl) (fun _ _ _ h => h) (Or.inl ⟨by rfl, ?_⟩) ?_ ?_
                rotate_left
                · intro w'
                  go_simp
                  with_reducible rfl
                rotate_left
                · simp only [Act.put, List.setIfInBounds_toArray, List.set_cons_zero, List.set_cons_succ, i64_w, i32_w]
                  rfl
                refine pure_ (i := 6) (N := some 94) (v := ?_) (a' := ?_) #[true, true, true, true, true, true, true, false, true, true, false, false, false] rfl rfl (by kernel_rfl) (fun _ _ _ h => h) (Or.inl ⟨by rfl, ?_⟩) ?_ ?_
                rotate_left
                · intro w'
                  go_simp
                  with_reducible rfl
                rotate_left
                · simp only [Act.put, List.setIfInBounds_toArray, List.set_cons_zero, List.set_cons_succ, i64_w, i32_w]
                  rfl
                refine take_ (i := 7) (N := some 95) (v := ?_) (a' := ?_) #[true, true, true, true, true, true, true, true, true, true, false, false, false] rfl rfl (by kernel_rfl) (fun _ _ _ h => h) (Or.inl ⟨by rfl, ?_⟩) hHeld ?_ ?_
                rotate_left
                · rintro w' ⟨s0, s1, s2, s3, s4, s5, s6, s7, s8, s9, s10⟩
                  go_simp
                  with_reducible rfl
                rotate_left
                · simp only [Act.put, List.setIfInBounds_toArray, List.set_cons_zero, List.set_cons_succ, i64_w, i32_w]
                  rfl
                refine one_ (i := 10) (N := some 98) #[true, true, true, true, true, true, true, true, true, true, true, false, false] rfl rfl (by kernel_rfl) (by decide) (fun K hK => ?_)
                refine goes_ Tryd.func33 (by kernel_rfl) rfl #[.agg #[], .agg #[.slice B0 x.2.2.f0.length b0, .int .i64 x.2.2.f1, .int .i64 x.2.2.f2, .string x.2.2.f3, .slice B4 x.2.2.f4.length b4, .slice B5 x.2.2.f5.length b5, .slice B6 x.2.2.f6.length b6, .bool x.2.2.f7, .int .i64 x.2.2.f8], .int .i64 (wrap64 (kq - 1))] (by rfl) rfl rfl (by simp only [List.map_toArray, List.map_cons, List.map_nil]; rfl) ?_
                with_reducible refine (HE.out _ (below_step HBW.out BD5.out) HZ.out.2.2.2.2).mono ?_
                rintro e w95 ⟨rfl, hb9⟩
                refine ⟨_, rfl, ?_⟩
                have B95 := Lib.hid (below_step BD5.out hb9)
                refine hK.out _ _ ⟨(F3.out _ B95.out), (blk_cell (F4.out _ B95.out) 6), (V6.out _ B95.out), (V7.out _ B95.out), (V8.out _ B95.out), (V9.out _ B95.out), (V10.out _ B95.out), (V11.out _ B95.out), (V12.out _ B95.out), (V13.out _ B95.out), (V14.out _ B95.out)⟩ (fun hHeld => ?_)
                clear hK K
                refine norm_ (a' := ?_) ?_ ?_
                rotate_left
                · show Act.put _ (some 98) _ = _
                  simp only [Act.put, List.setIfInBounds_toArray, List.set_cons_zero, List.set_cons_succ, i64_w, i32_w]
                  rfl
                refine pure_ (i := 11) (N := some 99) (v := ?_) (a' := ?_) #[true, true, true, true, true, true, true, true, true, true, true, true, false] rfl rfl (by kernel_rfl) (fun _ _ _ h => h) (Or.inl ⟨by rfl, ?_⟩) ?_ ?_
                rotate_left
                · intro w'
                  go_simp
                  with_reducible rfl
                rotate_left
                · simp only [Act.put, List.setIfInBounds_toArray, List.set_cons_zero, List.set_cons_succ, i64_w, i32_w]
                  rfl
                refine pure_ (i := 12) (N := some 7) (v := ?_) (a' := ?_) #[true, true, true, true, true, true, true, true, true, true, true, true, true] rfl rfl (by kernel_rfl) (fun _ _ _ h => h) (Or.inl ⟨by rfl, ?_⟩) ?_ ?_
                rotate_left
                · intro w'
                  go_simp
                  with_reducible rfl
                rotate_left
                · simp only [Act.put, List.setIfInBounds_toArray, List.set_cons_zero, List.set_cons_succ, i64_w, i32_w]
                  rfl
                refine done_ (by kernel_rfl) ?_
                clear hHeld
                go_wp2
                go_roundw
                case rel => exact ⟨i + 1, by go_num, by rw [HT.out, HXA.out, mx_shift, mx_shift]; rfl, hlt, B95⟩
                case measure => simp [intOf]; omega
              · obtain rfl : i = f6.length := by omega
                rw [List.take_length]
                go_wp2
                have hle := dpB_le ⟨f0, f1, f2, f3, f4, f5, f6, f7, f8⟩ (k + 1)
                have hnn := dpB_nn ⟨f0, f1, f2, f3, f4, f5, f6, f7, f8⟩ (k + 1)
                rw [HV.out, ← HD0.out, ← HD_d1.out, ← HD_d2.out] at hle hnn
                go_ret
                refine ⟨?_, below_step BW.out HQB.out⟩
                rw [HV.out, ← HD0.out, ← HD_d1.out, ← HD_d2.out, show 1 + mx d2 (dpAL f6 k) = wrap64 (mx d2 (dpAL f6 k) + 1) by unfold wrap64; omega]
                rfl
theorem DB_any (w0 : World) : ∀ (n : Nat) (x : S42), SizeOf.sizeOf x ≤ n → DB w0 x := by
  intro n
  induction n with
  | zero =>
    intro x hx
    cases x
    simp at hx
  | succ n ih =>
    intro x hx
    refine DB_ok w0 x (fun y hy => ih y ?_) (fun y hy => ih y.2.2 ?_)
    · have h1 := List.sizeOf_lt_of_mem hy
      cases x
      simp at hx
      simp only at h1
      omega
    · have h1 := List.sizeOf_lt_of_mem hy
      obtain ⟨p, q, b⟩ := y
      cases x
      simp at hx
      simp at h1 ⊢
      omega
theorem DB_call (w0 : World) (x : S42) : DB w0 x := DB_any w0 _ x (Nat.le_refl _)
end Go.Proofs.YtjboncbmeanlgaaDoor.Tr
