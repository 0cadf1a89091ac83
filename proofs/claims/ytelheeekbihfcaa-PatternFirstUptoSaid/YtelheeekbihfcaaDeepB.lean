/- The law's light, how deep the body that it builds is. -/
import Derived.Test.YtelheeekbihfcaaDeep
set_option linter.unusedVariables false
set_option linter.unusedSimpArgs false
namespace Go.Proofs.Ytelheeekbihfcaa.Pt
open Go.RowKit Go.Proofs Go.Proofs.Ytelheeekbihfcaa.PPatternFirst Go.Proofs.YtelheeekbihfcaaW.PrintWords Go.Proofs.YtelheeekbihfcaaW.PrintMore Go.Proofs.YtelheeekbihfcaaW.PrintLast

/-- A row of one. -/
theorem C_one {α : Type} {d : Kd α} {w : World} {g : Nat} {t : TypeId} {cs : List Value} {x : α} (hg : w.heap[g]? = some (.cells cs.toArray t (0, 0))) (hK : d.K w x cs) (hl : cs.length = d.sz) : d.C w (some ⟨g, 0, none⟩) 1 [x] :=
  ⟨rfl, by decide, fun _ => ⟨⟨g, 0, none⟩, rfl, fun j p hj => by
    cases j with
    | succ j => simp at hj
    | zero =>
      simp at hj
      subst hj
      refine ⟨cs, hl, hK, fun i u hi => ?_⟩
      have h1 := blk_cell hg i
      have h2 : cs.toArray[i]? = some u := by simpa using hi
      rw [h2] at h1
      by_cases h0 : i = 0
      · subst h0
        simpa [Addr.add] using h1
      · simpa [Addr.add, h0] using h1⟩⟩

/-- What the depth makes of a body that has but arms. -/
def DBodyC (w0 : World) (ps : List S53) : Prop := ∀ (A1 : Option Addr) (c1 : Nat) (i2 i3 : Int) (s4 : ByteArray) (A2 : Option Addr) (c2 : Nat) (A3 : Option Addr) (c3 : Nat) (A4 : Option Addr) (c4 : Nat) (b8 : Bool) (i9 left : Int) (w : World), Below w0.heap.size w0 w → Kd.C kArm w0 A4 ps.length ps → ps.length ≤ c4 → nodesL ps ≤ 1000000 →
  Calls Try.prog 38 #[.agg #[], .agg #[.slice A1 0 c1, .int .i64 i2, .int .i64 i3, .string s4, .slice A2 0 c2, .slice A3 0 c3, .slice A4 ps.length c4, .bool b8, .int .i64 i9], .int .i64 left] w (Num w)

set_option maxRecDepth 100000 in
set_option maxHeartbeats 8000000 in
theorem dbody_ok (w0 : World) (ps : List S53) (hIH : ps ≠ [] → DBodyC w0 []) : DBodyC w0 ps := by
  intro A1 c1 i2 i3 s4 A2 c2 A3 c3 A4 c4 b8 i9 left w hB hC hc4 hnp
  have hla : ps.length ≤ 1000000 := by have := nodesL_le ps; omega
  have HI := Lib.hid hIH
  have HC := Lib.hid hC
  have HB := Lib.hid hB
  clear hIH hC hB
  go_enter Try.func38, Try.ntmps38
  have s1 : (w.alloc (.cells #[] 96)).heap.size = w.heap.size + 1 := by simp
  have hbl := below_alloc (below_alloc (Below.refl _ w) (.cells #[] 96)) (.cells #[.slice A1 0 c1, .int .i64 i2, .int .i64 i3, .string s4, .slice A2 0 c2, .slice A3 0 c3, .slice A4 ps.length c4, .bool b8, .int .i64 i9] 61)
  have XN := blk_new (w.alloc (.cells #[] 96)) (.cells #[.slice A1 0 c1, .int .i64 i2, .int .i64 i3, .string s4, .slice A2 0 c2, .slice A3 0 c3, .slice A4 ps.length c4, .bool b8, .int .i64 i9] 61)
  rw [s1] at XN
  have XB := Lib.hid XN
  have B1 := Lib.hid hbl
  have BW1 := Lib.hid (below_step HB.out hbl)
  clear s1 hbl XN
  go_upto_region 1 with fail
  generalize (w.alloc (.cells #[] 96)).alloc (.cells #[.slice A1 0 c1, .int .i64 i2, .int .i64 i3, .string s4, .slice A2 0 c2, .slice A3 0 c3, .slice A4 ps.length c4, .bool b8, .int .i64 i9] 61) = W1 at *
  have hgb0 : w.heap.size + 1 = w.heap.size + 1 := rfl
  generalize hgb : w.heap.size + 1 = gb at *
  clear hgb0
  have k0 := blk_cell XB.out 0
  have k4 := blk_cell XB.out 4
  have k5 := blk_cell XB.out 5
  have k6 := blk_cell XB.out 6
  by_cases hl0 : left = 0
  · subst hl0
    go_wp2
    try rw [Exit.noGoto_ret]
    go_ret
    exact ⟨_, rfl, B1.out⟩
  · go_upto_region 4 with (go_at_call 37; refine (deepE_nil _ A2 c2 (wrap64 (left - 1))).mono ?_; rintro e w3 ⟨v3, rfl, hd⟩; have B3 := Lib.hid hd; have BW3 := Lib.hid (below_step BW1.out hd); have XB3 := Lib.hid (blk_below XB.out hd); clear hd)
    clear k0 k4 k5 k6 hl0
    have k0 := blk_cell XB3.out 0
    have k5 := blk_cell XB3.out 5
    have k6 := blk_cell XB3.out 6
    go_wp2
    go_loopw [8, 7] (fun v8 v7 wr => v8 = .int .i64 0 ∧ v7 = .int .i64 v3 ∧ Hid (wr = w3)) (fun _ _ _ => 0)
    case atStart => exact ⟨rfl, rfl, Lib.hid rfl⟩
    case round =>
      obtain ⟨rfl, rfl, HW⟩ := hrel
      have hw := HW.out
      subst hw
      go_wp2
      go_loopw [9, 7] (fun v9 v7 wq => v9 = .int .i64 0 ∧ v7 = .int .i64 v3 ∧ Hid (wq = wr)) (fun _ _ _ => 0)
      case atStart => exact ⟨rfl, rfl, Lib.hid rfl⟩
      case round =>
        obtain ⟨rfl, rfl, HW2⟩ := hrel
        have hw2 := HW2.out
        subst hw2
        go_wp2
        clear k0 k5
        go_loopw [10, 7] (fun v10 v7 wq => ∃ (i : Nat) (m : Int), v10 = .int .i64 i ∧ v7 = .int .i64 m ∧ i ≤ ps.length ∧ Hid (Below wr.heap.size wr wq)) (fun v10 _ _ => ps.length - (intOf v10).toNat)
        case atStart => exact ⟨0, _, by go_num, rfl, Nat.zero_le _, Lib.hid (Below.refl _ _)⟩
        case round =>
          obtain ⟨i, m, rfl, rfl, hi, HK⟩ := hrel
          obtain ⟨wq, hwq⟩ : ∃ wq, wq = wr := ⟨_, rfl⟩
          subst hwq
          clear k6
          by_cases hlt : i < ps.length
          · have q1 : (i : Int) < (ps.length : Int) := by omega
            have q0 : (0 : Int) ≤ (i : Int) := by omega
            have hng := nodesL_get hlt
            have hx1 : nodesL [ps[i]] ≤ 1000000 := by simp only [nodesL]; omega
            have hne : ps ≠ [] := fun e => by subst e; simp at hlt
            obtain ⟨ad, B4, d4, B5, d5, B6, d6, B7, d7, B8, d8, B9, d9, hA4, u0, u1, u2, u3, u4, u5, u6, u7, u8, u9, u10, u11, u12, u13, u14, hc5, hC5⟩ := at_Arm HC.out i hlt rfl
            subst hA4
            have HC5 := Lib.hid hC5
            have hbody := HI.out hne
            have BQ := Lib.hid (below_drew1 HK.out)
            have XQ := Lib.hid (blk_below XB3.out BQ.out)
            have BW := Lib.hid (below_step BW3.out BQ.out)
            have HU := Lib.hid (And.intro u0 (And.intro u1 (And.intro u2 (And.intro u3 (And.intro u4 (And.intro u5 (And.intro u6 (And.intro u7 (And.intro u8 (And.intro u9 (And.intro u10 (And.intro u11 (And.intro u12 (And.intro u13 u14))))))))))))))
            clear hC5 hng u0 u1 u2 u3 u4 u5 u6 u7 u8 u9 u10 u11 u12 u13 u14
            generalize ps[i] = x at *
            obtain ⟨u0, u1, u2, u3, u4, _, _, _, _, _, _, _, _, _, _⟩ := HU.out
            have f0 := (BW.out.cell (World.block_lt_of_cell? w0 _ u0)).trans u0
            have f1 := (BW.out.cell (World.block_lt_of_cell? w0 _ u1)).trans u1
            have f2 := (BW.out.cell (World.block_lt_of_cell? w0 _ u2)).trans u2
            have f3 := (BW.out.cell (World.block_lt_of_cell? w0 _ u3)).trans u3
            have f4 := (BW.out.cell (World.block_lt_of_cell? w0 _ u4)).trans u4
            clear u0 u1 u2 u3 u4
            have k6 := blk_cell (blk_below XB3.out HK.out) 6
            go_upto_region 15 with fail
            clear k6
            refine start_ (n := 14) (S := fun w' => w'.cell? ⟨gb, 6, none⟩ = some (.slice (some ad) ps.length c4) ∧ w'.cell? (ad.add (i * 15)) = some (.int .i64 x.f0) ∧ w'.cell? ⟨(ad.add (i * 15)).block, (ad.add (i * 15)).off + 1, none⟩ = some (.int .i64 x.f1) ∧ w'.cell? ⟨(ad.add (i * 15)).block, (ad.add (i * 15)).off + 2, none⟩ = some (.int .i64 x.f2) ∧ w'.cell? ⟨(ad.add (i * 15)).block, (ad.add (i * 15)).off + 3, none⟩ = some (.string x.f3) ∧ w'.cell? ⟨(ad.add (i * 15)).block, (ad.add (i * 15)).off + 4, none⟩ = some (.slice B4 x.f4.length d4)) (ds := []) #[false, false, false, false, false, false, false, false, false, false, false, false, false, false] (by kernel_rfl) rfl rfl ⟨blk_cell (XQ.out) 6, f0, f1, f2, f3, f4⟩ (fun hHeld => ?_)
            refine pure_ (i := 0) (N := some 63) (v := ?_) (a' := ?_) #[true, false, false, false, false, false, false, false, false, false, false, false, false, false] rfl rfl (by kernel_rfl) (fun _ _ _ h => h) (Or.inl ⟨by rfl, ?_⟩) ?_ ?_
            rotate_left
            · intro w'
              go_simp
              with_reducible rfl
            rotate_left
            · simp only [Act.put, List.setIfInBounds_toArray, List.set_cons_zero, List.set_cons_succ, i64_w, i32_w]
              rfl
            refine pure_ (i := 2) (N := some 65) (v := ?_) (a' := ?_) #[true, false, true, false, false, false, false, false, false, false, false, false, false, false] rfl rfl (by kernel_rfl) (fun _ _ _ h => h) (Or.inl ⟨by rfl, ?_⟩) ?_ ?_
            rotate_left
            · intro w'
              go_simp
              with_reducible rfl
            rotate_left
            · simp only [Act.put, List.setIfInBounds_toArray, List.set_cons_zero, List.set_cons_succ, i64_w, i32_w]
              rfl
            refine pure_ (i := 4) (N := some 67) (v := ?_) (a' := ?_) #[true, false, true, false, true, false, false, false, false, false, false, false, false, false] rfl rfl (by kernel_rfl) (fun _ _ _ h => h) (Or.inl ⟨by rfl, ?_⟩) ?_ ?_
            rotate_left
            · intro w'
              go_simp
              with_reducible rfl
            rotate_left
            · simp only [Act.put, List.setIfInBounds_toArray, List.set_cons_zero, List.set_cons_succ, i64_w, i32_w]
              rfl
            refine pure_ (i := 9) (N := some 72) (v := ?_) (a' := ?_) #[true, false, true, false, true, false, false, false, false, true, false, false, false, false] rfl rfl (by kernel_rfl) (fun _ _ _ h => h) (Or.inl ⟨by rfl, ?_⟩) ?_ ?_
            rotate_left
            · intro w'
              go_simp
              with_reducible rfl
            rotate_left
            · simp only [Act.put, List.setIfInBounds_toArray, List.set_cons_zero, List.set_cons_succ, i64_w, i32_w]
              rfl
            refine pure_ (i := 10) (N := some 73) (v := ?_) (a' := ?_) #[true, false, true, false, true, false, false, false, false, true, true, false, false, false] rfl rfl (by kernel_rfl) (fun _ _ _ h => h) (Or.inl ⟨by rfl, ?_⟩) ?_ ?_
            rotate_left
            · intro w'
              go_simp
              with_reducible rfl
            rotate_left
            · simp only [Act.put, List.setIfInBounds_toArray, List.set_cons_zero, List.set_cons_succ, i64_w, i32_w]
              rfl
            refine take_ (i := 1) (N := some 64) (v := ?_) (a' := ?_) #[true, true, true, false, true, false, false, false, false, true, true, false, false, false] rfl rfl (by kernel_rfl) (fun _ _ _ h => h) (Or.inl ⟨by rfl, ?_⟩) hHeld ?_ ?_
            rotate_left
            · rintro w' ⟨s0, s1, s2, s3, s4, s5⟩
              go_simp
              with_reducible rfl
            rotate_left
            · simp only [Act.put, List.setIfInBounds_toArray, List.set_cons_zero, List.set_cons_succ, i64_w, i32_w]
              rfl
            refine take_ (i := 3) (N := some 66) (v := ?_) (a' := ?_) #[true, true, true, true, true, false, false, false, false, true, true, false, false, false] rfl rfl (by kernel_rfl) (fun _ _ _ h => h) (Or.inl ⟨by rfl, ?_⟩) hHeld ?_ ?_
            rotate_left
            · rintro w' ⟨s0, s1, s2, s3, s4, s5⟩
              go_simp
              with_reducible rfl
            rotate_left
            · simp only [Act.put, List.setIfInBounds_toArray, List.set_cons_zero, List.set_cons_succ, i64_w, i32_w]
              rfl
            refine pure_ (i := 5) (N := some 68) (v := ?_) (a' := ?_) #[true, true, true, true, true, true, false, false, false, true, true, false, false, false] rfl rfl (by kernel_rfl) (fun _ _ _ h => h) (Or.inl ⟨by rfl, ?_⟩) ?_ ?_
            rotate_left
            · intro w'
              go_simp
              with_reducible rfl
            rotate_left
            · simp only [Act.put, List.setIfInBounds_toArray, List.set_cons_zero, List.set_cons_succ, i64_w, i32_w]
              rfl
            refine pure_ (i := 6) (N := some 69) (v := ?_) (a' := ?_) #[true, true, true, true, true, true, true, false, false, true, true, false, false, false] rfl rfl (by kernel_rfl) (fun _ _ _ h => h) (Or.inl ⟨by rfl, ?_⟩) ?_ ?_
            rotate_left
            · intro w'
              go_simp
              with_reducible rfl
            rotate_left
            · simp only [Act.put, List.setIfInBounds_toArray, List.set_cons_zero, List.set_cons_succ, i64_w, i32_w]
              rfl
            refine take_ (i := 7) (N := some 70) (v := ?_) (a' := ?_) #[true, true, true, true, true, true, true, true, false, true, true, false, false, false] rfl rfl (by kernel_rfl) (fun _ _ _ h => h) (Or.inl ⟨by rfl, ?_⟩) hHeld ?_ ?_
            rotate_left
            · rintro w' ⟨s0, s1, s2, s3, s4, s5⟩
              go_simp
              with_reducible rfl
            rotate_left
            · simp only [Act.put, List.setIfInBounds_toArray, List.set_cons_zero, List.set_cons_succ, i64_w, i32_w]
              rfl
            refine one_ (i := 8) (N := some 71) #[true, true, true, true, true, true, true, true, true, true, true, false, false, false] rfl rfl (by kernel_rfl) (by decide) (fun K hK => ?_)
            refine value_ (w1 := ?_) (v := ?_) (by rfl) rfl ?_ ?_
            rotate_left 2
            · go_simp
              constructor
              · rfl
              · rfl
            have hal := below_alloc (Below.refl wq.drew.heap.size wq.drew) (.cells #[.int .i64 x.f0, .int .i64 x.f1, .int .i64 x.f2, .string x.f3, .slice B4 x.f4.length d4] 53)
            have XA := Lib.hid (blk_below XQ.out hal)
            have BA := Lib.hid (below_step BQ.out hal)
            have C1 := Lib.hid (C_one (d := k53) (blk_new wq.drew (.cells #[.int .i64 x.f0, .int .i64 x.f1, .int .i64 x.f2, .string x.f3, .slice B4 x.f4.length d4] 53)) (k53_mk _ x hc5 (Kd.C_below HC5.out (below_step BW.out hal))) rfl)
            have g0 := (hal.cell (World.block_lt_of_cell? _ _ f0)).trans f0
            have g1 := (hal.cell (World.block_lt_of_cell? _ _ f1)).trans f1
            have g2 := (hal.cell (World.block_lt_of_cell? _ _ f2)).trans f2
            have g3 := (hal.cell (World.block_lt_of_cell? _ _ f3)).trans f3
            have g4 := (hal.cell (World.block_lt_of_cell? _ _ f4)).trans f4
            clear hal
            refine hK.out _ _ ⟨blk_cell (XA.out) 6, g0, g1, g2, g3, g4⟩ (fun hHeld => ?_)
            clear hK K
            refine norm_ (a' := ?_) ?_ ?_
            rotate_left
            · show Act.put _ (some 71) _ = _
              simp only [Act.put, List.setIfInBounds_toArray, List.set_cons_zero, List.set_cons_succ, i64_w, i32_w]
              rfl
            refine one_ (i := 11) (N := some 74) #[true, true, true, true, true, true, true, true, true, true, true, true, false, false] rfl rfl (by kernel_rfl) (by decide) (fun K hK => ?_)
            refine call_ 44 #[.agg #[], .slice (some ⟨wq.heap.size, 0, none⟩) 1 1, .int .i64 (wrap64 (left - 1))] (by rfl) rfl (by go_simp) ?_
            refine (deep_any _ _ [x] (Nat.le_refl _) (some ⟨wq.heap.size, 0, none⟩) 1 (wrap64 (left - 1)) _ (Below.refl _ _) C1.out (Nat.le_refl _) hx1).mono ?_
            rintro e w15 ⟨v15, rfl, hd⟩
            refine ⟨_, rfl, ?_⟩
            have XN := Lib.hid (blk_below XA.out hd)
            have BN := Lib.hid (below_step BA.out hd)
            refine hK.out _ _ ⟨blk_cell (XN.out) 6, (hd.cell (World.block_lt_of_cell? _ _ g0)).trans g0, (hd.cell (World.block_lt_of_cell? _ _ g1)).trans g1, (hd.cell (World.block_lt_of_cell? _ _ g2)).trans g2, (hd.cell (World.block_lt_of_cell? _ _ g3)).trans g3, (hd.cell (World.block_lt_of_cell? _ _ g4)).trans g4⟩ (fun hHeld => ?_)
            clear hK K
            refine norm_ (a' := ?_) ?_ ?_
            rotate_left
            · show Act.put _ (some 74) _ = _
              simp only [Act.put, List.setIfInBounds_toArray, List.set_cons_zero, List.set_cons_succ, i64_w, i32_w]
              rfl
            refine pure_ (i := 12) (N := some 75) (v := ?_) (a' := ?_) #[true, true, true, true, true, true, true, true, true, true, true, true, true, false] rfl rfl (by kernel_rfl) (fun _ _ _ h => h) (Or.inl ⟨by rfl, ?_⟩) ?_ ?_
            rotate_left
            · intro w'
              go_simp
              with_reducible rfl
            rotate_left
            · simp only [Act.put, List.setIfInBounds_toArray, List.set_cons_zero, List.set_cons_succ, i64_w, i32_w]
              rfl
            refine pure_ (i := 13) (N := some 7) (v := ?_) (a' := ?_) #[true, true, true, true, true, true, true, true, true, true, true, true, true, true] rfl rfl (by kernel_rfl) (fun _ _ _ h => h) (Or.inl ⟨by rfl, ?_⟩) ?_ ?_
            rotate_left
            · intro w'
              go_simp
              with_reducible rfl
            rotate_left
            · simp only [Act.put, List.setIfInBounds_toArray, List.set_cons_zero, List.set_cons_succ, i64_w, i32_w]
              rfl
            refine done_ (by kernel_rfl) ?_
            clear f0 f1 f2 f3 f4
            clear g0 g1 g2 g3 g4 XA BA C1
            generalize (if m < v15 then v15 else m) = m1
            have BQ2 := Lib.hid (below_drew1 BN.out)
            have XQ2 := Lib.hid (blk_below XB3.out BQ2.out)
            have BW2 := Lib.hid (below_step BW3.out BQ2.out)
            clear XQ BQ BW XN BN
            have XQ := Lib.hid XQ2.out
            have BQ := Lib.hid BQ2.out
            have BW := Lib.hid BW2.out
            clear XQ2 BQ2 BW2
            obtain ⟨_, _, _, _, _, u5, _, _, _, _, _, _, _, _, _⟩ := HU.out
            have f5 := (BW.out.cell (World.block_lt_of_cell? w0 _ u5)).trans u5
            clear u5
            go_upto_region 16 with fail
            refine start_ (n := 13) (S := fun w' => w'.cell? ⟨gb, 6, none⟩ = some (.slice (some ad) ps.length c4) ∧ w'.cell? ⟨(ad.add (i * 15)).block, (ad.add (i * 15)).off + 5, none⟩ = some (.slice B5 0 d5)) (ds := []) #[false, false, false, false, false, false, false, false, false, false, false, false, false] (by kernel_rfl) rfl rfl ⟨blk_cell (XQ.out) 6, f5⟩ (fun hHeld => ?_)
            refine pure_ (i := 0) (N := some 76) (v := ?_) (a' := ?_) #[true, false, false, false, false, false, false, false, false, false, false, false, false] rfl rfl (by kernel_rfl) (fun _ _ _ h => h) (Or.inl ⟨by rfl, ?_⟩) ?_ ?_
            rotate_left
            · intro w'
              go_simp
              with_reducible rfl
            rotate_left
            · simp only [Act.put, List.setIfInBounds_toArray, List.set_cons_zero, List.set_cons_succ, i64_w, i32_w]
              rfl
            refine pure_ (i := 2) (N := some 78) (v := ?_) (a' := ?_) #[true, false, true, false, false, false, false, false, false, false, false, false, false] rfl rfl (by kernel_rfl) (fun _ _ _ h => h) (Or.inl ⟨by rfl, ?_⟩) ?_ ?_
            rotate_left
            · intro w'
              go_simp
              with_reducible rfl
            rotate_left
            · simp only [Act.put, List.setIfInBounds_toArray, List.set_cons_zero, List.set_cons_succ, i64_w, i32_w]
              rfl
            refine pure_ (i := 4) (N := some 80) (v := ?_) (a' := ?_) #[true, false, true, false, true, false, false, false, false, false, false, false, false] rfl rfl (by kernel_rfl) (fun _ _ _ h => h) (Or.inl ⟨by rfl, ?_⟩) ?_ ?_
            rotate_left
            · intro w'
              go_simp
              with_reducible rfl
            rotate_left
            · simp only [Act.put, List.setIfInBounds_toArray, List.set_cons_zero, List.set_cons_succ, i64_w, i32_w]
              rfl
            refine pure_ (i := 8) (N := some 84) (v := ?_) (a' := ?_) #[true, false, true, false, true, false, false, false, true, false, false, false, false] rfl rfl (by kernel_rfl) (fun _ _ _ h => h) (Or.inl ⟨by rfl, ?_⟩) ?_ ?_
            rotate_left
            · intro w'
              go_simp
              with_reducible rfl
            rotate_left
            · simp only [Act.put, List.setIfInBounds_toArray, List.set_cons_zero, List.set_cons_succ, i64_w, i32_w]
              rfl
            refine pure_ (i := 9) (N := some 85) (v := ?_) (a' := ?_) #[true, false, true, false, true, false, false, false, true, true, false, false, false] rfl rfl (by kernel_rfl) (fun _ _ _ h => h) (Or.inl ⟨by rfl, ?_⟩) ?_ ?_
            rotate_left
            · intro w'
              go_simp
              with_reducible rfl
            rotate_left
            · simp only [Act.put, List.setIfInBounds_toArray, List.set_cons_zero, List.set_cons_succ, i64_w, i32_w]
              rfl
            refine take_ (i := 1) (N := some 77) (v := ?_) (a' := ?_) #[true, true, true, false, true, false, false, false, true, true, false, false, false] rfl rfl (by kernel_rfl) (fun _ _ _ h => h) (Or.inl ⟨by rfl, ?_⟩) hHeld ?_ ?_
            rotate_left
            · rintro w' ⟨s0, s1⟩
              go_simp
              with_reducible rfl
            rotate_left
            · simp only [Act.put, List.setIfInBounds_toArray, List.set_cons_zero, List.set_cons_succ, i64_w, i32_w]
              rfl
            refine take_ (i := 3) (N := some 79) (v := ?_) (a' := ?_) #[true, true, true, true, true, false, false, false, true, true, false, false, false] rfl rfl (by kernel_rfl) (fun _ _ _ h => h) (Or.inl ⟨by rfl, ?_⟩) hHeld ?_ ?_
            rotate_left
            · rintro w' ⟨s0, s1⟩
              go_simp
              with_reducible rfl
            rotate_left
            · simp only [Act.put, List.setIfInBounds_toArray, List.set_cons_zero, List.set_cons_succ, i64_w, i32_w]
              rfl
            refine pure_ (i := 5) (N := some 81) (v := ?_) (a' := ?_) #[true, true, true, true, true, true, false, false, true, true, false, false, false] rfl rfl (by kernel_rfl) (fun _ _ _ h => h) (Or.inl ⟨by rfl, ?_⟩) ?_ ?_
            rotate_left
            · intro w'
              go_simp
              with_reducible rfl
            rotate_left
            · simp only [Act.put, List.setIfInBounds_toArray, List.set_cons_zero, List.set_cons_succ, i64_w, i32_w]
              rfl
            refine pure_ (i := 6) (N := some 82) (v := ?_) (a' := ?_) #[true, true, true, true, true, true, true, false, true, true, false, false, false] rfl rfl (by kernel_rfl) (fun _ _ _ h => h) (Or.inl ⟨by rfl, ?_⟩) ?_ ?_
            rotate_left
            · intro w'
              go_simp
              with_reducible rfl
            rotate_left
            · simp only [Act.put, List.setIfInBounds_toArray, List.set_cons_zero, List.set_cons_succ, i64_w, i32_w]
              rfl
            refine take_ (i := 7) (N := some 83) (v := ?_) (a' := ?_) #[true, true, true, true, true, true, true, true, true, true, false, false, false] rfl rfl (by kernel_rfl) (fun _ _ _ h => h) (Or.inl ⟨by rfl, ?_⟩) hHeld ?_ ?_
            rotate_left
            · rintro w' ⟨s0, s1⟩
              go_simp
              with_reducible rfl
            rotate_left
            · simp only [Act.put, List.setIfInBounds_toArray, List.set_cons_zero, List.set_cons_succ, i64_w, i32_w]
              rfl
            refine one_ (i := 10) (N := some 86) #[true, true, true, true, true, true, true, true, true, true, true, false, false] rfl rfl (by kernel_rfl) (by decide) (fun K hK => ?_)
            refine call_ 37 #[.agg #[], .slice B5 0 d5, .int .i64 (wrap64 (left - 1))] (by rfl) rfl (by go_simp) ?_
            refine (deepE_nil _ B5 d5 (wrap64 (left - 1))).mono ?_
            rintro e w16 ⟨v16, rfl, hd⟩
            refine ⟨_, rfl, ?_⟩
            have XN := Lib.hid (blk_below XQ.out hd)
            have BN := Lib.hid (below_step BQ.out hd)
            refine hK.out _ _ ⟨blk_cell (XN.out) 6, (hd.cell (World.block_lt_of_cell? _ _ f5)).trans f5⟩ (fun hHeld => ?_)
            clear hK K
            refine norm_ (a' := ?_) ?_ ?_
            rotate_left
            · show Act.put _ (some 86) _ = _
              simp only [Act.put, List.setIfInBounds_toArray, List.set_cons_zero, List.set_cons_succ, i64_w, i32_w]
              rfl
            refine pure_ (i := 11) (N := some 87) (v := ?_) (a' := ?_) #[true, true, true, true, true, true, true, true, true, true, true, true, false] rfl rfl (by kernel_rfl) (fun _ _ _ h => h) (Or.inl ⟨by rfl, ?_⟩) ?_ ?_
            rotate_left
            · intro w'
              go_simp
              with_reducible rfl
            rotate_left
            · simp only [Act.put, List.setIfInBounds_toArray, List.set_cons_zero, List.set_cons_succ, i64_w, i32_w]
              rfl
            refine pure_ (i := 12) (N := some 7) (v := ?_) (a' := ?_) #[true, true, true, true, true, true, true, true, true, true, true, true, true] rfl rfl (by kernel_rfl) (fun _ _ _ h => h) (Or.inl ⟨by rfl, ?_⟩) ?_ ?_
            rotate_left
            · intro w'
              go_simp
              with_reducible rfl
            rotate_left
            · simp only [Act.put, List.setIfInBounds_toArray, List.set_cons_zero, List.set_cons_succ, i64_w, i32_w]
              rfl
            refine done_ (by kernel_rfl) ?_
            clear f5
            generalize (if m1 < v16 then v16 else m1) = m2
            have BQ2 := Lib.hid (below_drew1 BN.out)
            have XQ2 := Lib.hid (blk_below XB3.out BQ2.out)
            have BW2 := Lib.hid (below_step BW3.out BQ2.out)
            clear XQ BQ BW XN BN
            have XQ := Lib.hid XQ2.out
            have BQ := Lib.hid BQ2.out
            have BW := Lib.hid BW2.out
            clear XQ2 BQ2 BW2
            obtain ⟨_, _, _, _, _, _, u6, u7, u8, u9, u10, u11, u12, u13, u14⟩ := HU.out
            have f6 := (BW.out.cell (World.block_lt_of_cell? w0 _ u6)).trans u6
            have f7 := (BW.out.cell (World.block_lt_of_cell? w0 _ u7)).trans u7
            have f8 := (BW.out.cell (World.block_lt_of_cell? w0 _ u8)).trans u8
            have f9 := (BW.out.cell (World.block_lt_of_cell? w0 _ u9)).trans u9
            have f10 := (BW.out.cell (World.block_lt_of_cell? w0 _ u10)).trans u10
            have f11 := (BW.out.cell (World.block_lt_of_cell? w0 _ u11)).trans u11
            have f12 := (BW.out.cell (World.block_lt_of_cell? w0 _ u12)).trans u12
            have f13 := (BW.out.cell (World.block_lt_of_cell? w0 _ u13)).trans u13
            have f14 := (BW.out.cell (World.block_lt_of_cell? w0 _ u14)).trans u14
            clear u6 u7 u8 u9 u10 u11 u12 u13 u14
            go_upto_region 17 with fail
            refine start_ (n := 13) (S := fun w' => w'.cell? ⟨gb, 6, none⟩ = some (.slice (some ad) ps.length c4) ∧ w'.cell? ⟨(ad.add (i * 15)).block, (ad.add (i * 15)).off + 6, none⟩ = some (.slice B6 0 d6) ∧ w'.cell? ⟨(ad.add (i * 15)).block, (ad.add (i * 15)).off + 7, none⟩ = some (.int .i64 0) ∧ w'.cell? ⟨(ad.add (i * 15)).block, (ad.add (i * 15)).off + 8, none⟩ = some (.int .i64 0) ∧ w'.cell? ⟨(ad.add (i * 15)).block, (ad.add (i * 15)).off + 9, none⟩ = some (.string ⟨#[]⟩) ∧ w'.cell? ⟨(ad.add (i * 15)).block, (ad.add (i * 15)).off + 10, none⟩ = some (.slice B7 0 d7) ∧ w'.cell? ⟨(ad.add (i * 15)).block, (ad.add (i * 15)).off + 11, none⟩ = some (.slice B8 0 d8) ∧ w'.cell? ⟨(ad.add (i * 15)).block, (ad.add (i * 15)).off + 12, none⟩ = some (.slice B9 0 d9) ∧ w'.cell? ⟨(ad.add (i * 15)).block, (ad.add (i * 15)).off + 13, none⟩ = some (.bool false) ∧ w'.cell? ⟨(ad.add (i * 15)).block, (ad.add (i * 15)).off + 14, none⟩ = some (.int .i64 0)) (ds := []) #[false, false, false, false, false, false, false, false, false, false, false, false, false] (by kernel_rfl) rfl rfl ⟨blk_cell (XQ.out) 6, f6, f7, f8, f9, f10, f11, f12, f13, f14⟩ (fun hHeld => ?_)
            refine pure_ (i := 0) (N := some 88) (v := ?_) (a' := ?_) #[true, false, false, false, false, false, false, false, false, false, false, false, false] rfl rfl (by kernel_rfl) (fun _ _ _ h => h) (Or.inl ⟨by rfl, ?_⟩) ?_ ?_
            rotate_left
            · intro w'
              go_simp
              with_reducible rfl
            rotate_left
            · simp only [Act.put, List.setIfInBounds_toArray, List.set_cons_zero, List.set_cons_succ, i64_w, i32_w]
              rfl
            refine pure_ (i := 2) (N := some 90) (v := ?_) (a' := ?_) #[true, false, true, false, false, false, false, false, false, false, false, false, false] rfl rfl (by kernel_rfl) (fun _ _ _ h => h) (Or.inl ⟨by rfl, ?_⟩) ?_ ?_
            rotate_left
            · intro w'
              go_simp
              with_reducible rfl
            rotate_left
            · simp only [Act.put, List.setIfInBounds_toArray, List.set_cons_zero, List.set_cons_succ, i64_w, i32_w]
              rfl
            refine pure_ (i := 4) (N := some 92) (v := ?_) (a' := ?_) #[true, false, true, false, true, false, false, false, false, false, false, false, false] rfl rfl (by kernel_rfl) (fun _ _ _ h => h) (Or.inl ⟨by rfl, ?_⟩) ?_ ?_
            rotate_left
            · intro w'
              go_simp
              with_reducible rfl
            rotate_left
            · simp only [Act.put, List.setIfInBounds_toArray, List.set_cons_zero, List.set_cons_succ, i64_w, i32_w]
              rfl
            refine pure_ (i := 8) (N := some 96) (v := ?_) (a' := ?_) #[true, false, true, false, true, false, false, false, true, false, false, false, false] rfl rfl (by kernel_rfl) (fun _ _ _ h => h) (Or.inl ⟨by rfl, ?_⟩) ?_ ?_
            rotate_left
            · intro w'
              go_simp
              with_reducible rfl
            rotate_left
            · simp only [Act.put, List.setIfInBounds_toArray, List.set_cons_zero, List.set_cons_succ, i64_w, i32_w]
              rfl
            refine pure_ (i := 9) (N := some 97) (v := ?_) (a' := ?_) #[true, false, true, false, true, false, false, false, true, true, false, false, false] rfl rfl (by kernel_rfl) (fun _ _ _ h => h) (Or.inl ⟨by rfl, ?_⟩) ?_ ?_
            rotate_left
            · intro w'
              go_simp
              with_reducible rfl
            rotate_left
            · simp only [Act.put, List.setIfInBounds_toArray, List.set_cons_zero, List.set_cons_succ, i64_w, i32_w]
              rfl
            refine take_ (i := 1) (N := some 89) (v := ?_) (a' := ?_) #[true, true, true, false, true, false, false, false, true, true, false, false, false] rfl rfl (by kernel_rfl) (fun _ _ _ h => h) (Or.inl ⟨by rfl, ?_⟩) hHeld ?_ ?_
            rotate_left
            · rintro w' ⟨s0, s1, s2, s3, s4, s5, s6, s7, s8, s9⟩
              go_simp
              with_reducible rfl
            rotate_left
            · simp only [Act.put, List.setIfInBounds_toArray, List.set_cons_zero, List.set_cons_succ, i64_w, i32_w]
              rfl
            refine take_ (i := 3) (N := some 91) (v := ?_) (a' := ?_) #[true, true, true, true, true, false, false, false, true, true, false, false, false] rfl rfl (by kernel_rfl) (fun _ _ _ h => h) (Or.inl ⟨by rfl, ?_⟩) hHeld ?_ ?_
            rotate_left
            · rintro w' ⟨s0, s1, s2, s3, s4, s5, s6, s7, s8, s9⟩
              go_simp
              with_reducible rfl
            rotate_left
            · simp only [Act.put, List.setIfInBounds_toArray, List.set_cons_zero, List.set_cons_succ, i64_w, i32_w]
              rfl
            refine pure_ (i := 5) (N := some 93) (v := ?_) (a' := ?_) #[true, true, true, true, true, true, false, false, true, true, false, false, false] rfl rfl (by kernel_rfl) (fun _ _ _ h => h) (Or.inl ⟨by rfl, ?_⟩) ?_ ?_
            rotate_left
            · intro w'
              go_simp
              with_reducible rfl
            rotate_left
            · simp only [Act.put, List.setIfInBounds_toArray, List.set_cons_zero, List.set_cons_succ, i64_w, i32_w]
              rfl
            refine pure_ (i := 6) (N := some 94) (v := ?_) (a' := ?_) #[true, true, true, true, true, true, true, false, true, true, false, false, false] rfl rfl (by kernel_rfl) (fun _ _ _ h => h) (Or.inl ⟨by rfl, ?_⟩) ?_ ?_
            rotate_left
            · intro w'
              go_simp
              with_reducible rfl
            rotate_left
            · simp only [Act.put, List.setIfInBounds_toArray, List.set_cons_zero, List.set_cons_succ, i64_w, i32_w]
              rfl
            refine take_ (i := 7) (N := some 95) (v := ?_) (a' := ?_) #[true, true, true, true, true, true, true, true, true, true, false, false, false] rfl rfl (by kernel_rfl) (fun _ _ _ h => h) (Or.inl ⟨by rfl, ?_⟩) hHeld ?_ ?_
            rotate_left
            · rintro w' ⟨s0, s1, s2, s3, s4, s5, s6, s7, s8, s9⟩
              go_simp
              with_reducible rfl
            rotate_left
            · simp only [Act.put, List.setIfInBounds_toArray, List.set_cons_zero, List.set_cons_succ, i64_w, i32_w]
              rfl
            refine one_ (i := 10) (N := some 98) #[true, true, true, true, true, true, true, true, true, true, true, false, false] rfl rfl (by kernel_rfl) (by decide) (fun K hK => ?_)
            refine call_ 38 #[.agg #[], .agg #[.slice B6 0 d6, .int .i64 0, .int .i64 0, .string ⟨#[]⟩, .slice B7 0 d7, .slice B8 0 d8, .slice B9 0 d9, .bool false, .int .i64 0], .int .i64 (wrap64 (left - 1))] (by rfl) rfl (by go_simp) ?_
            refine (hbody B6 d6 0 0 ⟨#[]⟩ B7 d7 B8 d8 B9 d9 false 0 (wrap64 (left - 1)) _ BW.out ⟨rfl, by simp, fun h => absurd h (Nat.lt_irrefl 0)⟩ (Nat.zero_le _) (Nat.zero_le _)).mono ?_
            rintro e w17 ⟨v17, rfl, hd⟩
            refine ⟨_, rfl, ?_⟩
            have XN := Lib.hid (blk_below XQ.out hd)
            have BN := Lib.hid (below_step BQ.out hd)
            refine hK.out _ _ ⟨blk_cell (XN.out) 6, (hd.cell (World.block_lt_of_cell? _ _ f6)).trans f6, (hd.cell (World.block_lt_of_cell? _ _ f7)).trans f7, (hd.cell (World.block_lt_of_cell? _ _ f8)).trans f8, (hd.cell (World.block_lt_of_cell? _ _ f9)).trans f9, (hd.cell (World.block_lt_of_cell? _ _ f10)).trans f10, (hd.cell (World.block_lt_of_cell? _ _ f11)).trans f11, (hd.cell (World.block_lt_of_cell? _ _ f12)).trans f12, (hd.cell (World.block_lt_of_cell? _ _ f13)).trans f13, (hd.cell (World.block_lt_of_cell? _ _ f14)).trans f14⟩ (fun hHeld => ?_)
            clear hK K
            refine norm_ (a' := ?_) ?_ ?_
            rotate_left
            · show Act.put _ (some 98) _ = _
              simp only [Act.put, List.setIfInBounds_toArray, List.set_cons_zero, List.set_cons_succ, i64_w, i32_w]
              rfl
            refine pure_ (i := 11) (N := some 99) (v := ?_) (a' := ?_) #[true, true, true, true, true, true, true, true, true, true, true, true, false] rfl rfl (by kernel_rfl) (fun _ _ _ h => h) (Or.inl ⟨by rfl, ?_⟩) ?_ ?_
            rotate_left
            · intro w'
              go_simp
              with_reducible rfl
            rotate_left
            · simp only [Act.put, List.setIfInBounds_toArray, List.set_cons_zero, List.set_cons_succ, i64_w, i32_w]
              rfl
            refine pure_ (i := 12) (N := some 7) (v := ?_) (a' := ?_) #[true, true, true, true, true, true, true, true, true, true, true, true, true] rfl rfl (by kernel_rfl) (fun _ _ _ h => h) (Or.inl ⟨by rfl, ?_⟩) ?_ ?_
            rotate_left
            · intro w'
              go_simp
              with_reducible rfl
            rotate_left
            · simp only [Act.put, List.setIfInBounds_toArray, List.set_cons_zero, List.set_cons_succ, i64_w, i32_w]
              rfl
            refine done_ (by kernel_rfl) ?_
            clear f6 f7 f8 f9 f10 f11 f12 f13 f14
            generalize (if m2 < v17 then v17 else m2) = m3
            go_wp2
            go_roundw
            case rel => exact ⟨i + 1, m3, by go_num, rfl, hlt, BN⟩
            case measure => simp [intOf]; omega
          · obtain rfl : i = ps.length := by omega
            have k6 := blk_cell (blk_below XB3.out HK.out) 6
            go_wp2
            go_ret
            exact ⟨_, rfl, below_step B1.out (below_step B3.out HK.out)⟩
theorem dbody_any (w0 : World) (ps : List S53) : DBodyC w0 ps := dbody_ok w0 ps fun _ => dbody_ok w0 [] fun h => absurd rfl h
end Go.Proofs.Ytelheeekbihfcaa.Pt
