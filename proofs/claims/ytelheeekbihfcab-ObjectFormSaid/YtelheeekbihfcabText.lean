/- The reference's text. -/
import Derived.Test.YtelheeekbihfcabBuf
set_option linter.unusedVariables false
set_option linter.unusedSimpArgs false
namespace Go.Proofs.Ytelheeekbihfcab.Ob
open Go.RowKit Go.Proofs Go.Proofs.Ytelheeekbihfcab.PObjectReads Go.Proofs.YtelheeekbihfcabW.PrintWords Go.Proofs.YtelheeekbihfcabW.PrintMore Go.Proofs.YtelheeekbihfcabW.PrintLast

theorem bytes_take (y : ByteArray) (i : Nat) (h : i < y.size) : (bytesOf y).take (i + 1) = (bytesOf y).take i ++ [bt y i] := by
  have h1 : i < (bytesOf y).length := by rw [bytesOf_length]; exact h
  rw [List.take_succ_eq_append_getElem h1, ← rd_bytesOf]
  simp [rd, List.getD_eq_getElem?_getD, h1]

set_option maxRecDepth 100000 in
set_option maxHeartbeats 4000000 in
theorem text_call (base g : Nat) (y : ByteArray) (W : World) (bs : List Int) (hB : Buf base g 70 W bs) (hbase : base ≤ W.heap.size) (hg : base ≤ g) (hy : y.size ≤ 1000000) (hl : bs.length ≤ 1000000000) :
    Calls Try.prog 29 #[.pointer (some ⟨g, 0, none⟩), .string y] W fun e W' => e = .returned (.tuple #[]) ∧ Buf base g 70 W' (bs ++ bytesOf y) ∧ KB base g W W' := by
  have HB := Lib.hid hB
  clear hB
  go_enter Try.func29, Try.ntmps29
  go_wp2
  go_loopw [4] (fun v4 wr => ∃ (i : Nat) (bs' : List Int), v4 = .int .i64 i ∧ i ≤ y.size ∧ Hid (bs' = bs ++ (bytesOf y).take i) ∧ Hid (Buf base g 70 wr bs') ∧ Hid (KB base g W wr)) (fun v4 _ => y.size - (intOf v4).toNat)
  case atStart => exact ⟨0, bs, by go_num, Nat.zero_le _, Lib.hid (by simp), HB, Lib.hid (KB.refl _ _ _)⟩
  case round =>
    obtain ⟨i, bs', rfl, hi, HE, HB, HK⟩ := hrel
    by_cases hlt : i < y.size
    · obtain ⟨v, h1, h2⟩ := HB.out.out
      have hlen : bs'.length ≤ bs.length + i := by rw [HE.out]; simp; omega
      have HE2 := Lib.hid (show bs' ++ [bt y i] = bs ++ (bytesOf y).take (i + 1) by rw [bytes_take y i hlt, HE.out, List.append_assoc])
      have HY := Lib.hid (show ((y[i]'hlt).toNat : Int) = bt y i by simp [bt, hlt])
      have q1 : (i : Int) < y.size := by omega
      have q0 : (0 : Int) ≤ i := by omega
      obtain ⟨Av, cv, hve⟩ := slice_of h2
      subst hve
      have c1 : wr.cell? ⟨g, 0, none⟩ = some (.slice Av bs'.length cv) := blk_cell h1 0
      have H1 := Lib.hid h1
      have H2 := Lib.hid h2
      clear h1 h2
      have hbw : base ≤ wr.heap.size := by have := HK.out.size; omega
      go_upto_region 3 with fail
      refine start_ (n := 13) (S := fun w' => w'.cell? ⟨g, 0, none⟩ = some (.slice Av bs'.length cv)) (ds := [12]) #[false, false, false, false, false, false, false, false, false, false, false, false, false] (by kernel_rfl) rfl rfl (c1) (fun hHeld => ?_)
      refine pure_ (i := 0) (N := some 11) (v := ?_) (a' := ?_) #[true, false, false, false, false, false, false, false, false, false, false, false, false] rfl rfl (by kernel_rfl) (fun _ _ _ h => h) (Or.inl ⟨by rfl, ?_⟩) ?_ ?_
      rotate_left
      · intro w'
        go_simp
        with_reducible rfl
      rotate_left
      · simp only [Act.put, List.setIfInBounds_toArray, List.set_cons_zero, List.set_cons_succ, i64_w, i32_w]
        rfl
      refine pure_ (i := 1) (N := some 12) (v := ?_) (a' := ?_) #[true, true, false, false, false, false, false, false, false, false, false, false, false] rfl rfl (by kernel_rfl) (fun _ _ _ h => h) (Or.inl ⟨by rfl, ?_⟩) ?_ ?_
      rotate_left
      · intro w'
        go_simp
        with_reducible rfl
      rotate_left
      · simp only [Act.put, List.setIfInBounds_toArray, List.set_cons_zero, List.set_cons_succ, i64_w, i32_w]
        rfl
      refine pure_ (i := 2) (N := some 13) (v := ?_) (a' := ?_) #[true, true, true, false, false, false, false, false, false, false, false, false, false] rfl rfl (by kernel_rfl) (fun _ _ _ h => h) (Or.inl ⟨by rfl, ?_⟩) ?_ ?_
      rotate_left
      · intro w'
        go_simp
        with_reducible rfl
      rotate_left
      · simp only [Act.put, List.setIfInBounds_toArray, List.set_cons_zero, List.set_cons_succ, i64_w, i32_w]
        rfl
      refine pure_ (i := 3) (N := some 14) (v := ?_) (a' := ?_) #[true, true, true, true, false, false, false, false, false, false, false, false, false] rfl rfl (by kernel_rfl) (fun _ _ _ h => h) (Or.inl ⟨by rfl, ?_⟩) ?_ ?_
      rotate_left
      · intro w'
        go_simp
        with_reducible rfl
      rotate_left
      · simp only [Act.put, List.setIfInBounds_toArray, List.set_cons_zero, List.set_cons_succ, i64_w, i32_w]
        rfl
      refine pure_ (i := 5) (N := some 16) (v := ?_) (a' := ?_) #[true, true, true, true, false, true, false, false, false, false, false, false, false] rfl rfl (by kernel_rfl) (fun _ _ _ h => h) (Or.inl ⟨by rfl, ?_⟩) ?_ ?_
      rotate_left
      · intro w'
        go_simp
        with_reducible rfl
      rotate_left
      · simp only [Act.put, List.setIfInBounds_toArray, List.set_cons_zero, List.set_cons_succ, i64_w, i32_w]
        rfl
      refine pure_ (i := 6) (N := some 17) (v := ?_) (a' := ?_) #[true, true, true, true, false, true, true, false, false, false, false, false, false] rfl rfl (by kernel_rfl) (fun _ _ _ h => h) (Or.inl ⟨by rfl, ?_⟩) ?_ ?_
      rotate_left
      · intro w'
        go_simp
        with_reducible rfl
      rotate_left
      · simp only [Act.put, List.setIfInBounds_toArray, List.set_cons_zero, List.set_cons_succ, i64_w, i32_w]
        rfl
      refine take_ (i := 4) (N := some 15) (v := ?_) (a' := ?_) #[true, true, true, true, true, true, true, false, false, false, false, false, false] rfl rfl (by kernel_rfl) (fun _ _ _ h => h) (Or.inl ⟨by rfl, ?_⟩) hHeld ?_ ?_
      rotate_left
      · intro w' s0
        go_simp
        with_reducible rfl
      rotate_left
      · simp only [Act.put, List.setIfInBounds_toArray, List.set_cons_zero, List.set_cons_succ, i64_w, i32_w]
        rfl
      refine take_ (i := 7) (N := some 18) (v := ?_) (a' := ?_) #[true, true, true, true, true, true, true, true, false, false, false, false, false] rfl rfl (by kernel_rfl) (fun _ _ _ h => h) (Or.inl ⟨by rfl, ?_⟩) hHeld ?_ ?_
      rotate_left
      · intro w' s0
        go_simp
        with_reducible rfl
      rotate_left
      · simp only [Act.put, List.setIfInBounds_toArray, List.set_cons_zero, List.set_cons_succ, i64_w, i32_w]
        rfl
      refine one_ (i := 8) (N := some 19) #[true, true, true, true, true, true, true, true, true, false, false, false, false] rfl rfl (by kernel_rfl) (by decide) (fun K hK => ?_)
      refine value_ (w1 := ?_) (v := ?_) (by rfl) rfl ?_ ?_
      rotate_left 2
      · go_simp
        constructor
        · rfl
        · rfl
      refine hK.out _ _ ((blk_cell (blk_alloc H1.out _) 0)) (fun hHeld => ?_)
      clear hK K
      refine norm_ (a' := ?_) ?_ ?_
      rotate_left
      · show Act.put _ (some 19) _ = _
        simp only [Act.put, List.setIfInBounds_toArray, List.set_cons_zero, List.set_cons_succ, i64_w, i32_w]
        rfl
      refine one_ (i := 9) (N := some 20) #[true, true, true, true, true, true, true, true, true, true, false, false, false] rfl rfl (by kernel_rfl) (by decide) (fun K hK => ?_)
      refine step_append_cells (W := wr.drew) (w0 := wr.drew) base ?hw (.tmp 15) (.tmp 19) 29 5 (.int .u8 0) 1 1 ?ho Try.underlying29 info5 rfl (by decide) (by decide) (.slice Av bs'.length cv) bs'.length (nums .u8 bs') [.int .u8 ((y[i]'hlt).toNat : Int)] ?hs ?hx rfl (by intro u hu; rw [List.mem_singleton.1 hu]; rfl) H2.out (Below.refl _ _) hbw (by omega) ?_
      (case ho => rfl); (case hw => rfl); (case hs => rfl); (case hx => rfl)
      intro v1 w1 ho hb hgr hat
      rw [show nums .u8 bs' ++ [Value.int .u8 ((y[i]'hlt).toNat : Int)] = nums .u8 (bs' ++ [bt y i]) by rw [← HY.out]; simp [nums], show bs'.length + 1 = (bs' ++ [bt y i]).length by simp] at ho
      obtain ⟨A1, c1', rfl⟩ := slice_of ho
      have cg := blk_cell (blk_grown (w := wr.drew) H1.out hgr (own_ne (w := wr.drew) H2.out H1.out (by decide))) 0
      have fg := blk_frozen (blk_grown (w := wr.drew) H1.out hgr (own_ne (w := wr.drew) H2.out H1.out (by decide))) 0
      have B2 := Lib.hid (Buf.store (W := wr.drew) (t := 70) (by decide) H1.out H2.out hgr ho)
      have K2 := Lib.hid (HK.out.drew.trans (KB.store (W := wr.drew) hg H2.out hgr (v1 := Value.slice A1 (bs' ++ [bt y i]).length c1')))
      rw [List.length_append] at B2 K2
      refine hK.out _ _ cg (fun hHeld => ?_)
      clear ho hb hgr hat
      clear hK K
      refine norm_ (a' := ?_) ?_ ?_
      rotate_left
      · show Act.put _ (some 20) _ = _
        simp only [Act.put, List.setIfInBounds_toArray, List.set_cons_zero, List.set_cons_succ, i64_w, i32_w]
        rfl
      refine pure_ (i := 10) (N := some 21) (v := ?_) (a' := ?_) #[true, true, true, true, true, true, true, true, true, true, true, false, false] rfl rfl (by kernel_rfl) (fun _ _ _ h => h) (Or.inl ⟨by rfl, ?_⟩) ?_ ?_
      rotate_left
      · intro w'
        go_simp
        with_reducible rfl
      rotate_left
      · simp only [Act.put, List.setIfInBounds_toArray, List.set_cons_zero, List.set_cons_succ, i64_w, i32_w]
        rfl
      refine pure_ (i := 11) (N := some 22) (v := ?_) (a' := ?_) #[true, true, true, true, true, true, true, true, true, true, true, true, false] rfl rfl (by kernel_rfl) (fun _ _ _ h => h) (Or.inl ⟨by rfl, ?_⟩) ?_ ?_
      rotate_left
      · intro w'
        go_simp
        with_reducible rfl
      rotate_left
      · simp only [Act.put, List.setIfInBounds_toArray, List.set_cons_zero, List.set_cons_succ, i64_w, i32_w]
        rfl
      refine last_ (i := 12) (N := none) #[true, true, true, true, true, true, true, true, true, true, true, true, true] rfl rfl (by kernel_rfl) (by decide) (fun K hK => ?_)
      refine skip_ (w1 := ?_) (by rfl) rfl ?_ ?_
      rotate_left
      · go_simp
        rfl
      refine hK.out _ _ ?_
      clear hK K
      refine done_ (by kernel_rfl) ?_

      go_wp2
      go_roundw
      case rel => exact ⟨i + 1, bs' ++ [bt y i], by go_num, hlt, HE2, B2, K2⟩
      case measure => simp [intOf]; omega
    · obtain rfl : i = y.size := by omega
      have HE2 := Lib.hid (show bs' = bs ++ bytesOf y by rw [HE.out, List.take_of_length_le (by rw [bytesOf_length]; exact Nat.le_refl _)])
      go_wp2
      go_end0
      exact ⟨rfl, by rw [← HE2.out]; exact HB.out, HK.out⟩
end Go.Proofs.Ytelheeekbihfcab.Ob
