/- The program's put, a closure. -/
import Derived.Test.YtelheeekbihfcabWriteR
set_option linter.unusedVariables false
set_option linter.unusedSimpArgs false
namespace Go.Proofs.Ytelheeekbihfcab.Ob
open Go.RowKit Go.Proofs Go.Proofs.Ytelheeekbihfcab.PObjectReads Go.Proofs.YtelheeekbihfcabW.PrintWords Go.Proofs.YtelheeekbihfcabW.PrintMore Go.Proofs.YtelheeekbihfcabW.PrintLast
attribute [local go_sem] max2_int min2_int max_two min_two max_three min_three max_four min_four

def intOf' : Value → Int
  | .int _ x => x
  | _ => 0
/-- The numbers of a row. -/
def ints (cs : Array Value) : List Int := cs.toList.map intOf'
def lesB (n : Nat) : List Int → List Int
  | [] => []
  | x :: r => le n x ++ lesB n r
theorem lesB_app (n : Nat) : ∀ a b, lesB n (a ++ b) = lesB n a ++ lesB n b
  | [], b => rfl
  | x :: r, b => by simp [lesB, lesB_app n r b]
theorem lesB_len (n : Nat) : ∀ a, (lesB n a).length = n * a.length
  | [] => rfl
  | x :: r => by simp [lesB, lesB_len n r, le_length, Nat.mul_add, Nat.add_comm]
theorem p256 : ∀ i : Nat, (2 : Int) ^ (8 * i) = 256 ^ i
  | 0 => rfl
  | i + 1 => by
    have ih := p256 i
    rw [show 8 * (i + 1) = 8 * i + 1 + 1 + 1 + 1 + 1 + 1 + 1 + 1 by omega]
    simp only [Int.pow_succ]
    omega
/-- Byte i of a number. -/
def byteAt (x : Int) (i : Nat) : Int := x / (256 ^ i) % 256
theorem le_take : ∀ (n : Nat) (x : Int) (i : Nat), i < n → (le n x).take (i + 1) = (le n x).take i ++ [byteAt x i]
  | 0, _, _, h => absurd h (Nat.not_lt_zero _)
  | n + 1, x, 0, _ => by simp [le, byteAt]
  | n + 1, x, i + 1, h => by
    simp only [le, List.take_succ_cons, le_take n (x / 256) i (by omega), List.cons_append]
    congr 3
    unfold byteAt
    rw [Int.ediv_ediv_of_nonneg (by decide), Int.pow_succ, Int.mul_comm]

set_option maxRecDepth 100000 in
set_option maxHeartbeats 4000000 in
theorem putO_call (base g n R : Nat) (cs : Array Value) (c : Nat) (W : World) (bs : List Int) (hB : Buf base g 29 W bs) (hbase : base ≤ W.heap.size) (hg : base ≤ g) (hR : W.heap[R]? = some (.cells cs 22 (0, 0))) (hcs : cs.toList = nums .u64 (ints cs))
    (hx : ∀ x, x ∈ ints cs → 0 ≤ x ∧ x < 18446744073709551616) (hn : n ≤ 8) (hm : (ints cs).length ≤ 10) (hl : bs.length ≤ 1000000000) :
    Calls Try.prog 22 #[.int .i64 n, .slice (some ⟨R, 0, none⟩) (ints cs).length c, .pointer (some ⟨g, 0, none⟩)] W fun e W' => e = .returned (.tuple #[]) ∧ Buf base g 29 W' (bs ++ lesB n (ints cs)) ∧ KB base g W W' := by
  have HB := Lib.hid hB
  have HR := Lib.hid hR
  have HCS := Lib.hid hcs
  have HX := Lib.hid hx
  have hRg : R ≠ g := by
    obtain ⟨v, h1, _⟩ := hB.out
    rintro rfl
    rw [h1] at hR
    injection hR with hR
    injection hR with _ hR
    exact absurd hR (by decide)
  clear hB hR hcs hx
  generalize hxs : ints cs = xs at *
  go_enter Try.func22, Try.ntmps22
  go_wp2
  go_loopw [10] (fun v10 wr => ∃ (j : Nat), v10 = .int .i64 j ∧ j ≤ xs.length ∧ Hid (Buf base g 29 wr (bs ++ lesB n (xs.take j))) ∧ Hid (KB base g W wr)) (fun v10 _ => xs.length - (intOf v10).toNat)
  case atStart => exact ⟨0, by go_num, Nat.zero_le _, Lib.hid (by simpa [lesB] using HB.out), Lib.hid (KB.refl _ _ _)⟩
  case round =>
    obtain ⟨j, rfl, hj, HB, HK⟩ := hrel
    by_cases hlt : j < xs.length
    · have hc := blk_cell (HK.out.blk HR.out (by decide) hRg) j
      have hcj : cs[j]? = some (.int .u64 xs[j]) := by
        rw [← Array.getElem?_toList, HCS.out]
        simp [nums, hlt]
      rw [hcj] at hc
      have hxr := HX.out xs[j] (List.getElem_mem hlt)
      have HT := Lib.hid (show bs ++ lesB n (xs.take (j + 1)) = bs ++ lesB n (xs.take j) ++ le n xs[j] by rw [List.take_succ_eq_append_getElem hlt, lesB_app, List.append_assoc]; simp [lesB])
      have hlen : (bs ++ lesB n (xs.take j)).length ≤ 1000000000 + 80 := by
        simp only [List.length_append, lesB_len, List.length_take]
        have : n * min j xs.length ≤ 8 * 10 := Nat.mul_le_mul hn (by omega)
        omega
      generalize hX : xs[j] = X at *
      generalize hB2 : bs ++ lesB n (xs.take j) = B2 at *
      have q0 : (0 : Int) ≤ j := by omega
      have q1 : (j : Int) < xs.length := by omega
      clear hcj
      go_wp2
      go_loopw [15] (fun v15 wr => ∃ (i : Nat) (bs' : List Int), v15 = .int .i64 i ∧ i ≤ n ∧ Hid (bs' = B2 ++ (le n X).take i) ∧ Hid (Buf base g 29 wr bs') ∧ Hid (KB base g W wr)) (fun v15 _ => n - (intOf v15).toNat)
      case atStart => exact ⟨0, B2, by go_num, Nat.zero_le _, Lib.hid (by simp), HB, HK⟩
      case round =>
        obtain ⟨i, bs', rfl, hi, HE, HB, HK⟩ := hrel
        by_cases hlt2 : i < n
        · obtain ⟨v, h1, h2⟩ := HB.out.out
          have hlen2 : bs'.length ≤ 1000000100 := by rw [HE.out]; simp only [List.length_append, List.length_take, le_length]; omega
          have HE2 := Lib.hid (show bs' ++ [byteAt X i] = B2 ++ (le n X).take (i + 1) by rw [le_take n X i hlt2, HE.out, List.append_assoc])
          have HY := Lib.hid (show IntKind.u8.wrap (X / 2 ^ (8 * (i : Int)).toNat) = byteAt X i by
            rw [show (8 * (i : Int)).toNat = 8 * i by omega, p256]
            simp [byteAt, IntKind.wrap, IntKind.bits, IntKind.signed])
          have q2 : (i : Int) < n := by omega
          have q3 : ¬ (7 : Int) < i := by omega
          have q4 : (if wrap64 ((i : Int) - 7) < 0 then 0 else wrap64 ((i : Int) - 7)) = 0 := by
            rw [show wrap64 ((i : Int) - 7) = (i : Int) - 7 by unfold wrap64; omega]
            split <;> omega
          have q5 : wrap64 (8 * (i : Int)) = 8 * (i : Int) := by unfold wrap64; omega
          have q6 : ¬ 8 * (i : Int) < 0 := by omega
          have q7 : 8 * (i : Int) ≤ 64 := by omega
          have q8 : wrap64 0 = 0 := by unfold wrap64; omega
          obtain ⟨Av, cv, hve⟩ := slice_of h2
          subst hve
          have c1 : wr.cell? ⟨g, 0, none⟩ = some (.slice Av bs'.length cv) := blk_cell h1 0
          have H1 := Lib.hid h1
          have H2 := Lib.hid h2
          clear h1 h2
          have hbw : base ≤ wr.heap.size := by have := HK.out.size; omega
          go_upto_region 6 with fail
          refine start_ (n := 15) (S := fun w' => w'.cell? ⟨g, 0, none⟩ = some (.slice Av bs'.length cv)) (ds := [14]) #[false, false, false, false, false, false, false, false, false, false, false, false, false, false, false] (by kernel_rfl) rfl rfl (c1) (fun hHeld => ?_)
          refine pure_ (i := 1) (N := some 19) (v := ?_) (a' := ?_) #[false, true, false, false, false, false, false, false, false, false, false, false, false, false, false] rfl rfl (by kernel_rfl) (fun _ _ _ h => h) (Or.inl ⟨by rfl, ?_⟩) ?_ ?_
          rotate_left
          · intro w'
            go_simp
            with_reducible rfl
          rotate_left
          · simp only [Act.put, List.setIfInBounds_toArray, List.set_cons_zero, List.set_cons_succ, i64_w, i32_w]
            rfl
          refine pure_ (i := 2) (N := some 20) (v := ?_) (a' := ?_) #[false, true, true, false, false, false, false, false, false, false, false, false, false, false, false] rfl rfl (by kernel_rfl) (fun _ _ _ h => h) (Or.inl ⟨by rfl, ?_⟩) ?_ ?_
          rotate_left
          · intro w'
            go_simp
            with_reducible rfl
          rotate_left
          · simp only [Act.put, List.setIfInBounds_toArray, List.set_cons_zero, List.set_cons_succ, i64_w, i32_w]
            rfl
          refine pure_ (i := 3) (N := some 21) (v := ?_) (a' := ?_) #[false, true, true, true, false, false, false, false, false, false, false, false, false, false, false] rfl rfl (by kernel_rfl) (fun _ _ _ h => h) (Or.inl ⟨by rfl, ?_⟩) ?_ ?_
          rotate_left
          · intro w'
            go_simp
            with_reducible rfl
          rotate_left
          · simp only [Act.put, List.setIfInBounds_toArray, List.set_cons_zero, List.set_cons_succ, i64_w, i32_w]
            rfl
          refine pure_ (i := 4) (N := some 22) (v := ?_) (a' := ?_) #[false, true, true, true, true, false, false, false, false, false, false, false, false, false, false] rfl rfl (by kernel_rfl) (fun _ _ _ h => h) (Or.inl ⟨by rfl, ?_⟩) ?_ ?_
          rotate_left
          · intro w'
            go_simp
            with_reducible rfl
          rotate_left
          · simp only [Act.put, List.setIfInBounds_toArray, List.set_cons_zero, List.set_cons_succ, i64_w, i32_w]
            rfl
          refine pure_ (i := 5) (N := some 23) (v := ?_) (a' := ?_) #[false, true, true, true, true, true, false, false, false, false, false, false, false, false, false] rfl rfl (by kernel_rfl) (fun _ _ _ h => h) (Or.inl ⟨by rfl, ?_⟩) ?_ ?_
          rotate_left
          · intro w'
            go_simp
            with_reducible rfl
          rotate_left
          · simp only [Act.put, List.setIfInBounds_toArray, List.set_cons_zero, List.set_cons_succ, i64_w, i32_w]
            rfl
          refine pure_ (i := 6) (N := some 24) (v := ?_) (a' := ?_) #[false, true, true, true, true, true, true, false, false, false, false, false, false, false, false] rfl rfl (by kernel_rfl) (fun _ _ _ h => h) (Or.inl ⟨by rfl, ?_⟩) ?_ ?_
          rotate_left
          · intro w'
            go_simp
            with_reducible rfl
          rotate_left
          · simp only [Act.put, List.setIfInBounds_toArray, List.set_cons_zero, List.set_cons_succ, i64_w, i32_w]
            rfl
          refine pure_ (i := 7) (N := some 25) (v := ?_) (a' := ?_) #[false, true, true, true, true, true, true, true, false, false, false, false, false, false, false] rfl rfl (by kernel_rfl) (fun _ _ _ h => h) (Or.inl ⟨by rfl, ?_⟩) ?_ ?_
          rotate_left
          · intro w'
            go_simp
            with_reducible rfl
          rotate_left
          · simp only [Act.put, List.setIfInBounds_toArray, List.set_cons_zero, List.set_cons_succ, i64_w, i32_w]
            rfl
          refine pure_ (i := 8) (N := some 26) (v := ?_) (a' := ?_) #[false, true, true, true, true, true, true, true, true, false, false, false, false, false, false] rfl rfl (by kernel_rfl) (fun _ _ _ h => h) (Or.inl ⟨by rfl, ?_⟩) ?_ ?_
          rotate_left
          · intro w'
            go_simp
            with_reducible rfl
          rotate_left
          · simp only [Act.put, List.setIfInBounds_toArray, List.set_cons_zero, List.set_cons_succ, i64_w, i32_w]
            rfl
          refine pure_ (i := 9) (N := some 27) (v := ?_) (a' := ?_) #[false, true, true, true, true, true, true, true, true, true, false, false, false, false, false] rfl rfl (by kernel_rfl) (fun _ _ _ h => h) (Or.inl ⟨by rfl, ?_⟩) ?_ ?_
          rotate_left
          · intro w'
            go_simp
            with_reducible rfl
          rotate_left
          · simp only [Act.put, List.setIfInBounds_toArray, List.set_cons_zero, List.set_cons_succ, i64_w, i32_w]
            rfl
          refine pure_ (i := 10) (N := some 28) (v := ?_) (a' := ?_) #[false, true, true, true, true, true, true, true, true, true, true, false, false, false, false] rfl rfl (by kernel_rfl) (fun _ _ _ h => h) (Or.inl ⟨by rfl, ?_⟩) ?_ ?_
          rotate_left
          · intro w'
            go_simp
            with_reducible rfl
          rotate_left
          · simp only [Act.put, List.setIfInBounds_toArray, List.set_cons_zero, List.set_cons_succ, i64_w, i32_w]
            rfl
          refine pure_ (i := 11) (N := some 29) (v := ?_) (a' := ?_) #[false, true, true, true, true, true, true, true, true, true, true, true, false, false, false] rfl rfl (by kernel_rfl) (fun _ _ _ h => h) (Or.inl ⟨by rfl, ?_⟩) ?_ ?_
          rotate_left
          · intro w'
            go_simp
            with_reducible rfl
          rotate_left
          · simp only [Act.put, List.setIfInBounds_toArray, List.set_cons_zero, List.set_cons_succ, i64_w, i32_w]
            rfl
          refine take_ (i := 0) (N := some 18) (v := ?_) (a' := ?_) #[true, true, true, true, true, true, true, true, true, true, true, true, false, false, false] rfl rfl (by kernel_rfl) (fun _ _ _ h => h) (Or.inl ⟨by rfl, ?_⟩) hHeld ?_ ?_
          rotate_left
          · intro w' s0
            go_simp
            with_reducible rfl
          rotate_left
          · simp only [Act.put, List.setIfInBounds_toArray, List.set_cons_zero, List.set_cons_succ, i64_w, i32_w]
            rfl
          refine one_ (i := 12) (N := some 30) #[true, true, true, true, true, true, true, true, true, true, true, true, true, false, false] rfl rfl (by kernel_rfl) (by decide) (fun K hK => ?_)
          refine value_ (w1 := ?_) (v := ?_) (by rfl) rfl ?_ ?_
          rotate_left 2
          · go_simp
            constructor
            · rfl
            · rfl
          refine hK.out _ _ ((blk_cell (blk_alloc H1.out _) 0)) (fun hHeld => ?_)
          clear hK K
          refine norm_ (a' := ?_) ?_ ?_
          rotate_left
          · show Act.put _ (some 30) _ = _
            simp only [Act.put, List.setIfInBounds_toArray, List.set_cons_zero, List.set_cons_succ, i64_w, i32_w]
            rfl
          refine one_ (i := 13) (N := some 31) #[true, true, true, true, true, true, true, true, true, true, true, true, true, true, false] rfl rfl (by kernel_rfl) (by decide) (fun K hK => ?_)
          refine step_append_cells (W := wr.drew) (w0 := wr.drew) base ?hw (.tmp 18) (.tmp 30) 29 5 (.int .u8 0) 1 1 ?ho Try.underlying29 info5 rfl (by decide) (by decide) (.slice Av bs'.length cv) bs'.length (nums .u8 bs') [.int .u8 (IntKind.u8.wrap (X / 2 ^ (8 * (i : Int)).toNat))] ?hs ?hx rfl (by intro u hu; rw [List.mem_singleton.1 hu]; rfl) H2.out (Below.refl _ _) hbw (by omega) ?_
          (case ho => rfl); (case hw => rfl); (case hs => rfl); (case hx => rfl)
          intro v1 w1 ho hb hgr hat
          rw [show nums .u8 bs' ++ [Value.int .u8 (IntKind.u8.wrap (X / 2 ^ (8 * (i : Int)).toNat))] = nums .u8 (bs' ++ [byteAt X i]) by rw [← HY.out]; simp [nums], show bs'.length + 1 = (bs' ++ [byteAt X i]).length by simp] at ho
          obtain ⟨A1, c1', rfl⟩ := slice_of ho
          have cg := blk_cell (blk_grown (w := wr.drew) H1.out hgr (own_ne (w := wr.drew) H2.out H1.out (by decide))) 0
          have fg := blk_frozen (blk_grown (w := wr.drew) H1.out hgr (own_ne (w := wr.drew) H2.out H1.out (by decide))) 0
          have B2' := Lib.hid (Buf.store (W := wr.drew) (t := 29) (by decide) H1.out H2.out hgr ho)
          have K2 := Lib.hid (HK.out.drew.trans (KB.store (W := wr.drew) hg H2.out hgr (v1 := Value.slice A1 (bs' ++ [byteAt X i]).length c1')))
          rw [List.length_append] at B2' K2
          refine hK.out _ _ cg (fun hHeld => ?_)
          clear ho hb hgr hat
          clear hK K
          refine norm_ (a' := ?_) ?_ ?_
          rotate_left
          · show Act.put _ (some 31) _ = _
            simp only [Act.put, List.setIfInBounds_toArray, List.set_cons_zero, List.set_cons_succ, i64_w, i32_w]
            rfl
          refine last_ (i := 14) (N := none) #[true, true, true, true, true, true, true, true, true, true, true, true, true, true, true] rfl rfl (by kernel_rfl) (by decide) (fun K hK => ?_)
          refine skip_ (w1 := ?_) (by rfl) rfl ?_ ?_
          rotate_left
          · go_simp
            rfl
          refine hK.out _ _ ?_
          clear hK K
          refine done_ (by kernel_rfl) ?_

          go_wp2
          go_roundw
          case rel => exact ⟨i + 1, bs' ++ [byteAt X i], by go_num, hlt2, HE2, B2', K2⟩
          case measure => simp [intOf]; omega
        · obtain rfl : i = n := by omega
          have HE2 := Lib.hid (show bs' = bs ++ lesB i (xs.take (j + 1)) by rw [HT.out, HE.out, List.take_of_length_le (by rw [le_length]; exact Nat.le_refl _)])
          go_wp2
          go_roundw
          case rel => exact ⟨j + 1, by go_num, hlt, Lib.hid (by rw [← HE2.out]; exact HB.out), HK⟩
          case measure => simp [intOf]; omega
    · obtain rfl : j = xs.length := by omega
      rw [List.take_length] at HB
      go_wp2
      go_end0
      exact ⟨rfl, HB.out, HK.out⟩
end Go.Proofs.Ytelheeekbihfcab.Ob
