/- The law's light, how deep what it builds is: that it comes back. -/
import Derived.Test.YtelheeekbihfcaaCountP
set_option linter.unusedVariables false
set_option linter.unusedSimpArgs false
namespace Go.Proofs.Ytelheeekbihfcaa.Pt
open Go.RowKit Go.Proofs Go.Proofs.Ytelheeekbihfcaa.PPatternFirst Go.Proofs.YtelheeekbihfcaaW.PrintWords Go.Proofs.YtelheeekbihfcaaW.PrintMore Go.Proofs.YtelheeekbihfcaaW.PrintLast

/-- A number came back. -/
def Num (w : World) (e : Ending) (w' : World) : Prop := ∃ v : Int, e = .returned (.int .i64 v) ∧ Below w.heap.size w w'

set_option maxRecDepth 100000 in
theorem size_ok (ps : List S53) (D : Nat) (A4 : Option Addr) (c4 : Nat) (w : World) (hD : w.heap[D]? = some (.cells (defB A4 ps.length c4) 66 (0, 0))) (hC : Kd.C kArm w A4 ps.length ps) (hc4 : ps.length ≤ c4) (hnp : nodesL ps ≤ 1000000) :
    Calls Try.prog 29 #[.agg #[.slice (some ⟨D, 0, none⟩) 1 1, .int .i64 0, .string ⟨#[]⟩, .slice none 0 0]] w (Num w) := by
  have HC := Lib.hid hC
  have HD := Lib.hid hD
  clear hC hD
  go_enter Try.func29, Try.ntmps29
  go_upto_region 2 with fail
  have hbl1 := below_alloc (Below.refl _ w) (.cells #[.slice (some ⟨D, 0, none⟩) 1 1, .int .i64 0, .string ⟨#[]⟩, .slice none 0 0] 69)
  have XB := blk_new w (.cells #[.slice (some ⟨D, 0, none⟩) 1 1, .int .i64 0, .string ⟨#[]⟩, .slice none 0 0] 69)
  have s1 : (w.alloc (.cells #[.slice (some ⟨D, 0, none⟩) 1 1, .int .i64 0, .string ⟨#[]⟩, .slice none 0 0] 69)).heap.size = w.heap.size + 1 := by simp
  have XG := blk_new (w.alloc (.cells #[.slice (some ⟨D, 0, none⟩) 1 1, .int .i64 0, .string ⟨#[]⟩, .slice none 0 0] 69)) (.cells #[.int .i64 0] 94)
  have XB2 := Lib.hid (blk_alloc XB (.cells #[.int .i64 0] 94))
  rw [s1] at XG
  have hbl := below_alloc hbl1 (.cells #[.int .i64 0] 94)
  have G1 := Lib.hid (show CG w (w.heap.size + 1) ((w.alloc (.cells #[.slice (some ⟨D, 0, none⟩) 1 1, .int .i64 0, .string ⟨#[]⟩, .slice none 0 0] 69)).alloc (.cells #[.int .i64 0] 94)) from ⟨hbl, Nat.le_succ _, 0, XG⟩)
  clear hbl1 XB s1 XG hbl
  generalize (w.alloc (.cells #[.slice (some ⟨D, 0, none⟩) 1 1, .int .i64 0, .string ⟨#[]⟩, .slice none 0 0] 69)).alloc (.cells #[.int .i64 0] 94) = W2 at *
  have k0 := blk_cell XB2.out 0
  have k1 := blk_cell XB2.out 1
  have k2 := blk_cell XB2.out 2
  have k3 := blk_cell XB2.out 3
  go_upto_region 3 with (go_at_call 36; refine (prog_ok w (w.heap.size + 1) ps D A4 c4 _ G1.out HD.out HC.out hc4 hnp).mono ?_; rintro e w3 ⟨v3, rfl, hk⟩; have G3 := Lib.hid (G1.out.keep hk); clear hk)
  obtain ⟨n, hn⟩ := G3.out.n
  have kn := blk_cell hn 0
  clear k0 k1 k2 k3
  go_wp2
  go_ret
  exact ⟨n, rfl, G3.out.b⟩

set_option maxRecDepth 100000 in
theorem deepE_nil (w : World) (A : Option Addr) (c : Nat) (left : Int) : Calls Try.prog 37 #[.agg #[], .slice A 0 c, .int .i64 left] w (Num w) := by
  go_enter Try.func37, Try.ntmps37
  have hbl := Lib.hid (below_alloc (Below.refl _ w) (.cells #[] 96))
  go_upto_region 1 with fail
  generalize w.alloc (.cells #[] 96) = W1 at *
  generalize hgb : w.heap.size = gb at *
  go_wp2
  go_loopw [8, 7] (fun v8 v7 wr => v8 = .int .i64 0 ∧ v7 = .int .i64 0 ∧ Hid (wr = W1)) (fun _ _ _ => 0)
  case atStart => exact ⟨rfl, rfl, Lib.hid rfl⟩
  case round =>
    obtain ⟨rfl, rfl, HW⟩ := hrel
    have hw := HW.out
    subst hw
    go_wp2
    go_ret
    exact ⟨_, rfl, by rw [hgb]; exact hbl.out⟩

/-- What the depth makes of some patterns. -/
def DeepC (w0 : World) (ps : List S53) : Prop := ∀ (A : Option Addr) (c : Nat) (left : Int) (w : World), Below w0.heap.size w0 w → Kd.C k53 w0 A ps.length ps → ps.length ≤ c → nodesL ps ≤ 1000000 → Calls Try.prog 44 #[.agg #[], .slice A ps.length c, .int .i64 left] w (Num w)

set_option maxRecDepth 100000 in
set_option maxHeartbeats 8000000 in
theorem deep_ok (w0 : World) (ps : List S53) (hIH : ∀ x, x ∈ ps → DeepC w0 x.f4) : DeepC w0 ps := by
  intro A c left w hB hC hc hnp
  have hla : ps.length ≤ 1000000 := by have := nodesL_le ps; omega
  have HI := Lib.hid hIH
  have HC := Lib.hid hC
  have HB := Lib.hid hB
  clear hIH hC hB
  go_enter Try.func44, Try.ntmps44
  have hbl := Lib.hid (below_alloc (Below.refl _ w) (.cells #[] 96))
  go_upto_region 1 with fail
  generalize w.alloc (.cells #[] 96) = W1 at *
  generalize hgb : w.heap.size = gb at *
  go_wp2
  go_loopw [8, 7] (fun v8 v7 wr => ∃ (i : Nat) (m : Int), v8 = .int .i64 i ∧ v7 = .int .i64 m ∧ i ≤ ps.length ∧ Hid (Below gb w wr)) (fun v8 _ _ => ps.length - (intOf v8).toNat)
  case atStart => exact ⟨0, 0, by go_num, rfl, Nat.zero_le _, hbl⟩
  case round =>
    obtain ⟨i, m, rfl, rfl, hi, HBQ⟩ := hrel
    obtain ⟨wq, hwq⟩ : ∃ wq, wq = wr := ⟨_, rfl⟩
    subst hwq
    by_cases hlt : i < ps.length
    · by_cases hl0 : 0 < left
      · have q1 : (i : Int) < (ps.length : Int) := by omega
        have q0 : (0 : Int) ≤ (i : Int) := by omega
        have hng := nodesL_get hlt
        obtain ⟨ad, A5, c5, hA4, _, _, _, _, u4, hc5, hC5⟩ := at_T53 HC.out (i : Int) q0 q1
        subst hA4
        rw [rd53 ps i hlt, Int.toNat_natCast] at u4
        rw [rd53 ps i hlt] at hc5 hC5
        have hx0 := HI.out ps[i] (List.getElem_mem hlt)
        have HC5 := Lib.hid hC5
        clear hC5
        have hnx : nodesL ps[i].f4 ≤ 1000000 := by
          have h2 : nodesL ps[i].f4 ≤ nodesP ps[i] := by
            cases ps[i]
            simp only [nodesP]
            omega
          omega
        generalize ps[i] = x at *
        clear hng
        have HX := Lib.hid hx0
        have BQD := Lib.hid (below_drew1 HBQ.out)
        have BD := Lib.hid (below_step HB.out (by rw [hgb]; exact BQD.out))
        have uD := (BD.out.cell (World.block_lt_of_cell? w0 _ u4)).trans u4
        clear u4
        go_upto_region 5 with fail
        refine start_ (n := 13) (S := fun w' => w'.cell? ⟨(ad.add (i * 5)).block, (ad.add (i * 5)).off + 4, none⟩ = some (.slice A5 x.f4.length c5)) (ds := []) #[false, false, false, false, false, false, false, false, false, false, false, false, false] (by kernel_rfl) rfl rfl (uD) (fun hHeld => ?_)
        refine pure_ (i := 0) (N := some 19) (v := ?_) (a' := ?_) #[true, false, false, false, false, false, false, false, false, false, false, false, false] rfl rfl (by kernel_rfl) (fun _ _ _ h => h) (Or.inl ⟨by rfl, ?_⟩) ?_ ?_
        rotate_left
        · intro w'
          go_simp
          with_reducible rfl
        rotate_left
        · simp only [Act.put, List.setIfInBounds_toArray, List.set_cons_zero, List.set_cons_succ, i64_w, i32_w]
          rfl
        refine pure_ (i := 2) (N := some 21) (v := ?_) (a' := ?_) #[true, false, true, false, false, false, false, false, false, false, false, false, false] rfl rfl (by kernel_rfl) (fun _ _ _ h => h) (Or.inl ⟨by rfl, ?_⟩) ?_ ?_
        rotate_left
        · intro w'
          go_simp
          with_reducible rfl
        rotate_left
        · simp only [Act.put, List.setIfInBounds_toArray, List.set_cons_zero, List.set_cons_succ, i64_w, i32_w]
          rfl
        refine pure_ (i := 3) (N := some 22) (v := ?_) (a' := ?_) #[true, false, true, true, false, false, false, false, false, false, false, false, false] rfl rfl (by kernel_rfl) (fun _ _ _ h => h) (Or.inl ⟨by rfl, ?_⟩) ?_ ?_
        rotate_left
        · intro w'
          go_simp
          with_reducible rfl
        rotate_left
        · simp only [Act.put, List.setIfInBounds_toArray, List.set_cons_zero, List.set_cons_succ, i64_w, i32_w]
          rfl
        refine pure_ (i := 4) (N := some 23) (v := ?_) (a' := ?_) #[true, false, true, true, true, false, false, false, false, false, false, false, false] rfl rfl (by kernel_rfl) (fun _ _ _ h => h) (Or.inl ⟨by rfl, ?_⟩) ?_ ?_
        rotate_left
        · intro w'
          go_simp
          with_reducible rfl
        rotate_left
        · simp only [Act.put, List.setIfInBounds_toArray, List.set_cons_zero, List.set_cons_succ, i64_w, i32_w]
          rfl
        refine pure_ (i := 5) (N := some 24) (v := ?_) (a' := ?_) #[true, false, true, true, true, true, false, false, false, false, false, false, false] rfl rfl (by kernel_rfl) (fun _ _ _ h => h) (Or.inl ⟨by rfl, ?_⟩) ?_ ?_
        rotate_left
        · intro w'
          go_simp
          with_reducible rfl
        rotate_left
        · simp only [Act.put, List.setIfInBounds_toArray, List.set_cons_zero, List.set_cons_succ, i64_w, i32_w]
          rfl
        refine pure_ (i := 7) (N := some 26) (v := ?_) (a' := ?_) #[true, false, true, true, true, true, false, true, false, false, false, false, false] rfl rfl (by kernel_rfl) (fun _ _ _ h => h) (Or.inl ⟨by rfl, ?_⟩) ?_ ?_
        rotate_left
        · intro w'
          go_simp
          with_reducible rfl
        rotate_left
        · simp only [Act.put, List.setIfInBounds_toArray, List.set_cons_zero, List.set_cons_succ, i64_w, i32_w]
          rfl
        refine pure_ (i := 8) (N := some 27) (v := ?_) (a' := ?_) #[true, false, true, true, true, true, false, true, true, false, false, false, false] rfl rfl (by kernel_rfl) (fun _ _ _ h => h) (Or.inl ⟨by rfl, ?_⟩) ?_ ?_
        rotate_left
        · intro w'
          go_simp
          with_reducible rfl
        rotate_left
        · simp only [Act.put, List.setIfInBounds_toArray, List.set_cons_zero, List.set_cons_succ, i64_w, i32_w]
          rfl
        refine take_ (i := 1) (N := some 20) (v := ?_) (a' := ?_) #[true, true, true, true, true, true, false, true, true, false, false, false, false] rfl rfl (by kernel_rfl) (fun _ _ _ h => h) (Or.inl ⟨by rfl, ?_⟩) hHeld ?_ ?_
        rotate_left
        · intro w' s0
          go_simp
          with_reducible rfl
        rotate_left
        · simp only [Act.put, List.setIfInBounds_toArray, List.set_cons_zero, List.set_cons_succ, i64_w, i32_w]
          rfl
        refine take_ (i := 6) (N := some 25) (v := ?_) (a' := ?_) #[true, true, true, true, true, true, true, true, true, false, false, false, false] rfl rfl (by kernel_rfl) (fun _ _ _ h => h) (Or.inl ⟨by rfl, ?_⟩) hHeld ?_ ?_
        rotate_left
        · intro w' s0
          go_simp
          with_reducible rfl
        rotate_left
        · simp only [Act.put, List.setIfInBounds_toArray, List.set_cons_zero, List.set_cons_succ, i64_w, i32_w]
          rfl
        refine one_ (i := 9) (N := some 28) #[true, true, true, true, true, true, true, true, true, true, false, false, false] rfl rfl (by kernel_rfl) (by decide) (fun K hK => ?_)
        refine call_ 44 #[.agg #[], .slice A5 x.f4.length c5, .int .i64 (wrap64 (left - 1))] (by rfl) rfl (by go_simp) ?_
        refine (HX.out A5 c5 (wrap64 (left - 1)) _ BD.out HC5.out hc5 hnx).mono ?_
        rintro e w5 ⟨v5, rfl, hd⟩
        refine ⟨_, rfl, ?_⟩
        have B5 := Lib.hid (show Below w.heap.size w _ from below_step (by rw [hgb]; exact BQD.out) hd)
        have u5 := (hd.cell (World.block_lt_of_cell? wq.drew _ uD)).trans uD
        clear hd
        refine hK.out _ _ (u5) (fun hHeld => ?_)
        clear hK K
        refine norm_ (a' := ?_) ?_ ?_
        rotate_left
        · show Act.put _ (some 28) _ = _
          simp only [Act.put, List.setIfInBounds_toArray, List.set_cons_zero, List.set_cons_succ, i64_w, i32_w]
          rfl
        refine pure_ (i := 10) (N := some 29) (v := ?_) (a' := ?_) #[true, true, true, true, true, true, true, true, true, true, true, false, false] rfl rfl (by kernel_rfl) (fun _ _ _ h => h) (Or.inl ⟨by rfl, ?_⟩) ?_ ?_
        rotate_left
        · intro w'
          go_simp
          with_reducible rfl
        rotate_left
        · simp only [Act.put, List.setIfInBounds_toArray, List.set_cons_zero, List.set_cons_succ, i64_w, i32_w]
          rfl
        refine pure_ (i := 11) (N := some 30) (v := ?_) (a' := ?_) #[true, true, true, true, true, true, true, true, true, true, true, true, false] rfl rfl (by kernel_rfl) (fun _ _ _ h => h) (Or.inl ⟨by rfl, ?_⟩) ?_ ?_
        rotate_left
        · intro w'
          go_simp
          with_reducible rfl
        rotate_left
        · simp only [Act.put, List.setIfInBounds_toArray, List.set_cons_zero, List.set_cons_succ, i64_w, i32_w]
          rfl
        refine pure_ (i := 12) (N := some 7) (v := ?_) (a' := ?_) #[true, true, true, true, true, true, true, true, true, true, true, true, true] rfl rfl (by kernel_rfl) (fun _ _ _ h => h) (Or.inl ⟨by rfl, ?_⟩) ?_ ?_
        rotate_left
        · intro w'
          go_simp
          with_reducible rfl
        rotate_left
        · simp only [Act.put, List.setIfInBounds_toArray, List.set_cons_zero, List.set_cons_succ, i64_w, i32_w]
          rfl
        refine done_ (by kernel_rfl) ?_
        generalize (if m < wrap64 (1 + v5) then wrap64 (1 + v5) else m) = m1
        go_wp2
        go_roundw
        case rel => exact ⟨i + 1, m1, by go_num, rfl, hlt, Lib.hid (by rw [← hgb]; exact B5.out)⟩
        case measure => simp [intOf]; omega
      · go_wp2
        go_ret
        exact ⟨_, rfl, by rw [hgb]; exact HBQ.out⟩
    · obtain rfl : i = ps.length := by omega
      go_wp2
      go_ret
      exact ⟨_, rfl, by rw [hgb]; exact HBQ.out⟩
theorem deep_any (w0 : World) : ∀ (N : Nat) (ps : List S53), nodesL ps ≤ N → DeepC w0 ps
  | 0, [], _ => deep_ok w0 [] fun _ h => by simp at h
  | 0, ⟨_, _, _, _, _⟩ :: _, h => by simp only [nodesL, nodesP] at h; omega
  | N + 1, ps, h => deep_ok w0 ps fun x hx => deep_any w0 N x.f4 (by
      obtain ⟨j, hj, rfl⟩ := List.getElem_of_mem hx
      have h1 := nodesL_get hj
      have h2 : nodesL ps[j].f4 + 1 ≤ nodesP ps[j] := by
        cases ps[j]
        simp only [nodesP]
        omega
      omega)
end Go.Proofs.Ytelheeekbihfcaa.Pt
