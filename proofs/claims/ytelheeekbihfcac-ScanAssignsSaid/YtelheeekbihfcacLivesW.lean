/- The laws' own lives, walked. -/
import Derived.Test.YtelheeekbihfcacLives
set_option linter.unusedVariables false
set_option linter.unusedSimpArgs false
namespace Go.Proofs.Ytelheeekbihfcac.Srt
open Go.RowKit Go.Proofs Go.Proofs.Ytelheeekbihfcac.PScanAssigns Go.Proofs.YtelheeekbihfcacW.PrintWords Go.Proofs.YtelheeekbihfcacW.PrintMore

theorem add_head (g k : Nat) : (⟨g, 0, none⟩ : Addr).add k = ⟨g, k, none⟩ := by
  simp only [Addr.add]
  split
  · rename_i h; rw [h]
  · rw [Nat.zero_add]

theorem C_lit3 {w : World} {g : Nat} (a b c : S40) (h : w.heap[g]? = some (.cells #[.int .i64 a.f0, .int .i64 a.f1, .int .i64 b.f0, .int .i64 b.f1, .int .i64 c.f0, .int .i64 c.f1] 40 (0, 0))) : Kd.C k40 w (some ⟨g, 0, none⟩) 3 [a, b, c] := by
  refine ⟨rfl, by omega, fun _ => ⟨⟨g, 0, none⟩, rfl, fun j p hj => ⟨[.int .i64 p.f0, .int .i64 p.f1], rfl, k40_mk w p, fun i u hu => ?_⟩⟩⟩
  show w.cell? ((⟨g, 0, none⟩ : Addr).add (j * 2 + i)) = some u
  rw [add_head, blk_cell h]
  rcases j with _ | _ | _ | j
  · simp at hj; subst hj
    rcases i with _ | _ | i <;> simp at hu ⊢ <;> exact hu
  · simp at hj; subst hj
    rcases i with _ | _ | i <;> simp at hu ⊢ <;> exact hu
  · simp at hj; subst hj
    rcases i with _ | _ | i <;> simp at hu ⊢ <;> exact hu
  · simp at hj

theorem C_int3 {w : World} {g : Nat} (a b c : Int) (h : w.heap[g]? = some (.cells #[.int .i64 a, .int .i64 b, .int .i64 c] 3 (0, 0))) : Kd.C (Kd.int .i64) w (some ⟨g, 0, none⟩) 3 [a, b, c] := by
  refine ⟨rfl, by omega, fun _ => ⟨⟨g, 0, none⟩, rfl, fun j p hj => ⟨[.int .i64 p], rfl, rfl, fun i u hu => ?_⟩⟩⟩
  show w.cell? ((⟨g, 0, none⟩ : Addr).add (j * 1 + i)) = some u
  rw [add_head, blk_cell h]
  rcases j with _ | _ | _ | j
  · simp at hj; subst hj
    rcases i with _ | i <;> simp at hu ⊢ <;> exact hu
  · simp at hj; subst hj
    rcases i with _ | i <;> simp at hu ⊢ <;> exact hu
  · simp at hj; subst hj
    rcases i with _ | i <;> simp at hu ⊢ <;> exact hu
  · simp at hj

set_option maxRecDepth 100000 in
set_option maxHeartbeats 4000000 in
theorem lives_any (w : World) : Calls Try.prog 7 #[] w fun e w' => e = .returned (.bool true) ∧ Below w.heap.size w w' := by
  have b1 := below_alloc (Below.refl w.heap.size w) (.cells #[.int .i64 0, .int .i64 4, .int .i64 1, .int .i64 2, .int .i64 1, .int .i64 9] 40)
  have c1 : Kd.C k40 (w.alloc (.cells #[.int .i64 0, .int .i64 4, .int .i64 1, .int .i64 2, .int .i64 1, .int .i64 9] 40)) (some ⟨w.heap.size, 0, none⟩) 3 l3 := C_lit3 ⟨0, 4⟩ ⟨1, 2⟩ ⟨1, 9⟩ (blk_new w _)
  have hA := Lib.hid (assign_good 10 (some ⟨w.heap.size, 0, none⟩) 3 l3 1 _ c1 (by decide) (by kernel_rfl) (by decide) (by decide))
  have B1 := Lib.hid b1
  clear b1 c1
  go_enter Try.func7, Try.ntmps7
  go_wp2_with (first
    | (go_at_call 8; refine hA.out.mono ?_; clear hA; rintro e w1 ⟨o, st, v, h1, h2, rfl, h3, h4⟩; obtain rfl := order3 h1; obtain ⟨r1, r2⟩ := run3 h2; rw [r1] at h3; clear r1 h1 h2; obtain ⟨A, c, rfl, hc, hC⟩ := Kd.R_reads h3; clear h3; have HC1 := Lib.hid hC; have B2 := Lib.hid (below_step B1.out h4); clear hC h4 B1; simp only [r2, List.length_cons, List.length_nil, Nat.reduceAdd] at hc ⊢; clear r2)
    | (go_at_call 11; refine (postbagref02_Ints.calls 10 A c [-1, 0, -2] (some ⟨w1.heap.size, 0, none⟩) 3 [-1, 0, -2] true _ (Kd.C_alloc HC1.out _) hc (C_int3 _ _ _ (blk_new w1 _)) (by decide) (by kernel_rfl)).mono ?_; rintro e w2 ⟨rfl, hd⟩; have HD := Lib.hid hd; clear hd)
    | (go_at_call 14; refine (scan_Peak.calls 60 (some ⟨w2.heap.size, 0, none⟩) 3 l4 2 _ (C_lit3 ⟨0, 4⟩ ⟨1, 2⟩ ⟨4, 9⟩ (blk_new w2 _)) (by decide) (by kernel_rfl)).mono ?_; rintro e w3 ⟨rfl, hd⟩; have HD2 := Lib.hid hd; clear hd))
  go_ret
  exact ⟨rfl, below_step (below_alloc (below_step (below_alloc B2.out _) HD.out.below) _) HD2.out⟩
end Go.Proofs.Ytelheeekbihfcac.Srt
