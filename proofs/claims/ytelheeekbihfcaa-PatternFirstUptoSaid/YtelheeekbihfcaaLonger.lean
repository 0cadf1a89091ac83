/- The pattern's longer: a path with one more step. -/
import Derived.Test.YtelheeekbihfcaaPPatternFirstx4
import Derived.Lib.Hide
set_option linter.unusedVariables false
set_option linter.unusedSimpArgs false
namespace Go.Proofs.Ytelheeekbihfcaa.Pt
open Go.RowKit Go.Proofs Go.Proofs.Ytelheeekbihfcaa.PPatternFirst Go.Proofs.YtelheeekbihfcaaW.PrintWords Go.Proofs.YtelheeekbihfcaaW.PrintMore

theorem w_small (x : Int) (h0 : 0 ≤ x) (h1 : x ≤ 1000000000) : wrap64 x = x := by unfold wrap64; omega
theorem info3' : (Try.prog.info? 3).map (fun i => (i.zero, i.size, i.bytes)) = some (some (.int .i64 0), 1, 8) := by kernel_rfl
theorem size3' : (Try.prog.info? 3).map (·.size) = some 1 := by kernel_rfl

set_option maxRecDepth 100000 in
set_option maxHeartbeats 4000000 in
theorem longer_call (A : Option Addr) (c : Nat) (l : List Int) (i : Int) (w : World) (hr : Kd.C (Kd.int .i64) w A l.length l) (hc : l.length ≤ c) (hl : l.length ≤ 1000000) :
    Calls Try.prog 35 #[.slice A l.length c, .int .i64 i] w fun e w' => ∃ v, e = .returned v ∧ Kd.R (Kd.int .i64) 3 w' w.heap.size (fun _ => True) v (l ++ [i]) ∧ Below w.heap.size w w' := by
  have HR := Lib.hid hr
  have B0 := Lib.hid (Below.refl w.heap.size w)
  have hw : wrap64 ((l.length : Int) + 1) = (l.length : Int) + 1 := w_small _ (by omega) (by omega)
  clear hr
  go_enter Try.func35, Try.ntmps35
  go_upto_region 2 with (refine Kd.R_make (Kd.int .i64) (w0 := w) w.heap.size 3 (by rfl) (by rfl) 31 _ _ rfl ((l.length : Int) + 1) (by go_simp) (by go_simp) Try.underlying31 (.int .i64 0) 8 info3' rfl (by decide) (by decide) 0 (ok := fun _ => True) (okp := fun _ => False) rfl (fun _ h => h.elim) trivial (by omega) (by omega) B0.out (Nat.le_refl _) ?_; intro v1 w1 hr1 hb1 hg1 hat1; have HR1 := Lib.hid hr1; have B1 := Lib.hid hb1; clear hr1 hb1 hg1 hat1)
  have hrep : List.replicate ((l.length : Int) + 1).toNat (0 : Int) = List.replicate (l.length + 1) 0 := by rw [show ((l.length : Int) + 1).toNat = l.length + 1 by omega]
  rw [hrep] at HR1
  obtain ⟨g, cap, hv1, hgb, hgl, cells, hgc⟩ := Kd.R_form HR1.out (by simp)
  subst hv1
  rw [List.length_replicate] at HR1
  clear hgl hgc
  have hbw : w.heap.size ≤ w1.heap.size := B1.out.size
  go_upto_region 3 with (refine Kd.R_copy (0 : Int) (h1 := fun _ => rfl) (w0 := w) w.heap.size (by rfl) _ _ 31 31 3 rfl Try.underlying31 size3' (.slice (some ⟨g, 0, none⟩) (l.length + 1) cap) (List.replicate (l.length + 1) 0) l A l.length c (fun _ => True) (by go_simp) (by go_simp) HR1.out (Kd.C_below HR.out B1.out) B1.out hbw ?_; intro w2 hr2 hb2 hg2; have HR2 := Lib.hid hr2; have B2 := Lib.hid hb2; clear hr2 hb2 hg2)
  have hl0 : List.take (min l.length (List.replicate (l.length + 1) (0 : Int)).length) l ++ List.drop (min l.length (List.replicate (l.length + 1) (0 : Int)).length) (List.replicate (l.length + 1) (0 : Int)) = l ++ [0] := by
    rw [List.length_replicate, Nat.min_eq_left (by omega), List.take_length, List.drop_replicate, show l.length + 1 - l.length = 1 by omega]
    rfl
  have hR2 := HR2.out
  rw [hl0] at hR2
  have hlen1 : (l ++ [(0 : Int)]).length = l.length + 1 := by simp
  rw [← hlen1] at hR2
  obtain ⟨kc, kf⟩ := Kd.R_cell (0 : Int) hR2 (l.length : Int) (by omega) (by rw [hlen1]; omega)
  have hput := (Kd.R_put hR2 (l.length : Int) i).1
  rw [Int.toNat_natCast] at kc kf hput
  rw [List.set_append_right _ _ (Nat.le_refl _), Nat.sub_self, List.set_cons_zero, hlen1] at hput
  have HPUT := Lib.hid hput
  have q0 : (0 : Int) ≤ (l.length : Int) := by omega
  have q1 : (l.length : Int) < (l.length : Int) + 1 := by omega
  have hgb2 := B2.out.setCell (p := ⟨g, l.length, none⟩) hgb (.int .i64 i)
  have B3 := Lib.hid hgb2
  clear hput hR2 hl0 hlen1 HR2 HR1 hrep hgb2 hw hbw B1
  go_wp2
  go_ret
  exact ⟨_, rfl, HPUT.out, B3.out⟩
end Go.Proofs.Ytelheeekbihfcaa.Pt
