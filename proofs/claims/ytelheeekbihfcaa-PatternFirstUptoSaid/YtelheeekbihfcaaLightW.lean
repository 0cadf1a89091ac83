/- The law's light: that it comes back. -/
import Derived.Test.YtelheeekbihfcaaDeepB
set_option linter.unusedVariables false
set_option linter.unusedSimpArgs false
namespace Go.Proofs.Ytelheeekbihfcaa.Pt
open Go.RowKit Go.Proofs Go.Proofs.Ytelheeekbihfcaa.PPatternFirst Go.Proofs.YtelheeekbihfcaaW.PrintWords Go.Proofs.YtelheeekbihfcaaW.PrintMore Go.Proofs.YtelheeekbihfcaaW.PrintLast

set_option maxRecDepth 100000 in
set_option maxHeartbeats 8000000 in
theorem depth_ok (ps : List S53) (D : Nat) (A4 : Option Addr) (c4 : Nat) (w : World) (hD : w.heap[D]? = some (.cells (defB A4 ps.length c4) 66 (0, 0))) (hC : Kd.C kArm w A4 ps.length ps) (hc4 : ps.length ≤ c4) (hnp : nodesL ps ≤ 1000000) :
    Calls Try.prog 30 #[.agg #[.slice (some ⟨D, 0, none⟩) 1 1, .int .i64 0, .string ⟨#[]⟩, .slice none 0 0]] w (Num w) := by
  have HC := Lib.hid hC
  have HD := Lib.hid hD
  clear hC hD
  go_enter Try.func30, Try.ntmps30
  have hbl1 := below_alloc (Below.refl _ w) (.cells #[.slice (some ⟨D, 0, none⟩) 1 1, .int .i64 0, .string ⟨#[]⟩, .slice none 0 0] 69)
  have XB := Lib.hid (blk_new w (.cells #[.slice (some ⟨D, 0, none⟩) 1 1, .int .i64 0, .string ⟨#[]⟩, .slice none 0 0] 69))
  have B1 := Lib.hid hbl1
  clear hbl1
  go_upto_region 1 with fail
  generalize w.alloc (.cells #[.slice (some ⟨D, 0, none⟩) 1 1, .int .i64 0, .string ⟨#[]⟩, .slice none 0 0] 69) = W1 at *
  generalize hgb : w.heap.size = gb at *
  have k3 := blk_cell XB.out 3
  go_upto_region 2 with (go_at_call 37; refine (deepE_nil _ none 0 65).mono ?_; rintro e w3 ⟨v3, rfl, hd⟩; have B3 := Lib.hid (below_step (show Below w.heap.size w W1 by rw [hgb]; exact B1.out) hd); have XB3 := Lib.hid (blk_below XB.out hd); clear hd)
  clear k3
  go_wp2
  go_loopw [4, 3] (fun v4 v3 wr => ∃ (i : Nat) (m : Int), v4 = .int .i64 i ∧ v3 = .int .i64 m ∧ i ≤ 1 ∧ Hid (Below w3.heap.size w3 wr)) (fun v4 _ _ => 1 - (intOf v4).toNat)
  case atStart => exact ⟨0, _, by go_num, rfl, Nat.zero_le _, Lib.hid (Below.refl _ _)⟩
  case round =>
    obtain ⟨i, m, rfl, rfl, hi, HK⟩ := hrel
    obtain ⟨wq, hwq⟩ : ∃ wq, wq = wr := ⟨_, rfl⟩
    subst hwq
    have k0 := blk_cell (blk_below XB3.out HK.out) 0
    by_cases hlt : i < 1
    · obtain rfl : i = 0 := by omega
      have BQ := Lib.hid (below_step B3.out HK.out)
      have D2 := Lib.hid ((BQ.out.block D (blk_lt HD.out)).trans HD.out)
      have e3 : wq.cell? ⟨D, 3, none⟩ = some (.slice none 0 0) := blk_cell D2.out 3
      have e4 : wq.cell? ⟨D, 4, none⟩ = some (.int .i64 0) := blk_cell D2.out 4
      have e5 : wq.cell? ⟨D, 5, none⟩ = some (.int .i64 0) := blk_cell D2.out 5
      have e6 : wq.cell? ⟨D, 6, none⟩ = some (.string ⟨#[]⟩) := blk_cell D2.out 6
      have e7 : wq.cell? ⟨D, 7, none⟩ = some (.slice none 0 0) := blk_cell D2.out 7
      have e8 : wq.cell? ⟨D, 8, none⟩ = some (.slice none 0 0) := blk_cell D2.out 8
      have e9 : wq.cell? ⟨D, 9, none⟩ = some (.slice A4 ps.length c4) := blk_cell D2.out 9
      have e10 : wq.cell? ⟨D, 10, none⟩ = some (.bool false) := blk_cell D2.out 10
      have e11 : wq.cell? ⟨D, 11, none⟩ = some (.int .i64 0) := blk_cell D2.out 11
      go_upto_region 4 with (go_at_call 38; refine (dbody_any w ps none 0 0 0 ⟨#[]⟩ none 0 none 0 A4 c4 false 0 65 _ BQ.out HC.out hc4 hnp).mono ?_; rintro e w5 ⟨v5, rfl, hk⟩; have K5 := Lib.hid (below_step HK.out hk); clear hk)
      generalize (if m < v5 then v5 else m) = m1
      clear k0 e3 e4 e5 e6 e7 e8 e9 e10 e11
      go_wp2
      go_roundw
      case rel => exact ⟨1, m1, by go_num, rfl, Nat.le_refl _, K5⟩
      case measure => simp [intOf]
    · obtain rfl : i = 1 := by omega
      go_wp2
      go_ret
      exact ⟨_, rfl, below_step B3.out HK.out⟩

/-- Yes or no came back. -/
def Bit (w : World) (e : Ending) (w' : World) : Prop := ∃ b : Bool, e = .returned (.bool b) ∧ Below w.heap.size w w'

set_option maxRecDepth 100000 in
set_option maxHeartbeats 8000000 in
theorem light12_ok (ps : List S53) (D : Nat) (A4 : Option Addr) (c4 : Nat) (w : World) (hD : w.heap[D]? = some (.cells (defB A4 ps.length c4) 66 (0, 0))) (hC : Kd.C kArm w A4 ps.length ps) (hc4 : ps.length ≤ c4) (hnp : nodesL ps ≤ 1000000) :
    Calls Try.prog 16 #[.agg #[.slice (some ⟨D, 0, none⟩) 1 1, .int .i64 0, .string ⟨#[]⟩, .slice none 0 0]] w (Bit w) := by
  have HC := Lib.hid hC
  have HD := Lib.hid hD
  clear hC hD
  go_enter Try.func16, Try.ntmps16
  have hbl1 := below_alloc (Below.refl _ w) (.cells #[.slice (some ⟨D, 0, none⟩) 1 1, .int .i64 0, .string ⟨#[]⟩, .slice none 0 0] 69)
  have XB := Lib.hid (blk_new w (.cells #[.slice (some ⟨D, 0, none⟩) 1 1, .int .i64 0, .string ⟨#[]⟩, .slice none 0 0] 69))
  have B1 := Lib.hid hbl1
  clear hbl1
  go_upto_region 1 with fail
  generalize w.alloc (.cells #[.slice (some ⟨D, 0, none⟩) 1 1, .int .i64 0, .string ⟨#[]⟩, .slice none 0 0] 69) = W1 at *
  generalize hgb : w.heap.size = gb at *
  have BW1 := Lib.hid (show Below w.heap.size w W1 by rw [hgb]; exact B1.out)
  have k0 := blk_cell XB.out 0
  have k1 := blk_cell XB.out 1
  have k2 := blk_cell XB.out 2
  have k3 := blk_cell XB.out 3
  go_wp2_with (first | (go_at_call 29; refine (size_ok ps D A4 c4 _ (blk_below HD.out BW1.out) (Kd.C_below HC.out BW1.out) hc4 hnp).mono ?_; rintro e w3 ⟨v3, rfl, hd⟩; have B3 := Lib.hid (below_step BW1.out hd); have XB3 := blk_below XB.out hd; clear hd; have j0 := blk_cell XB3 0; have j1 := blk_cell XB3 1; have j2 := blk_cell XB3 2; have j3 := blk_cell XB3 3) | (go_at_call 30; refine (depth_ok ps D A4 c4 _ (blk_below HD.out B3.out) (Kd.C_below HC.out B3.out) hc4 hnp).mono ?_; rintro e w4 ⟨v4, rfl, hd⟩; have B4 := Lib.hid (below_step B3.out hd); clear hd))
  · go_ret
    exact ⟨_, rfl, B4.out⟩
  · go_ret
    exact ⟨_, rfl, B3.out⟩

/-- Yes or no came back; yes but of a few. -/
def BitL (n : Nat) (w : World) (e : Ending) (w' : World) : Prop := ∃ b : Bool, e = .returned (.bool b) ∧ (b = true → n ≤ 30) ∧ Below w.heap.size w w'

theorem info63' : (Try.prog.info? 63).map (fun i => (i.zero, i.size, i.bytes)) = some (some (.agg #[.int .i64 0, .int .i64 0, .int .i64 0, .string ⟨#[]⟩, .slice none 0 0, .slice none 0 0, .slice none 0 0, .int .i64 0, .int .i64 0, .string ⟨#[]⟩, .slice none 0 0, .slice none 0 0, .slice none 0 0, .bool false, .int .i64 0]), 15, 232) := by kernel_rfl

set_option maxRecDepth 100000 in
set_option maxHeartbeats 8000000 in
theorem light_ok (A : Option Addr) (l : List S53) (c : Nat) (w : World) (hC : Kd.C k53 w A l.length l) (hc : l.length ≤ c) (hnp : nodesL l ≤ 1000000) :
    Calls Try.prog 5 #[.slice A l.length c] w (BitL l.length w) := by
  have hla : l.length ≤ 1000000 := by have := nodesL_le l; omega
  have HC := Lib.hid hC
  clear hC
  go_enter Try.func5, Try.ntmps5
  go_wp2
  go_loopw [8, 3] (fun v8 v3 wr => ∃ i : Nat, v8 = .int .i64 i ∧ i ≤ l.length ∧ Hid (RowK kArm 63 w wr v3 (l.take i)) ∧ Hid (Below w.heap.size w wr)) (fun v8 _ _ => l.length - (intOf v8).toNat)
  case atStart => exact ⟨0, by go_num, Nat.zero_le _, Lib.hid (RowK.nil _ _), Lib.hid (Below.refl _ _)⟩
  case round =>
    obtain ⟨i, rfl, hi, HR, HBQ⟩ := hrel
    obtain ⟨wq, hwq⟩ : ∃ wq, wq = wr := ⟨_, rfl⟩
    subst hwq
    obtain ⟨Av, cv, hv⟩ := HR.out.slice
    subst hv
    rw [List.length_take, Nat.min_eq_left hi] at HR ⊢
    by_cases hlt : i < l.length
    · have q1 : (i : Int) < (l.length : Int) := by omega
      have q0 : (0 : Int) ≤ (i : Int) := by omega
      obtain ⟨ad, A5, c5, hA4, u0, u1, u2, u3, u4, hc5, hC5⟩ := at_T53 HC.out (i : Int) q0 q1
      subst hA4
      rw [rd53 l i hlt, Int.toNat_natCast] at u0 u1 u2 u3 u4
      rw [rd53 l i hlt] at hc5 hC5
      replace u0 := (HBQ.out.cell (World.block_lt_of_cell? w _ u0)).trans u0
      replace u1 := (HBQ.out.cell (World.block_lt_of_cell? w _ u1)).trans u1
      replace u2 := (HBQ.out.cell (World.block_lt_of_cell? w _ u2)).trans u2
      replace u3 := (HBQ.out.cell (World.block_lt_of_cell? w _ u3)).trans u3
      replace u4 := (HBQ.out.cell (World.block_lt_of_cell? w _ u4)).trans u4
      have HC5 := Lib.hid hC5
      have HTK := Lib.hid (List.take_succ_eq_append_getElem hlt)
      clear hC5
      generalize l[i] = x at *
      go_upto_region 5 with fail
      have hal := below_alloc (Below.refl wq.heap.size wq) (.cells #[.int .i64 x.f0, .int .i64 x.f1, .int .i64 x.f2, .string x.f3, .slice A5 x.f4.length c5] 53)
      have XB := Lib.hid (blk_new wq (.cells #[.int .i64 x.f0, .int .i64 x.f1, .int .i64 x.f2, .string x.f3, .slice A5 x.f4.length c5] 53))
      have R2 := Lib.hid (HR.out.below hal)
      have B2 := Lib.hid (below_step HBQ.out hal)
      clear hal u0 u1 u2 u3 u4
      generalize wq.alloc (.cells #[.int .i64 x.f0, .int .i64 x.f1, .int .i64 x.f2, .string x.f3, .slice A5 x.f4.length c5] 53) = w2 at *
      generalize wq.heap.size = gx at *
      have f0 := blk_cell XB.out 0
      have f1 := blk_cell XB.out 1
      have f2 := blk_cell XB.out 2
      have f3 := blk_cell XB.out 3
      have f4 := blk_cell XB.out 4
      obtain ⟨cells, own, rep⟩ := R2.out
      rw [List.length_take, Nat.min_eq_left hi] at own
      have hbE : w.heap.size ≤ w2.heap.size := B2.out.size
      have hnl : (i + 1) * 232 ≤ 140737488355328 := by omega
      go_wp2_with ((with_reducible refine gate_builtin (b := .append) (xs := #[.tmp 12, .tmp 15]) rfl ?_); at_builtin; refine print_append_cells (w0 := w) w.heap.size (by rfl) (.tmp 12) (.tmp 15) 56 63 (.agg #[.int .i64 0, .int .i64 0, .int .i64 0, .string ⟨#[]⟩, .slice none 0 0, .slice none 0 0, .slice none 0 0, .int .i64 0, .int .i64 0, .string ⟨#[]⟩, .slice none 0 0, .slice none 0 0, .slice none 0 0, .bool false, .int .i64 0]) 15 232 rfl Try.underlying56 info63' rfl (by decide) (by decide) (.slice Av i cv) i cells [.int .i64 x.f0, .int .i64 x.f1, .int .i64 x.f2, .string x.f3, .slice A5 x.f4.length c5, .slice none 0 0, .slice none 0 0, .int .i64 0, .int .i64 0, .string ⟨#[]⟩, .slice none 0 0, .slice none 0 0, .slice none 0 0, .bool false, .int .i64 0] (by go_simp) (by rfl) rfl (by intro u hu; simp only [List.mem_cons, List.not_mem_nil, or_false] at hu; rcases hu with rfl | rfl | rfl | rfl | rfl | rfl | rfl | rfl | rfl | rfl | rfl | rfl | rfl | rfl | rfl <;> rfl) own B2.out hbE hnl ?_; intro v1 w6 ho hb hgr hat; have O6 := Lib.hid ho; have B6 := Lib.hid hb; clear ho hb hgr hat)
      have hti := HTK.out
      have NN := Lib.hid (RowK.snoc (k := kArm) (t := 63) (xs := l.take i) (x := x) (by rw [List.length_take, Nat.min_eq_left hi]; exact O6.out) rep (kArm_mk w x hc5 HC5.out) rfl)
      rw [← hti] at NN
      go_roundw
      case rel => exact ⟨i + 1, by go_num, hlt, NN, B6⟩
      case measure => simp [intOf]; omega
    · obtain rfl : i = l.length := by omega
      have HR2 := Lib.hid (show RowK kArm 63 w wq (.slice Av l.length cv) l by have := HR.out; rwa [List.take_length] at this)
      obtain ⟨_, hcv, hCA⟩ := HR2.out.reads HBQ.out
      have HCA := Lib.hid hCA
      clear hCA
      by_cases h30 : l.length ≤ 30
      · have hal := below_alloc (Below.refl wq.heap.size wq) (.cells (defB Av l.length cv) 66)
        have XD := Lib.hid (blk_new wq (.cells (defB Av l.length cv) 66))
        have C2 := Lib.hid (Kd.C_below HCA.out hal)
        have B2 := Lib.hid (below_step HBQ.out hal)
        clear hal
        unfold defB at *
        go_wp2_with (go_at_call 16; refine (light12_ok l wq.heap.size Av cv _ (by unfold defB; exact XD.out) C2.out hcv hnp).mono ?_; rintro e w3 ⟨b, rfl, hd⟩; have B3 := Lib.hid (below_step B2.out hd); clear hd)
        go_ret
        exact ⟨_, rfl, fun _ => h30, B3.out⟩
      · go_wp2
        go_ret
        exact ⟨_, rfl, (fun h => Bool.noConfusion h), HBQ.out⟩
end Go.Proofs.Ytelheeekbihfcaa.Pt
