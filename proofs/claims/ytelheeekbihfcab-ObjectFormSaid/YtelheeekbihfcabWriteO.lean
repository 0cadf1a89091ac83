/- The program's write. -/
import Derived.Test.YtelheeekbihfcabInStr
import Derived.Deep.DeepCutAuto
import Derived.Laws.EntriesVeiled
set_option linter.unusedVariables false
set_option linter.unusedSimpArgs false
namespace Go.Proofs.Ytelheeekbihfcab.Ob
open Go.RowKit Go.Proofs Go.Proofs.Ytelheeekbihfcab.PObjectReads Go.Proofs.YtelheeekbihfcabW.PrintWords Go.Proofs.YtelheeekbihfcabW.PrintMore
attribute [local go_sem] Oper.semAt_some
attribute [local go_sem high] idx67_0 idx67_1 idx67_2 idx67_3

theorem own_def {W : World} {base n m : Nat} {v : Value} {xs : List Value} {d : Option (List Deferred)} (h : W.ownsRow base 5 1 v n xs) (hn : W.heap[m]? = some (.deferred d)) (o : Obj) : (W.putObj m o).ownsRow base 5 1 v n xs :=
  own_move h (fun k hk => World.putObj_heap_other (fun e => by
    subst e
    obtain ⟨cells, hc⟩ := own_typed h k hk
    rw [hc] at hn
    injection hn with hn
    cases hn))
theorem below_putObj {B : Nat} {w W : World} (h : Below B w W) {k : Nat} (hk : B ≤ k) (o : Obj) : Below B w (W.putObj k o) :=
  ⟨h.os, h.tape, h.output, by rw [World.putObj_size]; exact h.size, fun i hi => (World.putObj_heap_other (by omega)).trans (h.block i hi)⟩
theorem own0 (W : World) (base R cap : Nat) (h : W.heap[R]? = some (.cells (madeCells #[.int .u8 0] cap) 5 (0, 0))) (hb : base ≤ R) (hc : cap ≤ 100000000) : W.ownsRow base 5 1 (.slice (some ⟨R, 0, none⟩) 0 cap) 0 [] := by
  refine ⟨by simp, .inr ⟨R, cap, madeCells #[.int .u8 0] cap, rfl, hb, h, Nat.zero_le _, by simp [maxLen]; omega, by simp [madeCells], by simp⟩⟩
theorem make_row (W : World) (c : Nat) (hc : c ≤ 100000000) : (Instr.makeSlice 29 (.int .i64 0) (.int .i64 (c : Int))).run Try.prog W = .ok (.slice (some ⟨W.heap.size, 0, none⟩) 0 c) (W.alloc (.cells (madeCells #[.int .u8 0] c) 5)) := by
  obtain ⟨i, hi, hzz⟩ := Option.map_eq_some_iff.1 info5
  simp only [Prod.mk.injEq] at hzz
  obtain ⟨hz, hs, hb⟩ := hzz
  have hr := run_make (P := Try.prog) W 29 5 i (.int .u8 0) Try.underlying29 hi hz .i64 .i64 0 c (by omega) (by omega) (by rw [hb]; omega) (by omega)
  simp only [Int.toNat_natCast, hs, Nat.mul_one] at hr
  exact hr

set_option maxRecDepth 100000 in
set_option maxHeartbeats 8000000 in
theorem writeO (e s : Int) (A2 : Option Addr) (c2 : Nat) (ws : List Int) (A3 : Option Addr) (c3 : Nat) (ls : List S47) (w : World) (hr2 : Kd.C (Kd.int .u32) w A2 ws.length ws) (hc2 : ws.length ≤ c2) (hr3 : Kd.C k47 w A3 ls.length ls) (hc3 : ls.length ≤ c3) (hF : Fits e s ws ls) :
    Calls Try.prog 16 #[.agg #[.int .u64 e, .int .u64 s, .slice A2 ws.length c2, .slice A3 ls.length c3]] w fun e' w' => ∃ v, e' = .returned v ∧ w'.ownsRow w.heap.size 5 1 v (fileB e s ws ls).length (nums .u8 (fileB e s ws ls)) ∧ Below w.heap.size w w' := by
  have hwn := hF.wn
  have hln := hF.ln
  have hnm := nm_le ls hF.n
  have HP := Lib.hid fun W => fun hW : Below w.heap.size w W => placed_call e s A2 c2 ws A3 c3 ls W (Kd.C_below hr3 hW) hF.wn hF.ln hF.n
  have HR2 := Lib.hid hr2
  have HR3 := Lib.hid hr3
  have HF := Lib.hid hF
  clear hr2 hr3 hF
  have s1 : 0 ≤ sOf ws ∧ sOf ws ≤ 100000 := by unfold sOf up8; omega
  have s2 : 0 ≤ lOf ls ∧ lOf ls ≤ 200000 := by unfold lOf; omega
  have s3 : 0 ≤ zOf ls ∧ zOf ls ≤ 6000000 := by unfold zOf; omega
  have s4 : 0 ≤ hOf ws ls ∧ hOf ws ls ≤ 10000000 := by unfold hOf lOf up8; omega
  obtain ⟨pe, hpe⟩ : ∃ pe : Nat, hOf ws ls + 320 = (pe : Int) := ⟨(hOf ws ls + 320).toNat, by omega⟩
  have hmk : ∀ W : World, (Instr.makeSlice 29 (.int .i64 0) (.int .i64 (pe : Int))).run Try.prog W = .ok (.slice (some ⟨W.heap.size, 0, none⟩) 0 pe) (W.alloc (.cells (madeCells #[.int .u8 0] pe) 5)) := fun W => make_row W pe (by omega)
  have HPE := Lib.hid hpe
  have hpl : pe ≤ 10000320 := by omega
  rw [hpe] at HP
  clear hpe
  have B0 := below_alloc (Below.refl _ w) (.cells #[.int .u64 e, .int .u64 s, .slice A2 ws.length c2, .slice A3 ls.length c3] 26)
  have X0 := blk_new w (.cells #[.int .u64 e, .int .u64 s, .slice A2 ws.length c2, .slice A3 ls.length c3] 26)
  refine (callsIn_wide (n := 6)).1 ?_
  refine callsIn_of_wp_marks Try.func16 rfl trivial ?_ rfl
  simp only [Try.ntmps16, List.size_toArray, List.length_cons, List.length_nil, Nat.reduceAdd, Nat.reduceSub, Array.replicate_succ, Array.replicate_zero, List.push_toArray, List.append_toArray, List.nil_append, List.cons_append]
  refine wpIn_wide.2 ?_
  go_upto_region 5 with (go_at_call 19; refine (HP.out _ B0).mono ?_; rintro e' w1 ⟨rfl, hd⟩; have X1 := Lib.hid (blk_below X0 hd); have B1 := Lib.hid (below_step B0 hd); clear hd X0 B0 HP)
  have hs1 := B1.out.size
  have hlt := blk_lt X1.out
  have Y0 := blk_alloc (blk_alloc (blk_alloc (blk_alloc X1.out (.cells #[.int .i64 120, .int .i64 (sOf ws), .int .i64 (sOf ws + lOf ls), .int .i64 (sOf ws + lOf ls + zOf ls), .int .i64 (hOf ws ls), .int .i64 (pe : Int)] 55)) (.cells (madeCells #[.int .u8 0] pe) 5)) (.cells #[.slice (some ⟨w1.heap.size + 1, 0, none⟩) 0 pe] 29)) (.cells #[.func (.func 22) #[] #[.pointer (some ⟨w1.heap.size + 1 + 1, 0, none⟩)]] 61)
  have Y1 := blk_alloc (blk_alloc (blk_alloc (blk_new w1 (.cells #[.int .i64 120, .int .i64 (sOf ws), .int .i64 (sOf ws + lOf ls), .int .i64 (sOf ws + lOf ls + zOf ls), .int .i64 (hOf ws ls), .int .i64 (pe : Int)] 55)) (.cells (madeCells #[.int .u8 0] pe) 5)) (.cells #[.slice (some ⟨w1.heap.size + 1, 0, none⟩) 0 pe] 29)) (.cells #[.func (.func 22) #[] #[.pointer (some ⟨w1.heap.size + 1 + 1, 0, none⟩)]] 61)
  have Y2 := blk_alloc (blk_alloc (blk_new (w1.alloc (.cells #[.int .i64 120, .int .i64 (sOf ws), .int .i64 (sOf ws + lOf ls), .int .i64 (sOf ws + lOf ls + zOf ls), .int .i64 (hOf ws ls), .int .i64 (pe : Int)] 55)) (.cells (madeCells #[.int .u8 0] pe) 5)) (.cells #[.slice (some ⟨w1.heap.size + 1, 0, none⟩) 0 pe] 29)) (.cells #[.func (.func 22) #[] #[.pointer (some ⟨w1.heap.size + 1 + 1, 0, none⟩)]] 61)
  have Y3 := blk_alloc (blk_new ((w1.alloc (.cells #[.int .i64 120, .int .i64 (sOf ws), .int .i64 (sOf ws + lOf ls), .int .i64 (sOf ws + lOf ls + zOf ls), .int .i64 (hOf ws ls), .int .i64 (pe : Int)] 55)).alloc (.cells (madeCells #[.int .u8 0] pe) 5)) (.cells #[.slice (some ⟨w1.heap.size + 1, 0, none⟩) 0 pe] 29)) (.cells #[.func (.func 22) #[] #[.pointer (some ⟨w1.heap.size + 1 + 1, 0, none⟩)]] 61)
  have Y4 := blk_new (((w1.alloc (.cells #[.int .i64 120, .int .i64 (sOf ws), .int .i64 (sOf ws + lOf ls), .int .i64 (sOf ws + lOf ls + zOf ls), .int .i64 (hOf ws ls), .int .i64 (pe : Int)] 55)).alloc (.cells (madeCells #[.int .u8 0] pe) 5)).alloc (.cells #[.slice (some ⟨w1.heap.size + 1, 0, none⟩) 0 pe] 29)) (.cells #[.func (.func 22) #[] #[.pointer (some ⟨w1.heap.size + 1 + 1, 0, none⟩)]] 61)
  have YB := below_alloc (below_alloc (below_alloc (below_alloc B1.out (.cells #[.int .i64 120, .int .i64 (sOf ws), .int .i64 (sOf ws + lOf ls), .int .i64 (sOf ws + lOf ls + zOf ls), .int .i64 (hOf ws ls), .int .i64 (pe : Int)] 55)) (.cells (madeCells #[.int .u8 0] pe) 5)) (.cells #[.slice (some ⟨w1.heap.size + 1, 0, none⟩) 0 pe] 29)) (.cells #[.func (.func 22) #[] #[.pointer (some ⟨w1.heap.size + 1 + 1, 0, none⟩)]] 61)
  simp only [World.size_alloc] at Y2 Y3 Y4
  generalize ((((w1.alloc (.cells #[.int .i64 120, .int .i64 (sOf ws), .int .i64 (sOf ws + lOf ls), .int .i64 (sOf ws + lOf ls + zOf ls), .int .i64 (hOf ws ls), .int .i64 (pe : Int)] 55)).alloc (.cells (madeCells #[.int .u8 0] pe) 5)).alloc (.cells #[.slice (some ⟨w1.heap.size + 1, 0, none⟩) 0 pe] 29)).alloc (.cells #[.func (.func 22) #[] #[.pointer (some ⟨w1.heap.size + 1 + 1, 0, none⟩)]] 61)) = W0 at *
  clear X1 B1
  generalize w1.heap.size = n1 at *
  have hg : w.heap.size ≤ n1 + 1 + 1 := by omega
  have hgW := blk_lt Y3
  have HW0 : w.heap.size ≤ W0.heap.size := by omega
  have hn0 : w.heap.size ≠ n1 + 1 + 1 := by omega
  have hn1 : n1 ≠ n1 + 1 + 1 := by omega
  have hn2 : n1 + 1 + 1 + 1 ≠ n1 + 1 + 1 := by omega
  have HA : Hid (AtO w.heap.size (n1 + 1 + 1) W0 10 W0 []) := Lib.hid ⟨⟨_, Y3, own0 W0 _ _ _ Y2 (by omega) (by omega)⟩, KB.refl _ _ _, by simp⟩
  have HC := Lib.hid (fun (W : World) (L : Nat) (bs : List Int) (h : AtO w.heap.size (n1 + 1 + 1) W0 L W bs) => (show W.heap[w.heap.size]? = some (.cells #[.int .u64 e, .int .u64 s, .slice A2 ws.length c2, .slice A3 ls.length c3] 26 (0, 0)) ∧ W.heap[n1]? = some (.cells #[.int .i64 120, .int .i64 (sOf ws), .int .i64 (sOf ws + lOf ls), .int .i64 (sOf ws + lOf ls + zOf ls), .int .i64 (hOf ws ls), .int .i64 (pe : Int)] 55 (0, 0)) ∧ W.heap[n1 + 1 + 1 + 1]? = some (.cells #[.func (.func 22) #[] #[.pointer (some ⟨n1 + 1 + 1, 0, none⟩)]] 61 (0, 0)) ∧ Below w.heap.size w W from
    ⟨h.kb.blk Y0 (by decide) hn0, h.kb.blk Y1 (by decide) hn1, h.kb.blk Y4 (by decide) hn2, YB.trans (h.kb.below HW0)⟩))
  have y3 := Lib.hid Y3
  have y2 := Lib.hid (own0 W0 w.heap.size (n1 + 1) pe Y2 (by omega) (by omega))
  clear Y0 Y1 Y2 Y4 YB hlt
  have cg := blk_cell Y3 0
  clear Y3
  have hh := HC.out _ _ _ HA.out
  have k0 := blk_cell hh.1 0
  have k1 := blk_cell hh.1 1
  have k2 := blk_cell hh.1 2
  have k3 := blk_cell hh.1 3
  have p0 := blk_cell hh.2.1 0
  have p1 := blk_cell hh.2.1 1
  have p2 := blk_cell hh.2.1 2
  have p3 := blk_cell hh.2.1 3
  have p4 := blk_cell hh.2.1 4
  have p5 := blk_cell hh.2.1 5
  have q0 := blk_cell hh.2.2.1 0
  clear hh
  have u1 : IntKind.u64.wrap (4 * (ws.length : Int)) = 4 * (ws.length : Int) := u64_small _ (by omega) (by omega)
  have u2 : IntKind.u64.wrap (hOf ws ls) = hOf ws ls := u64_small _ (by omega) (by omega)
  have he := HF.out.e
  have hs := HF.out.s
  go_upto_region 7 with ((with_reducible refine gate_builtin (b := .append) (xs := #[.tmp 28, .const (.string elf)]) rfl ?_); at_builtin; refine print_append_str (w0 := W0) w.heap.size rfl (.tmp 28) (.const (.string elf)) 29 9 5 rfl Try.underlying29 Try.underlying9 info5 (.slice (some ⟨n1 + 1, 0, none⟩) 0 pe) [] elf rfl rfl y2.out (Below.refl _ _) HW0 (by decide) ?_; intro v1 w2 ho hb hgr; obtain ⟨A1, c1', rfl⟩ := slice_of ho; have cg2 := blk_cell (blk_grown y3.out hgr (own_ne y2.out y3.out (by decide))) 0; have fg2 := blk_frozen (blk_grown y3.out hgr (own_ne y2.out y3.out (by decide))) 0; have h1 := AtO.store (k := 20) HA.out hg y3.out y2.out hgr ho (by decide); clear HA; have HA := Lib.hid h1; clear h1 ho hb hgr)
  clear cg2 fg2 cg
  clear k0 k1 k2 k3 p0 p1 p2 p3 p4 p5 q0
  have hh := HC.out _ _ _ HA.out
  have k0 := blk_cell hh.1 0
  have k1 := blk_cell hh.1 1
  have k2 := blk_cell hh.1 2
  have k3 := blk_cell hh.1 3
  have p0 := blk_cell hh.2.1 0
  have p1 := blk_cell hh.2.1 1
  have p2 := blk_cell hh.2.1 2
  have p3 := blk_cell hh.2.1 3
  have p4 := blk_cell hh.2.1 4
  have p5 := blk_cell hh.2.1 5
  have q0 := blk_cell hh.2.2.1 0
  clear hh
  go_wp2_with (first
    | (go_at_call 23; refine (fill_at _ HA.out HW0 hg (by omega) (by omega)).mono ?_; rintro e' w' ⟨rfl, h1, hkb⟩; clear k0 k1 k2 k3 p0 p1 p2 p3 p4 p5 q0; clear HA hkb; have HA := Lib.hid h1; have hh := HC.out _ _ _ h1; have k0 := blk_cell hh.1 0; have k1 := blk_cell hh.1 1; have k2 := blk_cell hh.1 2; have k3 := blk_cell hh.1 3; have p0 := blk_cell hh.2.1 0; have p1 := blk_cell hh.2.1 1; have p2 := blk_cell hh.2.1 2; have p3 := blk_cell hh.2.1 3; have p4 := blk_cell hh.2.1 4; have p5 := blk_cell hh.2.1 5; have q0 := blk_cell hh.2.2.1 0; clear hh; clear h1)
    | (go_at_call 22; refine (putO_at _ _ _ _ HA.out HW0 hg (by rfl) (by rfl) (by intro x hx; simp only [ints, intOf', List.map_cons, List.map_nil, List.mem_cons, List.not_mem_nil, or_false] at hx; omega) (by omega) (by decide) (by omega)).mono ?_; rintro e' w' ⟨rfl, h1, hkb⟩; clear k0 k1 k2 k3 p0 p1 p2 p3 p4 p5 q0; clear HA hkb; have HA := Lib.hid h1; have hh := HC.out _ _ _ h1; have k0 := blk_cell hh.1 0; have k1 := blk_cell hh.1 1; have k2 := blk_cell hh.1 2; have k3 := blk_cell hh.1 3; have p0 := blk_cell hh.2.1 0; have p1 := blk_cell hh.2.1 1; have p2 := blk_cell hh.2.1 2; have p3 := blk_cell hh.2.1 3; have p4 := blk_cell hh.2.1 4; have p5 := blk_cell hh.2.1 5; have q0 := blk_cell hh.2.2.1 0; clear hh; clear h1))
  have hhd := Lib.hid (head_eq e s (4 * (ws.length : Int)) (hOf ws ls))
  obtain ⟨Hd, hHd⟩ : ∃ Hd, Hd = headB e s (4 * (ws.length : Int)) (hOf ws ls) := ⟨_, rfl⟩
  have HA1 : Hid (AtO w.heap.size (n1 + 1 + 1) W0 700 _ Hd) := Lib.hid (by rw [hHd, ← hhd.out]; exact HA.out.weak (by decide))
  have HHd := Lib.hid hHd
  clear hHd hhd HA
  clear k0 k1 k2 k3 p0 p1 p2 p3 p4 p5 q0
  clear y3 y2
  go_loopw [64] (fun v64 wr => ∃ i : Nat, v64 = .int .i64 i ∧ i ≤ ws.length ∧ Hid (AtO w.heap.size (n1 + 1 + 1) W0 (700 + 80 * i) wr (Hd ++ wordsB (ws.take i)))) (fun v64 _ => ws.length - (intOf v64).toNat)
  case atStart => exact ⟨0, by go_num, Nat.zero_le _, Lib.hid (by simpa [wordsB] using HA1.out)⟩
  case round =>
    obtain ⟨i, rfl, hi, HA⟩ := hrel
    have hh := HC.out _ _ _ HA.out
    have k0 := blk_cell hh.1 0
    have k1 := blk_cell hh.1 1
    have k2 := blk_cell hh.1 2
    have k3 := blk_cell hh.1 3
    have p0 := blk_cell hh.2.1 0
    have p1 := blk_cell hh.2.1 1
    have p2 := blk_cell hh.2.1 2
    have p3 := blk_cell hh.2.1 3
    have p4 := blk_cell hh.2.1 4
    have p5 := blk_cell hh.2.1 5
    have q0 := blk_cell hh.2.2.1 0
    clear hh
    by_cases hlt : i < ws.length
    · obtain ⟨ad, rfl, hx⟩ := Kd.at_int (Kd.C_below HR2.out (HC.out _ _ _ HA.out).2.2.2) (i : Int) (by omega) (by omega)
      have hxr := HF.out.w ws[i] (List.getElem_mem hlt)
      rw [rdI ws i hlt, Int.toNat_natCast] at hx
      have HT := Lib.hid (words_step ws i hlt Hd)
      generalize ws[i] = X at *
      have g0 : (0 : Int) ≤ i := by omega
      have g1 : (i : Int) < ws.length := by omega
      have g2 : IntKind.u64.wrap X = X := by simp [IntKind.wrap, IntKind.bits, IntKind.signed]; omega
      go_wp2_with (go_at_call 22; refine (putO_at _ _ _ _ HA.out HW0 hg (by rfl) (by rfl) (by intro x hx; simp only [ints, intOf', List.map_cons, List.map_nil, List.mem_cons, List.not_mem_nil, or_false] at hx; omega) (by omega) (by decide) (by omega)).mono ?_; rintro e' w' ⟨rfl, h1, hkb⟩; clear k0 k1 k2 k3 p0 p1 p2 p3 p4 p5 q0; clear HA hkb; have HA := Lib.hid h1; have hh := HC.out _ _ _ h1; have k0 := blk_cell hh.1 0; have k1 := blk_cell hh.1 1; have k2 := blk_cell hh.1 2; have k3 := blk_cell hh.1 3; have p0 := blk_cell hh.2.1 0; have p1 := blk_cell hh.2.1 1; have p2 := blk_cell hh.2.1 2; have p3 := blk_cell hh.2.1 3; have p4 := blk_cell hh.2.1 4; have p5 := blk_cell hh.2.1 5; have q0 := blk_cell hh.2.2.1 0; clear hh; clear h1)
      go_roundw
      case rel => exact ⟨i + 1, by go_num, hlt, Lib.hid (by rw [HT.out]; exact HA.out.weak (by omega))⟩
      case measure => simp [intOf]; omega
    · obtain rfl : i = ws.length := by omega
      rw [List.take_length] at HA
      replace HA := Lib.hid (HA.out.weak (L' := 2000000) (by omega))
      go_wp2_with (first
        | (go_at_call 23; refine (fill_at _ HA.out HW0 hg (by omega) (by omega)).mono ?_; rintro e' w' ⟨rfl, h1, hkb⟩; clear k0 k1 k2 k3 p0 p1 p2 p3 p4 p5 q0; clear HA hkb; have HA := Lib.hid h1; have hh := HC.out _ _ _ h1; have k0 := blk_cell hh.1 0; have k1 := blk_cell hh.1 1; have k2 := blk_cell hh.1 2; have k3 := blk_cell hh.1 3; have p0 := blk_cell hh.2.1 0; have p1 := blk_cell hh.2.1 1; have p2 := blk_cell hh.2.1 2; have p3 := blk_cell hh.2.1 3; have p4 := blk_cell hh.2.1 4; have p5 := blk_cell hh.2.1 5; have q0 := blk_cell hh.2.2.1 0; clear hh; clear h1)
        | (go_at_call 24; refine (callsIn_wide.1 (named_in 6 e s A2 ws.length c2 A3 ls.length c3 _)).mono ?_; rintro e' w2 ⟨rfl, hw2⟩; have HW2 := Lib.hid hw2; clear hw2; clear k0 k1 k2 k3 p0 p1 p2 p3 p4 p5 q0))
      have hP1 := Lib.hid (pad1 e s (4 * (ws.length : Int)) (hOf ws ls) ws)
      obtain ⟨P1, hP⟩ : ∃ P1, P1 = upTo (sOf ws + 24).toNat (Hd ++ wordsB ws) := ⟨_, rfl⟩
      rw [← hP] at HA
      have HP1 := Lib.hid hP
      clear hP
      have HAr := HA.out.alloc (.cells #[.int .u64 e, .int .u64 s, .slice A2 ws.length c2, .slice A3 ls.length c3] 26)
      have HLB := blk_new w' (.cells #[.int .u64 e, .int .u64 s, .slice A2 ws.length c2, .slice A3 ls.length c3] 26)
      rw [HW2.out] at HAr HLB
      have hLBg : w'.heap.size ≠ n1 + 1 + 1 := by have := HA.out.kb.size; omega
      have hLBs : w'.heap.size < w2.heap.size := blk_lt HLB
      generalize w'.heap.size = LB at *
      clear HW2 HA
      have HKr := Lib.hid HAr.kb
      have hsz2 := HAr.kb.size
      have HWr : w.heap.size ≤ w2.heap.size := by omega
      have HC2 := Lib.hid (fun (W : World) (L : Nat) (bs : List Int) (h : AtO w.heap.size (n1 + 1 + 1) w2 L W bs) => And.intro (HC.out W L bs (h.from HKr.out)) (h.kb.blk HLB (by decide) hLBg))
      have HA2 : Hid (AtO w.heap.size (n1 + 1 + 1) w2 2300000 w2 P1) := Lib.hid ⟨HAr.buf, KB.refl _ _ _, Nat.le_trans HAr.len (by omega)⟩
      have hgl : n1 + 1 + 1 < w2.heap.size := by omega
      clear HAr
      refine wpIn_wide.1 (show Code.wpIn Fence.wide 6 _ _ _ _ _ from ?_)
      refine Rng.range_law (T := 47) (γ := Unit) (α := Nat × S47) (F := Fence.wide) rfl (by omega) (gf := 34) (lb := #[.pointer (some ⟨LB, 0, none⟩)]) rfl trivial (Go.Proofs.YtelheeekbihfcabW.PrintLast.enters_ Try.func34 (by kernel_rfl) rfl)
        (encs := itemV) (fun _ => rfl) (fun _ pre x => (pre ++ [x]) <+: items 1 ls) (fun _ xs => xs = items 1 ls)
        (fun _ W => W.heap[LB]? = some (.cells #[.int .u64 e, .int .u64 s, .slice A2 ws.length c2, .slice A3 ls.length c3] 26 (0, 0)) ∧ Kd.C k47 W A3 ls.length ls) (fun _ _ _ => True)
        (fun _ pre W => AtO w.heap.size (n1 + 1 + 1) w2 (2300000 + 400 * pre.length) W (P1 ++ symsI pre) ∧ w2.heap.size + 2 ≤ W.heap.size) ?_ ?_ ?_ ?_ ?_ ?_ ?_
      · intro c pre W L L' hn hI
        exact ⟨hI.1.putObj hn (by omega) _, by rw [World.putObj_size]; exact hI.2⟩
      · intro c pre W hI
        have hh := HC2.out _ _ _ hI.1
        exact ⟨hh.2, Kd.C_below HR3.out hh.1.2.2.2⟩
      · intro c pre W W' hI hb
        exact ⟨hI.1.below hb, Nat.le_trans hI.2 hb.size⟩
      · intro W J hb1 hIt hJb hJ0 hJy
        refine (named1 5 (by omega) (.int .u64 e) (.int .u64 s) (.slice A2 ws.length c2) A3 c3 ls LB (w2.heap.size + 1) W (J ()) hln HF.out.n (blk_below HLB hb1) (Kd.C_below HR3.out (below_step (HC2.out _ _ _ HA2.out).1.2.2.2 hb1)) (fun pre W' hj => hIt () pre W' hj) (fun pre V V' hj hb => hJb () pre V V' hj hb) (hJ0 () W (Below.refl _ _) trivial) (fun pre x W1 hpre hj => hJy () pre x W1 hpre hj)).mono ?_
        rintro e' W' ⟨h1, h2⟩
        exact ⟨h1, (), _, rfl, h2⟩
      · intro c W W' hb1 hsz hb2 _
        refine ⟨?_, by have := hb2.size; omega⟩
        have := (HA2.out.below hb1).below hb2
        simpa [symsI] using this
      · intro c pre x W L hn hV hI
        obtain ⟨hA, hsz⟩ := hI
        obtain ⟨hx1, hx2, hx3⟩ := pre_mem hV
        have hxa := HF.out.a x.2 hx1
        have HAx := Lib.hid hA
        have HN := Lib.hid hn
        have HT := Lib.hid (symsI_snoc pre x)
        unfold itemV
        clear hA hn hx1
        gi_wp2
        refine ⟨KeepsOthers.alloc _ _, fun k cs hk => blk_alloc hk _, fun L' => ?_⟩
        have HA3 := (HAx.out.alloc (.cells #[.string x.2.f0, .int .u64 x.2.f1] 47)).putObj (blk_alloc HN.out _) (by omega) (.loop L')
        have HB1 : ((W.alloc (.cells #[.string x.2.f0, .int .u64 x.2.f1] 47)).putObj (w2.heap.size + 1) (.loop L')).heap[W.heap.size]? = some (.cells #[.string x.2.f0, .int .u64 x.2.f1] 47 (0, 0)) := (World.putObj_heap_other (by omega)).trans (blk_new _ _)
        have hs3 : W.heap.size + 1 = ((W.alloc (.cells #[.string x.2.f0, .int .u64 x.2.f1] 47)).putObj (w2.heap.size + 1) (.loop L')).heap.size := by rw [World.putObj_size, World.size_alloc]
        generalize ((W.alloc (.cells #[.string x.2.f0, .int .u64 x.2.f1] 47)).putObj (w2.heap.size + 1) (.loop L')) = W3 at *
        obtain ⟨vg, hvg⟩ := HA3.vg
        have HVG := Lib.hid hvg
        have hB11g : W.heap.size ≠ n1 + 1 + 1 := by omega
        have hs4 : w2.heap.size + 2 ≤ W3.heap.size := by omega
        generalize W.heap.size = B11 at *
        have HB11 := Lib.hid HB1
        have HK : Hid (KB w.heap.size (n1 + 1 + 1) W3 W3) := Lib.hid (KB.refl _ _ _)
        have q0 := blk_cell (HC2.out _ _ _ HA3).1.2.2.1 0
        have b1 := blk_cell HB1 1
        have HA := Lib.hid HA3
        clear HA3 HB1 hvg HAx HN
        gi_wp2_with fail
        refine ⟨trivial, ?_⟩
        refine (CallsIn.inRound _ (callsIn_wide.2 (putO_at _ _ _ _ HA.out HWr hg (by rfl) (by rfl) (by intro x hx; simp only [ints, intOf', List.map_cons, List.map_nil, List.mem_cons, List.not_mem_nil, or_false] at hx; omega) (by omega) (by decide) (by omega)))).mono ?_
        rintro e' w' ⟨rfl, h1, hkb⟩
        clear q0 b1
        have HKn := Lib.hid (HK.out.trans hkb)
        clear HA HK hkb
        have HK := Lib.hid HKn.out
        clear HKn
        have HA := Lib.hid h1
        have q0 := blk_cell (HC2.out _ _ _ h1).1.2.2.1 0
        have b1 := blk_cell (HK.out.blk HB11.out (by decide) hB11g) 1
        clear h1
        gi_wp2_with fail
        refine ⟨trivial, ?_⟩
        refine (CallsIn.inRound _ (callsIn_wide.2 (putO_at _ _ _ _ HA.out HWr hg (by rfl) (by rfl) (by intro x hx; simp only [ints, intOf', List.map_cons, List.map_nil, List.mem_cons, List.not_mem_nil, or_false] at hx; omega) (by omega) (by decide) (by omega)))).mono ?_
        rintro e' w' ⟨rfl, h1, hkb⟩
        clear q0 b1
        have HKn := Lib.hid (HK.out.trans hkb)
        clear HA HK hkb
        have HK := Lib.hid HKn.out
        clear HKn
        have HA := Lib.hid h1
        have q0 := blk_cell (HC2.out _ _ _ h1).1.2.2.1 0
        have b1 := blk_cell (HK.out.blk HB11.out (by decide) hB11g) 1
        clear h1
        gi_wp2_with fail
        refine ⟨trivial, ?_⟩
        refine (CallsIn.inRound _ (callsIn_wide.2 (putO_at _ _ _ _ HA.out HWr hg (by rfl) (by rfl) (by intro x hx; simp only [ints, intOf', List.map_cons, List.map_nil, List.mem_cons, List.not_mem_nil, or_false] at hx; omega) (by omega) (by decide) (by omega)))).mono ?_
        rintro e' w' ⟨rfl, h1, hkb⟩
        clear q0 b1
        have HKn := Lib.hid (HK.out.trans hkb)
        clear HA HK hkb
        have HK := Lib.hid HKn.out
        clear HKn
        have HA := Lib.hid h1
        have q0 := blk_cell (HC2.out _ _ _ h1).1.2.2.1 0
        have b1 := blk_cell (HK.out.blk HB11.out (by decide) hB11g) 1
        clear h1
        gi_wp2_with fail
        refine ⟨trivial, ?_⟩
        refine (CallsIn.inRound _ (callsIn_wide.2 (putO_at _ _ _ _ HA.out HWr hg (by rfl) (by rfl) (by intro x hx; simp only [ints, intOf', List.map_cons, List.map_nil, List.mem_cons, List.not_mem_nil, or_false] at hx; omega) (by omega) (by decide) (by omega)))).mono ?_
        rintro e' w' ⟨rfl, h1, hkb⟩
        clear q0 b1
        have HKn := Lib.hid (HK.out.trans hkb)
        clear HA HK hkb
        have HK := Lib.hid HKn.out
        clear HKn
        have HA := Lib.hid h1
        have q0 := blk_cell (HC2.out _ _ _ h1).1.2.2.1 0
        have b1 := blk_cell (HK.out.blk HB11.out (by decide) hB11g) 1
        clear h1
        gi_wp2
        refine ⟨HK.out.others HVG.out, ⟨?_, Nat.le_trans hs4 HK.out.size⟩, HK.out.keepT HVG.out (by decide) (by decide)⟩
        have h1 := HA.out.weak (L' := 2300000 + 400 * (pre ++ [x]).length) (by simp; omega)
        rw [HT.out, ← symI_puts]
        simpa only [List.append_assoc] using h1
      · intro c xs W hA hI hK
        have hA' : xs = items 1 ls := hA
        subst hA'
        obtain ⟨hI1, hI2⟩ := hI
        rw [symsI_items, items_len] at hI1
        obtain ⟨vg, hvg⟩ := hI1.vg
        have HVG := Lib.hid hvg
        have HA := Lib.hid (hI1.weak (L' := 5000000) (by omega))
        have HD1 := Lib.hid hK
        have q0 := blk_cell (HC2.out _ _ _ hI1).1.2.2.1 0
        clear hI1 hK hvg
        gi_wp2
        go_wp2_with (first
          | (go_at_call 22; refine (putO_at _ _ _ _ HA.out HWr hg (by rfl) (by rfl) (by intro x hx; simp only [ints, intOf', List.map_cons, List.map_nil, List.mem_cons, List.not_mem_nil, or_false] at hx; omega) (by omega) (by decide) (by omega)).mono ?_; rintro e' w' ⟨rfl, h1, hkb⟩; have HD := Lib.hid ((hkb.others HVG.out).same _ _ HD1.out rfl); have hh := HC2.out _ _ _ h1; clear q0; have k0 := blk_cell hh.1.1 0; have k1 := blk_cell hh.1.1 1; have k2 := blk_cell hh.1.1 2; have k3 := blk_cell hh.1.1 3; have q0 := blk_cell hh.1.2.2.1 0; rw [put1] at h1; have HA5 := Lib.hid h1; clear HA hkb h1 hh HVG HD1)
          | (go_at_call 24; refine (callsIn_wide.1 (named_in 6 e s A2 ws.length c2 A3 ls.length c3 _)).mono ?_; rintro e' w3 ⟨rfl, hw3⟩; have HW3 := Lib.hid hw3))
        clear hw3 k0 k1 k2 k3 q0
        obtain ⟨P2, hP⟩ : ∃ P2, P2 = P1 ++ symsB 1 ls ++ le 1 0 := ⟨_, rfl⟩
        rw [← hP] at HA5
        have HP2 := Lib.hid hP
        clear hP
        have HAr := HA5.out.alloc (.cells #[.int .u64 e, .int .u64 s, .slice A2 ws.length c2, .slice A3 ls.length c3] 26)
        have HLB2 := blk_new w' (.cells #[.int .u64 e, .int .u64 s, .slice A2 ws.length c2, .slice A3 ls.length c3] 26)
        have HDr := blk_alloc HD.out (.cells #[.int .u64 e, .int .u64 s, .slice A2 ws.length c2, .slice A3 ls.length c3] 26)
        rw [HW3.out] at HAr HLB2 HDr
        have hLB2g : w'.heap.size ≠ n1 + 1 + 1 := by have := HA5.out.kb.size; omega
        have hLB2s : w'.heap.size < w3.heap.size := blk_lt HLB2
        generalize w'.heap.size = LB2 at *
        clear HW3 HA5 HD
        have HKr2 := Lib.hid HAr.kb
        have hsz3 := HAr.kb.size
        have hDlt := blk_lt HDr
        have HWr3 : w.heap.size ≤ w3.heap.size := by omega
        have HC3 := Lib.hid (fun (W : World) (L : Nat) (bs : List Int) (h : AtO w.heap.size (n1 + 1 + 1) w3 L W bs) => And.intro (HC2.out W L bs (h.from HKr2.out)).1 (h.kb.blk HLB2 (by decide) hLB2g))
        have HA6 : Hid (AtO w.heap.size (n1 + 1 + 1) w3 6000000 w3 P2) := Lib.hid ⟨HAr.buf, KB.refl _ _ _, Nat.le_trans HAr.len (by omega)⟩
        have hgl3 : n1 + 1 + 1 < w3.heap.size := by omega
        clear HAr
        refine wpIn_wide.1 (show Code.wpIn Fence.wide 6 _ _ _ _ _ from ?_)
        refine Rng.range_law (T := 47) (γ := Unit) (α := Nat × S47) (F := Fence.wide) rfl (by omega) (gf := 34) (lb := #[.pointer (some ⟨LB2, 0, none⟩)]) rfl trivial (Go.Proofs.YtelheeekbihfcabW.PrintLast.enters_ Try.func34 (by kernel_rfl) rfl)
          (encs := itemV) (fun _ => rfl) (fun _ pre x => (pre ++ [x]) <+: items 1 ls) (fun _ xs => xs = items 1 ls)
          (fun _ W => W.heap[LB2]? = some (.cells #[.int .u64 e, .int .u64 s, .slice A2 ws.length c2, .slice A3 ls.length c3] 26 (0, 0)) ∧ Kd.C k47 W A3 ls.length ls) (fun _ _ _ => True)
          (fun _ pre W => AtO w.heap.size (n1 + 1 + 1) w3 (6000000 + 1100 * pre.length) W (P2 ++ namesI pre) ∧ w3.heap.size + 2 ≤ W.heap.size ∧ W.heap[w2.heap.size]? = some (.deferred (some []))) ?_ ?_ ?_ ?_ ?_ ?_ ?_
        · intro c pre W L L' hn hI
          exact ⟨hI.1.putObj hn (by omega) _, by rw [World.putObj_size]; exact hI.2.1, (World.putObj_heap_other (by omega)).trans hI.2.2⟩
        · intro c pre W hI
          have hh := HC3.out _ _ _ hI.1
          exact ⟨hh.2, Kd.C_below HR3.out hh.1.2.2.2⟩
        · intro c pre W W' hI hb
          exact ⟨hI.1.below hb, Nat.le_trans hI.2.1 hb.size, (hb.block _ (by have := hI.2.1; omega)).trans hI.2.2⟩
        · intro W J hb1 hIt hJb hJ0 hJy
          refine (named1 5 (by omega) (.int .u64 e) (.int .u64 s) (.slice A2 ws.length c2) A3 c3 ls LB2 (w3.heap.size + 1) W (J ()) hln HF.out.n (blk_below HLB2 hb1) (Kd.C_below HR3.out (below_step (HC3.out _ _ _ HA6.out).1.2.2.2 hb1)) (fun pre W' hj => hIt () pre W' hj) (fun pre V V' hj hb => hJb () pre V V' hj hb) (hJ0 () W (Below.refl _ _) trivial) (fun pre x W1 hpre hj => hJy () pre x W1 hpre hj)).mono ?_
          rintro e' W' ⟨h1, h2⟩
          exact ⟨h1, (), _, rfl, h2⟩
        · intro c W W' hb1 hsz hb2 _
          have := (HA6.out.below hb1).below hb2
          refine ⟨by simpa [namesI] using this, by have := hb2.size; omega, (hb2.block _ (by omega)).trans ((hb1.block _ hDlt).trans HDr)⟩
        · intro c pre x W L hn hV hI
          obtain ⟨hA, hsz, hdf⟩ := hI
          obtain ⟨hx1, hx2, hx3⟩ := pre_mem hV
          have hxn := HF.out.n x.2 hx1
          have HAx := Lib.hid hA
          have HN := Lib.hid hn
          have HDF := Lib.hid hdf
          have HT := Lib.hid (namesI_snoc pre x)
          unfold itemV
          clear hA hn hx1 hdf
          gi_wp2
          refine ⟨KeepsOthers.alloc _ _, fun k cs hk => blk_alloc hk _, fun L' => ?_⟩
          have HA3 := (HAx.out.alloc (.cells #[.string x.2.f0, .int .u64 x.2.f1] 47)).putObj (blk_alloc HN.out _) (by omega) (.loop L')
          have HB1 : ((W.alloc (.cells #[.string x.2.f0, .int .u64 x.2.f1] 47)).putObj (w3.heap.size + 1) (.loop L')).heap[W.heap.size]? = some (.cells #[.string x.2.f0, .int .u64 x.2.f1] 47 (0, 0)) := (World.putObj_heap_other (by omega)).trans (blk_new _ _)
          have HDF3 : ((W.alloc (.cells #[.string x.2.f0, .int .u64 x.2.f1] 47)).putObj (w3.heap.size + 1) (.loop L')).heap[w2.heap.size]? = some (.deferred (some [])) := (World.putObj_heap_other (by omega)).trans (blk_alloc HDF.out _)
          have hs3 : W.heap.size + 1 = ((W.alloc (.cells #[.string x.2.f0, .int .u64 x.2.f1] 47)).putObj (w3.heap.size + 1) (.loop L')).heap.size := by rw [World.putObj_size, World.size_alloc]
          generalize ((W.alloc (.cells #[.string x.2.f0, .int .u64 x.2.f1] 47)).putObj (w3.heap.size + 1) (.loop L')) = W3 at *
          generalize hBS : P2 ++ namesI pre = BS at *
          have HBS := Lib.hid hBS
          obtain ⟨vg, hvg, hown⟩ := HA3.buf.out
          obtain ⟨Av, cv, rfl⟩ := slice_of hown
          have HVG := Lib.hid hvg
          have HOWN := Lib.hid hown
          have hbl := HA3.len
          have hs4 : w3.heap.size + 2 ≤ W3.heap.size := by omega
          have hbw : w.heap.size ≤ W3.heap.size := by omega
          have q0 := blk_cell (HC3.out _ _ _ HA3).1.2.2.1 0
          have b0 := blk_cell HB1 0
          have cg := blk_cell hvg 0
          have HA := Lib.hid HA3
          have HD3 := Lib.hid HDF3
          clear HA3 HB1 hvg hown HAx HN HDF HDF3 hBS
          gi_wp2_with (gi_at_builtin; refine in_append_str (w0 := W3) w.heap.size rfl (.tmp 105) (.tmp 107) 29 9 5 rfl Try.underlying29 Try.underlying9 info5 (.slice Av BS.length cv) BS x.2.f0 rfl rfl HOWN.out (Below.refl _ _) hbw (by omega) ?_; intro v1 w5 ho hb hgr; obtain ⟨A1, c1', rfl⟩ := slice_of ho; have cg2 := blk_cell (blk_grown HVG.out hgr (own_ne HOWN.out HVG.out (by decide))) 0; have fg2 := blk_frozen (blk_grown HVG.out hgr (own_ne HOWN.out HVG.out (by decide))) 0; have h1 := AtO.store (k := 6000000 + 1100 * pre.length + 1000) HA.out hg HVG.out HOWN.out hgr ho (by rw [List.length_append, bytesOf_length]; omega); have HK := Lib.hid (KB.store (v1 := Value.slice A1 (BS ++ bytesOf x.2.f0).length c1') hg HOWN.out hgr); rw [List.length_append] at h1 HK; have q1 := blk_cell (HC3.out _ _ _ h1).1.2.2.1 0; clear HA q0; have HA := Lib.hid h1; clear h1 ho hb hgr)
          refine ⟨trivial, ?_⟩
          refine (CallsIn.inRound _ (callsIn_wide.2 (putO_at2 w5.heap.size _ _ _ _ HA.out (by simp) HWr3 hg (by rfl) (by rfl) (by intro x hx; simp only [ints, intOf', List.map_cons, List.map_nil, List.mem_cons, List.not_mem_nil, or_false] at hx; omega) (by omega) (by decide) (by omega)))).mono ?_
          rintro e' w' ⟨rfl, h1, hkb⟩
          have HKn := Lib.hid (HK.out.trans hkb)
          have HAn := Lib.hid h1
          clear HA HK hkb h1 cg2 fg2 q1
          gi_wp2
          refine ⟨HKn.out.others HVG.out, ⟨?_, Nat.le_trans hs4 HKn.out.size, (HKn.out.others HVG.out).same _ _ HD3.out rfl⟩, HKn.out.keepT HVG.out (by decide) (by decide)⟩
          have h1 := HAn.out.weak (L' := 6000000 + 1100 * (pre ++ [x]).length) (by simp; omega)
          rw [HT.out, ← put1, ← List.append_assoc, HBS.out]
          simpa only [List.append_assoc] using h1
        · intro c xs W hA hI hK
          have hA' : xs = items 1 ls := hA
          subst hA'
          obtain ⟨hI1, hI2, hI3⟩ := hI
          rw [namesI_items, items_len] at hI1
          obtain ⟨BS, hBS⟩ : ∃ BS, BS = P2 ++ namesB ls := ⟨_, rfl⟩
          rw [← hBS] at hI1
          have HBS := Lib.hid hBS
          obtain ⟨vg, hvg, hown⟩ := hI1.buf.out
          obtain ⟨Av, cv, rfl⟩ := slice_of hown
          have HVG := Lib.hid hvg
          have HOWN := Lib.hid hown
          have hbl := hI1.len
          have HA := Lib.hid (hI1.weak (L' := 12000000) (by omega))
          have HD1 := Lib.hid hI3
          have HD2 := Lib.hid hK
          have cg := blk_cell hvg 0
          have hh := HC3.out _ _ _ hI1
          have p0 := blk_cell hh.1.2.1 0
          have p1 := blk_cell hh.1.2.1 1
          have p2 := blk_cell hh.1.2.1 2
          have p3 := blk_cell hh.1.2.1 3
          have p4 := blk_cell hh.1.2.1 4
          have p5 := blk_cell hh.1.2.1 5
          have q0 := blk_cell hh.1.2.2.1 0
          have hbw : w.heap.size ≤ W.heap.size := by omega
          clear hI1 hI3 hK hvg hown hh hBS
          gi_wp2
          go_upto_region 34 with ((with_reducible refine gate_builtin (b := .append) (xs := #[.tmp 112, .const (.string sects)]) rfl ?_); at_builtin; refine print_append_str (w0 := W) w.heap.size rfl (.tmp 112) (.const (.string sects)) 29 9 5 rfl Try.underlying29 Try.underlying9 info5 (.slice Av BS.length cv) BS sects rfl rfl HOWN.out (Below.refl _ _) hbw (Nat.le_trans (Nat.add_le_add_left (by decide : _ ≤ 40) _) (by omega)) ?_; intro v1 w5 ho hb hgr; obtain ⟨A1, c1', rfl⟩ := slice_of ho; have cg2 := blk_cell (blk_grown HVG.out hgr (own_ne HOWN.out HVG.out (by decide))) 0; have fg2 := blk_frozen (blk_grown HVG.out hgr (own_ne HOWN.out HVG.out (by decide))) 0; have h1 := AtO.store (k := 12000100) HA.out hg HVG.out HOWN.out hgr ho (by rw [List.length_append]; exact Nat.le_trans (Nat.add_le_add_left (by decide : _ ≤ 40) _) (by omega)); have HK := Lib.hid (KB.store (v1 := Value.slice A1 (BS ++ bytesOf sects).length c1') hg HOWN.out hgr); rw [List.length_append] at h1 HK; clear HA p0 p1 p2 p3 p4 p5 q0 cg; have HA := Lib.hid h1; have hh := HC3.out _ _ _ h1; have p0 := blk_cell hh.1.2.1 0; have p1 := blk_cell hh.1.2.1 1; have p2 := blk_cell hh.1.2.1 2; have p3 := blk_cell hh.1.2.1 3; have p4 := blk_cell hh.1.2.1 4; have p5 := blk_cell hh.1.2.1 5; have q0 := blk_cell hh.1.2.2.1 0; clear h1 ho hb hgr hh)
          have HD3 := Lib.hid ((HK.out.others HVG.out).same _ _ HD1.out rfl)
          have HD4 := Lib.hid ((HK.out.others HVG.out).same _ _ HD2.out rfl)
          obtain ⟨vg2, hvg2⟩ := HA.out.vg
          have HVG2 := Lib.hid hvg2
          clear HD1 HD2 HK HVG HOWN hvg2 cg2 fg2
          go_upto_region 35 with (go_at_call 23; refine (fill_at _ HA.out HWr3 hg (by omega) (by omega)).mono ?_; rintro e' w' ⟨rfl, h1, hkb⟩; clear p0 p1 p2 p3 p4 p5 q0; clear HA; have HA := Lib.hid h1; have HD1 := Lib.hid ((hkb.others HVG2.out).same _ _ HD3.out rfl); have HD2 := Lib.hid ((hkb.others HVG2.out).same _ _ HD4.out rfl); have hh := HC3.out _ _ _ h1; have p0 := blk_cell hh.1.2.1 0; have p1 := blk_cell hh.1.2.1 1; have p2 := blk_cell hh.1.2.1 2; have p3 := blk_cell hh.1.2.1 3; have p4 := blk_cell hh.1.2.1 4; have p5 := blk_cell hh.1.2.1 5; have q0 := blk_cell hh.1.2.2.1 0; clear h1 hkb hh HD3 HD4 HVG2)
          have r1 : sOf ws + lOf ls - sOf ws = lOf ls := by omega
          have r2 : sOf ws + lOf ls + zOf ls - (sOf ws + lOf ls) = zOf ls := by omega
          have z1 : IntKind.u64.wrap (sOf ws) = sOf ws := u64_small _ (by omega) (by omega)
          have z2 : IntKind.u64.wrap (lOf ls) = lOf ls := u64_small _ (by omega) (by omega)
          have z3 : IntKind.u64.wrap (sOf ws + lOf ls) = sOf ws + lOf ls := u64_small _ (by omega) (by omega)
          have z4 : IntKind.u64.wrap (zOf ls) = zOf ls := u64_small _ (by omega) (by omega)
          have z5 : IntKind.u64.wrap (sOf ws + lOf ls + zOf ls) = sOf ws + lOf ls + zOf ls := u64_small _ (by omega) (by omega)
          go_wp2
          clear p0 p1 p2 p3 p4 p5 q0
          obtain ⟨P3, hP3⟩ : ∃ P3, P3 = upTo (hOf ws ls + 64).toNat (BS ++ bytesOf sects) := ⟨_, rfl⟩
          rw [← hP3] at HA
          have HP3 := Lib.hid hP3
          have HA7 := Lib.hid (HA.out.weak (L' := 30000000) (by omega))
          clear hP3 HA
          go_loopw [144] (fun v144 wr => ∃ i : Nat, v144 = .int .i64 i ∧ i ≤ 4 ∧ Hid (AtO w.heap.size (n1 + 1 + 1) w3 (30000000 + 400 * i) wr (P3 ++ secs ws ls i)) ∧ Hid (wr.heap[w2.heap.size]? = some (.deferred (some []))) ∧ Hid (wr.heap[w3.heap.size]? = some (.deferred (some [])))) (fun v144 _ => 4 - (intOf v144).toNat)
          case atStart => exact ⟨0, by go_num, Nat.zero_le _, Lib.hid (by simpa [secs] using HA7.out), HD1, HD2⟩
          case round =>
            obtain ⟨i, rfl, hi, HA, HD3, HD4⟩ := hrel
            clear HA7 HD1 HD2
            have q0 := blk_cell (HC3.out _ _ _ HA.out).1.2.2.1 0
            by_cases hlt : i < 4
            · obtain rfl | rfl | rfl | rfl : i = 0 ∨ i = 1 ∨ i = 2 ∨ i = 3 := by omega
              · have HA3 := HA.out.alloc (.cells #[.int .i64 1, .int .i64 1, .int .i64 6, .int .i64 120, .int .i64 (4 * (ws.length : Int)), .int .i64 0, .int .i64 0, .int .i64 4, .int .i64 0] 66)
                have HB1 := blk_new wr (.cells #[.int .i64 1, .int .i64 1, .int .i64 6, .int .i64 120, .int .i64 (4 * (ws.length : Int)), .int .i64 0, .int .i64 0, .int .i64 4, .int .i64 0] 66)
                have E3 := Lib.hid (blk_alloc HD3.out (.cells #[.int .i64 1, .int .i64 1, .int .i64 6, .int .i64 120, .int .i64 (4 * (ws.length : Int)), .int .i64 0, .int .i64 0, .int .i64 4, .int .i64 0] 66))
                have E4 := Lib.hid (blk_alloc HD4.out (.cells #[.int .i64 1, .int .i64 1, .int .i64 6, .int .i64 120, .int .i64 (4 * (ws.length : Int)), .int .i64 0, .int .i64 0, .int .i64 4, .int .i64 0] 66))
                have hBg : wr.heap.size ≠ n1 + 1 + 1 := by have := HA.out.kb.size; omega
                have HW4 := Lib.hid (show wr.alloc (.cells #[.int .i64 1, .int .i64 1, .int .i64 6, .int .i64 120, .int .i64 (4 * (ws.length : Int)), .int .i64 0, .int .i64 0, .int .i64 4, .int .i64 0] 66) = wr.alloc (.cells #[.int .i64 1, .int .i64 1, .int .i64 6, .int .i64 120, .int .i64 (4 * (ws.length : Int)), .int .i64 0, .int .i64 0, .int .i64 4, .int .i64 0] 66) from rfl)
                clear HA HD3 HD4
                go_upto_region 38 with fail
                generalize wr.alloc (.cells #[.int .i64 1, .int .i64 1, .int .i64 6, .int .i64 120, .int .i64 (4 * (ws.length : Int)), .int .i64 0, .int .i64 0, .int .i64 4, .int .i64 0] 66) = W4 at *
                generalize wr.heap.size = B15 at *
                clear q0
                obtain ⟨vg3, hvg3⟩ := HA3.vg
                have HVG3 := Lib.hid hvg3
                have HB15 := Lib.hid HB1
                have HK : Hid (KB w.heap.size (n1 + 1 + 1) W4 W4) := Lib.hid (KB.refl _ _ _)
                have q0 := blk_cell (HC3.out _ _ _ HA3).1.2.2.1 0
                have b0 := blk_cell HB15.out 0
                have b1 := blk_cell HB15.out 1
                have b2 := blk_cell HB15.out 2
                have b3 := blk_cell HB15.out 3
                have b4 := blk_cell HB15.out 4
                have b5 := blk_cell HB15.out 5
                have b6 := blk_cell HB15.out 6
                have b7 := blk_cell HB15.out 7
                have b8 := blk_cell HB15.out 8
                have HA := Lib.hid HA3
                clear HA3 HB1 hvg3 HW4
                go_wp2_with (go_at_call 22; refine (putO_at _ _ _ _ HA.out HWr3 hg (by rfl) (by rfl) (by intro x hx; simp only [ints, intOf', List.map_cons, List.map_nil, List.mem_cons, List.not_mem_nil, or_false] at hx; omega) (by omega) (by decide) (by omega)).mono ?_; rintro e' w' ⟨rfl, h1, hkb⟩; clear q0 b0 b1 b2 b3 b4 b5 b6 b7 b8; have HKn := Lib.hid (HK.out.trans hkb); clear HA HK hkb; have HK := Lib.hid HKn.out; clear HKn; have HA := Lib.hid h1; have q0 := blk_cell (HC3.out _ _ _ h1).1.2.2.1 0; have hx := HK.out.blk HB15.out (by decide) hBg; have b0 := blk_cell hx 0; have b1 := blk_cell hx 1; have b2 := blk_cell hx 2; have b3 := blk_cell hx 3; have b4 := blk_cell hx 4; have b5 := blk_cell hx 5; have b6 := blk_cell hx 6; have b7 := blk_cell hx 7; have b8 := blk_cell hx 8; clear h1 hx)
                go_wp2
                go_roundw
                case rel => exact ⟨1, by go_num, by decide, Lib.hid (by
                  have h1 := HA.out.weak (L' := 30000000 + 400 * 1) (by decide)
                  have h2 : P3 ++ secs ws ls 1 = P3 ++ secs ws ls 0 ++ sectB 1 1 6 120 (4 * (ws.length : Int)) 0 0 4 0 := by simp [secs, secsL]
                  rw [h2, ← sectI_eq]
                  simpa only [sectI, List.append_assoc] using h1), Lib.hid ((HK.out.others HVG3.out).same _ _ E3.out rfl), Lib.hid ((HK.out.others HVG3.out).same _ _ E4.out rfl)⟩
                case measure => simp [intOf]
              · have HA3 := HA.out.alloc (.cells #[.int .i64 7, .int .i64 2, .int .i64 0, .int .i64 (sOf ws), .int .i64 (lOf ls), .int .i64 3, .int .i64 1, .int .i64 8, .int .i64 24] 66)
                have HB1 := blk_new wr (.cells #[.int .i64 7, .int .i64 2, .int .i64 0, .int .i64 (sOf ws), .int .i64 (lOf ls), .int .i64 3, .int .i64 1, .int .i64 8, .int .i64 24] 66)
                have E3 := Lib.hid (blk_alloc HD3.out (.cells #[.int .i64 7, .int .i64 2, .int .i64 0, .int .i64 (sOf ws), .int .i64 (lOf ls), .int .i64 3, .int .i64 1, .int .i64 8, .int .i64 24] 66))
                have E4 := Lib.hid (blk_alloc HD4.out (.cells #[.int .i64 7, .int .i64 2, .int .i64 0, .int .i64 (sOf ws), .int .i64 (lOf ls), .int .i64 3, .int .i64 1, .int .i64 8, .int .i64 24] 66))
                have hBg : wr.heap.size ≠ n1 + 1 + 1 := by have := HA.out.kb.size; omega
                have HW4 := Lib.hid (show wr.alloc (.cells #[.int .i64 7, .int .i64 2, .int .i64 0, .int .i64 (sOf ws), .int .i64 (lOf ls), .int .i64 3, .int .i64 1, .int .i64 8, .int .i64 24] 66) = wr.alloc (.cells #[.int .i64 7, .int .i64 2, .int .i64 0, .int .i64 (sOf ws), .int .i64 (lOf ls), .int .i64 3, .int .i64 1, .int .i64 8, .int .i64 24] 66) from rfl)
                clear HA HD3 HD4
                go_upto_region 38 with fail
                generalize wr.alloc (.cells #[.int .i64 7, .int .i64 2, .int .i64 0, .int .i64 (sOf ws), .int .i64 (lOf ls), .int .i64 3, .int .i64 1, .int .i64 8, .int .i64 24] 66) = W4 at *
                generalize wr.heap.size = B15 at *
                clear q0
                obtain ⟨vg3, hvg3⟩ := HA3.vg
                have HVG3 := Lib.hid hvg3
                have HB15 := Lib.hid HB1
                have HK : Hid (KB w.heap.size (n1 + 1 + 1) W4 W4) := Lib.hid (KB.refl _ _ _)
                have q0 := blk_cell (HC3.out _ _ _ HA3).1.2.2.1 0
                have b0 := blk_cell HB15.out 0
                have b1 := blk_cell HB15.out 1
                have b2 := blk_cell HB15.out 2
                have b3 := blk_cell HB15.out 3
                have b4 := blk_cell HB15.out 4
                have b5 := blk_cell HB15.out 5
                have b6 := blk_cell HB15.out 6
                have b7 := blk_cell HB15.out 7
                have b8 := blk_cell HB15.out 8
                have HA := Lib.hid HA3
                clear HA3 HB1 hvg3 HW4
                go_wp2_with (go_at_call 22; refine (putO_at _ _ _ _ HA.out HWr3 hg (by rfl) (by rfl) (by intro x hx; simp only [ints, intOf', List.map_cons, List.map_nil, List.mem_cons, List.not_mem_nil, or_false] at hx; omega) (by omega) (by decide) (by omega)).mono ?_; rintro e' w' ⟨rfl, h1, hkb⟩; clear q0 b0 b1 b2 b3 b4 b5 b6 b7 b8; have HKn := Lib.hid (HK.out.trans hkb); clear HA HK hkb; have HK := Lib.hid HKn.out; clear HKn; have HA := Lib.hid h1; have q0 := blk_cell (HC3.out _ _ _ h1).1.2.2.1 0; have hx := HK.out.blk HB15.out (by decide) hBg; have b0 := blk_cell hx 0; have b1 := blk_cell hx 1; have b2 := blk_cell hx 2; have b3 := blk_cell hx 3; have b4 := blk_cell hx 4; have b5 := blk_cell hx 5; have b6 := blk_cell hx 6; have b7 := blk_cell hx 7; have b8 := blk_cell hx 8; clear h1 hx)
                go_wp2
                go_roundw
                case rel => exact ⟨2, by go_num, by decide, Lib.hid (by
                  have h1 := HA.out.weak (L' := 30000000 + 400 * 2) (by decide)
                  have h2 : P3 ++ secs ws ls 2 = P3 ++ secs ws ls 1 ++ sectB 7 2 0 (sOf ws) (lOf ls) 3 1 8 24 := by simp [secs, secsL]
                  rw [h2, ← sectI_eq]
                  simpa only [sectI, List.append_assoc] using h1), Lib.hid ((HK.out.others HVG3.out).same _ _ E3.out rfl), Lib.hid ((HK.out.others HVG3.out).same _ _ E4.out rfl)⟩
                case measure => simp [intOf]
              · have HA3 := HA.out.alloc (.cells #[.int .i64 15, .int .i64 3, .int .i64 0, .int .i64 (sOf ws + lOf ls), .int .i64 (zOf ls), .int .i64 0, .int .i64 0, .int .i64 1, .int .i64 0] 66)
                have HB1 := blk_new wr (.cells #[.int .i64 15, .int .i64 3, .int .i64 0, .int .i64 (sOf ws + lOf ls), .int .i64 (zOf ls), .int .i64 0, .int .i64 0, .int .i64 1, .int .i64 0] 66)
                have E3 := Lib.hid (blk_alloc HD3.out (.cells #[.int .i64 15, .int .i64 3, .int .i64 0, .int .i64 (sOf ws + lOf ls), .int .i64 (zOf ls), .int .i64 0, .int .i64 0, .int .i64 1, .int .i64 0] 66))
                have E4 := Lib.hid (blk_alloc HD4.out (.cells #[.int .i64 15, .int .i64 3, .int .i64 0, .int .i64 (sOf ws + lOf ls), .int .i64 (zOf ls), .int .i64 0, .int .i64 0, .int .i64 1, .int .i64 0] 66))
                have hBg : wr.heap.size ≠ n1 + 1 + 1 := by have := HA.out.kb.size; omega
                have HW4 := Lib.hid (show wr.alloc (.cells #[.int .i64 15, .int .i64 3, .int .i64 0, .int .i64 (sOf ws + lOf ls), .int .i64 (zOf ls), .int .i64 0, .int .i64 0, .int .i64 1, .int .i64 0] 66) = wr.alloc (.cells #[.int .i64 15, .int .i64 3, .int .i64 0, .int .i64 (sOf ws + lOf ls), .int .i64 (zOf ls), .int .i64 0, .int .i64 0, .int .i64 1, .int .i64 0] 66) from rfl)
                clear HA HD3 HD4
                go_upto_region 38 with fail
                generalize wr.alloc (.cells #[.int .i64 15, .int .i64 3, .int .i64 0, .int .i64 (sOf ws + lOf ls), .int .i64 (zOf ls), .int .i64 0, .int .i64 0, .int .i64 1, .int .i64 0] 66) = W4 at *
                generalize wr.heap.size = B15 at *
                clear q0
                obtain ⟨vg3, hvg3⟩ := HA3.vg
                have HVG3 := Lib.hid hvg3
                have HB15 := Lib.hid HB1
                have HK : Hid (KB w.heap.size (n1 + 1 + 1) W4 W4) := Lib.hid (KB.refl _ _ _)
                have q0 := blk_cell (HC3.out _ _ _ HA3).1.2.2.1 0
                have b0 := blk_cell HB15.out 0
                have b1 := blk_cell HB15.out 1
                have b2 := blk_cell HB15.out 2
                have b3 := blk_cell HB15.out 3
                have b4 := blk_cell HB15.out 4
                have b5 := blk_cell HB15.out 5
                have b6 := blk_cell HB15.out 6
                have b7 := blk_cell HB15.out 7
                have b8 := blk_cell HB15.out 8
                have HA := Lib.hid HA3
                clear HA3 HB1 hvg3 HW4
                go_wp2_with (go_at_call 22; refine (putO_at _ _ _ _ HA.out HWr3 hg (by rfl) (by rfl) (by intro x hx; simp only [ints, intOf', List.map_cons, List.map_nil, List.mem_cons, List.not_mem_nil, or_false] at hx; omega) (by omega) (by decide) (by omega)).mono ?_; rintro e' w' ⟨rfl, h1, hkb⟩; clear q0 b0 b1 b2 b3 b4 b5 b6 b7 b8; have HKn := Lib.hid (HK.out.trans hkb); clear HA HK hkb; have HK := Lib.hid HKn.out; clear HKn; have HA := Lib.hid h1; have q0 := blk_cell (HC3.out _ _ _ h1).1.2.2.1 0; have hx := HK.out.blk HB15.out (by decide) hBg; have b0 := blk_cell hx 0; have b1 := blk_cell hx 1; have b2 := blk_cell hx 2; have b3 := blk_cell hx 3; have b4 := blk_cell hx 4; have b5 := blk_cell hx 5; have b6 := blk_cell hx 6; have b7 := blk_cell hx 7; have b8 := blk_cell hx 8; clear h1 hx)
                go_wp2
                go_roundw
                case rel => exact ⟨3, by go_num, by decide, Lib.hid (by
                  have h1 := HA.out.weak (L' := 30000000 + 400 * 3) (by decide)
                  have h2 : P3 ++ secs ws ls 3 = P3 ++ secs ws ls 2 ++ sectB 15 3 0 (sOf ws + lOf ls) (zOf ls) 0 0 1 0 := by simp [secs, secsL]
                  rw [h2, ← sectI_eq]
                  simpa only [sectI, List.append_assoc] using h1), Lib.hid ((HK.out.others HVG3.out).same _ _ E3.out rfl), Lib.hid ((HK.out.others HVG3.out).same _ _ E4.out rfl)⟩
                case measure => simp [intOf]
              · have HA3 := HA.out.alloc (.cells #[.int .i64 23, .int .i64 3, .int .i64 0, .int .i64 (sOf ws + lOf ls + zOf ls), .int .i64 33, .int .i64 0, .int .i64 0, .int .i64 1, .int .i64 0] 66)
                have HB1 := blk_new wr (.cells #[.int .i64 23, .int .i64 3, .int .i64 0, .int .i64 (sOf ws + lOf ls + zOf ls), .int .i64 33, .int .i64 0, .int .i64 0, .int .i64 1, .int .i64 0] 66)
                have E3 := Lib.hid (blk_alloc HD3.out (.cells #[.int .i64 23, .int .i64 3, .int .i64 0, .int .i64 (sOf ws + lOf ls + zOf ls), .int .i64 33, .int .i64 0, .int .i64 0, .int .i64 1, .int .i64 0] 66))
                have E4 := Lib.hid (blk_alloc HD4.out (.cells #[.int .i64 23, .int .i64 3, .int .i64 0, .int .i64 (sOf ws + lOf ls + zOf ls), .int .i64 33, .int .i64 0, .int .i64 0, .int .i64 1, .int .i64 0] 66))
                have hBg : wr.heap.size ≠ n1 + 1 + 1 := by have := HA.out.kb.size; omega
                have HW4 := Lib.hid (show wr.alloc (.cells #[.int .i64 23, .int .i64 3, .int .i64 0, .int .i64 (sOf ws + lOf ls + zOf ls), .int .i64 33, .int .i64 0, .int .i64 0, .int .i64 1, .int .i64 0] 66) = wr.alloc (.cells #[.int .i64 23, .int .i64 3, .int .i64 0, .int .i64 (sOf ws + lOf ls + zOf ls), .int .i64 33, .int .i64 0, .int .i64 0, .int .i64 1, .int .i64 0] 66) from rfl)
                clear HA HD3 HD4
                go_upto_region 38 with fail
                generalize wr.alloc (.cells #[.int .i64 23, .int .i64 3, .int .i64 0, .int .i64 (sOf ws + lOf ls + zOf ls), .int .i64 33, .int .i64 0, .int .i64 0, .int .i64 1, .int .i64 0] 66) = W4 at *
                generalize wr.heap.size = B15 at *
                clear q0
                obtain ⟨vg3, hvg3⟩ := HA3.vg
                have HVG3 := Lib.hid hvg3
                have HB15 := Lib.hid HB1
                have HK : Hid (KB w.heap.size (n1 + 1 + 1) W4 W4) := Lib.hid (KB.refl _ _ _)
                have q0 := blk_cell (HC3.out _ _ _ HA3).1.2.2.1 0
                have b0 := blk_cell HB15.out 0
                have b1 := blk_cell HB15.out 1
                have b2 := blk_cell HB15.out 2
                have b3 := blk_cell HB15.out 3
                have b4 := blk_cell HB15.out 4
                have b5 := blk_cell HB15.out 5
                have b6 := blk_cell HB15.out 6
                have b7 := blk_cell HB15.out 7
                have b8 := blk_cell HB15.out 8
                have HA := Lib.hid HA3
                clear HA3 HB1 hvg3 HW4
                go_wp2_with (go_at_call 22; refine (putO_at _ _ _ _ HA.out HWr3 hg (by rfl) (by rfl) (by intro x hx; simp only [ints, intOf', List.map_cons, List.map_nil, List.mem_cons, List.not_mem_nil, or_false] at hx; omega) (by omega) (by decide) (by omega)).mono ?_; rintro e' w' ⟨rfl, h1, hkb⟩; clear q0 b0 b1 b2 b3 b4 b5 b6 b7 b8; have HKn := Lib.hid (HK.out.trans hkb); clear HA HK hkb; have HK := Lib.hid HKn.out; clear HKn; have HA := Lib.hid h1; have q0 := blk_cell (HC3.out _ _ _ h1).1.2.2.1 0; have hx := HK.out.blk HB15.out (by decide) hBg; have b0 := blk_cell hx 0; have b1 := blk_cell hx 1; have b2 := blk_cell hx 2; have b3 := blk_cell hx 3; have b4 := blk_cell hx 4; have b5 := blk_cell hx 5; have b6 := blk_cell hx 6; have b7 := blk_cell hx 7; have b8 := blk_cell hx 8; clear h1 hx)
                go_wp2
                go_roundw
                case rel => exact ⟨4, by go_num, by decide, Lib.hid (by
                  have h1 := HA.out.weak (L' := 30000000 + 400 * 4) (by decide)
                  have h2 : P3 ++ secs ws ls 4 = P3 ++ secs ws ls 3 ++ sectB 23 3 0 (sOf ws + lOf ls + zOf ls) 33 0 0 1 0 := by simp [secs, secsL]
                  rw [h2, ← sectI_eq]
                  simpa only [sectI, List.append_assoc] using h1), Lib.hid ((HK.out.others HVG3.out).same _ _ E3.out rfl), Lib.hid ((HK.out.others HVG3.out).same _ _ E4.out rfl)⟩
                case measure => simp [intOf]
            · obtain rfl : i = 4 := by omega
              have hBel := Lib.hid (HC3.out _ _ _ HA.out).1.2.2.2
              have HE := Lib.hid (show P3 ++ secs ws ls 4 = fileB e s ws ls by
                rw [HP3.out, pad2 (BS ++ bytesOf sects) (sOf ws + lOf ls + zOf ls + 33).toNat (by rw [HBS.out, HP2.out, HP1.out, HHd.out, hP1.out]; exact body_len e s ws ls) (hOf ws ls) (by rw [Int.toNat_of_nonneg (by omega)]; rfl), ← file_eq, HBS.out, HP2.out, HP1.out, HHd.out, hP1.out])
              obtain ⟨FB, hFB⟩ : ∃ FB, fileB e s ws ls = FB := ⟨_, rfl⟩
              have HB := Lib.hid HA.out.buf
              rw [HE.out, hFB] at HB
              have HFB := Lib.hid hFB
              clear hFB HE HA q0
              obtain ⟨v, b1, b2⟩ := HB.out.out
              obtain ⟨Av2, cv2, rfl⟩ := slice_of b2
              have hfile := Lib.hid b2
              have cg := blk_cell b1 0
              clear b1 b2 HB
              go_wp2
              refine ⟨by simp, .inl ⟨_, _, rfl, run_takeDeferred HD4.out, ?_⟩⟩
              have hne23 : w2.heap.size ≠ w3.heap.size := by omega
              have HD5 : (wr.putObj w3.heap.size (.deferred none)).heap[w2.heap.size]? = some (.deferred (some [])) := (World.putObj_heap_other hne23).trans HD3.out
              refine ⟨by simp, .inl ⟨_, _, rfl, run_takeDeferred HD5, ?_⟩⟩
              refine ⟨.slice Av2 FB.length cv2, ?_, ⟨_, rfl, ?_, ?_⟩⟩
              · simp [results, Try.results16]
              · rw [HFB.out]
                exact own_def (own_def hfile.out HD4.out _) HD5 _
              · exact below_putObj (below_putObj hBel.out (by omega) _) (by omega) _
end Go.Proofs.Ytelheeekbihfcab.Ob
