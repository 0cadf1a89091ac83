/- Where the program's file stands while it is written. -/
import Derived.Test.YtelheeekbihfcabNamed
import Derived.Test.YtelheeekbihfcabGood
import Derived.Laws.BitsAllLaws
set_option linter.unusedVariables false
set_option linter.unusedSimpArgs false
namespace Go.Proofs.Ytelheeekbihfcab.Ob
open Go.RowKit Go.Proofs Go.Proofs.Ytelheeekbihfcab.PObjectReads Go.Proofs.YtelheeekbihfcabW.PrintWords Go.Proofs.YtelheeekbihfcabW.PrintMore

structure AtO (base g : Nat) (W0 : World) (L : Nat) (W : World) (bs : List Int) : Prop where
  buf : Buf base g 29 W bs
  kb : KB base g W0 W
  len : bs.length ≤ L
theorem AtO.weak {base g L L' : Nat} {W0 W : World} {bs : List Int} (h : AtO base g W0 L W bs) (hl : L ≤ L') : AtO base g W0 L' W bs := ⟨h.buf, h.kb, Nat.le_trans h.len hl⟩
theorem AtO.alloc {base g L : Nat} {W0 W : World} {bs : List Int} (h : AtO base g W0 L W bs) (o : Obj) : AtO base g W0 L (W.alloc o) bs := ⟨h.buf.alloc o, h.kb.alloc o, h.len⟩
theorem AtO.below {base g L : Nat} {W0 W W' : World} {bs : List Int} (h : AtO base g W0 L W bs) (hb : Below W.heap.size W W') : AtO base g W0 L W' bs := ⟨h.buf.below hb, h.kb.trans (KB.of_below hb), h.len⟩
theorem AtO.from {base g L : Nat} {W0 W1 W : World} {bs : List Int} (h : AtO base g W1 L W bs) (hb : KB base g W0 W1) : AtO base g W0 L W bs := ⟨h.buf, hb.trans h.kb, h.len⟩
theorem Buf.putObj {base g t n : Nat} {W : World} {bs : List Int} {L : Loop} (h : Buf base g t W bs) (hn : W.heap[n]? = some (.loop L)) (o : Obj) : Buf base g t (W.putObj n o) bs := by
  obtain ⟨v, h1, h2⟩ := h.out
  have hg : g ≠ n := by rintro rfl; rw [h1] at hn; injection hn with hn; cases hn
  refine ⟨v, (World.putObj_heap_other hg).trans h1, own_move h2 (fun k hk => World.putObj_heap_other (fun e => ?_))⟩
  subst e
  obtain ⟨cells, hc⟩ := own_typed h2 k hk
  rw [hc] at hn; injection hn with hn; cases hn
theorem KB.putObj {base g n : Nat} {W0 W : World} (h : KB base g W0 W) (hn : W0.heap.size ≤ n) (o : Obj) : KB base g W0 (W.putObj n o) :=
  ⟨h.os, h.tape, h.output, by rw [World.putObj_size]; exact h.size, fun k hk hs => (World.putObj_heap_other (by omega)).trans (h.block k hk hs)⟩
theorem AtO.putObj {base g L n : Nat} {W0 W : World} {bs : List Int} {l : Loop} (h : AtO base g W0 L W bs) (hn : W.heap[n]? = some (.loop l)) (hs : W0.heap.size ≤ n) (o : Obj) : AtO base g W0 L (W.putObj n o) bs := ⟨h.buf.putObj hn o, h.kb.putObj hs o, h.len⟩
theorem KB.others {base g t : Nat} {W W' : World} {v : Value} (h : KB base g W W') (hg : W.heap[g]? = some (.cells #[v] t (0, 0))) : KeepsOthers W W' :=
  ⟨h.size, fun k o hk ho => (h.block k (blk_lt hk) (fun ⟨_, e⟩ => by
    rcases e with rfl | ⟨cells, fr, e⟩
    · rw [hg] at hk; injection hk with hk; subst hk; cases ho
    · rw [e] at hk; injection hk with hk; subst hk; cases ho)).trans hk⟩
theorem KB.keepT {base g t T : Nat} {W W' : World} {v : Value} (h : KB base g W W') (hg : W.heap[g]? = some (.cells #[v] t (0, 0))) (hT : T ≠ 5) (hTt : T ≠ t) : Rng.KeepT T W W' := fun k cs hk => h.blk hk hT (by
  rintro rfl
  rw [hg] at hk
  injection hk with hk
  injection hk with _ hk
  exact hTt hk.symm)

theorem putO_at {base g L : Nat} {W0 W : World} {bs : List Int} (ni : Int) (cs : Array Value) (m c : Nat) (h : AtO base g W0 L W bs) (hbase : base ≤ W0.heap.size) (hg : base ≤ g) (hcs : cs.toList = nums .u64 (ints cs)) (hm : (ints cs).length = m) (hx : ∀ x, x ∈ ints cs → 0 ≤ x ∧ x < 18446744073709551616) (hn : 0 ≤ ni ∧ ni ≤ 8) (hm2 : m ≤ 10) (hl : L ≤ 1000000000) :
    Calls Try.prog 22 #[.int .i64 ni, .slice (some ⟨W.heap.size, 0, none⟩) m c, .pointer (some ⟨g, 0, none⟩)] (W.alloc (.cells cs 22)) fun e W' => e = .returned (.tuple #[]) ∧ AtO base g W0 (L + 80) W' (bs ++ lesB ni.toNat (ints cs)) ∧ KB base g W W' := by
  obtain ⟨n, rfl⟩ : ∃ n : Nat, ni = n := ⟨ni.toNat, by omega⟩
  rw [Int.toNat_natCast]
  have h1 := h.kb.size
  have h2 := h.len
  have h3 := h.alloc (.cells cs 22)
  have h4 : n * (ints cs).length ≤ 8 * 10 := Nat.mul_le_mul (by omega) (by omega)
  subst hm
  refine (putO_call base g n W.heap.size cs c (W.alloc (.cells cs 22)) bs h3.buf (by rw [World.size_alloc]; omega) hg (blk_new _ _) hcs hx (by omega) (by omega) (by omega)).mono ?_
  rintro e W' ⟨rfl, h5, h6⟩
  exact ⟨rfl, ⟨h5, h3.kb.trans h6, by simp only [List.length_append, lesB_len]; omega⟩, (KB.of_below (below_alloc (Below.refl _ _) _)).trans h6⟩
theorem fill_at {base g L : Nat} {W0 W : World} {bs : List Int} (ti : Int) (h : AtO base g W0 L W bs) (hbase : base ≤ W0.heap.size) (hg : base ≤ g) (ht : 0 ≤ ti ∧ ti ≤ 100000000) (hl : L ≤ 1000000000) :
    Calls Try.prog 23 #[.int .i64 ti, .pointer (some ⟨g, 0, none⟩)] W fun e W' => e = .returned (.tuple #[]) ∧ AtO base g W0 (L + ti.toNat) W' (upTo ti.toNat bs) ∧ KB base g W W' := by
  obtain ⟨n, rfl⟩ : ∃ n : Nat, ti = n := ⟨ti.toNat, by omega⟩
  rw [Int.toNat_natCast]
  have h1 := h.kb.size
  have h2 := h.len
  refine (fill_call base g n W bs h.buf (by omega) hg (by omega) (by omega)).mono ?_
  rintro e W' ⟨rfl, h5, h6⟩
  exact ⟨rfl, ⟨h5, h.kb.trans h6, by simp [upTo]; omega⟩, h6⟩

/-- Behind an append and its store. -/
theorem AtO.store {base g L n k : Nat} {W0 W W1 : World} {v v1 : Value} {xs : List Value} {bs bs' : List Int} (h : AtO base g W0 L W bs) (hg : base ≤ g) (hg0 : W.heap[g]? = some (.cells #[v] 29 (0, 0))) (hv : W.ownsRow base 5 1 v n xs) (hgr : W.grownBy W1 v.ownBlock)
    (ho : W1.ownsRow base 5 1 v1 bs'.length (nums .u8 bs')) (hl : bs'.length ≤ k) : AtO base g W0 k (W1.setCell ⟨g, 0, none⟩ v1) bs' :=
  ⟨Buf.store (by decide) hg0 hv hgr ho, h.kb.trans (KB.store hg hv hgr), hl⟩

theorem and8 (n : Nat) (h : n < 1000000000) : n &&& 18446744073709551608 = n / 8 * 8 := by
  have hb : ∀ i, i < 64 → Nat.testBit 18446744073709551608 i = decide (3 ≤ i) := by decide
  have e : n / 8 * 8 = (n >>> 3) <<< 3 := by rw [Nat.shiftLeft_eq, Nat.shiftRight_eq_div_pow]
  apply Nat.eq_of_testBit_eq
  intro i
  rw [Nat.testBit_and, e, Nat.testBit_shiftLeft, Nat.testBit_shiftRight]
  by_cases hi : i < 64
  · rw [hb i hi]
    by_cases h3 : 3 ≤ i
    · rw [show 3 + (i - 3) = i by omega]
      simp [h3]
    · simp [h3]
  · have h1 : n.testBit i = false := Nat.testBit_lt_two_pow (Nat.lt_of_lt_of_le h (Nat.le_trans (by decide : 1000000000 ≤ 2 ^ 64) (Nat.pow_le_pow_right (by decide) (by omega))))
    rw [show 3 + (i - 3) = i by omega, h1]
    simp
theorem up_bits (n : Nat) (h : n < 1000000000) : Go.bits .andNot .i64 (n : Int) 7 = ((n / 8 * 8 : Nat) : Int) := by
  have h1 : (BitVec.ofInt 64 (n : Int) &&& ~~~ (BitVec.ofInt 64 7)).toNat = n / 8 * 8 := by
    have e : BitVec.ofInt 64 (n : Int) = BitVec.ofNat 64 n := by simp
    rw [e, BitVec.toNat_and]
    have e2 : (~~~ (BitVec.ofInt 64 7)).toNat = 18446744073709551608 := by decide
    rw [e2, BitVec.toNat_ofNat, Nat.mod_eq_of_lt (by omega), and8 n h]
  show IntKind.i64.wrap ((BitVec.ofInt 64 (n : Int) &&& ~~~ (BitVec.ofInt 64 7)).toNat : Int) = _
  rw [h1, IntKind.wrap_i64]
  omega
theorem size55 : (Try.prog.info? 55).map (·.size) = some 6 := by kernel_rfl
theorem size55' (v0 v1 v2 v3 v4 v5 : Value) : (Try.prog.info? 55).map (·.size) = some (#[v0, v1, v2, v3, v4, v5] : Array Value).size := size55
theorem load55 (w : World) (g : Nat) (v0 v1 v2 v3 v4 v5 : Value) (h : w.heap[g]? = some (.cells #[v0, v1, v2, v3, v4, v5] 55 (0, 0))) : (loadVar 55 ⟨g, 0, none⟩).run Try.prog w = .ok (.agg #[v0, v1, v2, v3, v4, v5]) w := by
  refine run_loadVar_row (P := Try.prog) w g 55 55 _ (0, 0) _ h Try.underlying55 ?_ (size55' _ _ _ _ _ _)
  rfl
theorem upO (n : Int) (h0 : 0 ≤ n) (h1 : n ≤ 100000000) : object_up.f n = some (up8 n) := by
  unfold object_up.f up8
  rw [show wrap64 (n + 7) = n + 7 by unfold wrap64; omega]
  obtain ⟨m, hm⟩ : ∃ m : Nat, n + 7 = m := ⟨(n + 7).toNat, by omega⟩
  rw [hm, up_bits m (by omega)]
  congr 1

set_option maxRecDepth 100000 in
set_option maxHeartbeats 4000000 in
theorem placed_call (e s : Int) (A2 : Option Addr) (c2 : Nat) (ws : List Int) (A3 : Option Addr) (c3 : Nat) (ls : List S47) (w : World) (hr3 : Kd.C k47 w A3 ls.length ls) (hw : ws.length ≤ 20000) (hn : ls.length ≤ 5000) (hs : ∀ x, x ∈ ls → x.f0.size ≤ 1000) :
    Calls Try.prog 19 #[.agg #[.int .u64 e, .int .u64 s, .slice A2 ws.length c2, .slice A3 ls.length c3]] w fun e' w' => e' = .returned (.agg #[.int .i64 120, .int .i64 (sOf ws), .int .i64 (sOf ws + lOf ls), .int .i64 (sOf ws + lOf ls + zOf ls), .int .i64 (hOf ws ls), .int .i64 (hOf ws ls + 320)]) ∧ Below w.heap.size w w' := by
  have hnm := nm_le ls hs
  have HS := Lib.hid hs
  have HR3 := Lib.hid hr3
  have HU := Lib.hid fun n W => fun (h0 : 0 ≤ n) => fun (h1 : n ≤ 100000000) => object_up.calls n _ W (upO n h0 h1)
  clear hs hr3
  have s1 : 0 ≤ sOf ws ∧ sOf ws ≤ 100000 := by unfold sOf up8; omega
  have u1 : up8 (120 + 4 * (ws.length : Int)) = sOf ws := rfl
  have B0 := below_alloc (below_alloc (Below.refl _ w) (.cells #[.int .u64 e, .int .u64 s, .slice A2 ws.length c2, .slice A3 ls.length c3] 26)) (.cells #[.int .i64 0, .int .i64 0, .int .i64 0, .int .i64 0, .int .i64 0, .int .i64 0] 55)
  have X0 := blk_alloc (blk_new w (.cells #[.int .u64 e, .int .u64 s, .slice A2 ws.length c2, .slice A3 ls.length c3] 26)) (.cells #[.int .i64 0, .int .i64 0, .int .i64 0, .int .i64 0, .int .i64 0, .int .i64 0] 55)
  have X1 := blk_new (w.alloc (.cells #[.int .u64 e, .int .u64 s, .slice A2 ws.length c2, .slice A3 ls.length c3] 26)) (.cells #[.int .i64 0, .int .i64 0, .int .i64 0, .int .i64 0, .int .i64 0, .int .i64 0] 55)
  rw [World.size_alloc] at X1
  go_enter Try.func19, Try.ntmps19
  go_upto_region 1 with fail
  generalize ((w.alloc (.cells #[.int .u64 e, .int .u64 s, .slice A2 ws.length c2, .slice A3 ls.length c3] 26)).alloc (.cells #[.int .i64 0, .int .i64 0, .int .i64 0, .int .i64 0, .int .i64 0, .int .i64 0] 55)) = W0 at *
  have hne : w.heap.size ≠ w.heap.size + 1 := by omega
  have P1 := blk_set X1 0 (.int .i64 120)
  have P0 := blk_far (p := ⟨w.heap.size + 1, 0, none⟩) X0 hne (.int .i64 120)
  have PB := (B0.setCell (p := ⟨w.heap.size + 1, 0, none⟩) (by simp) (.int .i64 120))
  have hsz := X1
  have c1 := blk_cell X1 0
  have f1 := blk_frozen X1 0
  go_upto_region 2 with fail
  generalize W0.setCell ⟨w.heap.size + 1, 0, none⟩ (.int .i64 120) = W1 at *
  have p0 := blk_cell P1 0
  have p1 := blk_cell P0 2
  have p2 := blk_cell P0 3
  have PB2 := Lib.hid PB
  have PP0 := Lib.hid P0
  have PP1 := Lib.hid P1
  clear c1 f1 X0 X1 B0 P0 P1 hsz PB
  go_upto_region 3 with (go_at_call 33; refine (HU.out _ _ (by omega) (by omega)).mono ?_; rintro e' w' ⟨rfl, hd⟩; have X1 := Lib.hid (blk_below PP1.out hd.below); have X0 := Lib.hid (blk_below PP0.out hd.below); have XB := Lib.hid (below_step PB2.out hd.below); have c1 := blk_cell X1.out 1; have f1 := blk_frozen X1.out 1; clear hd p0 p1 p2 PP0 PP1 PB2)
  have P1 := blk_set X1.out 1 (.int .i64 (sOf ws))
  have P0 := blk_far (p := ⟨w.heap.size + 1, 1, none⟩) X0.out hne (.int .i64 (sOf ws))
  have PB := (XB.out.setCell (p := ⟨w.heap.size + 1, 1, none⟩) (by simp) (.int .i64 (sOf ws)))
  generalize World.setCell _ ⟨w.heap.size + 1, 1, none⟩ (.int .i64 (sOf ws)) = W2 at *
  clear c1 f1 X0 X1 XB
  have p0 := blk_cell P1 1
  have p2 := blk_cell P0 3
  have f2 := blk_frozen P1 2
  have p5 := blk_cell P1 2
  have H1 := Lib.hid (blk_set P1 2 (.int .i64 (sOf ws + lOf ls)))
  have H0 := Lib.hid (blk_far (p := ⟨w.heap.size + 1, 2, none⟩) P0 hne (.int .i64 (sOf ws + lOf ls)))
  have HB := Lib.hid (PB.setCell (p := ⟨w.heap.size + 1, 2, none⟩) (by simp) (.int .i64 (sOf ws + lOf ls)))
  clear P1 P0 PB
  have l1 : sOf ws + 24 * (1 + (ls.length : Int)) = sOf ws + lOf ls := by unfold lOf; omega
  go_upto_region 4 with fail
  generalize World.setCell _ ⟨w.heap.size + 1, 2, none⟩ (.int .i64 (sOf ws + lOf ls)) = W3 at *
  clear p0 p2 f2 p5
  have c2' := blk_cell H1.out 2
  have f3 := blk_frozen H1.out 3
  have c3' := blk_cell H1.out 3
  have c9 := blk_cell H0.out 3
  have J1 := Lib.hid (blk_set H1.out 3 (.int .i64 (sOf ws + lOf ls + 1)))
  have J0 := Lib.hid (blk_far (p := ⟨w.heap.size + 1, 3, none⟩) H0.out hne (.int .i64 (sOf ws + lOf ls + 1)))
  have JB := Lib.hid (HB.out.setCell (p := ⟨w.heap.size + 1, 3, none⟩) (by simp) (.int .i64 (sOf ws + lOf ls + 1)))
  clear H1 H0 HB
  have l2 : 0 ≤ lOf ls ∧ lOf ls ≤ 200000 := by unfold lOf; omega
  go_upto_region 5 with fail
  generalize World.setCell _ ⟨w.heap.size + 1, 3, none⟩ (.int .i64 (sOf ws + lOf ls + 1)) = W4 at *
  clear c2' f3 c3' c9
  have c9 := blk_cell J0.out 3
  go_wp2
  go_loopw [31] (fun v31 wr => ∃ i : Nat, v31 = .int .i64 i ∧ i ≤ ls.length ∧ Hid (wr.heap[w.heap.size + 1]? = some (.cells #[.int .i64 120, .int .i64 (sOf ws), .int .i64 (sOf ws + lOf ls), .int .i64 (sOf ws + lOf ls + (1 + (nm (ls.take i) : Int))), .int .i64 0, .int .i64 0] 55 (0, 0))) ∧ Hid (Below w.heap.size w wr)) (fun v31 _ => ls.length - (intOf v31).toNat)
  case atStart => exact ⟨0, by go_num, Nat.zero_le _, Lib.hid (by simpa [nm] using J1.out), JB⟩
  case round =>
    obtain ⟨i, rfl, hi, H1, HB⟩ := hrel
    by_cases hlt : i < ls.length
    · obtain ⟨ad, rfl, hx0, hx1⟩ := at_T47 (Kd.C_below HR3.out HB.out) (i : Int) (by omega) (by omega)
      rw [rd47 ls i hlt, Int.toNat_natCast] at hx0 hx1
      have hxs := HS.out ls[i] (List.getElem_mem hlt)
      have hnt := Lib.hid (nm_take ls i hlt)
      have hnl := nm_le (ls.take i) (fun x hx => HS.out x (List.mem_of_mem_take hx))
      rw [List.length_take] at hnl
      generalize ls[i] = X at *
      generalize hN : nm (ls.take i) = N at *
      have HN := Lib.hid hN
      obtain ⟨M, hM⟩ : ∃ M : Int, M = sOf ws + lOf ls + (1 + (N : Int)) := ⟨_, rfl⟩
      have hM1 : 0 ≤ M ∧ M ≤ 10000000 := by omega
      rw [← hM] at H1
      have HM := Lib.hid hM
      clear hN hM
      have q0 : (0 : Int) ≤ i := by omega
      have q1 : (i : Int) < ls.length := by omega
      have d3 : ∀ o, (wr.alloc o).cell? ⟨w.heap.size + 1, 3, none⟩ = some (.int .i64 M) := fun o => blk_cell (blk_alloc H1.out o) 3
      have e3 : ∀ o, (wr.alloc o).frozen? ⟨w.heap.size + 1, 3, none⟩ = false := fun o => blk_frozen (blk_alloc H1.out o) 3
      have J1 := Lib.hid (blk_set (blk_alloc H1.out (.cells #[.string X.f0, .int .u64 X.f1] 47)) 3 (.int .i64 (M + ((X.f0.size : Int) + 1))))
      have JB := Lib.hid ((below_alloc HB.out (.cells #[.string X.f0, .int .u64 X.f1] 47)).setCell (p := ⟨w.heap.size + 1, 3, none⟩) (by simp) (.int .i64 (M + ((X.f0.size : Int) + 1))))
      go_wp2
      go_roundw
      case rel => exact ⟨i + 1, by go_num, hlt, Lib.hid (by
        have := J1.out
        rw [HM.out] at this ⊢
        rw [hnt.out, show sOf ws + lOf ls + (1 + ((N + (X.f0.size + 1) : Nat) : Int)) = sOf ws + lOf ls + (1 + (N : Int)) + ((X.f0.size : Int) + 1) by omega]
        exact this), JB⟩
      case measure => simp [intOf]; omega
    · obtain rfl : i = ls.length := by omega
      rw [List.take_length] at H1
      obtain ⟨M, hM⟩ : ∃ M : Int, M = sOf ws + lOf ls + (1 + (nm ls : Int)) := ⟨_, rfl⟩
      have hM1 : 0 ≤ M ∧ M ≤ 10000000 := by omega
      have hh : up8 (M + 33) = hOf ws ls := by rw [hM]; rfl
      have hz : M = sOf ws + lOf ls + zOf ls := hM
      rw [← hM] at H1
      have HZ := Lib.hid hz
      clear hM hz
      have s4 : 0 ≤ hOf ws ls ∧ hOf ws ls ≤ 10000100 := by rw [← hh]; unfold up8; omega
      have d3 := blk_cell H1.out 3
      go_upto_region 11 with (go_at_call 33; refine (HU.out _ _ (by omega) (by omega)).mono ?_; rintro e' w' ⟨rfl, hd⟩; have X1 := Lib.hid (blk_below H1.out hd.below); have XB := Lib.hid (below_step HB.out hd.below); have c1 := blk_cell X1.out 4; have f1 := blk_frozen X1.out 4; clear hd d3 H1 HB)
      have P1 := blk_set X1.out 4 (.int .i64 (hOf ws ls))
      have PB := (XB.out.setCell (p := ⟨w.heap.size + 1, 4, none⟩) (by simp) (.int .i64 (hOf ws ls)))
      generalize World.setCell _ ⟨w.heap.size + 1, 4, none⟩ (.int .i64 (hOf ws ls)) = W5 at *
      clear c1 f1 X1 XB
      have c4 := blk_cell P1 4
      have c5 := blk_cell P1 5
      have f5 := blk_frozen P1 5
      have H1 := Lib.hid (blk_set P1 5 (.int .i64 (hOf ws ls + 320)))
      have HB := Lib.hid (PB.setCell (p := ⟨w.heap.size + 1, 5, none⟩) (by simp) (.int .i64 (hOf ws ls + 320)))
      clear P1 PB
      go_upto_region 12 with fail
      generalize World.setCell _ ⟨w.heap.size + 1, 5, none⟩ (.int .i64 (hOf ws ls + 320)) = W6 at *
      clear c4 c5 f5
      have k0 := blk_cell H1.out 0
      have k1 := blk_cell H1.out 1
      have k2 := blk_cell H1.out 2
      have k3 := blk_cell H1.out 3
      have k4 := blk_cell H1.out 4
      have k5 := blk_cell H1.out 5
      have z0 := blk_frozen H1.out 0
      have z1 := blk_frozen H1.out 1
      have z2 := blk_frozen H1.out 2
      have z3 := blk_frozen H1.out 3
      have z4 := blk_frozen H1.out 4
      have z5 := blk_frozen H1.out 5
      go_wp2
      have G := blk_set (blk_set (blk_set (blk_set (blk_set (blk_set H1.out 0 (.int .i64 120)) 1 (.int .i64 (sOf ws))) 2 (.int .i64 (sOf ws + lOf ls))) 3 (.int .i64 M)) 4 (.int .i64 (hOf ws ls))) 5 (.int .i64 (hOf ws ls + 320))
      simp only [List.setIfInBounds_toArray, List.set_cons_zero, List.set_cons_succ] at G
      have GB := (((((HB.out.setCell (p := ⟨w.heap.size + 1, 0, none⟩) (by simp) (.int .i64 120)).setCell (p := ⟨w.heap.size + 1, 1, none⟩) (by simp) (.int .i64 (sOf ws))).setCell (p := ⟨w.heap.size + 1, 2, none⟩) (by simp) (.int .i64 (sOf ws + lOf ls))).setCell (p := ⟨w.heap.size + 1, 3, none⟩) (by simp) (.int .i64 M)).setCell (p := ⟨w.heap.size + 1, 4, none⟩) (by simp) (.int .i64 (hOf ws ls))).setCell (p := ⟨w.heap.size + 1, 5, none⟩) (by simp) (.int .i64 (hOf ws ls + 320))
      generalize (((((World.setCell W6 ⟨w.heap.size + 1, 0, none⟩ (.int .i64 120)).setCell ⟨w.heap.size + 1, 1, none⟩ (.int .i64 (sOf ws))).setCell ⟨w.heap.size + 1, 2, none⟩ (.int .i64 (sOf ws + lOf ls))).setCell ⟨w.heap.size + 1, 3, none⟩ (.int .i64 M)).setCell ⟨w.heap.size + 1, 4, none⟩ (.int .i64 (hOf ws ls))).setCell ⟨w.heap.size + 1, 5, none⟩ (.int .i64 (hOf ws ls + 320)) = W7 at *
      refine bodyPost_ret (v := .agg #[.int .i64 120, .int .i64 (sOf ws), .int .i64 (sOf ws + lOf ls), .int .i64 M, .int .i64 (hOf ws ls), .int .i64 (hOf ws ls + 320)]) ?_ rfl ?_
      · have hr := load55 W7 (w.heap.size + 1) _ _ _ _ _ _ G
        simp [results, Try.results19, asAddr, hr]
      · exact ⟨by rw [HZ.out], GB⟩
end Go.Proofs.Ytelheeekbihfcab.Ob
