/- The law's light, its count: that it comes back. -/
import Derived.Test.YtelheeekbihfcaaPlanA
set_option linter.unusedVariables false
set_option linter.unusedSimpArgs false
namespace Go.Proofs.Ytelheeekbihfcaa.Pt
open Go.RowKit Go.Proofs Go.Proofs.Ytelheeekbihfcaa.PPatternFirst Go.Proofs.YtelheeekbihfcaaW.PrintWords Go.Proofs.YtelheeekbihfcaaW.PrintMore Go.Proofs.YtelheeekbihfcaaW.PrintLast

/-- The count's box. -/
def NB (g : Nat) (w : World) : Prop := ∃ n : Int, w.heap[g]? = some (.cells #[.int .i64 n] 94 (0, 0))
/-- Nothing is other but the count's box. -/
structure KG (g : Nat) (W W' : World) : Prop where
  os : W'.os = W.os
  tape : W'.tape = W.tape
  output : W'.output = W.output
  size : W.heap.size ≤ W'.heap.size
  block : ∀ k, k < W.heap.size → k ≠ g → W'.heap[k]? = W.heap[k]?
  n : NB g W'
/-- The count's box, behind a world that stays. -/
structure CG (w0 : World) (g : Nat) (w : World) : Prop where
  b : Below w0.heap.size w0 w
  lt : w0.heap.size ≤ g
  n : NB g w
theorem NB.lt {g : Nat} {w : World} (h : NB g w) : g < w.heap.size := by obtain ⟨n, hn⟩ := h; exact blk_lt hn
theorem NB.below {g : Nat} {w w1 : World} (h : NB g w) (hb : Below w.heap.size w w1) : NB g w1 := by
  obtain ⟨n, hn⟩ := h
  exact ⟨n, blk_below hn hb⟩
theorem NB.set {g : Nat} {w : World} (h : NB g w) (v : Int) : NB g (w.setCell ⟨g, 0, none⟩ (.int .i64 v)) := by
  obtain ⟨n, hn⟩ := h
  refine ⟨v, ?_⟩
  have h1 := blk_set hn 0 (.int .i64 v)
  simpa only [List.setIfInBounds_toArray, List.set_cons_zero] using h1
theorem KG.refl {g : Nat} {w : World} (h : NB g w) : KG g w w := ⟨rfl, rfl, rfl, Nat.le_refl _, fun _ _ _ => rfl, h⟩
theorem KG.trans {g : Nat} {A B C : World} (h : KG g A B) (k : KG g B C) : KG g A C :=
  ⟨k.os.trans h.os, k.tape.trans h.tape, k.output.trans h.output, Nat.le_trans h.size k.size, fun i hi hg => (k.block i (Nat.lt_of_lt_of_le hi h.size) hg).trans (h.block i hi hg), k.n⟩
theorem KG.of_below {g : Nat} {W W' : World} (hn : NB g W) (h : Below W.heap.size W W') : KG g W W' := ⟨h.os, h.tape, h.output, h.size, fun k hk _ => h.block k hk, hn.below h⟩
theorem KG.set {g : Nat} {w : World} (h : NB g w) (v : Int) : KG g w (w.setCell ⟨g, 0, none⟩ (.int .i64 v)) :=
  ⟨rfl, rfl, rfl, by simp, fun k _ hk => Below.heap_setCell w ⟨g, 0, none⟩ _ k hk, h.set v⟩
theorem KG.blk {g : Nat} {W W' : World} (h : KG g W W') {b : Nat} {o : Obj} (hb : W.heap[b]? = some o) (hg : b ≠ g) : W'.heap[b]? = some o := (h.block b (blk_lt hb) hg).trans hb
theorem CG.keep {w0 : World} {g : Nat} {w w1 : World} (h : CG w0 g w) (k : KG g w w1) : CG w0 g w1 :=
  ⟨⟨k.os.trans h.b.os, k.tape.trans h.b.tape, k.output.trans h.b.output, Nat.le_trans h.b.size k.size, fun i hi => (k.block i (Nat.lt_of_lt_of_le hi h.b.size) (by have := h.lt; omega)).trans (h.b.block i hi)⟩, h.lt, k.n⟩

/-- What a call of the count comes to: a number, and the box. -/
def Told (g : Nat) (w : World) (e : Ending) (w' : World) : Prop := ∃ v : Int, e = .returned (.int .i64 v) ∧ KG g w w'

set_option maxRecDepth 100000 in
theorem add_call (g : Nat) (w : World) (h : NB g w) : Calls Try.prog 41 #[.pointer (some ⟨g, 0, none⟩)] w fun e w' => ∃ b, e = .returned (.bool b) ∧ KG g w w' := by
  have H := Lib.hid h
  obtain ⟨n, hn⟩ := h
  have k0 := blk_cell hn 0
  have f0 := blk_frozen hn 0
  go_enter Try.func41, Try.ntmps41
  by_cases hc : n ≤ 4096
  · have hn1 := blk_set hn 0 (.int .i64 (wrap64 (n + 1)))
    have k1 := blk_cell hn1 0
    have HS := Lib.hid (KG.set H.out (wrap64 (n + 1)))
    go_wp2
    go_ret
    exact ⟨_, rfl, HS.out⟩
  · go_wp2
    go_ret
    exact ⟨Or.inl rfl, KG.refl H.out⟩

/-- What the count makes of a pattern. -/
def PatC (w0 : World) (g : Nat) (p : S53) : Prop := ∀ (A4 : Option Addr) (c4 : Nat) (left : Int) (w : World), CG w0 g w → Kd.C k53 w0 A4 p.f4.length p.f4 → p.f4.length ≤ c4 → nodesP p ≤ 1000000 →
  Calls Try.prog 45 #[.pointer (some ⟨g, 0, none⟩), .agg #[.int .i64 p.f0, .int .i64 p.f1, .int .i64 p.f2, .string p.f3, .slice A4 p.f4.length c4], .int .i64 left] w (Told g w)

set_option maxRecDepth 100000 in
set_option maxHeartbeats 8000000 in
theorem pat_ok (w0 : World) (g : Nat) (f0 f1 f2 : Int) (f3 : ByteArray) (args : List S53) (hIH : ∀ x, x ∈ args → PatC w0 g x) : PatC w0 g ⟨f0, f1, f2, f3, args⟩ := by
  intro A4 c4 left w hG hC hc4 hnp
  simp only at hC hc4 ⊢
  simp only [nodesP] at hnp
  have hla : args.length ≤ 1000000 := by have := nodesL_le args; omega
  have HI := Lib.hid hIH
  have HC := Lib.hid hC
  have HG := Lib.hid hG
  clear hIH hC hG
  go_enter Try.func45, Try.ntmps45
  go_upto_region 1 with fail
  have hbl := below_alloc (Below.refl _ w) (.cells #[.int .i64 f0, .int .i64 f1, .int .i64 f2, .string f3, .slice A4 args.length c4] 53)
  have XB := Lib.hid (blk_new w (.cells #[.int .i64 f0, .int .i64 f1, .int .i64 f2, .string f3, .slice A4 args.length c4] 53))
  have K1 := Lib.hid (KG.of_below HG.out.n hbl)
  have hgb : w.heap.size ≠ g := by have := HG.out.n.lt; omega
  clear hbl
  generalize w.alloc (.cells #[.int .i64 f0, .int .i64 f1, .int .i64 f2, .string f3, .slice A4 args.length c4] 53) = W1 at *
  have G1 := Lib.hid (HG.out.keep K1.out)
  generalize w.heap.size = gb at *
  by_cases hl0 : left = 0
  · subst hl0
    go_wp2
    try rw [Exit.noGoto_ret]
    go_ret
    exact ⟨_, rfl, K1.out⟩
  · go_upto_region 3 with (go_at_call 41; refine (add_call g _ G1.out.n).mono ?_; rintro e w2 ⟨b, rfl, hk⟩; have K2 := Lib.hid (K1.out.trans hk); have G2 := Lib.hid (G1.out.keep hk); have XB2 := Lib.hid (hk.blk XB.out hgb); clear hk)
    · try rw [Exit.noGoto_ret]
      go_ret
      exact ⟨_, rfl, K2.out⟩
    rename_i hno K0 hK0
    clear XB K1 G1 hl0 hno
    have k4 := blk_cell XB2.out 4
    go_wp2
    go_loopw [8, 7] (fun v8 v7 wr => ∃ (i : Nat) (m : Int), v8 = .int .i64 i ∧ v7 = .int .i64 m ∧ i ≤ args.length ∧ Hid (KG g w2 wr)) (fun v8 _ _ => args.length - (intOf v8).toNat)
    case atStart => exact ⟨0, 0, by go_num, by go_num, Nat.zero_le _, Lib.hid (KG.refl G2.out.n)⟩
    case round =>
      obtain ⟨i, m, rfl, rfl, hi, HK⟩ := hrel
      obtain ⟨wq, hwq⟩ : ∃ wq, wq = wr := ⟨_, rfl⟩
      subst hwq
      have XQ := Lib.hid (HK.out.blk XB2.out hgb)
      have GQ := Lib.hid (G2.out.keep HK.out)
      clear k4
      have k4 := blk_cell XQ.out 4
      by_cases hlt : i < args.length
      · have q1 : (i : Int) < (args.length : Int) := by omega
        have q0 : (0 : Int) ≤ (i : Int) := by omega
        have hng := nodesL_get hlt
        have hnx : nodesP args[i] ≤ 1000000 := by omega
        clear hng
        obtain ⟨ad, A5, c5, hA4, u0, u1, u2, u3, u4, hc5, hC5⟩ := at_T53 HC.out (i : Int) q0 q1
        subst hA4
        rw [rd53 args i hlt, Int.toNat_natCast] at u0 u1 u2 u3 u4
        rw [rd53 args i hlt] at hc5 hC5
        replace u0 := (GQ.out.b.cell (World.block_lt_of_cell? w0 _ u0)).trans u0
        replace u1 := (GQ.out.b.cell (World.block_lt_of_cell? w0 _ u1)).trans u1
        replace u2 := (GQ.out.b.cell (World.block_lt_of_cell? w0 _ u2)).trans u2
        replace u3 := (GQ.out.b.cell (World.block_lt_of_cell? w0 _ u3)).trans u3
        replace u4 := (GQ.out.b.cell (World.block_lt_of_cell? w0 _ u4)).trans u4
        have hx0 := HI.out args[i] (List.getElem_mem hlt)
        have HC5 := Lib.hid hC5
        clear hC5
        generalize args[i] = x at *
        go_upto_region 6 with (go_at_call 45; refine (hx0 A5 c5 (wrap64 (left - 1)) _ GQ.out HC5.out hc5 hnx).mono ?_; rintro e w3 ⟨v3, rfl, hk⟩; have K3 := Lib.hid (HK.out.trans hk); clear hk)
        generalize (if m < v3 then v3 else m) = m1
        go_wp2
        go_roundw
        case rel => exact ⟨i + 1, m1, by go_num, rfl, hlt, K3⟩
        case measure => simp [intOf]; omega
      · obtain rfl : i = args.length := by omega
        go_wp2
        go_ret
        exact ⟨_, rfl, K2.out.trans HK.out⟩
end Go.Proofs.Ytelheeekbihfcaa.Pt
