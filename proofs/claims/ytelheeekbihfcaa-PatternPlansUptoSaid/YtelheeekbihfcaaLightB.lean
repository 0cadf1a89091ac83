/- CountA; Arm, 1 declarations cut; CountB; CountP; Deep; DeepB; LightW -/
import Derived.Test.YtelheeekbihfcaaPlanB
section
/- The law's light, its count: that it comes back. -/
set_option linter.unusedVariables false
set_option linter.unusedSimpArgs false
namespace Go.Proofs.Ytelheeekbihfcaa.Pt
open Go.RowKit Go.Proofs Go.Proofs.Ytelheeekbihfcaa.PPatternFirst Go.Proofs.YtelheeekbihfcaaW.PrintWords Go.Proofs.YtelheeekbihfcaaW.PrintMore Go.Proofs.YtelheeekbihfcaaW.PrintLast
/-- The count's box. -/
def NB (g : Nat) (w : World) : Prop := ∃ n : Int, w.heap[g]? = some (.cells #[.int .i64 n] 94 (0, 0))
/-- Nothing is other but the count's box. -/
structure KG (g : Nat) (W W' : World) : Prop where
  os : W'.os = W.os
  tape : W'.tape = W.tape
  output : W'.output = W.output
  size : W.heap.size ≤ W'.heap.size
  block : ∀ k, k < W.heap.size → k ≠ g → W'.heap[k]? = W.heap[k]?
  n : NB g W'
/-- The count's box, behind a world that stays. -/
structure CG (w0 : World) (g : Nat) (w : World) : Prop where
  b : Below w0.heap.size w0 w
  lt : w0.heap.size ≤ g
  n : NB g w
theorem NB.lt {g : Nat} {w : World} (h : NB g w) : g < w.heap.size := by obtain ⟨n, hn⟩ := h; exact blk_lt hn
theorem NB.below {g : Nat} {w w1 : World} (h : NB g w) (hb : Below w.heap.size w w1) : NB g w1 := by
  obtain ⟨n, hn⟩ := h
  exact ⟨n, blk_below hn hb⟩
theorem NB.set {g : Nat} {w : World} (h : NB g w) (v : Int) : NB g (w.setCell ⟨g, 0, none⟩ (.int .i64 v)) := by
  obtain ⟨n, hn⟩ := h
  refine ⟨v, ?_⟩
  have h1 := blk_set hn 0 (.int .i64 v)
  simpa only [List.setIfInBounds_toArray, List.set_cons_zero] using h1
theorem KG.refl {g : Nat} {w : World} (h : NB g w) : KG g w w := ⟨rfl, rfl, rfl, Nat.le_refl _, fun _ _ _ => rfl, h⟩
theorem KG.trans {g : Nat} {A B C : World} (h : KG g A B) (k : KG g B C) : KG g A C :=
  ⟨k.os.trans h.os, k.tape.trans h.tape, k.output.trans h.output, Nat.le_trans h.size k.size, fun i hi hg => (k.block i (Nat.lt_of_lt_of_le hi h.size) hg).trans (h.block i hi hg), k.n⟩
theorem KG.of_below {g : Nat} {W W' : World} (hn : NB g W) (h : Below W.heap.size W W') : KG g W W' := ⟨h.os, h.tape, h.output, h.size, fun k hk _ => h.block k hk, hn.below h⟩
theorem KG.set {g : Nat} {w : World} (h : NB g w) (v : Int) : KG g w (w.setCell ⟨g, 0, none⟩ (.int .i64 v)) :=
  ⟨rfl, rfl, rfl, by simp, fun k _ hk => Below.heap_setCell w ⟨g, 0, none⟩ _ k hk, h.set v⟩
theorem KG.blk {g : Nat} {W W' : World} (h : KG g W W') {b : Nat} {o : Obj} (hb : W.heap[b]? = some o) (hg : b ≠ g) : W'.heap[b]? = some o := (h.block b (blk_lt hb) hg).trans hb
theorem CG.keep {w0 : World} {g : Nat} {w w1 : World} (h : CG w0 g w) (k : KG g w w1) : CG w0 g w1 :=
  ⟨⟨k.os.trans h.b.os, k.tape.trans h.b.tape, k.output.trans h.b.output, Nat.le_trans h.b.size k.size, fun i hi => (k.block i (Nat.lt_of_lt_of_le hi h.b.size) (by have := h.lt; omega)).trans (h.b.block i hi)⟩, h.lt, k.n⟩
/-- What a call of the count comes to: a number, and the box. -/
def Told (g : Nat) (w : World) (e : Ending) (w' : World) : Prop := ∃ v : Int, e = .returned (.int .i64 v) ∧ KG g w w'
set_option maxRecDepth 100000 in
theorem add_call (g : Nat) (w : World) (h : NB g w) : Calls Try.prog 41 #[.pointer (some ⟨g, 0, none⟩)] w fun e w' => ∃ b, e = .returned (.bool b) ∧ KG g w w' := by
  have H := Lib.hid h
  obtain ⟨n, hn⟩ := h
  have k0 := blk_cell hn 0
  have f0 := blk_frozen hn 0
  go_enter Try.func41, Try.ntmps41
  by_cases hc : n ≤ 4096
  · have hn1 := blk_set hn 0 (.int .i64 (wrap64 (n + 1)))
    have k1 := blk_cell hn1 0
    have HS := Lib.hid (KG.set H.out (wrap64 (n + 1)))
    go_wp2
    go_ret
    exact ⟨_, rfl, HS.out⟩
  · go_wp2
    go_ret
    exact ⟨Or.inl rfl, KG.refl H.out⟩
/-- What the count makes of a pattern. -/
def PatC (w0 : World) (g : Nat) (p : S53) : Prop := ∀ (A4 : Option Addr) (c4 : Nat) (left : Int) (w : World), CG w0 g w → Kd.C k53 w0 A4 p.f4.length p.f4 → p.f4.length ≤ c4 → nodesP p ≤ 1000000 →
  Calls Try.prog 45 #[.pointer (some ⟨g, 0, none⟩), .agg #[.int .i64 p.f0, .int .i64 p.f1, .int .i64 p.f2, .string p.f3, .slice A4 p.f4.length c4], .int .i64 left] w (Told g w)
set_option maxRecDepth 100000 in
set_option maxHeartbeats 8000000 in
theorem pat_ok (w0 : World) (g : Nat) (f0 f1 f2 : Int) (f3 : ByteArray) (args : List S53) (hIH : ∀ x, x ∈ args → PatC w0 g x) : PatC w0 g ⟨f0, f1, f2, f3, args⟩ := by
  intro A4 c4 left w hG hC hc4 hnp
  simp only at hC hc4 ⊢
  simp only [nodesP] at hnp
  have hla : args.length ≤ 1000000 := by have := nodesL_le args; omega
  have HI := Lib.hid hIH
  have HC := Lib.hid hC
  have HG := Lib.hid hG
  clear hIH hC hG
  go_enter Try.func45, Try.ntmps45
  go_upto_region 1 with fail
  have hbl := below_alloc (Below.refl _ w) (.cells #[.int .i64 f0, .int .i64 f1, .int .i64 f2, .string f3, .slice A4 args.length c4] 53)
  have XB := Lib.hid (blk_new w (.cells #[.int .i64 f0, .int .i64 f1, .int .i64 f2, .string f3, .slice A4 args.length c4] 53))
  have K1 := Lib.hid (KG.of_below HG.out.n hbl)
  have hgb : w.heap.size ≠ g := by have := HG.out.n.lt; omega
  clear hbl
  generalize w.alloc (.cells #[.int .i64 f0, .int .i64 f1, .int .i64 f2, .string f3, .slice A4 args.length c4] 53) = W1 at *
  have G1 := Lib.hid (HG.out.keep K1.out)
  generalize w.heap.size = gb at *
  by_cases hl0 : left = 0
  · subst hl0
    go_wp2
    try rw [Exit.noGoto_ret]
    go_ret
    exact ⟨_, rfl, K1.out⟩
  · go_upto_region 3 with (go_at_call 41; refine (add_call g _ G1.out.n).mono ?_; rintro e w2 ⟨b, rfl, hk⟩; have K2 := Lib.hid (K1.out.trans hk); have G2 := Lib.hid (G1.out.keep hk); have XB2 := Lib.hid (hk.blk XB.out hgb); clear hk)
    · try rw [Exit.noGoto_ret]
      go_ret
      exact ⟨_, rfl, K2.out⟩
    rename_i hno K0 hK0
    clear XB K1 G1 hl0 hno
    have k4 := blk_cell XB2.out 4
    go_wp2
    go_loopw [8, 7] (fun v8 v7 wr => ∃ (i : Nat) (m : Int), v8 = .int .i64 i ∧ v7 = .int .i64 m ∧ i ≤ args.length ∧ Hid (KG g w2 wr)) (fun v8 _ _ => args.length - (intOf v8).toNat)
    case atStart => exact ⟨0, 0, by go_num, by go_num, Nat.zero_le _, Lib.hid (KG.refl G2.out.n)⟩
    case round =>
      obtain ⟨i, m, rfl, rfl, hi, HK⟩ := hrel
      obtain ⟨wq, hwq⟩ : ∃ wq, wq = wr := ⟨_, rfl⟩
      subst hwq
      have XQ := Lib.hid (HK.out.blk XB2.out hgb)
      have GQ := Lib.hid (G2.out.keep HK.out)
      clear k4
      have k4 := blk_cell XQ.out 4
      by_cases hlt : i < args.length
      · have q1 : (i : Int) < (args.length : Int) := by omega
        have q0 : (0 : Int) ≤ (i : Int) := by omega
        have hng := nodesL_get hlt
        have hnx : nodesP args[i] ≤ 1000000 := by omega
        clear hng
        obtain ⟨ad, A5, c5, hA4, u0, u1, u2, u3, u4, hc5, hC5⟩ := at_T53 HC.out (i : Int) q0 q1
        subst hA4
        rw [rd53 args i hlt, Int.toNat_natCast] at u0 u1 u2 u3 u4
        rw [rd53 args i hlt] at hc5 hC5
        replace u0 := (GQ.out.b.cell (World.block_lt_of_cell? w0 _ u0)).trans u0
        replace u1 := (GQ.out.b.cell (World.block_lt_of_cell? w0 _ u1)).trans u1
        replace u2 := (GQ.out.b.cell (World.block_lt_of_cell? w0 _ u2)).trans u2
        replace u3 := (GQ.out.b.cell (World.block_lt_of_cell? w0 _ u3)).trans u3
        replace u4 := (GQ.out.b.cell (World.block_lt_of_cell? w0 _ u4)).trans u4
        have hx0 := HI.out args[i] (List.getElem_mem hlt)
        have HC5 := Lib.hid hC5
        clear hC5
        generalize args[i] = x at *
        go_upto_region 6 with (go_at_call 45; refine (hx0 A5 c5 (wrap64 (left - 1)) _ GQ.out HC5.out hc5 hnx).mono ?_; rintro e w3 ⟨v3, rfl, hk⟩; have K3 := Lib.hid (HK.out.trans hk); clear hk)
        generalize (if m < v3 then v3 else m) = m1
        go_wp2
        go_roundw
        case rel => exact ⟨i + 1, m1, by go_num, rfl, hlt, K3⟩
        case measure => simp [intOf]; omega
      · obtain rfl : i = args.length := by omega
        go_wp2
        go_ret
        exact ⟨_, rfl, K2.out.trans HK.out⟩
end Go.Proofs.Ytelheeekbihfcaa.Pt
end
section
/- The arms that the law's light builds: a pattern, and nothing. -/
set_option linter.unusedVariables false
set_option linter.unusedSimpArgs false
namespace Go.Proofs.Ytelheeekbihfcaa.Pt
open Go.RowKit Go.Proofs Go.Proofs.Ytelheeekbihfcaa.PPatternFirst Go.Proofs.YtelheeekbihfcaaW.PrintWords Go.Proofs.YtelheeekbihfcaaW.PrintMore Go.Proofs.YtelheeekbihfcaaW.PrintLast
theorem pat_any (w0 : World) (g : Nat) : ∀ (N : Nat) (p : S53), nodesP p ≤ N → PatC w0 g p
  | 0, ⟨_, _, _, _, _⟩, h => by simp only [nodesP] at h; omega
  | N + 1, ⟨f0, f1, f2, f3, args⟩, h => pat_ok w0 g f0 f1 f2 f3 args fun x hx => pat_any w0 g N x (by
      obtain ⟨j, hj, rfl⟩ := List.getElem_of_mem hx
      have := nodesL_get hj
      simp only [nodesP] at h
      omega)
/-- A row of the call's own, its elements readable in the world Wb. -/
def RowK {α : Type} (k : Kd α) (t : Nat) (Wb wr : World) (v : Value) (xs : List α) : Prop := ∃ cells, wr.ownsRow Wb.heap.size t k.sz v xs.length cells ∧ Reps (fun (x : α) (cs : List Value) => k.K Wb x cs) k.sz xs cells
section
variable {α : Type} {k : Kd α} {t : Nat}
theorem RowK.below {Wb wr w1 : World} {v : Value} {xs : List α} (h : RowK k t Wb wr v xs) (hb : Below wr.heap.size wr w1) : RowK k t Wb w1 v xs := by
  obtain ⟨cells, h1, h2⟩ := h
  exact ⟨cells, own_move h1 (fun j hk => hb.block j (own_lt h1 j hk)), h2⟩
theorem RowK.nil (Wb wr : World) : RowK k t Wb wr (.slice none 0 0) ([] : List α) := ⟨[], own_nil _ _ _ _, Reps.none _ _⟩
theorem RowK.slice {Wb wr : World} {v : Value} {xs : List α} (h : RowK k t Wb wr v xs) : ∃ A c, v = .slice A xs.length c := by
  obtain ⟨cells, h1, _⟩ := h
  exact own_slice h1
theorem RowK.reads {Wb wr : World} {A : Option Addr} {n c : Nat} {xs : List α} (h : RowK k t Wb wr (.slice A n c) xs) (hB : Below Wb.heap.size Wb wr) : n = xs.length ∧ n ≤ c ∧ Kd.C k wr A xs.length xs := by
  obtain ⟨cells, h1, h2⟩ := h
  obtain ⟨A', c', he, hr⟩ := own_reads_row h1 h2 rfl
  injection he with e1 e2 e3
  subst e1 e2 e3
  exact ⟨rfl, own_cap h1, hr.imp_ (Below.refl _ _) (fun p cs hp => k.K_below hB hp)⟩
theorem RowK.snoc {Wb w6 : World} {v1 : Value} {xs : List α} {cells cs : List Value} {x : α} (ho : w6.ownsRow Wb.heap.size t k.sz v1 (xs.length + 1) (cells ++ cs)) (hr : Reps (fun (x : α) (cs : List Value) => k.K Wb x cs) k.sz xs cells) (hx : k.K Wb x cs) (hc : cs.length = k.sz) : RowK k t Wb w6 v1 (xs ++ [x]) :=
  ⟨cells ++ cs, by rw [List.length_append, List.length_singleton]; exact ho, Reps.snoc hr hx hc⟩
end
/-- A pattern's arm, as the law's light builds it. -/
def kArm : Kd S53 := Kd.iso (Kd.pair k53 (Kd.pair (Kd.slice 100 k100) (Kd.pair (Kd.slice 102 k100) (Kd.pair (Kd.int .i64) (Kd.pair (Kd.int .i64) (Kd.pair Kd.string (Kd.pair (Kd.slice 100 k100) (Kd.pair (Kd.slice 61 k100) (Kd.pair (Kd.slice 63 k100) (Kd.pair Kd.bool (Kd.int .i64))))))))))) (fun x : S53 => (x, ([] : List S100), ([] : List S100), (0 : Int), (0 : Int), (⟨#[]⟩ : ByteArray), ([] : List S100), ([] : List S100), ([] : List S100), false, (0 : Int)))
theorem kArm_open {w : World} {x : S53} {cs : List Value} (h : kArm.K w x cs) : ∃ A4 c4 A5 c5 A6 c6 A7 c7 A8 c8 A9 c9, cs = [.int .i64 x.f0, .int .i64 x.f1, .int .i64 x.f2, .string x.f3, .slice A4 x.f4.length c4, .slice A5 0 c5, .slice A6 0 c6, .int .i64 0, .int .i64 0, .string ⟨#[]⟩, .slice A7 0 c7, .slice A8 0 c8, .slice A9 0 c9, .bool false, .int .i64 0] ∧ x.f4.length ≤ c4 ∧ k53.C w A4 x.f4.length x.f4 := by
  obtain ⟨_, _, rfl, s0, ⟨_, _, rfl, ⟨A5, c5, rfl, _, _⟩, ⟨_, _, rfl, ⟨A6, c6, rfl, _, _⟩, ⟨_, _, rfl, rfl, ⟨_, _, rfl, rfl, ⟨_, _, rfl, rfl, ⟨_, _, rfl, ⟨A7, c7, rfl, _, _⟩, ⟨_, _, rfl, ⟨A8, c8, rfl, _, _⟩, ⟨_, _, rfl, ⟨A9, c9, rfl, _, _⟩, ⟨_, _, rfl, rfl, rfl⟩⟩⟩⟩⟩⟩⟩⟩⟩⟩ := h
  obtain ⟨A4, c4, rfl, l4, g4⟩ := k53_open s0
  exact ⟨A4, c4, A5, c5, A6, c6, A7, c7, A8, c8, A9, c9, rfl, l4, g4⟩
theorem kArm_mk (w : World) (x : S53) {A4 : Option Addr} {c4 : Nat} (l4 : x.f4.length ≤ c4) (g4 : k53.C w A4 x.f4.length x.f4) : kArm.K w x [.int .i64 x.f0, .int .i64 x.f1, .int .i64 x.f2, .string x.f3, .slice A4 x.f4.length c4, .slice none 0 0, .slice none 0 0, .int .i64 0, .int .i64 0, .string ⟨#[]⟩, .slice none 0 0, .slice none 0 0, .slice none 0 0, .bool false, .int .i64 0] :=
  ⟨[.int .i64 x.f0, .int .i64 x.f1, .int .i64 x.f2, .string x.f3, .slice A4 x.f4.length c4], [.slice none 0 0, .slice none 0 0, .int .i64 0, .int .i64 0, .string ⟨#[]⟩, .slice none 0 0, .slice none 0 0, .slice none 0 0, .bool false, .int .i64 0], rfl, k53_mk w x l4 g4,
   ⟨[.slice none 0 0], [.slice none 0 0, .int .i64 0, .int .i64 0, .string ⟨#[]⟩, .slice none 0 0, .slice none 0 0, .slice none 0 0, .bool false, .int .i64 0], rfl, ⟨none, 0, rfl, Nat.le_refl _, Kd.C_nil _ _⟩,
   ⟨[.slice none 0 0], [.int .i64 0, .int .i64 0, .string ⟨#[]⟩, .slice none 0 0, .slice none 0 0, .slice none 0 0, .bool false, .int .i64 0], rfl, ⟨none, 0, rfl, Nat.le_refl _, Kd.C_nil _ _⟩,
   ⟨[.int .i64 0], [.int .i64 0, .string ⟨#[]⟩, .slice none 0 0, .slice none 0 0, .slice none 0 0, .bool false, .int .i64 0], rfl, rfl,
   ⟨[.int .i64 0], [.string ⟨#[]⟩, .slice none 0 0, .slice none 0 0, .slice none 0 0, .bool false, .int .i64 0], rfl, rfl,
   ⟨[.string ⟨#[]⟩], [.slice none 0 0, .slice none 0 0, .slice none 0 0, .bool false, .int .i64 0], rfl, rfl,
   ⟨[.slice none 0 0], [.slice none 0 0, .slice none 0 0, .bool false, .int .i64 0], rfl, ⟨none, 0, rfl, Nat.le_refl _, Kd.C_nil _ _⟩,
   ⟨[.slice none 0 0], [.slice none 0 0, .bool false, .int .i64 0], rfl, ⟨none, 0, rfl, Nat.le_refl _, Kd.C_nil _ _⟩,
   ⟨[.slice none 0 0], [.bool false, .int .i64 0], rfl, ⟨none, 0, rfl, Nat.le_refl _, Kd.C_nil _ _⟩,
   ⟨[.bool false], [.int .i64 0], rfl, rfl, rfl⟩⟩⟩⟩⟩⟩⟩⟩⟩⟩
theorem at_Arm {w : World} {A : Option Addr} {n : Nat} {xs : List S53} (h : Kd.C kArm w A n xs) (i : Nat) (h1 : i < xs.length) (hn : xs.length = n) : ∃ ad A4 c4 A5 c5 A6 c6 A7 c7 A8 c8 A9 c9, A = some ad ∧
    w.cell? (ad.add (i * 15)) = some (.int .i64 xs[i].f0) ∧ w.cell? ⟨(ad.add (i * 15)).block, (ad.add (i * 15)).off + 1, none⟩ = some (.int .i64 xs[i].f1) ∧ w.cell? ⟨(ad.add (i * 15)).block, (ad.add (i * 15)).off + 2, none⟩ = some (.int .i64 xs[i].f2) ∧ w.cell? ⟨(ad.add (i * 15)).block, (ad.add (i * 15)).off + 3, none⟩ = some (.string xs[i].f3) ∧ w.cell? ⟨(ad.add (i * 15)).block, (ad.add (i * 15)).off + 4, none⟩ = some (.slice A4 xs[i].f4.length c4) ∧
    w.cell? ⟨(ad.add (i * 15)).block, (ad.add (i * 15)).off + 5, none⟩ = some (.slice A5 0 c5) ∧
    w.cell? ⟨(ad.add (i * 15)).block, (ad.add (i * 15)).off + 6, none⟩ = some (.slice A6 0 c6) ∧ w.cell? ⟨(ad.add (i * 15)).block, (ad.add (i * 15)).off + 7, none⟩ = some (.int .i64 0) ∧ w.cell? ⟨(ad.add (i * 15)).block, (ad.add (i * 15)).off + 8, none⟩ = some (.int .i64 0) ∧ w.cell? ⟨(ad.add (i * 15)).block, (ad.add (i * 15)).off + 9, none⟩ = some (.string ⟨#[]⟩) ∧ w.cell? ⟨(ad.add (i * 15)).block, (ad.add (i * 15)).off + 10, none⟩ = some (.slice A7 0 c7) ∧ w.cell? ⟨(ad.add (i * 15)).block, (ad.add (i * 15)).off + 11, none⟩ = some (.slice A8 0 c8) ∧ w.cell? ⟨(ad.add (i * 15)).block, (ad.add (i * 15)).off + 12, none⟩ = some (.slice A9 0 c9) ∧ w.cell? ⟨(ad.add (i * 15)).block, (ad.add (i * 15)).off + 13, none⟩ = some (.bool false) ∧ w.cell? ⟨(ad.add (i * 15)).block, (ad.add (i * 15)).off + 14, none⟩ = some (.int .i64 0) ∧
    xs[i].f4.length ≤ c4 ∧ k53.C w A4 xs[i].f4.length xs[i].f4 := by
  obtain ⟨ad, c, e, _, hK, hc0⟩ := Kd.C_get h z53 (i : Int) (by omega) (by omega)
  have hc : ∀ j u, c[j]? = some u → w.cell? (ad.add ((i : Int).toNat * 15 + j)) = some u := hc0
  rw [Int.toNat_natCast, List.getD_eq_getElem?_getD, List.getElem?_eq_getElem h1] at hK
  rw [Int.toNat_natCast] at hc
  obtain ⟨A4, c4, A5, c5, A6, c6, A7, c7, A8, c8, A9, c9, rfl, l4, g4⟩ := kArm_open hK
  exact ⟨ad, A4, c4, A5, c5, A6, c6, A7, c7, A8, c8, A9, c9, e, hc 0 _ rfl, by rw [← add_field _ _ 1 (by omega)]; exact hc 1 _ rfl, by rw [← add_field _ _ 2 (by omega)]; exact hc 2 _ rfl, by rw [← add_field _ _ 3 (by omega)]; exact hc 3 _ rfl, by rw [← add_field _ _ 4 (by omega)]; exact hc 4 _ rfl, by rw [← add_field _ _ 5 (by omega)]; exact hc 5 _ rfl, by rw [← add_field _ _ 6 (by omega)]; exact hc 6 _ rfl, by rw [← add_field _ _ 7 (by omega)]; exact hc 7 _ rfl, by rw [← add_field _ _ 8 (by omega)]; exact hc 8 _ rfl, by rw [← add_field _ _ 9 (by omega)]; exact hc 9 _ rfl, by rw [← add_field _ _ 10 (by omega)]; exact hc 10 _ rfl, by rw [← add_field _ _ 11 (by omega)]; exact hc 11 _ rfl, by rw [← add_field _ _ 12 (by omega)]; exact hc 12 _ rfl, by rw [← add_field _ _ 13 (by omega)]; exact hc 13 _ rfl, by rw [← add_field _ _ 14 (by omega)]; exact hc 14 _ rfl, l4, g4⟩
end Go.Proofs.Ytelheeekbihfcaa.Pt
end
section
/- The law's light, its count of a body: that it comes back. -/
set_option linter.unusedVariables false
set_option linter.unusedSimpArgs false
namespace Go.Proofs.Ytelheeekbihfcaa.Pt
open Go.RowKit Go.Proofs Go.Proofs.Ytelheeekbihfcaa.PPatternFirst Go.Proofs.YtelheeekbihfcaaW.PrintWords Go.Proofs.YtelheeekbihfcaaW.PrintMore Go.Proofs.YtelheeekbihfcaaW.PrintLast
set_option maxRecDepth 100000 in
theorem exprs_nil (g : Nat) (w : World) (h : NB g w) (A : Option Addr) (c : Nat) (left : Int) : Calls Try.prog 43 #[.pointer (some ⟨g, 0, none⟩), .slice A 0 c, .int .i64 left] w (Told g w) := by
  have H := Lib.hid h
  clear h
  go_enter Try.func43, Try.ntmps43
  go_wp2
  go_loopw [8, 7] (fun v8 v7 wr => v8 = .int .i64 0 ∧ v7 = .int .i64 0 ∧ Hid (wr = w)) (fun _ _ _ => 0)
  case atStart => exact ⟨rfl, rfl, Lib.hid rfl⟩
  case round =>
    obtain ⟨rfl, rfl, HW⟩ := hrel
    have hw := HW.out
    subst hw
    go_wp2
    go_ret
    exact ⟨_, rfl, KG.refl H.out⟩
/-- What the count makes of a body that has but arms. -/
def BodyC (w0 : World) (g : Nat) (ps : List S53) : Prop := ∀ (A1 : Option Addr) (c1 : Nat) (i2 i3 : Int) (s4 : ByteArray) (A2 : Option Addr) (c2 : Nat) (A3 : Option Addr) (c3 : Nat) (A4 : Option Addr) (c4 : Nat) (b8 : Bool) (i9 left : Int) (w : World), CG w0 g w → Kd.C kArm w0 A4 ps.length ps → ps.length ≤ c4 → nodesL ps ≤ 1000000 →
  Calls Try.prog 42 #[.pointer (some ⟨g, 0, none⟩), .agg #[.slice A1 0 c1, .int .i64 i2, .int .i64 i3, .string s4, .slice A2 0 c2, .slice A3 0 c3, .slice A4 ps.length c4, .bool b8, .int .i64 i9], .int .i64 left] w (Told g w)
set_option maxRecDepth 100000 in
set_option maxHeartbeats 8000000 in
theorem body_ok (w0 : World) (g : Nat) (ps : List S53) (hIH : ps ≠ [] → BodyC w0 g []) : BodyC w0 g ps := by
  intro A1 c1 i2 i3 s4 A2 c2 A3 c3 A4 c4 b8 i9 left w hG hC hc4 hnp
  have hla : ps.length ≤ 1000000 := by have := nodesL_le ps; omega
  have HI := Lib.hid hIH
  have HC := Lib.hid hC
  have HG := Lib.hid hG
  clear hIH hC hG
  go_enter Try.func42, Try.ntmps42
  go_upto_region 1 with fail
  obtain ⟨bx, hbx⟩ : ∃ bx, (Obj.cells #[.slice A1 0 c1, .int .i64 i2, .int .i64 i3, .string s4, .slice A2 0 c2, .slice A3 0 c3, .slice A4 ps.length c4, .bool b8, .int .i64 i9] 61) = bx := ⟨_, rfl⟩
  have hbl := below_alloc (Below.refl _ w) (.cells #[.slice A1 0 c1, .int .i64 i2, .int .i64 i3, .string s4, .slice A2 0 c2, .slice A3 0 c3, .slice A4 ps.length c4, .bool b8, .int .i64 i9] 61)
  have XB := Lib.hid (blk_new w (.cells #[.slice A1 0 c1, .int .i64 i2, .int .i64 i3, .string s4, .slice A2 0 c2, .slice A3 0 c3, .slice A4 ps.length c4, .bool b8, .int .i64 i9] 61))
  have K1 := Lib.hid (KG.of_below HG.out.n hbl)
  have hgb : w.heap.size ≠ g := by have := HG.out.n.lt; omega
  clear hbl hbx bx
  generalize w.alloc (.cells #[.slice A1 0 c1, .int .i64 i2, .int .i64 i3, .string s4, .slice A2 0 c2, .slice A3 0 c3, .slice A4 ps.length c4, .bool b8, .int .i64 i9] 61) = W1 at *
  have G1 := Lib.hid (HG.out.keep K1.out)
  generalize w.heap.size = gb at *
  by_cases hl0 : left = 0
  · subst hl0
    go_wp2
    try rw [Exit.noGoto_ret]
    go_ret
    exact ⟨_, rfl, K1.out⟩
  · go_upto_region 3 with (go_at_call 41; refine (add_call g _ G1.out.n).mono ?_; rintro e w2 ⟨b, rfl, hk⟩; have K2 := Lib.hid (K1.out.trans hk); have G2 := Lib.hid (G1.out.keep hk); have XB2 := Lib.hid (hk.blk XB.out hgb); clear hk)
    · try rw [Exit.noGoto_ret]
      go_ret
      exact ⟨_, rfl, K2.out⟩
    rename_i hno K0 hK0
    clear XB K1 G1 hl0 hno
    have k0 := blk_cell XB2.out 0
    have k4 := blk_cell XB2.out 4
    have k5 := blk_cell XB2.out 5
    have k6 := blk_cell XB2.out 6
    go_upto_region 4 with (go_at_call 43; refine (exprs_nil g _ G2.out.n A2 c2 (wrap64 (left - 1))).mono ?_; rintro e w3 ⟨v3, rfl, hk⟩; have K3 := Lib.hid (K2.out.trans hk); have G3 := Lib.hid (G2.out.keep hk); have XB3 := Lib.hid (hk.blk XB2.out hgb); clear hk)
    clear k0 k4 k5 k6 XB2 K2 G2
    have k0 := blk_cell XB3.out 0
    have k5 := blk_cell XB3.out 5
    have k6 := blk_cell XB3.out 6
    go_wp2
    go_loopw [8, 7] (fun v8 v7 wr => v8 = .int .i64 0 ∧ v7 = .int .i64 v3 ∧ Hid (wr = w3)) (fun _ _ _ => 0)
    case atStart => exact ⟨rfl, rfl, Lib.hid rfl⟩
    case round =>
      obtain ⟨rfl, rfl, HW⟩ := hrel
      have hw := HW.out
      subst hw
      go_wp2
      go_loopw [9, 7] (fun v9 v7 wq => v9 = .int .i64 0 ∧ v7 = .int .i64 v3 ∧ Hid (wq = wr)) (fun _ _ _ => 0)
      case atStart => exact ⟨rfl, rfl, Lib.hid rfl⟩
      case round =>
        obtain ⟨rfl, rfl, HW2⟩ := hrel
        have hw2 := HW2.out
        subst hw2
        go_wp2
        clear k0 k5
        go_loopw [10, 7] (fun v10 v7 wq => ∃ (i : Nat) (m : Int), v10 = .int .i64 i ∧ v7 = .int .i64 m ∧ i ≤ ps.length ∧ Hid (KG g wr wq)) (fun v10 _ _ => ps.length - (intOf v10).toNat)
        case atStart => exact ⟨0, _, by go_num, rfl, Nat.zero_le _, Lib.hid (KG.refl G3.out.n)⟩
        case round =>
          obtain ⟨i, m, rfl, rfl, hi, HK⟩ := hrel
          obtain ⟨wq, hwq⟩ : ∃ wq, wq = wr := ⟨_, rfl⟩
          subst hwq
          have XQ := Lib.hid (HK.out.blk XB3.out hgb)
          have GQ := Lib.hid (G3.out.keep HK.out)
          clear k6
          have k6 := blk_cell XQ.out 6
          by_cases hlt : i < ps.length
          · have q1 : (i : Int) < (ps.length : Int) := by omega
            have q0 : (0 : Int) ≤ (i : Int) := by omega
            have hng := nodesL_get hlt
            have hnx : nodesP ps[i] ≤ 1000000 := by omega
            have hne : ps ≠ [] := fun e => by subst e; simp at hlt
            obtain ⟨ad, B4, d4, B5, d5, B6, d6, B7, d7, B8, d8, B9, d9, hA4, u0, u1, u2, u3, u4, u5, u6, u7, u8, u9, u10, u11, u12, u13, u14, hc5, hC5⟩ := at_Arm HC.out i hlt rfl
            subst hA4
            replace u0 := (GQ.out.b.cell (World.block_lt_of_cell? w0 _ u0)).trans u0
            replace u1 := (GQ.out.b.cell (World.block_lt_of_cell? w0 _ u1)).trans u1
            replace u2 := (GQ.out.b.cell (World.block_lt_of_cell? w0 _ u2)).trans u2
            replace u3 := (GQ.out.b.cell (World.block_lt_of_cell? w0 _ u3)).trans u3
            replace u4 := (GQ.out.b.cell (World.block_lt_of_cell? w0 _ u4)).trans u4
            have HC5 := Lib.hid hC5
            have hx0 := pat_any w0 g _ ps[i] (Nat.le_refl _)
            have HU5 := Lib.hid u5
            have HU6 := Lib.hid (And.intro u6 (And.intro u7 (And.intro u8 (And.intro u9 (And.intro u10 (And.intro u11 (And.intro u12 (And.intro u13 u14))))))))
            clear hC5 hng u5 u6 u7 u8 u9 u10 u11 u12 u13 u14
            generalize ps[i] = x at *
            go_upto_region 17 with (go_at_call 45; refine (hx0 B4 d4 (wrap64 (left - 1)) _ GQ.out HC5.out hc5 hnx).mono ?_; rintro e w4 ⟨v4, rfl, hk⟩; have K4 := Lib.hid (HK.out.trans hk); have G4 := Lib.hid (GQ.out.keep hk); have XB4 := Lib.hid (hk.blk XQ.out hgb); clear hk)
            generalize (if m < v4 then v4 else m) = m1
            clear k6 u0 u1 u2 u3 u4 XQ GQ
            have k6 := blk_cell XB4.out 6
            have u5 := HU5.out
            replace u5 := (G4.out.b.cell (World.block_lt_of_cell? w0 _ u5)).trans u5
            go_upto_region 18 with (go_at_call 43; refine (exprs_nil g _ G4.out.n B5 d5 (wrap64 (left - 1))).mono ?_; rintro e w5 ⟨v5, rfl, hk⟩; have K5 := Lib.hid (K4.out.trans hk); have G5 := Lib.hid (G4.out.keep hk); have XB5 := Lib.hid (hk.blk XB4.out hgb); clear hk)
            generalize (if m1 < v5 then v5 else m1) = m2
            clear k6 u5 XB4 G4 HU5
            have k6 := blk_cell XB5.out 6
            obtain ⟨u6, u7, u8, u9, u10, u11, u12, u13, u14⟩ := HU6.out
            clear HU6
            replace u6 := (G5.out.b.cell (World.block_lt_of_cell? w0 _ u6)).trans u6
            replace u7 := (G5.out.b.cell (World.block_lt_of_cell? w0 _ u7)).trans u7
            replace u8 := (G5.out.b.cell (World.block_lt_of_cell? w0 _ u8)).trans u8
            replace u9 := (G5.out.b.cell (World.block_lt_of_cell? w0 _ u9)).trans u9
            replace u10 := (G5.out.b.cell (World.block_lt_of_cell? w0 _ u10)).trans u10
            replace u11 := (G5.out.b.cell (World.block_lt_of_cell? w0 _ u11)).trans u11
            replace u12 := (G5.out.b.cell (World.block_lt_of_cell? w0 _ u12)).trans u12
            replace u13 := (G5.out.b.cell (World.block_lt_of_cell? w0 _ u13)).trans u13
            replace u14 := (G5.out.b.cell (World.block_lt_of_cell? w0 _ u14)).trans u14
            have hbody := HI.out hne
            go_upto_region 15 with (go_at_call 42; refine (hbody B6 d6 0 0 ⟨#[]⟩ B7 d7 B8 d8 B9 d9 false 0 (wrap64 (left - 1)) _ G5.out ⟨rfl, by simp, fun h => absurd h (Nat.lt_irrefl 0)⟩ (Nat.zero_le _) (Nat.zero_le _)).mono ?_; rintro e w6 ⟨v6, rfl, hk⟩; have K6 := Lib.hid (K5.out.trans hk); clear hk)
            generalize (if m2 < v6 then v6 else m2) = m3
            clear k6 u6 u7 u8 u9 u10 u11 u12 u13 u14
            go_wp2
            go_roundw
            case rel => exact ⟨i + 1, m3, by go_num, rfl, hlt, K6⟩
            case measure => simp [intOf]; omega
          · obtain rfl : i = ps.length := by omega
            go_wp2
            go_ret
            exact ⟨_, rfl, K3.out.trans HK.out⟩
theorem body_any (w0 : World) (g : Nat) (ps : List S53) : BodyC w0 g ps := body_ok w0 g ps fun _ => body_ok w0 g [] fun h => absurd rfl h
end Go.Proofs.Ytelheeekbihfcaa.Pt
end
section
/- The law's light, its count of the program that it builds. -/
set_option linter.unusedVariables false
set_option linter.unusedSimpArgs false
namespace Go.Proofs.Ytelheeekbihfcaa.Pt
open Go.RowKit Go.Proofs Go.Proofs.Ytelheeekbihfcaa.PPatternFirst Go.Proofs.YtelheeekbihfcaaW.PrintWords Go.Proofs.YtelheeekbihfcaaW.PrintMore Go.Proofs.YtelheeekbihfcaaW.PrintLast
/-- The one Def that light builds. -/
def defB (A : Option Addr) (n c : Nat) : Array Value := #[.int .i64 0, .string ⟨#[]⟩, .slice none 0 0, .slice none 0 0, .int .i64 0, .int .i64 0, .string ⟨#[]⟩, .slice none 0 0, .slice none 0 0, .slice A n c, .bool false, .int .i64 0]
set_option maxRecDepth 100000 in
set_option maxHeartbeats 8000000 in
theorem prog_ok (w0 : World) (g : Nat) (ps : List S53) (D : Nat) (A4 : Option Addr) (c4 : Nat) (w : World) (hG : CG w0 g w) (hD : w0.heap[D]? = some (.cells (defB A4 ps.length c4) 66 (0, 0))) (hC : Kd.C kArm w0 A4 ps.length ps) (hc4 : ps.length ≤ c4) (hnp : nodesL ps ≤ 1000000) :
    Calls Try.prog 36 #[.pointer (some ⟨g, 0, none⟩), .agg #[.slice (some ⟨D, 0, none⟩) 1 1, .int .i64 0, .string ⟨#[]⟩, .slice none 0 0]] w (Told g w) := by
  have HC := Lib.hid hC
  have HG := Lib.hid hG
  have HD := Lib.hid hD
  clear hC hG hD
  go_enter Try.func36, Try.ntmps36
  go_upto_region 1 with fail
  have hbl := below_alloc (Below.refl _ w) (.cells #[.slice (some ⟨D, 0, none⟩) 1 1, .int .i64 0, .string ⟨#[]⟩, .slice none 0 0] 69)
  have XB := Lib.hid (blk_new w (.cells #[.slice (some ⟨D, 0, none⟩) 1 1, .int .i64 0, .string ⟨#[]⟩, .slice none 0 0] 69))
  have K1 := Lib.hid (KG.of_below HG.out.n hbl)
  have hgb : w.heap.size ≠ g := by have := HG.out.n.lt; omega
  clear hbl
  generalize w.alloc (.cells #[.slice (some ⟨D, 0, none⟩) 1 1, .int .i64 0, .string ⟨#[]⟩, .slice none 0 0] 69) = W1 at *
  have G1 := Lib.hid (HG.out.keep K1.out)
  generalize w.heap.size = gb at *
  go_wp2
  go_loopw [6, 5] (fun v6 v5 wr => ∃ (i : Nat) (m : Int), v6 = .int .i64 i ∧ v5 = .int .i64 m ∧ i ≤ 1 ∧ Hid (KG g W1 wr)) (fun v6 _ _ => 1 - (intOf v6).toNat)
  case atStart => exact ⟨0, 0, by go_num, rfl, Nat.zero_le _, Lib.hid (KG.refl G1.out.n)⟩
  case round =>
    obtain ⟨i, m, rfl, rfl, hi, HK⟩ := hrel
    obtain ⟨wq, hwq⟩ : ∃ wq, wq = wr := ⟨_, rfl⟩
    subst hwq
    have XQ := Lib.hid (HK.out.blk XB.out hgb)
    have GQ := Lib.hid (G1.out.keep HK.out)
    have k0 := blk_cell XQ.out 0
    have k3 := blk_cell XQ.out 3
    by_cases hlt : i < 1
    · obtain rfl : i = 0 := by omega
      go_upto_region 6 with (go_at_call 41; refine (add_call g _ GQ.out.n).mono ?_; rintro e w2 ⟨b, rfl, hk⟩; have K2 := Lib.hid (HK.out.trans hk); have G2 := Lib.hid (GQ.out.keep hk); have X2 := Lib.hid (hk.blk XQ.out hgb); clear hk)
      clear k0 k3 XQ GQ
      have k0 := blk_cell X2.out 0
      have D2 := Lib.hid ((G2.out.b.block D (blk_lt HD.out)).trans HD.out)
      have d2 : w2.cell? ⟨D, 2, none⟩ = some (.slice none 0 0) := blk_cell D2.out 2
      go_wp2
      go_loopw [7] (fun v7 wr => v7 = .int .i64 0 ∧ Hid (wr = w2)) (fun _ _ => 0)
      case atStart => exact ⟨rfl, Lib.hid rfl⟩
      case round =>
        obtain ⟨rfl, HW⟩ := hrel
        have hw := HW.out
        subst hw
        have e3 : wr.cell? ⟨D, 3, none⟩ = some (.slice none 0 0) := blk_cell D2.out 3
        have e4 : wr.cell? ⟨D, 4, none⟩ = some (.int .i64 0) := blk_cell D2.out 4
        have e5 : wr.cell? ⟨D, 5, none⟩ = some (.int .i64 0) := blk_cell D2.out 5
        have e6 : wr.cell? ⟨D, 6, none⟩ = some (.string ⟨#[]⟩) := blk_cell D2.out 6
        have e7 : wr.cell? ⟨D, 7, none⟩ = some (.slice none 0 0) := blk_cell D2.out 7
        have e8 : wr.cell? ⟨D, 8, none⟩ = some (.slice none 0 0) := blk_cell D2.out 8
        have e9 : wr.cell? ⟨D, 9, none⟩ = some (.slice A4 ps.length c4) := blk_cell D2.out 9
        have e10 : wr.cell? ⟨D, 10, none⟩ = some (.bool false) := blk_cell D2.out 10
        have e11 : wr.cell? ⟨D, 11, none⟩ = some (.int .i64 0) := blk_cell D2.out 11
        go_upto_region 4 with (go_at_call 42; refine (body_any w0 g ps none 0 0 0 ⟨#[]⟩ none 0 none 0 A4 c4 false 0 65 _ G2.out HC.out hc4 hnp).mono ?_; rintro e w3 ⟨v3, rfl, hk⟩; have K3 := Lib.hid (K2.out.trans hk); clear hk)
        generalize (if m < v3 then v3 else m) = m1
        clear k0 d2 e3 e4 e5 e6 e7 e8 e9 e10 e11
        go_wp2
        go_roundw
        case rel => exact ⟨1, m1, by go_num, rfl, Nat.le_refl _, K3⟩
        case measure => simp [intOf]
    · obtain rfl : i = 1 := by omega
      go_wp2_with (go_at_call 43; refine (exprs_nil g _ GQ.out.n none 0 65).mono ?_; rintro e w2 ⟨v2, rfl, hk⟩; have K2 := Lib.hid (HK.out.trans hk); clear hk)
      all_goals
        go_ret
        exact ⟨_, rfl, K1.out.trans K2.out⟩
end Go.Proofs.Ytelheeekbihfcaa.Pt
end
section
/- The law's light, how deep what it builds is: that it comes back. -/
set_option linter.unusedVariables false
set_option linter.unusedSimpArgs false
namespace Go.Proofs.Ytelheeekbihfcaa.Pt
open Go.RowKit Go.Proofs Go.Proofs.Ytelheeekbihfcaa.PPatternFirst Go.Proofs.YtelheeekbihfcaaW.PrintWords Go.Proofs.YtelheeekbihfcaaW.PrintMore Go.Proofs.YtelheeekbihfcaaW.PrintLast
/-- A number came back. -/
def Num (w : World) (e : Ending) (w' : World) : Prop := ∃ v : Int, e = .returned (.int .i64 v) ∧ Below w.heap.size w w'
set_option maxRecDepth 100000 in
theorem size_ok (ps : List S53) (D : Nat) (A4 : Option Addr) (c4 : Nat) (w : World) (hD : w.heap[D]? = some (.cells (defB A4 ps.length c4) 66 (0, 0))) (hC : Kd.C kArm w A4 ps.length ps) (hc4 : ps.length ≤ c4) (hnp : nodesL ps ≤ 1000000) :
    Calls Try.prog 29 #[.agg #[.slice (some ⟨D, 0, none⟩) 1 1, .int .i64 0, .string ⟨#[]⟩, .slice none 0 0]] w (Num w) := by
  have HC := Lib.hid hC
  have HD := Lib.hid hD
  clear hC hD
  go_enter Try.func29, Try.ntmps29
  go_upto_region 2 with fail
  have hbl1 := below_alloc (Below.refl _ w) (.cells #[.slice (some ⟨D, 0, none⟩) 1 1, .int .i64 0, .string ⟨#[]⟩, .slice none 0 0] 69)
  have XB := blk_new w (.cells #[.slice (some ⟨D, 0, none⟩) 1 1, .int .i64 0, .string ⟨#[]⟩, .slice none 0 0] 69)
  have s1 : (w.alloc (.cells #[.slice (some ⟨D, 0, none⟩) 1 1, .int .i64 0, .string ⟨#[]⟩, .slice none 0 0] 69)).heap.size = w.heap.size + 1 := by simp
  have XG := blk_new (w.alloc (.cells #[.slice (some ⟨D, 0, none⟩) 1 1, .int .i64 0, .string ⟨#[]⟩, .slice none 0 0] 69)) (.cells #[.int .i64 0] 94)
  have XB2 := Lib.hid (blk_alloc XB (.cells #[.int .i64 0] 94))
  rw [s1] at XG
  have hbl := below_alloc hbl1 (.cells #[.int .i64 0] 94)
  have G1 := Lib.hid (show CG w (w.heap.size + 1) ((w.alloc (.cells #[.slice (some ⟨D, 0, none⟩) 1 1, .int .i64 0, .string ⟨#[]⟩, .slice none 0 0] 69)).alloc (.cells #[.int .i64 0] 94)) from ⟨hbl, Nat.le_succ _, 0, XG⟩)
  clear hbl1 XB s1 XG hbl
  generalize (w.alloc (.cells #[.slice (some ⟨D, 0, none⟩) 1 1, .int .i64 0, .string ⟨#[]⟩, .slice none 0 0] 69)).alloc (.cells #[.int .i64 0] 94) = W2 at *
  have k0 := blk_cell XB2.out 0
  have k1 := blk_cell XB2.out 1
  have k2 := blk_cell XB2.out 2
  have k3 := blk_cell XB2.out 3
  go_upto_region 3 with (go_at_call 36; refine (prog_ok w (w.heap.size + 1) ps D A4 c4 _ G1.out HD.out HC.out hc4 hnp).mono ?_; rintro e w3 ⟨v3, rfl, hk⟩; have G3 := Lib.hid (G1.out.keep hk); clear hk)
  obtain ⟨n, hn⟩ := G3.out.n
  have kn := blk_cell hn 0
  clear k0 k1 k2 k3
  go_wp2
  go_ret
  exact ⟨n, rfl, G3.out.b⟩
set_option maxRecDepth 100000 in
theorem deepE_nil (w : World) (A : Option Addr) (c : Nat) (left : Int) : Calls Try.prog 37 #[.agg #[], .slice A 0 c, .int .i64 left] w (Num w) := by
  go_enter Try.func37, Try.ntmps37
  have hbl := Lib.hid (below_alloc (Below.refl _ w) (.cells #[] 96))
  go_upto_region 1 with fail
  generalize w.alloc (.cells #[] 96) = W1 at *
  generalize hgb : w.heap.size = gb at *
  go_wp2
  go_loopw [8, 7] (fun v8 v7 wr => v8 = .int .i64 0 ∧ v7 = .int .i64 0 ∧ Hid (wr = W1)) (fun _ _ _ => 0)
  case atStart => exact ⟨rfl, rfl, Lib.hid rfl⟩
  case round =>
    obtain ⟨rfl, rfl, HW⟩ := hrel
    have hw := HW.out
    subst hw
    go_wp2
    go_ret
    exact ⟨_, rfl, by rw [hgb]; exact hbl.out⟩
/-- What the depth makes of some patterns. -/
def DeepC (w0 : World) (ps : List S53) : Prop := ∀ (A : Option Addr) (c : Nat) (left : Int) (w : World), Below w0.heap.size w0 w → Kd.C k53 w0 A ps.length ps → ps.length ≤ c → nodesL ps ≤ 1000000 → Calls Try.prog 44 #[.agg #[], .slice A ps.length c, .int .i64 left] w (Num w)
set_option maxRecDepth 100000 in
set_option maxHeartbeats 8000000 in
theorem deep_ok (w0 : World) (ps : List S53) (hIH : ∀ x, x ∈ ps → DeepC w0 x.f4) : DeepC w0 ps := by
  intro A c left w hB hC hc hnp
  have hla : ps.length ≤ 1000000 := by have := nodesL_le ps; omega
  have HI := Lib.hid hIH
  have HC := Lib.hid hC
  have HB := Lib.hid hB
  clear hIH hC hB
  go_enter Try.func44, Try.ntmps44
  have hbl := Lib.hid (below_alloc (Below.refl _ w) (.cells #[] 96))
  go_upto_region 1 with fail
  generalize w.alloc (.cells #[] 96) = W1 at *
  generalize hgb : w.heap.size = gb at *
  go_wp2
  go_loopw [8, 7] (fun v8 v7 wr => ∃ (i : Nat) (m : Int), v8 = .int .i64 i ∧ v7 = .int .i64 m ∧ i ≤ ps.length ∧ Hid (Below gb w wr)) (fun v8 _ _ => ps.length - (intOf v8).toNat)
  case atStart => exact ⟨0, 0, by go_num, rfl, Nat.zero_le _, hbl⟩
  case round =>
    obtain ⟨i, m, rfl, rfl, hi, HBQ⟩ := hrel
    obtain ⟨wq, hwq⟩ : ∃ wq, wq = wr := ⟨_, rfl⟩
    subst hwq
    by_cases hlt : i < ps.length
    · by_cases hl0 : 0 < left
      · have q1 : (i : Int) < (ps.length : Int) := by omega
        have q0 : (0 : Int) ≤ (i : Int) := by omega
        have hng := nodesL_get hlt
        obtain ⟨ad, A5, c5, hA4, _, _, _, _, u4, hc5, hC5⟩ := at_T53 HC.out (i : Int) q0 q1
        subst hA4
        rw [rd53 ps i hlt, Int.toNat_natCast] at u4
        rw [rd53 ps i hlt] at hc5 hC5
        have hx0 := HI.out ps[i] (List.getElem_mem hlt)
        have HC5 := Lib.hid hC5
        clear hC5
        have hnx : nodesL ps[i].f4 ≤ 1000000 := by
          have h2 : nodesL ps[i].f4 ≤ nodesP ps[i] := by
            cases ps[i]
            simp only [nodesP]
            omega
          omega
        generalize ps[i] = x at *
        clear hng
        have HX := Lib.hid hx0
        have BQD := Lib.hid (below_drew1 HBQ.out)
        have BD := Lib.hid (below_step HB.out (by rw [hgb]; exact BQD.out))
        have uD := (BD.out.cell (World.block_lt_of_cell? w0 _ u4)).trans u4
        clear u4
        go_upto_region 5 with fail
        refine start_ (n := 13) (S := fun w' => w'.cell? ⟨(ad.add (i * 5)).block, (ad.add (i * 5)).off + 4, none⟩ = some (.slice A5 x.f4.length c5)) (ds := []) #[false, false, false, false, false, false, false, false, false, false, false, false, false] (by kernel_rfl) rfl rfl (uD) (fun hHeld => ?_)
        refine pure_ (i := 0) (N := some 19) (v := ?_) (a' := ?_) #[true, false, false, false, false, false, false, false, false, false, false, false, false] rfl rfl (by kernel_rfl) (fun _ _ _ h => h) (Or.inl ⟨by rfl, ?_⟩) ?_ ?_
        rotate_left
        · intro w'
          go_simp
          with_reducible rfl
        rotate_left
        · simp only [Act.put, List.setIfInBounds_toArray, List.set_cons_zero, List.set_cons_succ, i64_w, i32_w]
          rfl
        refine pure_ (i := 2) (N := some 21) (v := ?_) (a' := ?_) #[true, false, true, false, false, false, false, false, false, false, false, false, false] rfl rfl (by kernel_rfl) (fun _ _ _ h => h) (Or.inl ⟨by rfl, ?_⟩) ?_ ?_
        rotate_left
        · intro w'
          go_simp
          with_reducible rfl
        rotate_left
        · simp only [Act.put, List.setIfInBounds_toArray, List.set_cons_zero, List.set_cons_succ, i64_w, i32_w]
          rfl
        refine pure_ (i := 3) (N := some 22) (v := ?_) (a' := ?_) #[true, false, true, true, false, false, false, false, false, false, false, false, false] rfl rfl (by kernel_rfl) (fun _ _ _ h => h) (Or.inl ⟨by rfl, ?_⟩) ?_ ?_
        rotate_left
        · intro w'
          go_simp
          with_reducible rfl
        rotate_left
        · simp only [Act.put, List.setIfInBounds_toArray, List.set_cons_zero, List.set_cons_succ, i64_w, i32_w]
          rfl
        refine pure_ (i := 4) (N := some 23) (v := ?_) (a' := ?_) #[true, false, true, true, true, false, false, false, false, false, false, false, false] rfl rfl (by kernel_rfl) (fun _ _ _ h => h) (Or.inl ⟨by rfl, ?_⟩) ?_ ?_
        rotate_left
        · intro w'
          go_simp
          with_reducible rfl
        rotate_left
        · simp only [Act.put, List.setIfInBounds_toArray, List.set_cons_zero, List.set_cons_succ, i64_w, i32_w]
          rfl
        refine pure_ (i := 5) (N := some 24) (v := ?_) (a' := ?_) #[true, false, true, true, true, true, false, false, false, false, false, false, false] rfl rfl (by kernel_rfl) (fun _ _ _ h => h) (Or.inl ⟨by rfl, ?_⟩) ?_ ?_
        rotate_left
        · intro w'
          go_simp
          with_reducible rfl
        rotate_left
        · simp only [Act.put, List.setIfInBounds_toArray, List.set_cons_zero, List.set_cons_succ, i64_w, i32_w]
          rfl
        refine pure_ (i := 7) (N := some 26) (v := ?_) (a' := ?_) #[true, false, true, true, true, true, false, true, false, false, false, false, false] rfl rfl (by kernel_rfl) (fun _ _ _ h => h) (Or.inl ⟨by rfl, ?_⟩) ?_ ?_
        rotate_left
        · intro w'
          go_simp
          with_reducible rfl
        rotate_left
        · simp only [Act.put, List.setIfInBounds_toArray, List.set_cons_zero, List.set_cons_succ, i64_w, i32_w]
          rfl
        refine pure_ (i := 8) (N := some 27) (v := ?_) (a' := ?_) #[true, false, true, true, true, true, false, true, true, false, false, false, false] rfl rfl (by kernel_rfl) (fun _ _ _ h => h) (Or.inl ⟨by rfl, ?_⟩) ?_ ?_
        rotate_left
        · intro w'
          go_simp
          with_reducible rfl
        rotate_left
        · simp only [Act.put, List.setIfInBounds_toArray, List.set_cons_zero, List.set_cons_succ, i64_w, i32_w]
          rfl
        refine take_ (i := 1) (N := some 20) (v := ?_) (a' := ?_) #[true, true, true, true, true, true, false, true, true, false, false, false, false] rfl rfl (by kernel_rfl) (fun _ _ _ h => h) (Or.inl ⟨by rfl, ?_⟩) hHeld ?_ ?_
        rotate_left
        · intro w' s0
          go_simp
          with_reducible rfl
        rotate_left
        · simp only [Act.put, List.setIfInBounds_toArray, List.set_cons_zero, List.set_cons_succ, i64_w, i32_w]
          rfl
        refine take_ (i := 6) (N := some 25) (v := ?_) (a' := ?_) #[true, true, true, true, true, true, true, true, true, false, false, false, false] rfl rfl (by kernel_rfl) (fun _ _ _ h => h) (Or.inl ⟨by rfl, ?_⟩) hHeld ?_ ?_
        rotate_left
        · intro w' s0
          go_simp
          with_reducible rfl
        rotate_left
        · simp only [Act.put, List.setIfInBounds_toArray, List.set_cons_zero, List.set_cons_succ, i64_w, i32_w]
          rfl
        refine one_ (i := 9) (N := some 28) #[true, true, true, true, true, true, true, true, true, true, false, false, false] rfl rfl (by kernel_rfl) (by decide) (fun K hK => ?_)
        refine call_ 44 #[.agg #[], .slice A5 x.f4.length c5, .int .i64 (wrap64 (left - 1))] (by rfl) rfl (by go_simp) ?_
        refine (HX.out A5 c5 (wrap64 (left - 1)) _ BD.out HC5.out hc5 hnx).mono ?_
        rintro e w5 ⟨v5, rfl, hd⟩
        refine ⟨_, rfl, ?_⟩
        have B5 := Lib.hid (show Below w.heap.size w _ from below_step (by rw [hgb]; exact BQD.out) hd)
        have u5 := (hd.cell (World.block_lt_of_cell? wq.drew _ uD)).trans uD
        clear hd
        refine hK.out _ _ (u5) (fun hHeld => ?_)
        clear hK K
        refine norm_ (a' := ?_) ?_ ?_
        rotate_left
        · show Act.put _ (some 28) _ = _
          simp only [Act.put, List.setIfInBounds_toArray, List.set_cons_zero, List.set_cons_succ, i64_w, i32_w]
          rfl
        refine pure_ (i := 10) (N := some 29) (v := ?_) (a' := ?_) #[true, true, true, true, true, true, true, true, true, true, true, false, false] rfl rfl (by kernel_rfl) (fun _ _ _ h => h) (Or.inl ⟨by rfl, ?_⟩) ?_ ?_
        rotate_left
        · intro w'
          go_simp
          with_reducible rfl
        rotate_left
        · simp only [Act.put, List.setIfInBounds_toArray, List.set_cons_zero, List.set_cons_succ, i64_w, i32_w]
          rfl
        refine pure_ (i := 11) (N := some 30) (v := ?_) (a' := ?_) #[true, true, true, true, true, true, true, true, true, true, true, true, false] rfl rfl (by kernel_rfl) (fun _ _ _ h => h) (Or.inl ⟨by rfl, ?_⟩) ?_ ?_
        rotate_left
        · intro w'
          go_simp
          with_reducible rfl
        rotate_left
        · simp only [Act.put, List.setIfInBounds_toArray, List.set_cons_zero, List.set_cons_succ, i64_w, i32_w]
          rfl
        refine pure_ (i := 12) (N := some 7) (v := ?_) (a' := ?_) #[true, true, true, true, true, true, true, true, true, true, true, true, true] rfl rfl (by kernel_rfl) (fun _ _ _ h => h) (Or.inl ⟨by rfl, ?_⟩) ?_ ?_
        rotate_left
        · intro w'
          go_simp
          with_reducible rfl
        rotate_left
        · simp only [Act.put, List.setIfInBounds_toArray, List.set_cons_zero, List.set_cons_succ, i64_w, i32_w]
          rfl
        refine done_ (by kernel_rfl) ?_
        generalize (if m < wrap64 (1 + v5) then wrap64 (1 + v5) else m) = m1
        go_wp2
        go_roundw
        case rel => exact ⟨i + 1, m1, by go_num, rfl, hlt, Lib.hid (by rw [← hgb]; exact B5.out)⟩
        case measure => simp [intOf]; omega
      · go_wp2
        go_ret
        exact ⟨_, rfl, by rw [hgb]; exact HBQ.out⟩
    · obtain rfl : i = ps.length := by omega
      go_wp2
      go_ret
      exact ⟨_, rfl, by rw [hgb]; exact HBQ.out⟩
theorem deep_any (w0 : World) : ∀ (N : Nat) (ps : List S53), nodesL ps ≤ N → DeepC w0 ps
  | 0, [], _ => deep_ok w0 [] fun _ h => by simp at h
  | 0, ⟨_, _, _, _, _⟩ :: _, h => by simp only [nodesL, nodesP] at h; omega
  | N + 1, ps, h => deep_ok w0 ps fun x hx => deep_any w0 N x.f4 (by
      obtain ⟨j, hj, rfl⟩ := List.getElem_of_mem hx
      have h1 := nodesL_get hj
      have h2 : nodesL ps[j].f4 + 1 ≤ nodesP ps[j] := by
        cases ps[j]
        simp only [nodesP]
        omega
      omega)
end Go.Proofs.Ytelheeekbihfcaa.Pt
end
section
/- The law's light, how deep the body that it builds is. -/
set_option linter.unusedVariables false
set_option linter.unusedSimpArgs false
namespace Go.Proofs.Ytelheeekbihfcaa.Pt
open Go.RowKit Go.Proofs Go.Proofs.Ytelheeekbihfcaa.PPatternFirst Go.Proofs.YtelheeekbihfcaaW.PrintWords Go.Proofs.YtelheeekbihfcaaW.PrintMore Go.Proofs.YtelheeekbihfcaaW.PrintLast
/-- A row of one. -/
theorem C_one {α : Type} {d : Kd α} {w : World} {g : Nat} {t : TypeId} {cs : List Value} {x : α} (hg : w.heap[g]? = some (.cells cs.toArray t (0, 0))) (hK : d.K w x cs) (hl : cs.length = d.sz) : d.C w (some ⟨g, 0, none⟩) 1 [x] :=
  ⟨rfl, by decide, fun _ => ⟨⟨g, 0, none⟩, rfl, fun j p hj => by
    cases j with
    | succ j => simp at hj
    | zero =>
      simp at hj
      subst hj
      refine ⟨cs, hl, hK, fun i u hi => ?_⟩
      have h1 := blk_cell hg i
      have h2 : cs.toArray[i]? = some u := by simpa using hi
      rw [h2] at h1
      by_cases h0 : i = 0
      · subst h0
        simpa [Addr.add] using h1
      · simpa [Addr.add, h0] using h1⟩⟩
/-- What the depth makes of a body that has but arms. -/
def DBodyC (w0 : World) (ps : List S53) : Prop := ∀ (A1 : Option Addr) (c1 : Nat) (i2 i3 : Int) (s4 : ByteArray) (A2 : Option Addr) (c2 : Nat) (A3 : Option Addr) (c3 : Nat) (A4 : Option Addr) (c4 : Nat) (b8 : Bool) (i9 left : Int) (w : World), Below w0.heap.size w0 w → Kd.C kArm w0 A4 ps.length ps → ps.length ≤ c4 → nodesL ps ≤ 1000000 →
  Calls Try.prog 38 #[.agg #[], .agg #[.slice A1 0 c1, .int .i64 i2, .int .i64 i3, .string s4, .slice A2 0 c2, .slice A3 0 c3, .slice A4 ps.length c4, .bool b8, .int .i64 i9], .int .i64 left] w (Num w)
set_option maxRecDepth 100000 in
set_option maxHeartbeats 8000000 in
theorem dbody_ok (w0 : World) (ps : List S53) (hIH : ps ≠ [] → DBodyC w0 []) : DBodyC w0 ps := by
  intro A1 c1 i2 i3 s4 A2 c2 A3 c3 A4 c4 b8 i9 left w hB hC hc4 hnp
  have hla : ps.length ≤ 1000000 := by have := nodesL_le ps; omega
  have HI := Lib.hid hIH
  have HC := Lib.hid hC
  have HB := Lib.hid hB
  clear hIH hC hB
  go_enter Try.func38, Try.ntmps38
  have s1 : (w.alloc (.cells #[] 96)).heap.size = w.heap.size + 1 := by simp
  have hbl := below_alloc (below_alloc (Below.refl _ w) (.cells #[] 96)) (.cells #[.slice A1 0 c1, .int .i64 i2, .int .i64 i3, .string s4, .slice A2 0 c2, .slice A3 0 c3, .slice A4 ps.length c4, .bool b8, .int .i64 i9] 61)
  have XN := blk_new (w.alloc (.cells #[] 96)) (.cells #[.slice A1 0 c1, .int .i64 i2, .int .i64 i3, .string s4, .slice A2 0 c2, .slice A3 0 c3, .slice A4 ps.length c4, .bool b8, .int .i64 i9] 61)
  rw [s1] at XN
  have XB := Lib.hid XN
  have B1 := Lib.hid hbl
  have BW1 := Lib.hid (below_step HB.out hbl)
  clear s1 hbl XN
  go_upto_region 1 with fail
  generalize (w.alloc (.cells #[] 96)).alloc (.cells #[.slice A1 0 c1, .int .i64 i2, .int .i64 i3, .string s4, .slice A2 0 c2, .slice A3 0 c3, .slice A4 ps.length c4, .bool b8, .int .i64 i9] 61) = W1 at *
  have hgb0 : w.heap.size + 1 = w.heap.size + 1 := rfl
  generalize hgb : w.heap.size + 1 = gb at *
  clear hgb0
  have k0 := blk_cell XB.out 0
  have k4 := blk_cell XB.out 4
  have k5 := blk_cell XB.out 5
  have k6 := blk_cell XB.out 6
  by_cases hl0 : left = 0
  · subst hl0
    go_wp2
    try rw [Exit.noGoto_ret]
    go_ret
    exact ⟨_, rfl, B1.out⟩
  · go_upto_region 4 with (go_at_call 37; refine (deepE_nil _ A2 c2 (wrap64 (left - 1))).mono ?_; rintro e w3 ⟨v3, rfl, hd⟩; have B3 := Lib.hid hd; have BW3 := Lib.hid (below_step BW1.out hd); have XB3 := Lib.hid (blk_below XB.out hd); clear hd)
    clear k0 k4 k5 k6 hl0
    have k0 := blk_cell XB3.out 0
    have k5 := blk_cell XB3.out 5
    have k6 := blk_cell XB3.out 6
    go_wp2
    go_loopw [8, 7] (fun v8 v7 wr => v8 = .int .i64 0 ∧ v7 = .int .i64 v3 ∧ Hid (wr = w3)) (fun _ _ _ => 0)
    case atStart => exact ⟨rfl, rfl, Lib.hid rfl⟩
    case round =>
      obtain ⟨rfl, rfl, HW⟩ := hrel
      have hw := HW.out
      subst hw
      go_wp2
      go_loopw [9, 7] (fun v9 v7 wq => v9 = .int .i64 0 ∧ v7 = .int .i64 v3 ∧ Hid (wq = wr)) (fun _ _ _ => 0)
      case atStart => exact ⟨rfl, rfl, Lib.hid rfl⟩
      case round =>
        obtain ⟨rfl, rfl, HW2⟩ := hrel
        have hw2 := HW2.out
        subst hw2
        go_wp2
        clear k0 k5
        go_loopw [10, 7] (fun v10 v7 wq => ∃ (i : Nat) (m : Int), v10 = .int .i64 i ∧ v7 = .int .i64 m ∧ i ≤ ps.length ∧ Hid (Below wr.heap.size wr wq)) (fun v10 _ _ => ps.length - (intOf v10).toNat)
        case atStart => exact ⟨0, _, by go_num, rfl, Nat.zero_le _, Lib.hid (Below.refl _ _)⟩
        case round =>
          obtain ⟨i, m, rfl, rfl, hi, HK⟩ := hrel
          obtain ⟨wq, hwq⟩ : ∃ wq, wq = wr := ⟨_, rfl⟩
          subst hwq
          clear k6
          by_cases hlt : i < ps.length
          · have q1 : (i : Int) < (ps.length : Int) := by omega
            have q0 : (0 : Int) ≤ (i : Int) := by omega
            have hng := nodesL_get hlt
            have hx1 : nodesL [ps[i]] ≤ 1000000 := by simp only [nodesL]; omega
            have hne : ps ≠ [] := fun e => by subst e; simp at hlt
            obtain ⟨ad, B4, d4, B5, d5, B6, d6, B7, d7, B8, d8, B9, d9, hA4, u0, u1, u2, u3, u4, u5, u6, u7, u8, u9, u10, u11, u12, u13, u14, hc5, hC5⟩ := at_Arm HC.out i hlt rfl
            subst hA4
            have HC5 := Lib.hid hC5
            have hbody := HI.out hne
            have BQ := Lib.hid (below_drew1 HK.out)
            have XQ := Lib.hid (blk_below XB3.out BQ.out)
            have BW := Lib.hid (below_step BW3.out BQ.out)
            have HU := Lib.hid (And.intro u0 (And.intro u1 (And.intro u2 (And.intro u3 (And.intro u4 (And.intro u5 (And.intro u6 (And.intro u7 (And.intro u8 (And.intro u9 (And.intro u10 (And.intro u11 (And.intro u12 (And.intro u13 u14))))))))))))))
            clear hC5 hng u0 u1 u2 u3 u4 u5 u6 u7 u8 u9 u10 u11 u12 u13 u14
            generalize ps[i] = x at *
            obtain ⟨u0, u1, u2, u3, u4, _, _, _, _, _, _, _, _, _, _⟩ := HU.out
            have f0 := (BW.out.cell (World.block_lt_of_cell? w0 _ u0)).trans u0
            have f1 := (BW.out.cell (World.block_lt_of_cell? w0 _ u1)).trans u1
            have f2 := (BW.out.cell (World.block_lt_of_cell? w0 _ u2)).trans u2
            have f3 := (BW.out.cell (World.block_lt_of_cell? w0 _ u3)).trans u3
            have f4 := (BW.out.cell (World.block_lt_of_cell? w0 _ u4)).trans u4
            clear u0 u1 u2 u3 u4
            have k6 := blk_cell (blk_below XB3.out HK.out) 6
            go_upto_region 15 with fail
            clear k6
            refine start_ (n := 14) (S := fun w' => w'.cell? ⟨gb, 6, none⟩ = some (.slice (some ad) ps.length c4) ∧ w'.cell? (ad.add (i * 15)) = some (.int .i64 x.f0) ∧ w'.cell? ⟨(ad.add (i * 15)).block, (ad.add (i * 15)).off + 1, none⟩ = some (.int .i64 x.f1) ∧ w'.cell? ⟨(ad.add (i * 15)).block, (ad.add (i * 15)).off + 2, none⟩ = some (.int .i64 x.f2) ∧ w'.cell? ⟨(ad.add (i * 15)).block, (ad.add (i * 15)).off + 3, none⟩ = some (.string x.f3) ∧ w'.cell? ⟨(ad.add (i * 15)).block, (ad.add (i * 15)).off + 4, none⟩ = some (.slice B4 x.f4.length d4)) (ds := []) #[false, false, false, false, false, false, false, false, false, false, false, false, false, false] (by kernel_rfl) rfl rfl ⟨blk_cell (XQ.out) 6, f0, f1, f2, f3, f4⟩ (fun hHeld => ?_)
            refine pure_ (i := 0) (N := some 63) (v := ?_) (a' := ?_) #[true, false, false, false, false, false, false, false, false, false, false, false, false, false] rfl rfl (by kernel_rfl) (fun _ _ _ h => h) (Or.inl ⟨by rfl, ?_⟩) ?_ ?_
            rotate_left
            · intro w'
              go_simp
              with_reducible rfl
            rotate_left
            · simp only [Act.put, List.setIfInBounds_toArray, List.set_cons_zero, List.set_cons_succ, i64_w, i32_w]
              rfl
            refine pure_ (i := 2) (N := some 65) (v := ?_) (a' := ?_) #[true, false, true, false, false, false, false, false, false, false, false, false, false, false] rfl rfl (by kernel_rfl) (fun _ _ _ h => h) (Or.inl ⟨by rfl, ?_⟩) ?_ ?_
            rotate_left
            · intro w'
              go_simp
              with_reducible rfl
            rotate_left
            · simp only [Act.put, List.setIfInBounds_toArray, List.set_cons_zero, List.set_cons_succ, i64_w, i32_w]
              rfl
            refine pure_ (i := 4) (N := some 67) (v := ?_) (a' := ?_) #[true, false, true, false, true, false, false, false, false, false, false, false, false, false] rfl rfl (by kernel_rfl) (fun _ _ _ h => h) (Or.inl ⟨by rfl, ?_⟩) ?_ ?_
            rotate_left
            · intro w'
              go_simp
              with_reducible rfl
            rotate_left
            · simp only [Act.put, List.setIfInBounds_toArray, List.set_cons_zero, List.set_cons_succ, i64_w, i32_w]
              rfl
            refine pure_ (i := 9) (N := some 72) (v := ?_) (a' := ?_) #[true, false, true, false, true, false, false, false, false, true, false, false, false, false] rfl rfl (by kernel_rfl) (fun _ _ _ h => h) (Or.inl ⟨by rfl, ?_⟩) ?_ ?_
            rotate_left
            · intro w'
              go_simp
              with_reducible rfl
            rotate_left
            · simp only [Act.put, List.setIfInBounds_toArray, List.set_cons_zero, List.set_cons_succ, i64_w, i32_w]
              rfl
            refine pure_ (i := 10) (N := some 73) (v := ?_) (a' := ?_) #[true, false, true, false, true, false, false, false, false, true, true, false, false, false] rfl rfl (by kernel_rfl) (fun _ _ _ h => h) (Or.inl ⟨by rfl, ?_⟩) ?_ ?_
            rotate_left
            · intro w'
              go_simp
              with_reducible rfl
            rotate_left
            · simp only [Act.put, List.setIfInBounds_toArray, List.set_cons_zero, List.set_cons_succ, i64_w, i32_w]
              rfl
            refine take_ (i := 1) (N := some 64) (v := ?_) (a' := ?_) #[true, true, true, false, true, false, false, false, false, true, true, false, false, false] rfl rfl (by kernel_rfl) (fun _ _ _ h => h) (Or.inl ⟨by rfl, ?_⟩) hHeld ?_ ?_
            rotate_left
            · rintro w' ⟨s0, s1, s2, s3, s4, s5⟩
              go_simp
              with_reducible rfl
            rotate_left
            · simp only [Act.put, List.setIfInBounds_toArray, List.set_cons_zero, List.set_cons_succ, i64_w, i32_w]
              rfl
            refine take_ (i := 3) (N := some 66) (v := ?_) (a' := ?_) #[true, true, true, true, true, false, false, false, false, true, true, false, false, false] rfl rfl (by kernel_rfl) (fun _ _ _ h => h) (Or.inl ⟨by rfl, ?_⟩) hHeld ?_ ?_
            rotate_left
            · rintro w' ⟨s0, s1, s2, s3, s4, s5⟩
              go_simp
              with_reducible rfl
            rotate_left
            · simp only [Act.put, List.setIfInBounds_toArray, List.set_cons_zero, List.set_cons_succ, i64_w, i32_w]
              rfl
            refine pure_ (i := 5) (N := some 68) (v := ?_) (a' := ?_) #[true, true, true, true, true, true, false, false, false, true, true, false, false, false] rfl rfl (by kernel_rfl) (fun _ _ _ h => h) (Or.inl ⟨by rfl, ?_⟩) ?_ ?_
            rotate_left
            · intro w'
              go_simp
              with_reducible rfl
            rotate_left
            · simp only [Act.put, List.setIfInBounds_toArray, List.set_cons_zero, List.set_cons_succ, i64_w, i32_w]
              rfl
            refine pure_ (i := 6) (N := some 69) (v := ?_) (a' := ?_) #[true, true, true, true, true, true, true, false, false, true, true, false, false, false] rfl rfl (by kernel_rfl) (fun _ _ _ h => h) (Or.inl ⟨by rfl, ?_⟩) ?_ ?_
            rotate_left
            · intro w'
              go_simp
              with_reducible rfl
            rotate_left
            · simp only [Act.put, List.setIfInBounds_toArray, List.set_cons_zero, List.set_cons_succ, i64_w, i32_w]
              rfl
            refine take_ (i := 7) (N := some 70) (v := ?_) (a' := ?_) #[true, true, true, true, true, true, true, true, false, true, true, false, false, false] rfl rfl (by kernel_rfl) (fun _ _ _ h => h) (Or.inl ⟨by rfl, ?_⟩) hHeld ?_ ?_
            rotate_left
            · rintro w' ⟨s0, s1, s2, s3, s4, s5⟩
              go_simp
              with_reducible rfl
            rotate_left
            · simp only [Act.put, List.setIfInBounds_toArray, List.set_cons_zero, List.set_cons_succ, i64_w, i32_w]
              rfl
            refine one_ (i := 8) (N := some 71) #[true, true, true, true, true, true, true, true, true, true, true, false, false, false] rfl rfl (by kernel_rfl) (by decide) (fun K hK => ?_)
            refine value_ (w1 := ?_) (v := ?_) (by rfl) rfl ?_ ?_
            rotate_left 2
            · go_simp
              constructor
              · rfl
              · rfl
            have hal := below_alloc (Below.refl wq.drew.heap.size wq.drew) (.cells #[.int .i64 x.f0, .int .i64 x.f1, .int .i64 x.f2, .string x.f3, .slice B4 x.f4.length d4] 53)
            have XA := Lib.hid (blk_below XQ.out hal)
            have BA := Lib.hid (below_step BQ.out hal)
            have C1 := Lib.hid (C_one (d := k53) (blk_new wq.drew (.cells #[.int .i64 x.f0, .int .i64 x.f1, .int .i64 x.f2, .string x.f3, .slice B4 x.f4.length d4] 53)) (k53_mk _ x hc5 (Kd.C_below HC5.out (below_step BW.out hal))) rfl)
            have g0 := (hal.cell (World.block_lt_of_cell? _ _ f0)).trans f0
            have g1 := (hal.cell (World.block_lt_of_cell? _ _ f1)).trans f1
            have g2 := (hal.cell (World.block_lt_of_cell? _ _ f2)).trans f2
            have g3 := (hal.cell (World.block_lt_of_cell? _ _ f3)).trans f3
            have g4 := (hal.cell (World.block_lt_of_cell? _ _ f4)).trans f4
            clear hal
            refine hK.out _ _ ⟨blk_cell (XA.out) 6, g0, g1, g2, g3, g4⟩ (fun hHeld => ?_)
            clear hK K
            refine norm_ (a' := ?_) ?_ ?_
            rotate_left
            · show Act.put _ (some 71) _ = _
              simp only [Act.put, List.setIfInBounds_toArray, List.set_cons_zero, List.set_cons_succ, i64_w, i32_w]
              rfl
            refine one_ (i := 11) (N := some 74) #[true, true, true, true, true, true, true, true, true, true, true, true, false, false] rfl rfl (by kernel_rfl) (by decide) (fun K hK => ?_)
            refine call_ 44 #[.agg #[], .slice (some ⟨wq.heap.size, 0, none⟩) 1 1, .int .i64 (wrap64 (left - 1))] (by rfl) rfl (by go_simp) ?_
            refine (deep_any _ _ [x] (Nat.le_refl _) (some ⟨wq.heap.size, 0, none⟩) 1 (wrap64 (left - 1)) _ (Below.refl _ _) C1.out (Nat.le_refl _) hx1).mono ?_
            rintro e w15 ⟨v15, rfl, hd⟩
            refine ⟨_, rfl, ?_⟩
            have XN := Lib.hid (blk_below XA.out hd)
            have BN := Lib.hid (below_step BA.out hd)
            refine hK.out _ _ ⟨blk_cell (XN.out) 6, (hd.cell (World.block_lt_of_cell? _ _ g0)).trans g0, (hd.cell (World.block_lt_of_cell? _ _ g1)).trans g1, (hd.cell (World.block_lt_of_cell? _ _ g2)).trans g2, (hd.cell (World.block_lt_of_cell? _ _ g3)).trans g3, (hd.cell (World.block_lt_of_cell? _ _ g4)).trans g4⟩ (fun hHeld => ?_)
            clear hK K
            refine norm_ (a' := ?_) ?_ ?_
            rotate_left
            · show Act.put _ (some 74) _ = _
              simp only [Act.put, List.setIfInBounds_toArray, List.set_cons_zero, List.set_cons_succ, i64_w, i32_w]
              rfl
            refine pure_ (i := 12) (N := some 75) (v := ?_) (a' := ?_) #[true, true, true, true, true, true, true, true, true, true, true, true, true, false] rfl rfl (by kernel_rfl) (fun _ _ _ h => h) (Or.inl ⟨by rfl, ?_⟩) ?_ ?_
            rotate_left
            · intro w'
              go_simp
              with_reducible rfl
            rotate_left
            · simp only [Act.put, List.setIfInBounds_toArray, List.set_cons_zero, List.set_cons_succ, i64_w, i32_w]
              rfl
            refine pure_ (i := 13) (N := some 7) (v := ?_) (a' := ?_) #[true, true, true, true, true, true, true, true, true, true, true, true, true, true] rfl rfl (by kernel_rfl) (fun _ _ _ h => h) (Or.inl ⟨by rfl, ?_⟩) ?_ ?_
            rotate_left
            · intro w'
              go_simp
              with_reducible rfl
            rotate_left
            · simp only [Act.put, List.setIfInBounds_toArray, List.set_cons_zero, List.set_cons_succ, i64_w, i32_w]
              rfl
            refine done_ (by kernel_rfl) ?_
            clear f0 f1 f2 f3 f4
            clear g0 g1 g2 g3 g4 XA BA C1
            generalize (if m < v15 then v15 else m) = m1
            have BQ2 := Lib.hid (below_drew1 BN.out)
            have XQ2 := Lib.hid (blk_below XB3.out BQ2.out)
            have BW2 := Lib.hid (below_step BW3.out BQ2.out)
            clear XQ BQ BW XN BN
            have XQ := Lib.hid XQ2.out
            have BQ := Lib.hid BQ2.out
            have BW := Lib.hid BW2.out
            clear XQ2 BQ2 BW2
            obtain ⟨_, _, _, _, _, u5, _, _, _, _, _, _, _, _, _⟩ := HU.out
            have f5 := (BW.out.cell (World.block_lt_of_cell? w0 _ u5)).trans u5
            clear u5
            go_upto_region 16 with fail
            refine start_ (n := 13) (S := fun w' => w'.cell? ⟨gb, 6, none⟩ = some (.slice (some ad) ps.length c4) ∧ w'.cell? ⟨(ad.add (i * 15)).block, (ad.add (i * 15)).off + 5, none⟩ = some (.slice B5 0 d5)) (ds := []) #[false, false, false, false, false, false, false, false, false, false, false, false, false] (by kernel_rfl) rfl rfl ⟨blk_cell (XQ.out) 6, f5⟩ (fun hHeld => ?_)
            refine pure_ (i := 0) (N := some 76) (v := ?_) (a' := ?_) #[true, false, false, false, false, false, false, false, false, false, false, false, false] rfl rfl (by kernel_rfl) (fun _ _ _ h => h) (Or.inl ⟨by rfl, ?_⟩) ?_ ?_
            rotate_left
            · intro w'
              go_simp
              with_reducible rfl
            rotate_left
            · simp only [Act.put, List.setIfInBounds_toArray, List.set_cons_zero, List.set_cons_succ, i64_w, i32_w]
              rfl
            refine pure_ (i := 2) (N := some 78) (v := ?_) (a' := ?_) #[true, false, true, false, false, false, false, false, false, false, false, false, false] rfl rfl (by kernel_rfl) (fun _ _ _ h => h) (Or.inl ⟨by rfl, ?_⟩) ?_ ?_
            rotate_left
            · intro w'
              go_simp
              with_reducible rfl
            rotate_left
            · simp only [Act.put, List.setIfInBounds_toArray, List.set_cons_zero, List.set_cons_succ, i64_w, i32_w]
              rfl
            refine pure_ (i := 4) (N := some 80) (v := ?_) (a' := ?_) #[true, false, true, false, true, false, false, false, false, false, false, false, false] rfl rfl (by kernel_rfl) (fun _ _ _ h => h) (Or.inl ⟨by rfl, ?_⟩) ?_ ?_
            rotate_left
            · intro w'
              go_simp
              with_reducible rfl
            rotate_left
            · simp only [Act.put, List.setIfInBounds_toArray, List.set_cons_zero, List.set_cons_succ, i64_w, i32_w]
              rfl
            refine pure_ (i := 8) (N := some 84) (v := ?_) (a' := ?_) #[true, false, true, false, true, false, false, false, true, false, false, false, false] rfl rfl (by kernel_rfl) (fun _ _ _ h => h) (Or.inl ⟨by rfl, ?_⟩) ?_ ?_
            rotate_left
            · intro w'
              go_simp
              with_reducible rfl
            rotate_left
            · simp only [Act.put, List.setIfInBounds_toArray, List.set_cons_zero, List.set_cons_succ, i64_w, i32_w]
              rfl
            refine pure_ (i := 9) (N := some 85) (v := ?_) (a' := ?_) #[true, false, true, false, true, false, false, false, true, true, false, false, false] rfl rfl (by kernel_rfl) (fun _ _ _ h => h) (Or.inl ⟨by rfl, ?_⟩) ?_ ?_
            rotate_left
            · intro w'
              go_simp
              with_reducible rfl
            rotate_left
            · simp only [Act.put, List.setIfInBounds_toArray, List.set_cons_zero, List.set_cons_succ, i64_w, i32_w]
              rfl
            refine take_ (i := 1) (N := some 77) (v := ?_) (a' := ?_) #[true, true, true, false, true, false, false, false, true, true, false, false, false] rfl rfl (by kernel_rfl) (fun _ _ _ h => h) (Or.inl ⟨by rfl, ?_⟩) hHeld ?_ ?_
            rotate_left
            · rintro w' ⟨s0, s1⟩
              go_simp
              with_reducible rfl
            rotate_left
            · simp only [Act.put, List.setIfInBounds_toArray, List.set_cons_zero, List.set_cons_succ, i64_w, i32_w]
              rfl
            refine take_ (i := 3) (N := some 79) (v := ?_) (a' := ?_) #[true, true, true, true, true, false, false, false, true, true, false, false, false] rfl rfl (by kernel_rfl) (fun _ _ _ h => h) (Or.inl ⟨by rfl, ?_⟩) hHeld ?_ ?_
            rotate_left
            · rintro w' ⟨s0, s1⟩
              go_simp
              with_reducible rfl
            rotate_left
            · simp only [Act.put, List.setIfInBounds_toArray, List.set_cons_zero, List.set_cons_succ, i64_w, i32_w]
              rfl
            refine pure_ (i := 5) (N := some 81) (v := ?_) (a' := ?_) #[true, true, true, true, true, true, false, false, true, true, false, false, false] rfl rfl (by kernel_rfl) (fun _ _ _ h => h) (Or.inl ⟨by rfl, ?_⟩) ?_ ?_
            rotate_left
            · intro w'
              go_simp
              with_reducible rfl
            rotate_left
            · simp only [Act.put, List.setIfInBounds_toArray, List.set_cons_zero, List.set_cons_succ, i64_w, i32_w]
              rfl
            refine pure_ (i := 6) (N := some 82) (v := ?_) (a' := ?_) #[true, true, true, true, true, true, true, false, true, true, false, false, false] rfl rfl (by kernel_rfl) (fun _ _ _ h => h) (Or.inl ⟨by rfl, ?_⟩) ?_ ?_
            rotate_left
            · intro w'
              go_simp
              with_reducible rfl
            rotate_left
            · simp only [Act.put, List.setIfInBounds_toArray, List.set_cons_zero, List.set_cons_succ, i64_w, i32_w]
              rfl
            refine take_ (i := 7) (N := some 83) (v := ?_) (a' := ?_) #[true, true, true, true, true, true, true, true, true, true, false, false, false] rfl rfl (by kernel_rfl) (fun _ _ _ h => h) (Or.inl ⟨by rfl, ?_⟩) hHeld ?_ ?_
            rotate_left
            · rintro w' ⟨s0, s1⟩
              go_simp
              with_reducible rfl
            rotate_left
            · simp only [Act.put, List.setIfInBounds_toArray, List.set_cons_zero, List.set_cons_succ, i64_w, i32_w]
              rfl
            refine one_ (i := 10) (N := some 86) #[true, true, true, true, true, true, true, true, true, true, true, false, false] rfl rfl (by kernel_rfl) (by decide) (fun K hK => ?_)
            refine call_ 37 #[.agg #[], .slice B5 0 d5, .int .i64 (wrap64 (left - 1))] (by rfl) rfl (by go_simp) ?_
            refine (deepE_nil _ B5 d5 (wrap64 (left - 1))).mono ?_
            rintro e w16 ⟨v16, rfl, hd⟩
            refine ⟨_, rfl, ?_⟩
            have XN := Lib.hid (blk_below XQ.out hd)
            have BN := Lib.hid (below_step BQ.out hd)
            refine hK.out _ _ ⟨blk_cell (XN.out) 6, (hd.cell (World.block_lt_of_cell? _ _ f5)).trans f5⟩ (fun hHeld => ?_)
            clear hK K
            refine norm_ (a' := ?_) ?_ ?_
            rotate_left
            · show Act.put _ (some 86) _ = _
              simp only [Act.put, List.setIfInBounds_toArray, List.set_cons_zero, List.set_cons_succ, i64_w, i32_w]
              rfl
            refine pure_ (i := 11) (N := some 87) (v := ?_) (a' := ?_) #[true, true, true, true, true, true, true, true, true, true, true, true, false] rfl rfl (by kernel_rfl) (fun _ _ _ h => h) (Or.inl ⟨by rfl, ?_⟩) ?_ ?_
            rotate_left
            · intro w'
              go_simp
              with_reducible rfl
            rotate_left
            · simp only [Act.put, List.setIfInBounds_toArray, List.set_cons_zero, List.set_cons_succ, i64_w, i32_w]
              rfl
            refine pure_ (i := 12) (N := some 7) (v := ?_) (a' := ?_) #[true, true, true, true, true, true, true, true, true, true, true, true, true] rfl rfl (by kernel_rfl) (fun _ _ _ h => h) (Or.inl ⟨by rfl, ?_⟩) ?_ ?_
            rotate_left
            · intro w'
              go_simp
              with_reducible rfl
            rotate_left
            · simp only [Act.put, List.setIfInBounds_toArray, List.set_cons_zero, List.set_cons_succ, i64_w, i32_w]
              rfl
            refine done_ (by kernel_rfl) ?_
            clear f5
            generalize (if m1 < v16 then v16 else m1) = m2
            have BQ2 := Lib.hid (below_drew1 BN.out)
            have XQ2 := Lib.hid (blk_below XB3.out BQ2.out)
            have BW2 := Lib.hid (below_step BW3.out BQ2.out)
            clear XQ BQ BW XN BN
            have XQ := Lib.hid XQ2.out
            have BQ := Lib.hid BQ2.out
            have BW := Lib.hid BW2.out
            clear XQ2 BQ2 BW2
            obtain ⟨_, _, _, _, _, _, u6, u7, u8, u9, u10, u11, u12, u13, u14⟩ := HU.out
            have f6 := (BW.out.cell (World.block_lt_of_cell? w0 _ u6)).trans u6
            have f7 := (BW.out.cell (World.block_lt_of_cell? w0 _ u7)).trans u7
            have f8 := (BW.out.cell (World.block_lt_of_cell? w0 _ u8)).trans u8
            have f9 := (BW.out.cell (World.block_lt_of_cell? w0 _ u9)).trans u9
            have f10 := (BW.out.cell (World.block_lt_of_cell? w0 _ u10)).trans u10
            have f11 := (BW.out.cell (World.block_lt_of_cell? w0 _ u11)).trans u11
            have f12 := (BW.out.cell (World.block_lt_of_cell? w0 _ u12)).trans u12
            have f13 := (BW.out.cell (World.block_lt_of_cell? w0 _ u13)).trans u13
            have f14 := (BW.out.cell (World.block_lt_of_cell? w0 _ u14)).trans u14
            clear u6 u7 u8 u9 u10 u11 u12 u13 u14
            go_upto_region 17 with fail
            refine start_ (n := 13) (S := fun w' => w'.cell? ⟨gb, 6, none⟩ = some (.slice (some ad) ps.length c4) ∧ w'.cell? ⟨(ad.add (i * 15)).block, (ad.add (i * 15)).off + 6, none⟩ = some (.slice B6 0 d6) ∧ w'.cell? ⟨(ad.add (i * 15)).block, (ad.add (i * 15)).off + 7, none⟩ = some (.int .i64 0) ∧ w'.cell? ⟨(ad.add (i * 15)).block, (ad.add (i * 15)).off + 8, none⟩ = some (.int .i64 0) ∧ w'.cell? ⟨(ad.add (i * 15)).block, (ad.add (i * 15)).off + 9, none⟩ = some (.string ⟨#[]⟩) ∧ w'.cell? ⟨(ad.add (i * 15)).block, (ad.add (i * 15)).off + 10, none⟩ = some (.slice B7 0 d7) ∧ w'.cell? ⟨(ad.add (i * 15)).block, (ad.add (i * 15)).off + 11, none⟩ = some (.slice B8 0 d8) ∧ w'.cell? ⟨(ad.add (i * 15)).block, (ad.add (i * 15)).off + 12, none⟩ = some (.slice B9 0 d9) ∧ w'.cell? ⟨(ad.add (i * 15)).block, (ad.add (i * 15)).off + 13, none⟩ = some (.bool false) ∧ w'.cell? ⟨(ad.add (i * 15)).block, (ad.add (i * 15)).off + 14, none⟩ = some (.int .i64 0)) (ds := []) #[false, false, false, false, false, false, false, false, false, false, false, false, false] (by kernel_rfl) rfl rfl ⟨blk_cell (XQ.out) 6, f6, f7, f8, f9, f10, f11, f12, f13, f14⟩ (fun hHeld => ?_)
            refine pure_ (i := 0) (N := some 88) (v := ?_) (a' := ?_) #[true, false, false, false, false, false, false, false, false, false, false, false, false] rfl rfl (by kernel_rfl) (fun _ _ _ h => h) (Or.inl ⟨by rfl, ?_⟩) ?_ ?_
            rotate_left
            · intro w'
              go_simp
              with_reducible rfl
            rotate_left
            · simp only [Act.put, List.setIfInBounds_toArray, List.set_cons_zero, List.set_cons_succ, i64_w, i32_w]
              rfl
            refine pure_ (i := 2) (N := some 90) (v := ?_) (a' := ?_) #[true, false, true, false, false, false, false, false, false, false, false, false, false] rfl rfl (by kernel_rfl) (fun _ _ _ h => h) (Or.inl ⟨by rfl, ?_⟩) ?_ ?_
            rotate_left
            · intro w'
              go_simp
              with_reducible rfl
            rotate_left
            · simp only [Act.put, List.setIfInBounds_toArray, List.set_cons_zero, List.set_cons_succ, i64_w, i32_w]
              rfl
            refine pure_ (i := 4) (N := some 92) (v := ?_) (a' := ?_) #[true, false, true, false, true, false, false, false, false, false, false, false, false] rfl rfl (by kernel_rfl) (fun _ _ _ h => h) (Or.inl ⟨by rfl, ?_⟩) ?_ ?_
            rotate_left
            · intro w'
              go_simp
              with_reducible rfl
            rotate_left
            · simp only [Act.put, List.setIfInBounds_toArray, List.set_cons_zero, List.set_cons_succ, i64_w, i32_w]
              rfl
            refine pure_ (i := 8) (N := some 96) (v := ?_) (a' := ?_) #[true, false, true, false, true, false, false, false, true, false, false, false, false] rfl rfl (by kernel_rfl) (fun _ _ _ h => h) (Or.inl ⟨by rfl, ?_⟩) ?_ ?_
            rotate_left
            · intro w'
              go_simp
              with_reducible rfl
            rotate_left
            · simp only [Act.put, List.setIfInBounds_toArray, List.set_cons_zero, List.set_cons_succ, i64_w, i32_w]
              rfl
            refine pure_ (i := 9) (N := some 97) (v := ?_) (a' := ?_) #[true, false, true, false, true, false, false, false, true, true, false, false, false] rfl rfl (by kernel_rfl) (fun _ _ _ h => h) (Or.inl ⟨by rfl, ?_⟩) ?_ ?_
            rotate_left
            · intro w'
              go_simp
              with_reducible rfl
            rotate_left
            · simp only [Act.put, List.setIfInBounds_toArray, List.set_cons_zero, List.set_cons_succ, i64_w, i32_w]
              rfl
            refine take_ (i := 1) (N := some 89) (v := ?_) (a' := ?_) #[true, true, true, false, true, false, false, false, true, true, false, false, false] rfl rfl (by kernel_rfl) (fun _ _ _ h => h) (Or.inl ⟨by rfl, ?_⟩) hHeld ?_ ?_
            rotate_left
            · rintro w' ⟨s0, s1, s2, s3, s4, s5, s6, s7, s8, s9⟩
              go_simp
              with_reducible rfl
            rotate_left
            · simp only [Act.put, List.setIfInBounds_toArray, List.set_cons_zero, List.set_cons_succ, i64_w, i32_w]
              rfl
            refine take_ (i := 3) (N := some 91) (v := ?_) (a' := ?_) #[true, true, true, true, true, false, false, false, true, true, false, false, false] rfl rfl (by kernel_rfl) (fun _ _ _ h => h) (Or.inl ⟨by rfl, ?_⟩) hHeld ?_ ?_
            rotate_left
            · rintro w' ⟨s0, s1, s2, s3, s4, s5, s6, s7, s8, s9⟩
              go_simp
              with_reducible rfl
            rotate_left
            · simp only [Act.put, List.setIfInBounds_toArray, List.set_cons_zero, List.set_cons_succ, i64_w, i32_w]
              rfl
            refine pure_ (i := 5) (N := some 93) (v := ?_) (a' := ?_) #[true, true, true, true, true, true, false, false, true, true, false, false, false] rfl rfl (by kernel_rfl) (fun _ _ _ h => h) (Or.inl ⟨by rfl, ?_⟩) ?_ ?_
            rotate_left
            · intro w'
              go_simp
              with_reducible rfl
            rotate_left
            · simp only [Act.put, List.setIfInBounds_toArray, List.set_cons_zero, List.set_cons_succ, i64_w, i32_w]
              rfl
            refine pure_ (i := 6) (N := some 94) (v := ?_) (a' := ?_) #[true, true, true, true, true, true, true, false, true, true, false, false, false] rfl rfl (by kernel_rfl) (fun _ _ _ h => h) (Or.inl ⟨by rfl, ?_⟩) ?_ ?_
            rotate_left
            · intro w'
              go_simp
              with_reducible rfl
            rotate_left
            · simp only [Act.put, List.setIfInBounds_toArray, List.set_cons_zero, List.set_cons_succ, i64_w, i32_w]
              rfl
            refine take_ (i := 7) (N := some 95) (v := ?_) (a' := ?_) #[true, true, true, true, true, true, true, true, true, true, false, false, false] rfl rfl (by kernel_rfl) (fun _ _ _ h => h) (Or.inl ⟨by rfl, ?_⟩) hHeld ?_ ?_
            rotate_left
            · rintro w' ⟨s0, s1, s2, s3, s4, s5, s6, s7, s8, s9⟩
              go_simp
              with_reducible rfl
            rotate_left
            · simp only [Act.put, List.setIfInBounds_toArray, List.set_cons_zero, List.set_cons_succ, i64_w, i32_w]
              rfl
            refine one_ (i := 10) (N := some 98) #[true, true, true, true, true, true, true, true, true, true, true, false, false] rfl rfl (by kernel_rfl) (by decide) (fun K hK => ?_)
            refine call_ 38 #[.agg #[], .agg #[.slice B6 0 d6, .int .i64 0, .int .i64 0, .string ⟨#[]⟩, .slice B7 0 d7, .slice B8 0 d8, .slice B9 0 d9, .bool false, .int .i64 0], .int .i64 (wrap64 (left - 1))] (by rfl) rfl (by go_simp) ?_
            refine (hbody B6 d6 0 0 ⟨#[]⟩ B7 d7 B8 d8 B9 d9 false 0 (wrap64 (left - 1)) _ BW.out ⟨rfl, by simp, fun h => absurd h (Nat.lt_irrefl 0)⟩ (Nat.zero_le _) (Nat.zero_le _)).mono ?_
            rintro e w17 ⟨v17, rfl, hd⟩
            refine ⟨_, rfl, ?_⟩
            have XN := Lib.hid (blk_below XQ.out hd)
            have BN := Lib.hid (below_step BQ.out hd)
            refine hK.out _ _ ⟨blk_cell (XN.out) 6, (hd.cell (World.block_lt_of_cell? _ _ f6)).trans f6, (hd.cell (World.block_lt_of_cell? _ _ f7)).trans f7, (hd.cell (World.block_lt_of_cell? _ _ f8)).trans f8, (hd.cell (World.block_lt_of_cell? _ _ f9)).trans f9, (hd.cell (World.block_lt_of_cell? _ _ f10)).trans f10, (hd.cell (World.block_lt_of_cell? _ _ f11)).trans f11, (hd.cell (World.block_lt_of_cell? _ _ f12)).trans f12, (hd.cell (World.block_lt_of_cell? _ _ f13)).trans f13, (hd.cell (World.block_lt_of_cell? _ _ f14)).trans f14⟩ (fun hHeld => ?_)
            clear hK K
            refine norm_ (a' := ?_) ?_ ?_
            rotate_left
            · show Act.put _ (some 98) _ = _
              simp only [Act.put, List.setIfInBounds_toArray, List.set_cons_zero, List.set_cons_succ, i64_w, i32_w]
              rfl
            refine pure_ (i := 11) (N := some 99) (v := ?_) (a' := ?_) #[true, true, true, true, true, true, true, true, true, true, true, true, false] rfl rfl (by kernel_rfl) (fun _ _ _ h => h) (Or.inl ⟨by rfl, ?_⟩) ?_ ?_
            rotate_left
            · intro w'
              go_simp
              with_reducible rfl
            rotate_left
            · simp only [Act.put, List.setIfInBounds_toArray, List.set_cons_zero, List.set_cons_succ, i64_w, i32_w]
              rfl
            refine pure_ (i := 12) (N := some 7) (v := ?_) (a' := ?_) #[true, true, true, true, true, true, true, true, true, true, true, true, true] rfl rfl (by kernel_rfl) (fun _ _ _ h => h) (Or.inl ⟨by rfl, ?_⟩) ?_ ?_
            rotate_left
            · intro w'
              go_simp
              with_reducible rfl
            rotate_left
            · simp only [Act.put, List.setIfInBounds_toArray, List.set_cons_zero, List.set_cons_succ, i64_w, i32_w]
              rfl
            refine done_ (by kernel_rfl) ?_
            clear f6 f7 f8 f9 f10 f11 f12 f13 f14
            generalize (if m2 < v17 then v17 else m2) = m3
            go_wp2
            go_roundw
            case rel => exact ⟨i + 1, m3, by go_num, rfl, hlt, BN⟩
            case measure => simp [intOf]; omega
          · obtain rfl : i = ps.length := by omega
            have k6 := blk_cell (blk_below XB3.out HK.out) 6
            go_wp2
            go_ret
            exact ⟨_, rfl, below_step B1.out (below_step B3.out HK.out)⟩
theorem dbody_any (w0 : World) (ps : List S53) : DBodyC w0 ps := dbody_ok w0 ps fun _ => dbody_ok w0 [] fun h => absurd rfl h
end Go.Proofs.Ytelheeekbihfcaa.Pt
end
section
/- The law's light: that it comes back. -/
set_option linter.unusedVariables false
set_option linter.unusedSimpArgs false
namespace Go.Proofs.Ytelheeekbihfcaa.Pt
open Go.RowKit Go.Proofs Go.Proofs.Ytelheeekbihfcaa.PPatternFirst Go.Proofs.YtelheeekbihfcaaW.PrintWords Go.Proofs.YtelheeekbihfcaaW.PrintMore Go.Proofs.YtelheeekbihfcaaW.PrintLast
set_option maxRecDepth 100000 in
set_option maxHeartbeats 8000000 in
theorem depth_ok (ps : List S53) (D : Nat) (A4 : Option Addr) (c4 : Nat) (w : World) (hD : w.heap[D]? = some (.cells (defB A4 ps.length c4) 66 (0, 0))) (hC : Kd.C kArm w A4 ps.length ps) (hc4 : ps.length ≤ c4) (hnp : nodesL ps ≤ 1000000) :
    Calls Try.prog 30 #[.agg #[.slice (some ⟨D, 0, none⟩) 1 1, .int .i64 0, .string ⟨#[]⟩, .slice none 0 0]] w (Num w) := by
  have HC := Lib.hid hC
  have HD := Lib.hid hD
  clear hC hD
  go_enter Try.func30, Try.ntmps30
  have hbl1 := below_alloc (Below.refl _ w) (.cells #[.slice (some ⟨D, 0, none⟩) 1 1, .int .i64 0, .string ⟨#[]⟩, .slice none 0 0] 69)
  have XB := Lib.hid (blk_new w (.cells #[.slice (some ⟨D, 0, none⟩) 1 1, .int .i64 0, .string ⟨#[]⟩, .slice none 0 0] 69))
  have B1 := Lib.hid hbl1
  clear hbl1
  go_upto_region 1 with fail
  generalize w.alloc (.cells #[.slice (some ⟨D, 0, none⟩) 1 1, .int .i64 0, .string ⟨#[]⟩, .slice none 0 0] 69) = W1 at *
  generalize hgb : w.heap.size = gb at *
  have k3 := blk_cell XB.out 3
  go_upto_region 2 with (go_at_call 37; refine (deepE_nil _ none 0 65).mono ?_; rintro e w3 ⟨v3, rfl, hd⟩; have B3 := Lib.hid (below_step (show Below w.heap.size w W1 by rw [hgb]; exact B1.out) hd); have XB3 := Lib.hid (blk_below XB.out hd); clear hd)
  clear k3
  go_wp2
  go_loopw [4, 3] (fun v4 v3 wr => ∃ (i : Nat) (m : Int), v4 = .int .i64 i ∧ v3 = .int .i64 m ∧ i ≤ 1 ∧ Hid (Below w3.heap.size w3 wr)) (fun v4 _ _ => 1 - (intOf v4).toNat)
  case atStart => exact ⟨0, _, by go_num, rfl, Nat.zero_le _, Lib.hid (Below.refl _ _)⟩
  case round =>
    obtain ⟨i, m, rfl, rfl, hi, HK⟩ := hrel
    obtain ⟨wq, hwq⟩ : ∃ wq, wq = wr := ⟨_, rfl⟩
    subst hwq
    have k0 := blk_cell (blk_below XB3.out HK.out) 0
    by_cases hlt : i < 1
    · obtain rfl : i = 0 := by omega
      have BQ := Lib.hid (below_step B3.out HK.out)
      have D2 := Lib.hid ((BQ.out.block D (blk_lt HD.out)).trans HD.out)
      have e3 : wq.cell? ⟨D, 3, none⟩ = some (.slice none 0 0) := blk_cell D2.out 3
      have e4 : wq.cell? ⟨D, 4, none⟩ = some (.int .i64 0) := blk_cell D2.out 4
      have e5 : wq.cell? ⟨D, 5, none⟩ = some (.int .i64 0) := blk_cell D2.out 5
      have e6 : wq.cell? ⟨D, 6, none⟩ = some (.string ⟨#[]⟩) := blk_cell D2.out 6
      have e7 : wq.cell? ⟨D, 7, none⟩ = some (.slice none 0 0) := blk_cell D2.out 7
      have e8 : wq.cell? ⟨D, 8, none⟩ = some (.slice none 0 0) := blk_cell D2.out 8
      have e9 : wq.cell? ⟨D, 9, none⟩ = some (.slice A4 ps.length c4) := blk_cell D2.out 9
      have e10 : wq.cell? ⟨D, 10, none⟩ = some (.bool false) := blk_cell D2.out 10
      have e11 : wq.cell? ⟨D, 11, none⟩ = some (.int .i64 0) := blk_cell D2.out 11
      go_upto_region 4 with (go_at_call 38; refine (dbody_any w ps none 0 0 0 ⟨#[]⟩ none 0 none 0 A4 c4 false 0 65 _ BQ.out HC.out hc4 hnp).mono ?_; rintro e w5 ⟨v5, rfl, hk⟩; have K5 := Lib.hid (below_step HK.out hk); clear hk)
      generalize (if m < v5 then v5 else m) = m1
      clear k0 e3 e4 e5 e6 e7 e8 e9 e10 e11
      go_wp2
      go_roundw
      case rel => exact ⟨1, m1, by go_num, rfl, Nat.le_refl _, K5⟩
      case measure => simp [intOf]
    · obtain rfl : i = 1 := by omega
      go_wp2
      go_ret
      exact ⟨_, rfl, below_step B3.out HK.out⟩
/-- Yes or no came back. -/
def Bit (w : World) (e : Ending) (w' : World) : Prop := ∃ b : Bool, e = .returned (.bool b) ∧ Below w.heap.size w w'
set_option maxRecDepth 100000 in
set_option maxHeartbeats 8000000 in
theorem light12_ok (ps : List S53) (D : Nat) (A4 : Option Addr) (c4 : Nat) (w : World) (hD : w.heap[D]? = some (.cells (defB A4 ps.length c4) 66 (0, 0))) (hC : Kd.C kArm w A4 ps.length ps) (hc4 : ps.length ≤ c4) (hnp : nodesL ps ≤ 1000000) :
    Calls Try.prog 16 #[.agg #[.slice (some ⟨D, 0, none⟩) 1 1, .int .i64 0, .string ⟨#[]⟩, .slice none 0 0]] w (Bit w) := by
  have HC := Lib.hid hC
  have HD := Lib.hid hD
  clear hC hD
  go_enter Try.func16, Try.ntmps16
  have hbl1 := below_alloc (Below.refl _ w) (.cells #[.slice (some ⟨D, 0, none⟩) 1 1, .int .i64 0, .string ⟨#[]⟩, .slice none 0 0] 69)
  have XB := Lib.hid (blk_new w (.cells #[.slice (some ⟨D, 0, none⟩) 1 1, .int .i64 0, .string ⟨#[]⟩, .slice none 0 0] 69))
  have B1 := Lib.hid hbl1
  clear hbl1
  go_upto_region 1 with fail
  generalize w.alloc (.cells #[.slice (some ⟨D, 0, none⟩) 1 1, .int .i64 0, .string ⟨#[]⟩, .slice none 0 0] 69) = W1 at *
  generalize hgb : w.heap.size = gb at *
  have BW1 := Lib.hid (show Below w.heap.size w W1 by rw [hgb]; exact B1.out)
  have k0 := blk_cell XB.out 0
  have k1 := blk_cell XB.out 1
  have k2 := blk_cell XB.out 2
  have k3 := blk_cell XB.out 3
  go_wp2_with (first | (go_at_call 29; refine (size_ok ps D A4 c4 _ (blk_below HD.out BW1.out) (Kd.C_below HC.out BW1.out) hc4 hnp).mono ?_; rintro e w3 ⟨v3, rfl, hd⟩; have B3 := Lib.hid (below_step BW1.out hd); have XB3 := blk_below XB.out hd; clear hd; have j0 := blk_cell XB3 0; have j1 := blk_cell XB3 1; have j2 := blk_cell XB3 2; have j3 := blk_cell XB3 3) | (go_at_call 30; refine (depth_ok ps D A4 c4 _ (blk_below HD.out B3.out) (Kd.C_below HC.out B3.out) hc4 hnp).mono ?_; rintro e w4 ⟨v4, rfl, hd⟩; have B4 := Lib.hid (below_step B3.out hd); clear hd))
  · go_ret
    exact ⟨_, rfl, B4.out⟩
  · go_ret
    exact ⟨_, rfl, B3.out⟩
/-- Yes or no came back; yes but of a few. -/
def BitL (n : Nat) (w : World) (e : Ending) (w' : World) : Prop := ∃ b : Bool, e = .returned (.bool b) ∧ (b = true → n ≤ 30) ∧ Below w.heap.size w w'
theorem info63' : (Try.prog.info? 63).map (fun i => (i.zero, i.size, i.bytes)) = some (some (.agg #[.int .i64 0, .int .i64 0, .int .i64 0, .string ⟨#[]⟩, .slice none 0 0, .slice none 0 0, .slice none 0 0, .int .i64 0, .int .i64 0, .string ⟨#[]⟩, .slice none 0 0, .slice none 0 0, .slice none 0 0, .bool false, .int .i64 0]), 15, 232) := by kernel_rfl
set_option maxRecDepth 100000 in
set_option maxHeartbeats 8000000 in
theorem light_ok (A : Option Addr) (l : List S53) (c : Nat) (w : World) (hC : Kd.C k53 w A l.length l) (hc : l.length ≤ c) (hnp : nodesL l ≤ 1000000) :
    Calls Try.prog 5 #[.slice A l.length c] w (BitL l.length w) := by
  have hla : l.length ≤ 1000000 := by have := nodesL_le l; omega
  have HC := Lib.hid hC
  clear hC
  go_enter Try.func5, Try.ntmps5
  go_wp2
  go_loopw [8, 3] (fun v8 v3 wr => ∃ i : Nat, v8 = .int .i64 i ∧ i ≤ l.length ∧ Hid (RowK kArm 63 w wr v3 (l.take i)) ∧ Hid (Below w.heap.size w wr)) (fun v8 _ _ => l.length - (intOf v8).toNat)
  case atStart => exact ⟨0, by go_num, Nat.zero_le _, Lib.hid (RowK.nil _ _), Lib.hid (Below.refl _ _)⟩
  case round =>
    obtain ⟨i, rfl, hi, HR, HBQ⟩ := hrel
    obtain ⟨wq, hwq⟩ : ∃ wq, wq = wr := ⟨_, rfl⟩
    subst hwq
    obtain ⟨Av, cv, hv⟩ := HR.out.slice
    subst hv
    rw [List.length_take, Nat.min_eq_left hi] at HR ⊢
    by_cases hlt : i < l.length
    · have q1 : (i : Int) < (l.length : Int) := by omega
      have q0 : (0 : Int) ≤ (i : Int) := by omega
      obtain ⟨ad, A5, c5, hA4, u0, u1, u2, u3, u4, hc5, hC5⟩ := at_T53 HC.out (i : Int) q0 q1
      subst hA4
      rw [rd53 l i hlt, Int.toNat_natCast] at u0 u1 u2 u3 u4
      rw [rd53 l i hlt] at hc5 hC5
      replace u0 := (HBQ.out.cell (World.block_lt_of_cell? w _ u0)).trans u0
      replace u1 := (HBQ.out.cell (World.block_lt_of_cell? w _ u1)).trans u1
      replace u2 := (HBQ.out.cell (World.block_lt_of_cell? w _ u2)).trans u2
      replace u3 := (HBQ.out.cell (World.block_lt_of_cell? w _ u3)).trans u3
      replace u4 := (HBQ.out.cell (World.block_lt_of_cell? w _ u4)).trans u4
      have HC5 := Lib.hid hC5
      have HTK := Lib.hid (List.take_succ_eq_append_getElem hlt)
      clear hC5
      generalize l[i] = x at *
      go_upto_region 5 with fail
      have hal := below_alloc (Below.refl wq.heap.size wq) (.cells #[.int .i64 x.f0, .int .i64 x.f1, .int .i64 x.f2, .string x.f3, .slice A5 x.f4.length c5] 53)
      have XB := Lib.hid (blk_new wq (.cells #[.int .i64 x.f0, .int .i64 x.f1, .int .i64 x.f2, .string x.f3, .slice A5 x.f4.length c5] 53))
      have R2 := Lib.hid (HR.out.below hal)
      have B2 := Lib.hid (below_step HBQ.out hal)
      clear hal u0 u1 u2 u3 u4
      generalize wq.alloc (.cells #[.int .i64 x.f0, .int .i64 x.f1, .int .i64 x.f2, .string x.f3, .slice A5 x.f4.length c5] 53) = w2 at *
      generalize wq.heap.size = gx at *
      have f0 := blk_cell XB.out 0
      have f1 := blk_cell XB.out 1
      have f2 := blk_cell XB.out 2
      have f3 := blk_cell XB.out 3
      have f4 := blk_cell XB.out 4
      obtain ⟨cells, own, rep⟩ := R2.out
      rw [List.length_take, Nat.min_eq_left hi] at own
      have hbE : w.heap.size ≤ w2.heap.size := B2.out.size
      have hnl : (i + 1) * 232 ≤ 140737488355328 := by omega
      go_wp2_with ((with_reducible refine gate_builtin (b := .append) (xs := #[.tmp 12, .tmp 15]) rfl ?_); at_builtin; refine print_append_cells (w0 := w) w.heap.size (by rfl) (.tmp 12) (.tmp 15) 56 63 (.agg #[.int .i64 0, .int .i64 0, .int .i64 0, .string ⟨#[]⟩, .slice none 0 0, .slice none 0 0, .slice none 0 0, .int .i64 0, .int .i64 0, .string ⟨#[]⟩, .slice none 0 0, .slice none 0 0, .slice none 0 0, .bool false, .int .i64 0]) 15 232 rfl Try.underlying56 info63' rfl (by decide) (by decide) (.slice Av i cv) i cells [.int .i64 x.f0, .int .i64 x.f1, .int .i64 x.f2, .string x.f3, .slice A5 x.f4.length c5, .slice none 0 0, .slice none 0 0, .int .i64 0, .int .i64 0, .string ⟨#[]⟩, .slice none 0 0, .slice none 0 0, .slice none 0 0, .bool false, .int .i64 0] (by go_simp) (by rfl) rfl (by intro u hu; simp only [List.mem_cons, List.not_mem_nil, or_false] at hu; rcases hu with rfl | rfl | rfl | rfl | rfl | rfl | rfl | rfl | rfl | rfl | rfl | rfl | rfl | rfl | rfl <;> rfl) own B2.out hbE hnl ?_; intro v1 w6 ho hb hgr hat; have O6 := Lib.hid ho; have B6 := Lib.hid hb; clear ho hb hgr hat)
      have hti := HTK.out
      have NN := Lib.hid (RowK.snoc (k := kArm) (t := 63) (xs := l.take i) (x := x) (by rw [List.length_take, Nat.min_eq_left hi]; exact O6.out) rep (kArm_mk w x hc5 HC5.out) rfl)
      rw [← hti] at NN
      go_roundw
      case rel => exact ⟨i + 1, by go_num, hlt, NN, B6⟩
      case measure => simp [intOf]; omega
    · obtain rfl : i = l.length := by omega
      have HR2 := Lib.hid (show RowK kArm 63 w wq (.slice Av l.length cv) l by have := HR.out; rwa [List.take_length] at this)
      obtain ⟨_, hcv, hCA⟩ := HR2.out.reads HBQ.out
      have HCA := Lib.hid hCA
      clear hCA
      by_cases h30 : l.length ≤ 30
      · have hal := below_alloc (Below.refl wq.heap.size wq) (.cells (defB Av l.length cv) 66)
        have XD := Lib.hid (blk_new wq (.cells (defB Av l.length cv) 66))
        have C2 := Lib.hid (Kd.C_below HCA.out hal)
        have B2 := Lib.hid (below_step HBQ.out hal)
        clear hal
        unfold defB at *
        go_wp2_with (go_at_call 16; refine (light12_ok l wq.heap.size Av cv _ (by unfold defB; exact XD.out) C2.out hcv hnp).mono ?_; rintro e w3 ⟨b, rfl, hd⟩; have B3 := Lib.hid (below_step B2.out hd); clear hd)
        go_ret
        exact ⟨_, rfl, fun _ => h30, B3.out⟩
      · go_wp2
        go_ret
        exact ⟨_, rfl, (fun h => Bool.noConfusion h), HBQ.out⟩
end Go.Proofs.Ytelheeekbihfcaa.Pt
end
