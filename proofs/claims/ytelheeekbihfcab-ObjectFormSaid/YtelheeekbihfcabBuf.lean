/- Bytes that are written by and by: where they lie, and what else stays. The reference's put and round. -/
import Derived.Test.YtelheeekbihfcabPObjectReadsx0
import Derived.Lib.Hide
set_option linter.unusedVariables false
set_option linter.unusedSimpArgs false
namespace Go.Proofs.Ytelheeekbihfcab.Ob
open Go.RowKit Go.Proofs Go.Proofs.Ytelheeekbihfcab.PObjectReads Go.Proofs.YtelheeekbihfcabW.PrintWords Go.Proofs.YtelheeekbihfcabW.PrintMore

/-- The box g (of type t) has a row of the call's own: the bytes bs. -/
structure Buf (base g t : Nat) (W : World) (bs : List Int) : Prop where
  out : ∃ v, W.heap[g]? = some (.cells #[v] t (0, 0)) ∧ W.ownsRow base 5 1 v bs.length (nums .u8 bs)

/-- What may change: the box, and rows of bytes of the call's own. -/
def SB (base g : Nat) (W : World) (k : Nat) : Prop := base ≤ k ∧ (k = g ∨ ∃ cells fr, W.heap[k]? = some (.cells cells 5 fr))
structure KB (base g : Nat) (W W' : World) : Prop where
  os : W'.os = W.os
  tape : W'.tape = W.tape
  output : W'.output = W.output
  size : W.heap.size ≤ W'.heap.size
  block : ∀ k, k < W.heap.size → ¬ SB base g W k → W'.heap[k]? = W.heap[k]?
theorem KB.refl (base g : Nat) (W : World) : KB base g W W := ⟨rfl, rfl, rfl, Nat.le_refl _, fun _ _ _ => rfl⟩
theorem KB.trans {base g : Nat} {A B C : World} (h : KB base g A B) (k : KB base g B C) : KB base g A C :=
  ⟨k.os.trans h.os, k.tape.trans h.tape, k.output.trans h.output, Nat.le_trans h.size k.size, fun i hi hs => by
    have h1 := h.block i hi hs
    refine (k.block i (Nat.lt_of_lt_of_le hi h.size) (fun ⟨h2, h3⟩ => hs ⟨h2, ?_⟩)).trans h1
    rw [h1] at h3
    exact h3⟩
theorem KB.of_below {base g : Nat} {W W' : World} (h : Below W.heap.size W W') : KB base g W W' := ⟨h.os, h.tape, h.output, h.size, fun k hk _ => h.block k hk⟩
theorem KB.alloc {base g : Nat} {W W' : World} (h : KB base g W W') (o : Obj) : KB base g W (W'.alloc o) := h.trans (KB.of_below (below_alloc (Below.refl _ _) o))
theorem KB.drew {base g : Nat} {W W' : World} (h : KB base g W W') : KB base g W W'.drew := ⟨h.os, h.tape, h.output, h.size, h.block⟩
theorem KB.grown {base g n : Nat} {W W1 : World} {v : Value} {xs : List Value} (hg : W.grownBy W1 v.ownBlock) (ho : W.ownsRow base 5 1 v n xs) : KB base g W W1 :=
  ⟨hg.os, hg.tape, hg.output, hg.size, fun k hk hs => hg.block k hk (fun e => by
    obtain ⟨cells, hc⟩ := own_typed ho k e.symm
    exact hs ⟨own_base ho k e.symm, Or.inr ⟨cells, _, hc⟩⟩)⟩
theorem KB.set {base g : Nat} (W : World) (hb : base ≤ g) (j : Nat) (v : Value) : KB base g W (W.setCell ⟨g, j, none⟩ v) :=
  ⟨rfl, rfl, rfl, by simp, fun k _ hs => Below.heap_setCell W ⟨g, j, none⟩ v k (fun e => hs ⟨by rw [e]; exact hb, Or.inl e⟩)⟩
theorem KB.below {base g : Nat} {W W' : World} (h : KB base g W W') (hb : base ≤ W.heap.size) : Below base W W' :=
  ⟨h.os, h.tape, h.output, h.size, fun k hk => h.block k (by omega) (fun e => by have := e.1; omega)⟩
/-- A block of another type stays. -/
theorem KB.blk {base g t : Nat} {W W' : World} {cs : Array Value} (h : KB base g W W') {b : Nat} (hb : W.heap[b]? = some (.cells cs t (0, 0))) (ht : t ≠ 5) (hg : b ≠ g) : W'.heap[b]? = some (.cells cs t (0, 0)) :=
  (h.block b (blk_lt hb) (fun ⟨_, e⟩ => by
    rcases e with e | ⟨cells, fr, e⟩
    · exact hg e
    · rw [hb] at e
      injection e with e
      injection e with _ e
      exact ht e)).trans hb
theorem Buf.below {base g t : Nat} {W W' : World} {bs : List Int} (h : Buf base g t W bs) (hb : Below W.heap.size W W') : Buf base g t W' bs := by
  obtain ⟨v, h1, h2⟩ := h.out
  exact ⟨v, blk_below h1 hb, own_move h2 (fun k hk => hb.block k (own_lt h2 k hk))⟩
theorem Buf.alloc {base g t : Nat} {W : World} {bs : List Int} (h : Buf base g t W bs) (o : Obj) : Buf base g t (W.alloc o) bs := h.below (below_alloc (Below.refl _ _) o)
theorem Buf.lt {base g t : Nat} {W : World} {bs : List Int} (h : Buf base g t W bs) : g < W.heap.size := by obtain ⟨v, h1, _⟩ := h.out; exact blk_lt h1
/-- Behind an append and its store. -/
theorem Buf.store {base g t : Nat} {W W1 : World} {v v1 : Value} {n : Nat} {xs : List Value} {bs : List Int} (ht : t ≠ 5) (hg0 : W.heap[g]? = some (.cells #[v] t (0, 0))) (hv : W.ownsRow base 5 1 v n xs) (hg : W.grownBy W1 v.ownBlock)
    (ho : W1.ownsRow base 5 1 v1 bs.length (nums .u8 bs)) : Buf base g t (W1.setCell ⟨g, 0, none⟩ v1) bs := by
  have hne : some g ≠ v.ownBlock := fun e => by
    obtain ⟨cells, hc⟩ := own_typed hv g e.symm
    rw [hg0] at hc
    injection hc with hc
    injection hc with _ hc
    exact ht hc
  have h1 := blk_grown hg0 hg hne
  have hne1 : some g ≠ v1.ownBlock := fun e => by
    obtain ⟨cells, hc⟩ := own_typed ho g e.symm
    rw [h1] at hc
    injection hc with hc
    injection hc with _ hc
    exact ht hc
  exact ⟨v1, by have := blk_set h1 0 v1; simpa using this, own_setCell ho (p := ⟨g, 0, none⟩) hne1 v1⟩
theorem KB.store {base g n : Nat} {W W1 : World} {v v1 : Value} {xs : List Value} (hb : base ≤ g) (hv : W.ownsRow base 5 1 v n xs) (hg : W.grownBy W1 v.ownBlock) : KB base g W (W1.setCell ⟨g, 0, none⟩ v1) :=
  (KB.grown hg hv).trans (KB.set W1 hb 0 v1)

/-- A number's bytes, the least first. -/
def le : Nat → Int → List Int
  | 0, _ => []
  | n + 1, x => x % 256 :: le n (x / 256)
theorem le_length : ∀ n x, (le n x).length = n
  | 0, _ => rfl
  | n + 1, x => by simp [le, le_length n]

/-- How long the row in a box is. -/
def lenAt (g : Nat) (W : World) : Nat := match W.cell? ⟨g, 0, none⟩ with | some (.slice _ n _) => n | _ => 0

theorem slice_of {v : Value} {W : World} {base n : Nat} {xs : List Value} (h : W.ownsRow base 5 1 v n xs) : ∃ A c, v = .slice A n c := own_slice h

theorem lenAt_of {base g t : Nat} {W : World} {bs : List Int} (h : Buf base g t W bs) : lenAt g W = bs.length := by
  obtain ⟨v, h1, h2⟩ := h.out
  obtain ⟨A, c, rfl⟩ := slice_of h2
  have := blk_cell h1 0
  simp only [List.getElem?_toArray, List.getElem?_cons_zero] at this
  simp [lenAt, this]

set_option maxRecDepth 100000 in
set_option maxHeartbeats 4000000 in
theorem put_call (base g n : Nat) (x : Int) (W : World) (bs : List Int) (hB : Buf base g 70 W bs) (hbase : base ≤ W.heap.size) (hg : base ≤ g) (hx0 : 0 ≤ x) (hx1 : x < 18446744073709551616) (hn : n ≤ 100) (hl : bs.length ≤ 1000000000) :
    Calls Try.prog 27 #[.pointer (some ⟨g, 0, none⟩), .int .i64 n, .int .u64 x] W fun e W' => e = .returned (.tuple #[]) ∧ Buf base g 70 W' (bs ++ le n x) ∧ KB base g W W' := by
  have HB := Lib.hid hB
  clear hB
  go_enter Try.func27, Try.ntmps27
  go_wp2
  go_loopw [2, 6] (fun v2 v6 wr => ∃ (i : Nat) (y : Int) (bs' : List Int), v2 = .int .u64 y ∧ v6 = .int .i64 i ∧ i ≤ n ∧ 0 ≤ y ∧ y < 18446744073709551616 ∧ Hid (bs' ++ le (n - i) y = bs ++ le n x) ∧ Hid (bs'.length ≤ 1000000000 + i) ∧ Hid (Buf base g 70 wr bs') ∧ Hid (KB base g W wr)) (fun _ v6 _ => n - (intOf v6).toNat)
  case atStart => exact ⟨0, x, bs, rfl, by go_num, Nat.zero_le _, hx0, hx1, Lib.hid rfl, Lib.hid (by omega), HB, Lib.hid (KB.refl _ _ _)⟩
  case round =>
    obtain ⟨i, y, bs', rfl, rfl, hi, hy0, hy1, HE, HL, HB, HK⟩ := hrel
    by_cases hlt : i < n
    · obtain ⟨v, h1, h2⟩ := HB.out.out
      have hl2 := HL.out
      have c1 : wr.cell? ⟨g, 0, none⟩ = some v := blk_cell h1 0
      have q1 : (i : Int) < n := by omega
      have q2 : y.tmod 256 = y % 256 := Int.tmod_eq_emod_of_nonneg hy0
      have q3 : y.tdiv 256 = y / 256 := Int.tdiv_eq_ediv_of_nonneg hy0
      obtain ⟨Av, cv, hve⟩ := slice_of h2
      subst hve
      have H1 := Lib.hid h1
      have H2 := Lib.hid h2
      clear h1 h2
      have hbw : base ≤ wr.heap.size := by have := HK.out.size; omega
      go_wp2_with ((with_reducible refine gate_builtin (b := .append) (xs := #[.tmp 16, .tmp 20]) rfl ?_); at_builtin; refine print_append_num (w0 := wr) base rfl (.tmp 16) (.tmp 20) 29 5 .u8 1 rfl Try.underlying29 info5 (by decide) _ bs' (y % 256) rfl rfl H2.out (Below.refl _ _) hbw (by omega) ?_; intro v1 w1 ho hb hgr hat; obtain ⟨A1, c1', rfl⟩ := slice_of ho; have cg := blk_cell (blk_grown H1.out hgr (own_ne H2.out H1.out (by decide))) 0; have fg := blk_frozen (blk_grown H1.out hgr (own_ne H2.out H1.out (by decide))) 0; have B2 := Lib.hid (Buf.store (t := 70) (by decide) H1.out H2.out hgr ho); have K2 := Lib.hid (HK.out.trans (KB.store hg H2.out hgr (v1 := Value.slice A1 (bs' ++ [y % 256]).length c1'))); rw [List.length_append] at B2 K2; clear ho hb hgr hat)
      go_roundw
      case rel => exact ⟨i + 1, y / 256, bs' ++ [y % 256], rfl, by go_num, hlt, by omega, by omega, Lib.hid (by
        rw [← HE.out, show n - i = (n - (i + 1)) + 1 by omega, le, List.append_assoc]; rfl), Lib.hid (by simp; omega), B2, K2⟩
      case measure => simp [intOf]; omega
    · obtain rfl : n = i := by omega
      have HE2 := Lib.hid (show bs' = bs ++ le n x by have := HE.out; rw [Nat.sub_self] at this; simpa [le] using this)
      go_wp2
      go_end0
      exact ⟨rfl, by rw [← HE2.out]; exact HB.out, HK.out⟩

/-- How many bytes are behind the last multiple of 8. -/
def pad8 (bs : List Int) : List Int := bs ++ List.replicate ((8 - bs.length % 8) % 8) 0

set_option maxRecDepth 100000 in
set_option maxHeartbeats 4000000 in
theorem round_call (base g : Nat) (W : World) (bs : List Int) (hB : Buf base g 70 W bs) (hbase : base ≤ W.heap.size) (hg : base ≤ g) (hl : bs.length ≤ 1000000000) :
    Calls Try.prog 28 #[.pointer (some ⟨g, 0, none⟩)] W fun e W' => e = .returned (.tuple #[]) ∧ Buf base g 70 W' (pad8 bs) ∧ KB base g W W' := by
  obtain ⟨D, hD⟩ : ∃ D, D = (8 - bs.length % 8) % 8 := ⟨_, rfl⟩
  have HB := Lib.hid hB
  clear hB
  go_enter Try.func28, Try.ntmps28
  go_wp2
  go_loopw [] (fun wr => ∃ (i : Nat) (bs' : List Int), i ≤ D ∧ Hid (bs' = bs ++ List.replicate i 0) ∧ Hid (Buf base g 70 wr bs') ∧ Hid (KB base g W wr)) (fun wr => bs.length + D - lenAt g wr)
  case atStart => exact ⟨0, bs, Nat.zero_le _, Lib.hid (by simp), HB, Lib.hid (KB.refl _ _ _)⟩
  case round =>
    obtain ⟨i, bs', hi, HE, HB, HK⟩ := hrel
    obtain ⟨v, h1, h2⟩ := HB.out.out
    have hlen : bs'.length = bs.length + i := by rw [HE.out]; simp
    have HL := Lib.hid hlen
    have c1 : wr.cell? ⟨g, 0, none⟩ = some v := blk_cell h1 0
    have q2 : ((bs'.length : Nat) : Int).tmod 8 = ((bs'.length : Nat) : Int) % 8 := Int.tmod_eq_emod_of_nonneg (by omega)
    obtain ⟨Av, cv, hve⟩ := slice_of h2
    subst hve
    have HQ := Lib.hid (lenAt_of HB.out)
    have H1 := Lib.hid h1
    have H2 := Lib.hid h2
    clear h1 h2
    have hbw : base ≤ wr.heap.size := by have := HK.out.size; omega
    by_cases hlt : i < D
    · have q3 : ¬ ((bs'.length : Nat) : Int) % 8 = 0 := by omega
      have hsm : bs'.length ≤ 1000000010 := by omega
      clear hlen
      go_wp2_with ((with_reducible refine gate_builtin (b := .append) (xs := #[.tmp 13, .tmp 14]) rfl ?_); at_builtin; refine print_append_num (w0 := wr) base rfl (.tmp 13) (.tmp 14) 29 5 .u8 1 rfl Try.underlying29 info5 (by decide) _ bs' 0 rfl rfl H2.out (Below.refl _ _) hbw (by omega) ?_; intro v1 w1 ho hb hgr hat; obtain ⟨A1, c1', rfl⟩ := slice_of ho; have cg := blk_cell (blk_grown H1.out hgr (own_ne H2.out H1.out (by decide))) 0; have fg := blk_frozen (blk_grown H1.out hgr (own_ne H2.out H1.out (by decide))) 0; have B2 := Lib.hid (Buf.store (t := 70) (by decide) H1.out H2.out hgr ho); have K2 := Lib.hid (HK.out.trans (KB.store hg H2.out hgr (v1 := Value.slice A1 (bs' ++ [0]).length c1'))); rw [List.length_append] at B2 K2; have L2 := Lib.hid (lenAt_of B2.out); clear ho hb hgr hat)
      go_roundw
      case rel => exact ⟨i + 1, bs' ++ [0], hlt, Lib.hid (by rw [HE.out, List.replicate_succ', List.append_assoc]), B2, K2⟩
      case measure =>
        have e1 := HQ.out
        have e2 := L2.out
        have e3 := HL.out
        simp only [List.length_append, List.length_cons, List.length_nil] at e2
        simp only [List.length_cons, List.length_nil, Nat.zero_add] at e2 ⊢
        omega
    · obtain rfl : D = i := by omega
      have q3 : ((bs'.length : Nat) : Int) % 8 = 0 := by omega
      clear hlen
      go_wp2
      go_end0
      refine ⟨rfl, ?_, HK.out⟩
      have := HB.out
      rw [HE.out] at this
      rw [pad8, ← hD]
      exact this
end Go.Proofs.Ytelheeekbihfcab.Ob
