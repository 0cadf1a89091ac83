/- The program's fill, a closure; the names' iterator. -/
import Derived.Test.YtelheeekbihfcabPut
set_option linter.unusedVariables false
set_option linter.unusedSimpArgs false
namespace Go.Proofs.Ytelheeekbihfcab.Ob
open Go.RowKit Go.Proofs Go.Proofs.Ytelheeekbihfcab.PObjectReads Go.Proofs.YtelheeekbihfcabW.PrintWords Go.Proofs.YtelheeekbihfcabW.PrintMore

/-- Zeros up to a length. -/
def upTo (T0 : Nat) (bs : List Int) : List Int := bs ++ List.replicate (T0 - bs.length) 0

set_option maxRecDepth 100000 in
set_option maxHeartbeats 4000000 in
theorem fill_call (base g T0 : Nat) (W : World) (bs : List Int) (hB : Buf base g 29 W bs) (hbase : base ≤ W.heap.size) (hg : base ≤ g) (hl : bs.length ≤ 1000000000) (hto : T0 ≤ 1000000000) :
    Calls Try.prog 23 #[.int .i64 T0, .pointer (some ⟨g, 0, none⟩)] W fun e W' => e = .returned (.tuple #[]) ∧ Buf base g 29 W' (upTo T0 bs) ∧ KB base g W W' := by
  obtain ⟨D, hD⟩ : ∃ D, D = T0 - bs.length := ⟨_, rfl⟩
  have HB := Lib.hid hB
  clear hB
  go_enter Try.func23, Try.ntmps23
  go_wp2
  go_loopw [] (fun wr => ∃ (i : Nat) (bs' : List Int), i ≤ D ∧ Hid (bs' = bs ++ List.replicate i 0) ∧ Hid (Buf base g 29 wr bs') ∧ Hid (KB base g W wr)) (fun wr => bs.length + D - lenAt g wr)
  case atStart => exact ⟨0, bs, Nat.zero_le _, Lib.hid (by simp), HB, Lib.hid (KB.refl _ _ _)⟩
  case round =>
    obtain ⟨i, bs', hi, HE, HB, HK⟩ := hrel
    obtain ⟨v, h1, h2⟩ := HB.out.out
    have hlen : bs'.length = bs.length + i := by rw [HE.out]; simp
    have HL := Lib.hid hlen
    have c1 : wr.cell? ⟨g, 0, none⟩ = some v := blk_cell h1 0
    obtain ⟨Av, cv, hve⟩ := slice_of h2
    subst hve
    have HQ := Lib.hid (lenAt_of HB.out)
    have H1 := Lib.hid h1
    have H2 := Lib.hid h2
    clear h1 h2
    have hbw : base ≤ wr.heap.size := by have := HK.out.size; omega
    by_cases hlt : i < D
    · have q3 : ((bs'.length : Nat) : Int) < T0 := by omega
      have hsm : bs'.length ≤ 2000000010 := by omega
      clear hlen
      go_wp2_with ((with_reducible refine gate_builtin (b := .append) (xs := #[.tmp 7, .tmp 8]) rfl ?_); at_builtin; refine print_append_num (w0 := wr) base rfl (.tmp 7) (.tmp 8) 29 5 .u8 1 rfl Try.underlying29 info5 (by decide) _ bs' 0 rfl rfl H2.out (Below.refl _ _) hbw (by omega) ?_; intro v1 w1 ho hb hgr hat; obtain ⟨A1, c1', rfl⟩ := slice_of ho; have cg := blk_cell (blk_grown H1.out hgr (own_ne H2.out H1.out (by decide))) 0; have fg := blk_frozen (blk_grown H1.out hgr (own_ne H2.out H1.out (by decide))) 0; have B2 := Lib.hid (Buf.store (t := 29) (by decide) H1.out H2.out hgr ho); have K2 := Lib.hid (HK.out.trans (KB.store hg H2.out hgr (v1 := Value.slice A1 (bs' ++ [0]).length c1'))); rw [List.length_append] at B2 K2; have L2 := Lib.hid (lenAt_of B2.out); clear ho hb hgr hat)
      go_roundw
      case rel => exact ⟨i + 1, bs' ++ [0], hlt, Lib.hid (by rw [HE.out, List.replicate_succ', List.append_assoc]), B2, K2⟩
      case measure =>
        have e1 := HQ.out
        have e2 := L2.out
        have e3 := HL.out
        simp only [List.length_append, List.length_cons, List.length_nil] at e2
        simp only [List.length_cons, List.length_nil, Nat.zero_add] at e2 ⊢
        omega
    · obtain rfl : D = i := by omega
      have q3 : ¬ ((bs'.length : Nat) : Int) < T0 := by omega
      clear hlen
      go_wp2
      go_end0
      refine ⟨rfl, ?_, HK.out⟩
      have := HB.out
      rw [HE.out] at this
      rw [upTo, ← hD]
      exact this
end Go.Proofs.Ytelheeekbihfcab.Ob
