/- The law's lives: it is true. -/
import Derived.Test.YtelheeekbihfcaaVars
set_option linter.unusedVariables false
set_option linter.unusedSimpArgs false
namespace Go.Proofs.Ytelheeekbihfcaa.Pt
open Go.RowKit Go.Proofs Go.Proofs.Ytelheeekbihfcaa.PPatternFirst Go.Proofs.YtelheeekbihfcaaW.PrintWords Go.Proofs.YtelheeekbihfcaaW.PrintMore Go.Proofs.YtelheeekbihfcaaW.PrintLast

theorem blk_add {w : World} {g t : Nat} {cs : Array Value} (hg : w.heap[g]? = some (.cells cs t (0, 0))) (k : Nat) : w.cell? ((⟨g, 0, none⟩ : Addr).add k) = cs[k]? := by
  have h := blk_cell hg k
  by_cases h0 : k = 0
  · subst h0
    simpa [Addr.add] using h
  · simpa [Addr.add, h0] using h
/-- A row that fills a block. -/
theorem C_blk {α : Type} {d : Kd α} {w : World} {g t n : Nat} {cs : List Value} {xs : List α} (hg : w.heap[g]? = some (.cells cs.toArray t (0, 0))) (hR : Reps (fun x cs => d.K w x cs) d.sz xs cs) (hn : xs.length = n) (hb : n ≤ 1000000) : d.C w (some ⟨g, 0, none⟩) n xs := by
  refine ⟨hn, by omega, fun _ => ⟨⟨g, 0, none⟩, rfl, fun j p hj => ⟨(cs.drop (j * d.sz)).take d.sz, ?_, hR.2 j p hj, fun i u hi => ?_⟩⟩⟩
  · exact d.K_len (hR.2 j p hj)
  · rw [blk_add hg]
    have hi1 : i < d.sz := by
      have := (List.getElem?_eq_some_iff.1 hi).1
      rw [List.length_take] at this
      omega
    rw [List.getElem?_take_of_lt hi1, List.getElem?_drop] at hi
    simpa using hi
theorem ints_cell {w : World} {A : Option Addr} {n : Nat} {xs : List Int} {x : Int} (h : (Kd.int .i64).C w A n (x :: xs)) : ∃ ad, A = some ad ∧ w.cell? ad = some (.int .i64 x) := by
  obtain ⟨h1, _, h3⟩ := h
  obtain ⟨ad, rfl, h4⟩ := h3 (by rw [← h1]; simp)
  obtain ⟨cs, hl, hK, hc⟩ := h4 0 x rfl
  obtain rfl : cs = [.int .i64 x] := hK
  exact ⟨ad, rfl, by simpa [Addr.add] using hc 0 _ rfl⟩
theorem strs_cell {w : World} {A : Option Addr} {n : Nat} {xs : List ByteArray} {x : ByteArray} (h : Kd.string.C w A n (x :: xs)) : ∃ ad, A = some ad ∧ w.cell? ad = some (.string x) := by
  obtain ⟨h1, _, h3⟩ := h
  obtain ⟨ad, rfl, h4⟩ := h3 (by rw [← h1]; simp)
  obtain ⟨cs, hl, hK, hc⟩ := h4 0 x rfl
  obtain rfl : cs = [.string x] := hK
  exact ⟨ad, rfl, by simpa [Addr.add] using hc 0 _ rfl⟩
def exA : S53 := ⟨3, 0, 0, ⟨#[97]⟩, []⟩
def exX : S53 := ⟨4, 0, 0, ⟨#[120]⟩, []⟩
def exI : S53 := ⟨2, 0, 3, ⟨#[]⟩, []⟩
theorem exTests : testsP [⟨#[97]⟩] ⟨5, 0, 0, ⟨#[]⟩, [exA, exX, exI]⟩ [] = [⟨[], 5, 3⟩, ⟨[0], 3, 0⟩, ⟨[2], 2, 3⟩] := by
  simp [testsP, testsL, ownT, exA, exX, exI, lastOf]
theorem exVars : varsP ⟨5, 0, 0, ⟨#[]⟩, [exA, exX, exI]⟩ [] = [(⟨#[120]⟩, [1])] := by
  simp [varsP, varsL, ownV, exA, exX, exI]
theorem exNodes : nodesP ⟨5, 0, 0, ⟨#[]⟩, [exA, exX, exI]⟩ ≤ 1000000 := by
  simp [nodesP, nodesL, exA, exX, exI]
theorem exReps (w : World) : Reps (fun x cs => k53.K w x cs) 5 [exA, exX, exI] [.int .i64 3, .int .i64 0, .int .i64 0, .string ⟨#[97]⟩, .slice none 0 0, .int .i64 4, .int .i64 0, .int .i64 0, .string ⟨#[120]⟩, .slice none 0 0, .int .i64 2, .int .i64 0, .int .i64 3, .string ⟨#[]⟩, .slice none 0 0] :=
  Reps.c5 (k53_mk w exA (Nat.le_refl 0) (Kd.C_nil _ _)) (Reps.c5 (k53_mk w exX (Nat.le_refl 0) (Kd.C_nil _ _)) (Reps.c5 (k53_mk w exI (Nat.le_refl 0) (Kd.C_nil _ _)) (Reps.none _ _)))
set_option maxRecDepth 100000 in
set_option maxHeartbeats 8000000 in
theorem lives_true (w : World) : Calls Try.prog 7 #[] w fun e w' => e = .returned (.bool true) ∧ Below w.heap.size w w' := by
  go_enter Try.func7, Try.ntmps7
  go_upto_region 2 with fail
  have X1 := blk_alloc (blk_new w (.cells #[.int .i64 3, .int .i64 0, .int .i64 0, .string ⟨#[97]⟩, .slice none 0 0, .int .i64 4, .int .i64 0, .int .i64 0, .string ⟨#[120]⟩, .slice none 0 0, .int .i64 2, .int .i64 0, .int .i64 3, .string ⟨#[]⟩, .slice none 0 0] 53)) (.cells #[.int .i64 5, .int .i64 0, .int .i64 0, .string ⟨#[]⟩, .slice (some ⟨w.heap.size, 0, none⟩) 3 3] 53)
  have X2 := blk_new (w.alloc (.cells #[.int .i64 3, .int .i64 0, .int .i64 0, .string ⟨#[97]⟩, .slice none 0 0, .int .i64 4, .int .i64 0, .int .i64 0, .string ⟨#[120]⟩, .slice none 0 0, .int .i64 2, .int .i64 0, .int .i64 3, .string ⟨#[]⟩, .slice none 0 0] 53)) (.cells #[.int .i64 5, .int .i64 0, .int .i64 0, .string ⟨#[]⟩, .slice (some ⟨w.heap.size, 0, none⟩) 3 3] 53)
  have s1 : (w.alloc (.cells #[.int .i64 3, .int .i64 0, .int .i64 0, .string ⟨#[97]⟩, .slice none 0 0, .int .i64 4, .int .i64 0, .int .i64 0, .string ⟨#[120]⟩, .slice none 0 0, .int .i64 2, .int .i64 0, .int .i64 3, .string ⟨#[]⟩, .slice none 0 0] 53)).heap.size = w.heap.size + 1 := by simp
  rw [s1] at X2
  have B1 := Lib.hid (below_alloc (below_alloc (Below.refl _ w) (.cells #[.int .i64 3, .int .i64 0, .int .i64 0, .string ⟨#[97]⟩, .slice none 0 0, .int .i64 4, .int .i64 0, .int .i64 0, .string ⟨#[120]⟩, .slice none 0 0, .int .i64 2, .int .i64 0, .int .i64 3, .string ⟨#[]⟩, .slice none 0 0] 53)) (.cells #[.int .i64 5, .int .i64 0, .int .i64 0, .string ⟨#[]⟩, .slice (some ⟨w.heap.size, 0, none⟩) 3 3] 53))
  clear s1
  generalize ((w.alloc (.cells #[.int .i64 3, .int .i64 0, .int .i64 0, .string ⟨#[97]⟩, .slice none 0 0, .int .i64 4, .int .i64 0, .int .i64 0, .string ⟨#[120]⟩, .slice none 0 0, .int .i64 2, .int .i64 0, .int .i64 3, .string ⟨#[]⟩, .slice none 0 0] 53)).alloc (.cells #[.int .i64 5, .int .i64 0, .int .i64 0, .string ⟨#[]⟩, .slice (some ⟨w.heap.size, 0, none⟩) 3 3] 53)) = W1 at *
  have HC := Lib.hid (C_blk (d := k53) X1 (exReps W1) rfl (by decide))
  have XB := Lib.hid X2
  have y0 := blk_cell X2 0
  have y1 := blk_cell X2 1
  have y2 := blk_cell X2 2
  have y3 := blk_cell X2 3
  have y4 := blk_cell X2 4
  clear X1 X2
  have XA := blk_new W1 (.cells #[.string ⟨#[97]⟩] 9)
  have hal := below_alloc (Below.refl _ W1) (.cells #[.string ⟨#[97]⟩] 9)
  have HCA := Lib.hid (C_blk (d := Kd.string) (cs := [.string ⟨#[97]⟩]) (xs := [(⟨#[97]⟩ : ByteArray)]) XA (Reps.one (p := (⟨#[97]⟩ : ByteArray)) rfl (Reps.none _ _)) rfl (by decide))
  have HC2 := Lib.hid (Kd.C_below HC.out hal)
  have B2 := Lib.hid (below_step B1.out hal)
  have XB2 := Lib.hid (blk_below XB.out hal)
  clear XA hal HC B1 XB
  go_upto_region 3 with (go_at_call 14; refine (tests_call [⟨#[97]⟩] _ 1 5 0 0 ⟨#[]⟩ [exA, exX, exI] _ 3 _ HCA.out (Nat.le_refl 1) (by decide) HC2.out (Nat.le_refl 3) exNodes).mono ?_; rintro e W2 ⟨v2, rfl, hr, hb⟩; rw [exTests] at hr; obtain ⟨At, ct, rfl⟩ := Kd.R_slice hr; have HR := Lib.hid hr; have B3 := Lib.hid (below_step B2.out hb); have HC3 := Lib.hid (Kd.C_below HC2.out hb); have XB3 := Lib.hid (blk_below XB2.out hb); clear hr hb)
  have z0 := blk_cell XB3.out 0
  have z1 := blk_cell XB3.out 1
  have z2 := blk_cell XB3.out 2
  have z3 := blk_cell XB3.out 3
  have z4 := blk_cell XB3.out 4
  clear y0 y1 y2 y3 y4
  go_upto_region 4 with (go_at_call 19; refine (vars_call 5 0 0 ⟨#[]⟩ [exA, exX, exI] _ 3 _ HC3.out (Nat.le_refl 3) exNodes _ exVars).mono ?_; rintro e W4 ⟨A1, c1, A2, c2, rfl, hl1, hl2, hC1, hC2, hb⟩; have HR4 := Lib.hid (Kd.R_below HR.out hb); have B4 := Lib.hid (below_step B3.out hb); have H1 := Lib.hid hC1; have H2 := Lib.hid hC2; clear hC1 hC2 hb)
  clear z0 z1 z2 z3 z4
  obtain ⟨_, hq, hCt⟩ := Kd.R_reads' HR4.out
  obtain ⟨ad, A0, c0, rfl, t0, t1, t2, _, _⟩ := at_T39 hCt 0 (by decide) (by decide)
  obtain ⟨ad', A3, c3, he, u0, u1, u2, hc3, hC3⟩ := at_T39 hCt 2 (by decide) (by decide)
  obtain ⟨ad3, rfl, p0⟩ := ints_cell (show (Kd.int .i64).C W4 A3 1 [2] from hC3)
  obtain ⟨ad4, rfl, n0⟩ := strs_cell (show Kd.string.C W4 A1 1 [⟨#[120]⟩] from H1.out)
  obtain ⟨ad5, A6, c6, rfl, q0, hc6, hC6⟩ := at_L5 H2.out 0 (by decide) (by decide)
  obtain ⟨ad6, rfl, r0⟩ := ints_cell (show (Kd.int .i64).C W4 A6 1 [1] from hC6)
  injection he with he
  subst he
  have t2' : W4.cell? ⟨ad.block, ad.off + 2, none⟩ = some (.int .i64 3) := by have h := t2; rw [show (ad.add ((0 : Int).toNat * 3)) = ad from by simp [Addr.add]] at h; exact h
  have u0' : W4.cell? ⟨ad.block, ad.off + 6, none⟩ = some (.slice (some ad3) 1 c3) := by have h := u0; rw [show (ad.add ((2 : Int).toNat * 3)) = ⟨ad.block, ad.off + 6, none⟩ from by simp [Addr.add]] at h; exact h
  have q0' : W4.cell? ad5 = some (.slice (some ad6) 1 c6) := by have h := q0; rw [show (ad5.add ((0 : Int).toNat)) = ad5 from by simp [Addr.add]] at h; exact h
  clear t0 t1 t2 u0 u1 u2 q0
  go_wp2
  go_ret
  exact ⟨rfl, B4.out⟩
end Go.Proofs.Ytelheeekbihfcaa.Pt
