/- The arms that the law's light builds: a pattern, and nothing. -/
import Derived.Test.YtelheeekbihfcaaCountA
set_option linter.unusedVariables false
set_option linter.unusedSimpArgs false
namespace Go.Proofs.Ytelheeekbihfcaa.Pt
open Go.RowKit Go.Proofs Go.Proofs.Ytelheeekbihfcaa.PPatternFirst Go.Proofs.YtelheeekbihfcaaW.PrintWords Go.Proofs.YtelheeekbihfcaaW.PrintMore Go.Proofs.YtelheeekbihfcaaW.PrintLast

theorem pat_any (w0 : World) (g : Nat) : ∀ (N : Nat) (p : S53), nodesP p ≤ N → PatC w0 g p
  | 0, ⟨_, _, _, _, _⟩, h => by simp only [nodesP] at h; omega
  | N + 1, ⟨f0, f1, f2, f3, args⟩, h => pat_ok w0 g f0 f1 f2 f3 args fun x hx => pat_any w0 g N x (by
      obtain ⟨j, hj, rfl⟩ := List.getElem_of_mem hx
      have := nodesL_get hj
      simp only [nodesP] at h
      omega)

/-- A row of the call's own, its elements readable in the world Wb. -/
def RowK {α : Type} (k : Kd α) (t : Nat) (Wb wr : World) (v : Value) (xs : List α) : Prop := ∃ cells, wr.ownsRow Wb.heap.size t k.sz v xs.length cells ∧ Reps (fun (x : α) (cs : List Value) => k.K Wb x cs) k.sz xs cells
section
variable {α : Type} {k : Kd α} {t : Nat}
theorem RowK.below {Wb wr w1 : World} {v : Value} {xs : List α} (h : RowK k t Wb wr v xs) (hb : Below wr.heap.size wr w1) : RowK k t Wb w1 v xs := by
  obtain ⟨cells, h1, h2⟩ := h
  exact ⟨cells, own_move h1 (fun j hk => hb.block j (own_lt h1 j hk)), h2⟩
theorem RowK.nil (Wb wr : World) : RowK k t Wb wr (.slice none 0 0) ([] : List α) := ⟨[], own_nil _ _ _ _, Reps.none _ _⟩
theorem RowK.slice {Wb wr : World} {v : Value} {xs : List α} (h : RowK k t Wb wr v xs) : ∃ A c, v = .slice A xs.length c := by
  obtain ⟨cells, h1, _⟩ := h
  exact own_slice h1
theorem RowK.reads {Wb wr : World} {A : Option Addr} {n c : Nat} {xs : List α} (h : RowK k t Wb wr (.slice A n c) xs) (hB : Below Wb.heap.size Wb wr) : n = xs.length ∧ n ≤ c ∧ Kd.C k wr A xs.length xs := by
  obtain ⟨cells, h1, h2⟩ := h
  obtain ⟨A', c', he, hr⟩ := own_reads_row h1 h2 rfl
  injection he with e1 e2 e3
  subst e1 e2 e3
  exact ⟨rfl, own_cap h1, hr.imp_ (Below.refl _ _) (fun p cs hp => k.K_below hB hp)⟩
theorem RowK.snoc {Wb w6 : World} {v1 : Value} {xs : List α} {cells cs : List Value} {x : α} (ho : w6.ownsRow Wb.heap.size t k.sz v1 (xs.length + 1) (cells ++ cs)) (hr : Reps (fun (x : α) (cs : List Value) => k.K Wb x cs) k.sz xs cells) (hx : k.K Wb x cs) (hc : cs.length = k.sz) : RowK k t Wb w6 v1 (xs ++ [x]) :=
  ⟨cells ++ cs, by rw [List.length_append, List.length_singleton]; exact ho, Reps.snoc hr hx hc⟩
theorem RowK.far {Wb wr : World} {v : Value} {xs : List α} (h : RowK k t Wb wr v xs) {p : Addr} (hp : p.block < Wb.heap.size) (u : Value) : RowK k t Wb (wr.setCell p u) v xs := by
  obtain ⟨cells, h1, h2⟩ := h
  exact ⟨cells, own_move h1 (fun j hk => Below.heap_setCell wr p u j (fun e => by have := own_base h1 j hk; omega)), h2⟩
end

/-- A pattern's arm, as the law's light builds it. -/
def kArm : Kd S53 := Kd.iso (Kd.pair k53 (Kd.pair (Kd.slice 100 k100) (Kd.pair (Kd.slice 102 k100) (Kd.pair (Kd.int .i64) (Kd.pair (Kd.int .i64) (Kd.pair Kd.string (Kd.pair (Kd.slice 100 k100) (Kd.pair (Kd.slice 61 k100) (Kd.pair (Kd.slice 63 k100) (Kd.pair Kd.bool (Kd.int .i64))))))))))) (fun x : S53 => (x, ([] : List S100), ([] : List S100), (0 : Int), (0 : Int), (⟨#[]⟩ : ByteArray), ([] : List S100), ([] : List S100), ([] : List S100), false, (0 : Int)))
theorem kArm_open {w : World} {x : S53} {cs : List Value} (h : kArm.K w x cs) : ∃ A4 c4 A5 c5 A6 c6 A7 c7 A8 c8 A9 c9, cs = [.int .i64 x.f0, .int .i64 x.f1, .int .i64 x.f2, .string x.f3, .slice A4 x.f4.length c4, .slice A5 0 c5, .slice A6 0 c6, .int .i64 0, .int .i64 0, .string ⟨#[]⟩, .slice A7 0 c7, .slice A8 0 c8, .slice A9 0 c9, .bool false, .int .i64 0] ∧ x.f4.length ≤ c4 ∧ k53.C w A4 x.f4.length x.f4 := by
  obtain ⟨_, _, rfl, s0, ⟨_, _, rfl, ⟨A5, c5, rfl, _, _⟩, ⟨_, _, rfl, ⟨A6, c6, rfl, _, _⟩, ⟨_, _, rfl, rfl, ⟨_, _, rfl, rfl, ⟨_, _, rfl, rfl, ⟨_, _, rfl, ⟨A7, c7, rfl, _, _⟩, ⟨_, _, rfl, ⟨A8, c8, rfl, _, _⟩, ⟨_, _, rfl, ⟨A9, c9, rfl, _, _⟩, ⟨_, _, rfl, rfl, rfl⟩⟩⟩⟩⟩⟩⟩⟩⟩⟩ := h
  obtain ⟨A4, c4, rfl, l4, g4⟩ := k53_open s0
  exact ⟨A4, c4, A5, c5, A6, c6, A7, c7, A8, c8, A9, c9, rfl, l4, g4⟩
theorem kArm_mk (w : World) (x : S53) {A4 : Option Addr} {c4 : Nat} (l4 : x.f4.length ≤ c4) (g4 : k53.C w A4 x.f4.length x.f4) : kArm.K w x [.int .i64 x.f0, .int .i64 x.f1, .int .i64 x.f2, .string x.f3, .slice A4 x.f4.length c4, .slice none 0 0, .slice none 0 0, .int .i64 0, .int .i64 0, .string ⟨#[]⟩, .slice none 0 0, .slice none 0 0, .slice none 0 0, .bool false, .int .i64 0] :=
  ⟨[.int .i64 x.f0, .int .i64 x.f1, .int .i64 x.f2, .string x.f3, .slice A4 x.f4.length c4], [.slice none 0 0, .slice none 0 0, .int .i64 0, .int .i64 0, .string ⟨#[]⟩, .slice none 0 0, .slice none 0 0, .slice none 0 0, .bool false, .int .i64 0], rfl, k53_mk w x l4 g4,
   ⟨[.slice none 0 0], [.slice none 0 0, .int .i64 0, .int .i64 0, .string ⟨#[]⟩, .slice none 0 0, .slice none 0 0, .slice none 0 0, .bool false, .int .i64 0], rfl, ⟨none, 0, rfl, Nat.le_refl _, Kd.C_nil _ _⟩,
   ⟨[.slice none 0 0], [.int .i64 0, .int .i64 0, .string ⟨#[]⟩, .slice none 0 0, .slice none 0 0, .slice none 0 0, .bool false, .int .i64 0], rfl, ⟨none, 0, rfl, Nat.le_refl _, Kd.C_nil _ _⟩,
   ⟨[.int .i64 0], [.int .i64 0, .string ⟨#[]⟩, .slice none 0 0, .slice none 0 0, .slice none 0 0, .bool false, .int .i64 0], rfl, rfl,
   ⟨[.int .i64 0], [.string ⟨#[]⟩, .slice none 0 0, .slice none 0 0, .slice none 0 0, .bool false, .int .i64 0], rfl, rfl,
   ⟨[.string ⟨#[]⟩], [.slice none 0 0, .slice none 0 0, .slice none 0 0, .bool false, .int .i64 0], rfl, rfl,
   ⟨[.slice none 0 0], [.slice none 0 0, .slice none 0 0, .bool false, .int .i64 0], rfl, ⟨none, 0, rfl, Nat.le_refl _, Kd.C_nil _ _⟩,
   ⟨[.slice none 0 0], [.slice none 0 0, .bool false, .int .i64 0], rfl, ⟨none, 0, rfl, Nat.le_refl _, Kd.C_nil _ _⟩,
   ⟨[.slice none 0 0], [.bool false, .int .i64 0], rfl, ⟨none, 0, rfl, Nat.le_refl _, Kd.C_nil _ _⟩,
   ⟨[.bool false], [.int .i64 0], rfl, rfl, rfl⟩⟩⟩⟩⟩⟩⟩⟩⟩⟩
theorem at_Arm {w : World} {A : Option Addr} {n : Nat} {xs : List S53} (h : Kd.C kArm w A n xs) (i : Nat) (h1 : i < xs.length) (hn : xs.length = n) : ∃ ad A4 c4 A5 c5 A6 c6 A7 c7 A8 c8 A9 c9, A = some ad ∧
    w.cell? (ad.add (i * 15)) = some (.int .i64 xs[i].f0) ∧ w.cell? ⟨(ad.add (i * 15)).block, (ad.add (i * 15)).off + 1, none⟩ = some (.int .i64 xs[i].f1) ∧ w.cell? ⟨(ad.add (i * 15)).block, (ad.add (i * 15)).off + 2, none⟩ = some (.int .i64 xs[i].f2) ∧ w.cell? ⟨(ad.add (i * 15)).block, (ad.add (i * 15)).off + 3, none⟩ = some (.string xs[i].f3) ∧ w.cell? ⟨(ad.add (i * 15)).block, (ad.add (i * 15)).off + 4, none⟩ = some (.slice A4 xs[i].f4.length c4) ∧
    w.cell? ⟨(ad.add (i * 15)).block, (ad.add (i * 15)).off + 5, none⟩ = some (.slice A5 0 c5) ∧
    w.cell? ⟨(ad.add (i * 15)).block, (ad.add (i * 15)).off + 6, none⟩ = some (.slice A6 0 c6) ∧ w.cell? ⟨(ad.add (i * 15)).block, (ad.add (i * 15)).off + 7, none⟩ = some (.int .i64 0) ∧ w.cell? ⟨(ad.add (i * 15)).block, (ad.add (i * 15)).off + 8, none⟩ = some (.int .i64 0) ∧ w.cell? ⟨(ad.add (i * 15)).block, (ad.add (i * 15)).off + 9, none⟩ = some (.string ⟨#[]⟩) ∧ w.cell? ⟨(ad.add (i * 15)).block, (ad.add (i * 15)).off + 10, none⟩ = some (.slice A7 0 c7) ∧ w.cell? ⟨(ad.add (i * 15)).block, (ad.add (i * 15)).off + 11, none⟩ = some (.slice A8 0 c8) ∧ w.cell? ⟨(ad.add (i * 15)).block, (ad.add (i * 15)).off + 12, none⟩ = some (.slice A9 0 c9) ∧ w.cell? ⟨(ad.add (i * 15)).block, (ad.add (i * 15)).off + 13, none⟩ = some (.bool false) ∧ w.cell? ⟨(ad.add (i * 15)).block, (ad.add (i * 15)).off + 14, none⟩ = some (.int .i64 0) ∧
    xs[i].f4.length ≤ c4 ∧ k53.C w A4 xs[i].f4.length xs[i].f4 := by
  obtain ⟨ad, c, e, _, hK, hc0⟩ := Kd.C_get h z53 (i : Int) (by omega) (by omega)
  have hc : ∀ j u, c[j]? = some u → w.cell? (ad.add ((i : Int).toNat * 15 + j)) = some u := hc0
  rw [Int.toNat_natCast, List.getD_eq_getElem?_getD, List.getElem?_eq_getElem h1] at hK
  rw [Int.toNat_natCast] at hc
  obtain ⟨A4, c4, A5, c5, A6, c6, A7, c7, A8, c8, A9, c9, rfl, l4, g4⟩ := kArm_open hK
  exact ⟨ad, A4, c4, A5, c5, A6, c6, A7, c7, A8, c8, A9, c9, e, hc 0 _ rfl, by rw [← add_field _ _ 1 (by omega)]; exact hc 1 _ rfl, by rw [← add_field _ _ 2 (by omega)]; exact hc 2 _ rfl, by rw [← add_field _ _ 3 (by omega)]; exact hc 3 _ rfl, by rw [← add_field _ _ 4 (by omega)]; exact hc 4 _ rfl, by rw [← add_field _ _ 5 (by omega)]; exact hc 5 _ rfl, by rw [← add_field _ _ 6 (by omega)]; exact hc 6 _ rfl, by rw [← add_field _ _ 7 (by omega)]; exact hc 7 _ rfl, by rw [← add_field _ _ 8 (by omega)]; exact hc 8 _ rfl, by rw [← add_field _ _ 9 (by omega)]; exact hc 9 _ rfl, by rw [← add_field _ _ 10 (by omega)]; exact hc 10 _ rfl, by rw [← add_field _ _ 11 (by omega)]; exact hc 11 _ rfl, by rw [← add_field _ _ 12 (by omega)]; exact hc 12 _ rfl, by rw [← add_field _ _ 13 (by omega)]; exact hc 13 _ rfl, by rw [← add_field _ _ 14 (by omega)]; exact hc 14 _ rfl, l4, g4⟩
end Go.Proofs.Ytelheeekbihfcaa.Pt
