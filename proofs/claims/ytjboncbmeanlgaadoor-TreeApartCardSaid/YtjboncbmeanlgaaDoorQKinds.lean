/- Kinds, 4 declarations cut -/
import Derived.Test.YtjboncbmeanlgaaDoorQPTreePrintsx0
import Derived.Lib.Hide
/- The tree's kinds: bodies (nested in themselves through parts and arms), arms, definitions, programs. -/
set_option linter.unusedVariables false
set_option linter.unusedSimpArgs false
namespace Go.Proofs.YtjboncbmeanlgaaDoor.Tr
open Go.RowKit Go.Proofs Go.Proofs.YtjboncbmeanlgaaDoor.PTreePrints Go.Proofs.YtjboncbmeanlgaaDoorW.PrintWords Go.Proofs.YtjboncbmeanlgaaDoorW.PrintMore Go.Proofs.YtjboncbmeanlgaaDoorW.PrintLast
/-- A statement (this block began as printed text). -/
structure S37 where
  f0 : Int
  f1 : Int
  f2 : ByteArray
  f3 : ByteArray
  f4 : (List S31)
def z37 : S37 := ⟨(0 : Int), (0 : Int), (⟨#[]⟩ : ByteArray), (⟨#[]⟩ : ByteArray), ([] : List S31)⟩
def k37 : Kd S37 := Kd.iso (Kd.pair (Kd.int .i64) (Kd.pair (Kd.int .i64) (Kd.pair Kd.string (Kd.pair Kd.string (Kd.slice 31 k31))))) (fun x : S37 => (x.f0, x.f1, x.f2, x.f3, x.f4))
theorem k37_open {w : World} {x : S37} {cs : List Value} (h : k37.K w x cs) : ∃ A4 c4, cs = [.int .i64 x.f0, .int .i64 x.f1, .string x.f2, .string x.f3, .slice A4 x.f4.length c4] ∧ x.f4.length ≤ c4 ∧ k31.C w A4 x.f4.length x.f4 := by
  obtain ⟨_, _, rfl, rfl, ⟨_, _, rfl, rfl, ⟨_, _, rfl, rfl, ⟨_, _, rfl, rfl, ⟨A4, c4, rfl, l4, g4⟩⟩⟩⟩⟩ := h
  exact ⟨A4, c4, rfl, l4, g4⟩
theorem k37_mk (w : World) (x : S37) {A4 : Option Addr} {c4 : Nat} (l4 : x.f4.length ≤ c4) (g4 : k31.C w A4 x.f4.length x.f4) : k37.K w x [.int .i64 x.f0, .int .i64 x.f1, .string x.f2, .string x.f3, .slice A4 x.f4.length c4] := ⟨[.int .i64 x.f0], [.int .i64 x.f1, .string x.f2, .string x.f3, .slice A4 x.f4.length c4], rfl, rfl, ⟨[.int .i64 x.f1], [.string x.f2, .string x.f3, .slice A4 x.f4.length c4], rfl, rfl, ⟨[.string x.f2], [.string x.f3, .slice A4 x.f4.length c4], rfl, rfl, ⟨[.string x.f3], [.slice A4 x.f4.length c4], rfl, rfl, ⟨A4, c4, rfl, l4, g4⟩⟩⟩⟩⟩
def rd_T37 (xs : List S37) (i : Int) : S37 := xs.getD i.toNat z37
theorem at_T37 {w : World} {A : Option Addr} {n : Nat} {xs : List S37} (h : Kd.C k37 w A n xs) (i : Int) (h0 : 0 ≤ i) (h1 : i < n) : ∃ ad A4 c4, A = some ad ∧ w.cell? (ad.add (i.toNat * 5)) = some (.int .i64 (rd_T37 xs i).f0) ∧ w.cell? ⟨(ad.add (i.toNat * 5)).block, (ad.add (i.toNat * 5)).off + 1, none⟩ = some (.int .i64 (rd_T37 xs i).f1) ∧ w.cell? ⟨(ad.add (i.toNat * 5)).block, (ad.add (i.toNat * 5)).off + 2, none⟩ = some (.string (rd_T37 xs i).f2) ∧ w.cell? ⟨(ad.add (i.toNat * 5)).block, (ad.add (i.toNat * 5)).off + 3, none⟩ = some (.string (rd_T37 xs i).f3) ∧ w.cell? ⟨(ad.add (i.toNat * 5)).block, (ad.add (i.toNat * 5)).off + 4, none⟩ = some (.slice A4 (rd_T37 xs i).f4.length c4) ∧ (rd_T37 xs i).f4.length ≤ c4 ∧ k31.C w A4 (rd_T37 xs i).f4.length (rd_T37 xs i).f4 := by
  obtain ⟨ad, c, e, _, hK, hc0⟩ := Kd.C_get h z37 i h0 h1
  have hc : ∀ j u, c[j]? = some u → w.cell? (ad.add (i.toNat * 5 + j)) = some u := hc0
  obtain ⟨A4, c4, rfl, l4, g4⟩ := k37_open hK
  exact ⟨ad, A4, c4, e, hc 0 _ rfl, by rw [← add_field _ _ 1 (by omega)]; exact hc 1 _ rfl, by rw [← add_field _ _ 2 (by omega)]; exact hc 2 _ rfl, by rw [← add_field _ _ 3 (by omega)]; exact hc 3 _ rfl, by rw [← add_field _ _ 4 (by omega)]; exact hc 4 _ rfl, l4, g4⟩
/-- A body; its arms are a pattern, a guard, a body. -/
structure S42 where
  f0 : List S37
  f1 : Int
  f2 : Int
  f3 : ByteArray
  f4 : List S31
  f5 : List S42
  f6 : List (S83 × List S31 × S42)
  f7 : Bool
  f8 : Int
def z42 : S42 := ⟨[], 0, 0, ⟨#[]⟩, [], [], [], false, 0⟩
abbrev Arm := S83 × List S31 × S42
def kArmOf (d : Kd S42) : Kd Arm := Kd.pair k83 (Kd.pair (Kd.slice 31 k31) d)
def F42 (d : Kd S42) : Kd S42 := Kd.iso (Kd.pair (Kd.slice 37 k37) (Kd.pair (Kd.int .i64) (Kd.pair (Kd.int .i64) (Kd.pair Kd.string (Kd.pair (Kd.slice 31 k31) (Kd.pair (Kd.slice 42 d) (Kd.pair (Kd.slice 85 (kArmOf d)) (Kd.pair Kd.bool (Kd.int .i64))))))))) (fun x : S42 => (x.f0, x.f1, x.f2, x.f3, x.f4, x.f5, x.f6, x.f7, x.f8))
theorem monoArm : Kd.Mono kArmOf := Kd.mono_pair (Kd.mono_const _) (Kd.mono_pair (Kd.mono_const _) Kd.mono_id)
theorem mono42 : Kd.Mono F42 := Kd.mono_iso _ (Kd.mono_pair (Kd.mono_const _) (Kd.mono_pair (Kd.mono_const _) (Kd.mono_pair (Kd.mono_const _) (Kd.mono_pair (Kd.mono_const _) (Kd.mono_pair (Kd.mono_const _) (Kd.mono_pair (Kd.mono_slice 42 Kd.mono_id) (Kd.mono_pair (Kd.mono_slice 85 monoArm) (Kd.mono_pair (Kd.mono_const _) (Kd.mono_const _)))))))))
theorem sub42 : Kd.Sub F42 [37, 31, 42, 85, 83] := Kd.sub_iso _ (Kd.sub_pair (Kd.sub_const _ (by decide)) (Kd.sub_pair (Kd.sub_const _ (by decide)) (Kd.sub_pair (Kd.sub_const _ (by decide)) (Kd.sub_pair (Kd.sub_const _ (by decide)) (Kd.sub_pair (Kd.sub_const _ (by decide)) (Kd.sub_pair (Kd.sub_slice 42 (by decide) Kd.sub_id) (Kd.sub_pair (Kd.sub_slice 85 (by decide) (Kd.sub_pair (Kd.sub_const _ (by decide)) (Kd.sub_pair (Kd.sub_const _ (by decide)) Kd.sub_id))) (Kd.sub_pair (Kd.sub_const _ (by decide)) (Kd.sub_const _ (by decide))))))))))
theorem sz42 : ∀ n, (Kd.upto F42 9 [37, 31, 42, 85, 83] n).sz = 9 := Kd.upto_sz (fun _ => rfl)
def k42 : Kd S42 := Kd.fix F42 9 [37, 31, 42, 85, 83] sz42 (Kd.upto_E sub42)
def kArm : Kd Arm := kArmOf k42
/-- What a body's slices lead to. -/
structure BodyC (w : World) (x : S42) (A0 : Option Addr) (c0 : Nat) (A4 : Option Addr) (c4 : Nat) (A5 : Option Addr) (c5 : Nat) (A6 : Option Addr) (c6 : Nat) : Prop where
  l0 : x.f0.length ≤ c0
  g0 : k37.C w A0 x.f0.length x.f0
  l4 : x.f4.length ≤ c4
  g4 : k31.C w A4 x.f4.length x.f4
  l5 : x.f5.length ≤ c5
  g5 : k42.C w A5 x.f5.length x.f5
  l6 : x.f6.length ≤ c6
  g6 : kArm.C w A6 x.f6.length x.f6
theorem BodyC.below {w w' : World} {x : S42} {A0 : Option Addr} {c0 : Nat} {A4 : Option Addr} {c4 : Nat} {A5 : Option Addr} {c5 : Nat} {A6 : Option Addr} {c6 : Nat} (h : BodyC w x A0 c0 A4 c4 A5 c5 A6 c6) (hb : Below w.heap.size w w') : BodyC w' x A0 c0 A4 c4 A5 c5 A6 c6 :=
  ⟨h.l0, Kd.C_below h.g0 hb, h.l4, Kd.C_below h.g4 hb, h.l5, Kd.C_below h.g5 hb, h.l6, Kd.C_below h.g6 hb⟩
theorem arm_C (n : Nat) {w : World} {A : Option Addr} {m : Nat} {xs : List Arm} (h : (kArmOf (Kd.upto F42 9 [37, 31, 42, 85, 83] n)).C w A m xs) : kArm.C w A m xs :=
  Kd.C_imp (monoArm.sz _ _ (sz42 n)) (fun w x cs hp => monoArm.K (Kd.upto F42 9 [37, 31, 42, 85, 83] n) k42 (sz42 n) (fun _ _ _ hq => ⟨n, hq⟩) w x cs hp) h
theorem k42_open {w : World} {x : S42} {cs : List Value} (h : k42.K w x cs) : ∃ A0 c0 A4 c4 A5 c5 A6 c6, cs = [.slice A0 x.f0.length c0, .int .i64 x.f1, .int .i64 x.f2, .string x.f3, .slice A4 x.f4.length c4, .slice A5 x.f5.length c5, .slice A6 x.f6.length c6, .bool x.f7, .int .i64 x.f8] ∧ BodyC w x A0 c0 A4 c4 A5 c5 A6 c6 := by
  obtain ⟨n, h⟩ := h
  cases n with
  | zero => exact h.elim
  | succ n =>
    obtain ⟨_, _, rfl, ⟨A0, c0, rfl, l0, g0⟩, ⟨_, _, rfl, rfl, ⟨_, _, rfl, rfl, ⟨_, _, rfl, rfl, ⟨_, _, rfl, ⟨A4, c4, rfl, l4, g4⟩, ⟨_, _, rfl, ⟨A5, c5, rfl, l5, g5⟩, ⟨_, _, rfl, ⟨A6, c6, rfl, l6, g6⟩, ⟨_, _, rfl, rfl, rfl⟩⟩⟩⟩⟩⟩⟩⟩ := h
    exact ⟨A0, c0, A4, c4, A5, c5, A6, c6, rfl, l0, g0, l4, g4, l5, Kd.fix_C g5, l6, arm_C n g6⟩
theorem arm_C_back {w : World} {A : Option Addr} {m : Nat} {xs : List Arm} (h : kArm.C w A m xs) : ∃ n, (kArmOf (Kd.upto F42 9 [37, 31, 42, 85, 83] n)).C w A m xs := by
  have hsz : ∀ n, (kArmOf (Kd.upto F42 9 [37, 31, 42, 85, 83] n)).sz = kArm.sz := fun n => monoArm.sz _ _ (sz42 n)
  rcases Nat.eq_zero_or_pos m with hz | hpos
  · subst hz
    exact ⟨0, h.1, h.2.1, fun hp => absurd hp (Nat.lt_irrefl 0)⟩
  · obtain ⟨ad, e, hc⟩ := h.2.2 hpos
    obtain ⟨N, hN⟩ := Kd.bounded (P := fun n j => ∀ p, xs[j]? = some p → ∃ c, c.length = kArm.sz ∧ (kArmOf (Kd.upto F42 9 [37, 31, 42, 85, 83] n)).K w p c ∧ ∀ i u, c[i]? = some u → w.cell? (ad.add (j * kArm.sz + i)) = some u)
      (fun n n' j hnm hp p hj => by
        obtain ⟨c, h1, h2, h3⟩ := hp p hj
        exact ⟨c, h1, monoArm.K _ _ ((sz42 n).trans (sz42 n').symm) (fun _ _ _ hq => Kd.upto_K_le mono42 sz42 hnm hq) _ _ _ h2, h3⟩) xs.length
      (fun j hj => by
        obtain ⟨c, h1, h2, h3⟩ := hc j _ (List.getElem?_eq_getElem hj)
        obtain ⟨ca, cb, e1, hp, cc, cd, e2, hg, n, hb⟩ := h2
        refine ⟨n, fun p hp' => ?_⟩
        rw [List.getElem?_eq_getElem hj] at hp'
        injection hp' with hp'
        rw [← hp']
        exact ⟨c, h1, ⟨ca, cb, e1, hp, cc, cd, e2, hg, hb⟩, h3⟩)
    refine ⟨N, h.1, h.2.1, fun _ => ⟨ad, e, fun j p hj => ?_⟩⟩
    rw [hsz N]
    exact hN j (List.getElem?_eq_some_iff.1 hj).1 p hj
theorem k42_mk (w : World) (x : S42) {A0 : Option Addr} {c0 : Nat} {A4 : Option Addr} {c4 : Nat} {A5 : Option Addr} {c5 : Nat} {A6 : Option Addr} {c6 : Nat} (h : BodyC w x A0 c0 A4 c4 A5 c5 A6 c6) : k42.K w x [.slice A0 x.f0.length c0, .int .i64 x.f1, .int .i64 x.f2, .string x.f3, .slice A4 x.f4.length c4, .slice A5 x.f5.length c5, .slice A6 x.f6.length c6, .bool x.f7, .int .i64 x.f8] := by
  obtain ⟨n5, q5⟩ := Kd.fix_C_back mono42 h.g5
  obtain ⟨n6, q6⟩ := arm_C_back h.g6
  have r5 := Kd.upto_C_le mono42 sz42 (Nat.le_max_left n5 n6) q5
  have r6 := Kd.C_imp (d' := kArmOf (Kd.upto F42 9 [37, 31, 42, 85, 83] (max n5 n6))) (monoArm.sz _ _ ((sz42 n6).trans (sz42 _).symm)) (fun w x cs hp => monoArm.K _ _ ((sz42 n6).trans (sz42 _).symm) (fun _ _ _ hq => Kd.upto_K_le mono42 sz42 (Nat.le_max_right n5 n6) hq) w x cs hp) q6
  exact ⟨max n5 n6 + 1, ⟨_, _, rfl, ⟨A0, c0, rfl, h.l0, h.g0⟩, ⟨[.int .i64 x.f1], _, rfl, rfl, ⟨[.int .i64 x.f2], _, rfl, rfl, ⟨[.string x.f3], _, rfl, rfl, ⟨_, _, rfl, ⟨A4, c4, rfl, h.l4, h.g4⟩, ⟨_, _, rfl, ⟨A5, c5, rfl, h.l5, r5⟩, ⟨_, _, rfl, ⟨A6, c6, rfl, h.l6, r6⟩, ⟨[.bool x.f7], [.int .i64 x.f8], rfl, rfl, rfl⟩⟩⟩⟩⟩⟩⟩⟩⟩
def rd_T42 (xs : List S42) (i : Int) : S42 := xs.getD i.toNat z42
theorem at_T42 {w : World} {A : Option Addr} {n : Nat} {xs : List S42} (h : Kd.C k42 w A n xs) (i : Int) (h0 : 0 ≤ i) (h1 : i < n) : ∃ ad A0 c0 A4 c4 A5 c5 A6 c6, A = some ad ∧ w.cell? (ad.add (i.toNat * 9)) = some (.slice A0 (rd_T42 xs i).f0.length c0) ∧ w.cell? ⟨(ad.add (i.toNat * 9)).block, (ad.add (i.toNat * 9)).off + 1, none⟩ = some (.int .i64 (rd_T42 xs i).f1) ∧ w.cell? ⟨(ad.add (i.toNat * 9)).block, (ad.add (i.toNat * 9)).off + 2, none⟩ = some (.int .i64 (rd_T42 xs i).f2) ∧ w.cell? ⟨(ad.add (i.toNat * 9)).block, (ad.add (i.toNat * 9)).off + 3, none⟩ = some (.string (rd_T42 xs i).f3) ∧ w.cell? ⟨(ad.add (i.toNat * 9)).block, (ad.add (i.toNat * 9)).off + 4, none⟩ = some (.slice A4 (rd_T42 xs i).f4.length c4) ∧ w.cell? ⟨(ad.add (i.toNat * 9)).block, (ad.add (i.toNat * 9)).off + 5, none⟩ = some (.slice A5 (rd_T42 xs i).f5.length c5) ∧ w.cell? ⟨(ad.add (i.toNat * 9)).block, (ad.add (i.toNat * 9)).off + 6, none⟩ = some (.slice A6 (rd_T42 xs i).f6.length c6) ∧ w.cell? ⟨(ad.add (i.toNat * 9)).block, (ad.add (i.toNat * 9)).off + 7, none⟩ = some (.bool (rd_T42 xs i).f7) ∧ w.cell? ⟨(ad.add (i.toNat * 9)).block, (ad.add (i.toNat * 9)).off + 8, none⟩ = some (.int .i64 (rd_T42 xs i).f8) ∧ BodyC w (rd_T42 xs i) A0 c0 A4 c4 A5 c5 A6 c6 := by
  obtain ⟨ad, c, e, _, hK, hc0⟩ := Kd.C_get h z42 i h0 h1
  have hc : ∀ j u, c[j]? = some u → w.cell? (ad.add (i.toNat * 9 + j)) = some u := hc0
  obtain ⟨A0, c0, A4, c4, A5, c5, A6, c6, rfl, hB⟩ := k42_open hK
  exact ⟨ad, A0, c0, A4, c4, A5, c5, A6, c6, e, hc 0 _ rfl, by rw [← add_field _ _ 1 (by omega)]; exact hc 1 _ rfl, by rw [← add_field _ _ 2 (by omega)]; exact hc 2 _ rfl, by rw [← add_field _ _ 3 (by omega)]; exact hc 3 _ rfl, by rw [← add_field _ _ 4 (by omega)]; exact hc 4 _ rfl, by rw [← add_field _ _ 5 (by omega)]; exact hc 5 _ rfl, by rw [← add_field _ _ 6 (by omega)]; exact hc 6 _ rfl, by rw [← add_field _ _ 7 (by omega)]; exact hc 7 _ rfl, by rw [← add_field _ _ 8 (by omega)]; exact hc 8 _ rfl, hB⟩
def zArm : Arm := (z83, [], z42)
theorem kArm_open {w : World} {x : Arm} {cs : List Value} (h : kArm.K w x cs) : ∃ Ap cp Ag cg A0 c0 A4 c4 A5 c5 A6 c6, cs = [.int .i64 x.1.f0, .int .i64 x.1.f1, .int .i64 x.1.f2, .string x.1.f3, .slice Ap x.1.f4.length cp, .slice Ag x.2.1.length cg, .slice A0 x.2.2.f0.length c0, .int .i64 x.2.2.f1, .int .i64 x.2.2.f2, .string x.2.2.f3, .slice A4 x.2.2.f4.length c4, .slice A5 x.2.2.f5.length c5, .slice A6 x.2.2.f6.length c6, .bool x.2.2.f7, .int .i64 x.2.2.f8] ∧ x.1.f4.length ≤ cp ∧ k83.C w Ap x.1.f4.length x.1.f4 ∧ x.2.1.length ≤ cg ∧ k31.C w Ag x.2.1.length x.2.1 ∧ BodyC w x.2.2 A0 c0 A4 c4 A5 c5 A6 c6 := by
  obtain ⟨_, _, rfl, hp, _, _, rfl, ⟨Ag, cg, rfl, lg, gg⟩, hb⟩ := h
  obtain ⟨Ap, cp, rfl, lp, gp⟩ := k83_open hp
  obtain ⟨A0, c0, A4, c4, A5, c5, A6, c6, rfl, hB⟩ := k42_open hb
  exact ⟨Ap, cp, Ag, cg, A0, c0, A4, c4, A5, c5, A6, c6, rfl, lp, gp, lg, gg, hB⟩
def rd_TArm (xs : List Arm) (i : Int) : Arm := xs.getD i.toNat zArm
theorem at_TArm {w : World} {A : Option Addr} {n : Nat} {xs : List Arm} (h : Kd.C kArm w A n xs) (i : Int) (h0 : 0 ≤ i) (h1 : i < n) : ∃ ad Ap cp Ag cg A0 c0 A4 c4 A5 c5 A6 c6, A = some ad ∧ w.cell? (ad.add (i.toNat * 15)) = some (.int .i64 (rd_TArm xs i).1.f0) ∧ w.cell? ⟨(ad.add (i.toNat * 15)).block, (ad.add (i.toNat * 15)).off + 1, none⟩ = some (.int .i64 (rd_TArm xs i).1.f1) ∧ w.cell? ⟨(ad.add (i.toNat * 15)).block, (ad.add (i.toNat * 15)).off + 2, none⟩ = some (.int .i64 (rd_TArm xs i).1.f2) ∧ w.cell? ⟨(ad.add (i.toNat * 15)).block, (ad.add (i.toNat * 15)).off + 3, none⟩ = some (.string (rd_TArm xs i).1.f3) ∧ w.cell? ⟨(ad.add (i.toNat * 15)).block, (ad.add (i.toNat * 15)).off + 4, none⟩ = some (.slice Ap (rd_TArm xs i).1.f4.length cp) ∧ w.cell? ⟨(ad.add (i.toNat * 15)).block, (ad.add (i.toNat * 15)).off + 5, none⟩ = some (.slice Ag (rd_TArm xs i).2.1.length cg) ∧ w.cell? ⟨(ad.add (i.toNat * 15)).block, (ad.add (i.toNat * 15)).off + 6, none⟩ = some (.slice A0 (rd_TArm xs i).2.2.f0.length c0) ∧ w.cell? ⟨(ad.add (i.toNat * 15)).block, (ad.add (i.toNat * 15)).off + 7, none⟩ = some (.int .i64 (rd_TArm xs i).2.2.f1) ∧ w.cell? ⟨(ad.add (i.toNat * 15)).block, (ad.add (i.toNat * 15)).off + 8, none⟩ = some (.int .i64 (rd_TArm xs i).2.2.f2) ∧ w.cell? ⟨(ad.add (i.toNat * 15)).block, (ad.add (i.toNat * 15)).off + 9, none⟩ = some (.string (rd_TArm xs i).2.2.f3) ∧ w.cell? ⟨(ad.add (i.toNat * 15)).block, (ad.add (i.toNat * 15)).off + 10, none⟩ = some (.slice A4 (rd_TArm xs i).2.2.f4.length c4) ∧ w.cell? ⟨(ad.add (i.toNat * 15)).block, (ad.add (i.toNat * 15)).off + 11, none⟩ = some (.slice A5 (rd_TArm xs i).2.2.f5.length c5) ∧ w.cell? ⟨(ad.add (i.toNat * 15)).block, (ad.add (i.toNat * 15)).off + 12, none⟩ = some (.slice A6 (rd_TArm xs i).2.2.f6.length c6) ∧ w.cell? ⟨(ad.add (i.toNat * 15)).block, (ad.add (i.toNat * 15)).off + 13, none⟩ = some (.bool (rd_TArm xs i).2.2.f7) ∧ w.cell? ⟨(ad.add (i.toNat * 15)).block, (ad.add (i.toNat * 15)).off + 14, none⟩ = some (.int .i64 (rd_TArm xs i).2.2.f8) ∧ (rd_TArm xs i).1.f4.length ≤ cp ∧ k83.C w Ap (rd_TArm xs i).1.f4.length (rd_TArm xs i).1.f4 ∧ (rd_TArm xs i).2.1.length ≤ cg ∧ k31.C w Ag (rd_TArm xs i).2.1.length (rd_TArm xs i).2.1 ∧ BodyC w (rd_TArm xs i).2.2 A0 c0 A4 c4 A5 c5 A6 c6 := by
  obtain ⟨ad, c, e, _, hK, hc0⟩ := Kd.C_get h zArm i h0 h1
  have hc : ∀ j u, c[j]? = some u → w.cell? (ad.add (i.toNat * 15 + j)) = some u := hc0
  obtain ⟨Ap, cp, Ag, cg, A0, c0, A4, c4, A5, c5, A6, c6, rfl, lp, gp, lg, gg, hB⟩ := kArm_open hK
  exact ⟨ad, Ap, cp, Ag, cg, A0, c0, A4, c4, A5, c5, A6, c6, e, hc 0 _ rfl, by rw [← add_field _ _ 1 (by omega)]; exact hc 1 _ rfl, by rw [← add_field _ _ 2 (by omega)]; exact hc 2 _ rfl, by rw [← add_field _ _ 3 (by omega)]; exact hc 3 _ rfl, by rw [← add_field _ _ 4 (by omega)]; exact hc 4 _ rfl, by rw [← add_field _ _ 5 (by omega)]; exact hc 5 _ rfl, by rw [← add_field _ _ 6 (by omega)]; exact hc 6 _ rfl, by rw [← add_field _ _ 7 (by omega)]; exact hc 7 _ rfl, by rw [← add_field _ _ 8 (by omega)]; exact hc 8 _ rfl, by rw [← add_field _ _ 9 (by omega)]; exact hc 9 _ rfl, by rw [← add_field _ _ 10 (by omega)]; exact hc 10 _ rfl, by rw [← add_field _ _ 11 (by omega)]; exact hc 11 _ rfl, by rw [← add_field _ _ 12 (by omega)]; exact hc 12 _ rfl, by rw [← add_field _ _ 13 (by omega)]; exact hc 13 _ rfl, by rw [← add_field _ _ 14 (by omega)]; exact hc 14 _ rfl, lp, gp, lg, gg, hB⟩
/-- A definition. -/
structure S44 where
  f0 : Int
  f1 : ByteArray
  f2 : List ByteArray
  f3 : S42
def z44 : S44 := ⟨0, ⟨#[]⟩, [], z42⟩
def k44 : Kd S44 := Kd.iso (Kd.pair (Kd.int .i64) (Kd.pair Kd.string (Kd.pair (Kd.slice 9 Kd.string) k42))) (fun x : S44 => (x.f0, x.f1, x.f2, x.f3))
theorem k44_open {w : World} {x : S44} {cs : List Value} (h : k44.K w x cs) : ∃ As cs_ A0 c0 A4 c4 A5 c5 A6 c6, cs = [.int .i64 x.f0, .string x.f1, .slice As x.f2.length cs_, .slice A0 x.f3.f0.length c0, .int .i64 x.f3.f1, .int .i64 x.f3.f2, .string x.f3.f3, .slice A4 x.f3.f4.length c4, .slice A5 x.f3.f5.length c5, .slice A6 x.f3.f6.length c6, .bool x.f3.f7, .int .i64 x.f3.f8] ∧ x.f2.length ≤ cs_ ∧ Kd.string.C w As x.f2.length x.f2 ∧ BodyC w x.f3 A0 c0 A4 c4 A5 c5 A6 c6 := by
  obtain ⟨_, _, rfl, rfl, _, _, rfl, rfl, _, _, rfl, ⟨As, cs_, rfl, ls, gs⟩, hb⟩ := h
  obtain ⟨A0, c0, A4, c4, A5, c5, A6, c6, rfl, hB⟩ := k42_open hb
  exact ⟨As, cs_, A0, c0, A4, c4, A5, c5, A6, c6, rfl, ls, gs, hB⟩
theorem k44_mk (w : World) (x : S44) {As : Option Addr} {cs_ : Nat} {A0 : Option Addr} {c0 : Nat} {A4 : Option Addr} {c4 : Nat} {A5 : Option Addr} {c5 : Nat} {A6 : Option Addr} {c6 : Nat} (ls : x.f2.length ≤ cs_) (gs : Kd.string.C w As x.f2.length x.f2) (h : BodyC w x.f3 A0 c0 A4 c4 A5 c5 A6 c6) : k44.K w x [.int .i64 x.f0, .string x.f1, .slice As x.f2.length cs_, .slice A0 x.f3.f0.length c0, .int .i64 x.f3.f1, .int .i64 x.f3.f2, .string x.f3.f3, .slice A4 x.f3.f4.length c4, .slice A5 x.f3.f5.length c5, .slice A6 x.f3.f6.length c6, .bool x.f3.f7, .int .i64 x.f3.f8] :=
  ⟨[.int .i64 x.f0], _, rfl, rfl, [.string x.f1], _, rfl, rfl, _, _, rfl, ⟨As, cs_, rfl, ls, gs⟩, k42_mk w x.f3 h⟩
def rd_T44 (xs : List S44) (i : Int) : S44 := xs.getD i.toNat z44
theorem at_T44 {w : World} {A : Option Addr} {n : Nat} {xs : List S44} (h : Kd.C k44 w A n xs) (i : Int) (h0 : 0 ≤ i) (h1 : i < n) : ∃ ad As cs_ A0 c0 A4 c4 A5 c5 A6 c6, A = some ad ∧ w.cell? (ad.add (i.toNat * 12)) = some (.int .i64 (rd_T44 xs i).f0) ∧ w.cell? ⟨(ad.add (i.toNat * 12)).block, (ad.add (i.toNat * 12)).off + 1, none⟩ = some (.string (rd_T44 xs i).f1) ∧ w.cell? ⟨(ad.add (i.toNat * 12)).block, (ad.add (i.toNat * 12)).off + 2, none⟩ = some (.slice As (rd_T44 xs i).f2.length cs_) ∧ w.cell? ⟨(ad.add (i.toNat * 12)).block, (ad.add (i.toNat * 12)).off + 3, none⟩ = some (.slice A0 (rd_T44 xs i).f3.f0.length c0) ∧ w.cell? ⟨(ad.add (i.toNat * 12)).block, (ad.add (i.toNat * 12)).off + 4, none⟩ = some (.int .i64 (rd_T44 xs i).f3.f1) ∧ w.cell? ⟨(ad.add (i.toNat * 12)).block, (ad.add (i.toNat * 12)).off + 5, none⟩ = some (.int .i64 (rd_T44 xs i).f3.f2) ∧ w.cell? ⟨(ad.add (i.toNat * 12)).block, (ad.add (i.toNat * 12)).off + 6, none⟩ = some (.string (rd_T44 xs i).f3.f3) ∧ w.cell? ⟨(ad.add (i.toNat * 12)).block, (ad.add (i.toNat * 12)).off + 7, none⟩ = some (.slice A4 (rd_T44 xs i).f3.f4.length c4) ∧ w.cell? ⟨(ad.add (i.toNat * 12)).block, (ad.add (i.toNat * 12)).off + 8, none⟩ = some (.slice A5 (rd_T44 xs i).f3.f5.length c5) ∧ w.cell? ⟨(ad.add (i.toNat * 12)).block, (ad.add (i.toNat * 12)).off + 9, none⟩ = some (.slice A6 (rd_T44 xs i).f3.f6.length c6) ∧ w.cell? ⟨(ad.add (i.toNat * 12)).block, (ad.add (i.toNat * 12)).off + 10, none⟩ = some (.bool (rd_T44 xs i).f3.f7) ∧ w.cell? ⟨(ad.add (i.toNat * 12)).block, (ad.add (i.toNat * 12)).off + 11, none⟩ = some (.int .i64 (rd_T44 xs i).f3.f8) ∧ (rd_T44 xs i).f2.length ≤ cs_ ∧ Kd.string.C w As (rd_T44 xs i).f2.length (rd_T44 xs i).f2 ∧ BodyC w (rd_T44 xs i).f3 A0 c0 A4 c4 A5 c5 A6 c6 := by
  obtain ⟨ad, c, e, _, hK, hc0⟩ := Kd.C_get h z44 i h0 h1
  have hc : ∀ j u, c[j]? = some u → w.cell? (ad.add (i.toNat * 12 + j)) = some u := hc0
  obtain ⟨As, cs_, A0, c0, A4, c4, A5, c5, A6, c6, rfl, ls, gs, hB⟩ := k44_open hK
  exact ⟨ad, As, cs_, A0, c0, A4, c4, A5, c5, A6, c6, e, hc 0 _ rfl, by rw [← add_field _ _ 1 (by omega)]; exact hc 1 _ rfl, by rw [← add_field _ _ 2 (by omega)]; exact hc 2 _ rfl, by rw [← add_field _ _ 3 (by omega)]; exact hc 3 _ rfl, by rw [← add_field _ _ 4 (by omega)]; exact hc 4 _ rfl, by rw [← add_field _ _ 5 (by omega)]; exact hc 5 _ rfl, by rw [← add_field _ _ 6 (by omega)]; exact hc 6 _ rfl, by rw [← add_field _ _ 7 (by omega)]; exact hc 7 _ rfl, by rw [← add_field _ _ 8 (by omega)]; exact hc 8 _ rfl, by rw [← add_field _ _ 9 (by omega)]; exact hc 9 _ rfl, by rw [← add_field _ _ 10 (by omega)]; exact hc 10 _ rfl, by rw [← add_field _ _ 11 (by omega)]; exact hc 11 _ rfl, ls, gs, hB⟩
/-- A program: its definitions, its place, its main, its arguments. -/
structure S25 where
  f0 : List S44
  f1 : Int
  f2 : ByteArray
  f3 : List S31
end Go.Proofs.YtjboncbmeanlgaaDoor.Tr
