/- SameB, 1 declarations cut -/
import Derived.Test.YtjboncbmeanlgaaDoorQSameE
import Derived.Test.YtjboncbmeanlgaaDoorQSameP
import Derived.Test.YtjboncbmeanlgaaDoorQLivesW
/- The document's Same, of bodies. -/
set_option linter.unusedVariables false
set_option linter.unusedSimpArgs false
namespace Go.Proofs.YtjboncbmeanlgaaDoor.Tr
open Go.RowKit Go.Proofs Go.Proofs.YtjboncbmeanlgaaDoor.PTreePrints Go.Proofs.YtjboncbmeanlgaaDoorW.PrintWords Go.Proofs.YtjboncbmeanlgaaDoorW.PrintMore Go.Proofs.YtjboncbmeanlgaaDoorW.PrintLast
/-- Some, each the same as the one at its place. -/
def all2 {α : Type} (f : α → α → Bool) : List α → List α → Bool
  | [], b => b.isEmpty
  | x :: r, b => match b with
    | [] => false
    | y :: s => f x y && all2 f r s
theorem all2_app {α : Type} (f : α → α → Bool) : ∀ (a b c d : List α), a.length = c.length → all2 f (a ++ b) (c ++ d) = (all2 f a c && all2 f b d)
  | [], b, [], d, h => by simp [all2]
  | [], b, y :: c, d, h => by simp at h
  | x :: a, b, [], d, h => by simp at h
  | x :: a, b, y :: c, d, h => by
    simp only [List.length_cons, Nat.add_right_cancel_iff] at h
    rw [List.cons_append, List.cons_append, all2, all2_app f a b c d h, all2, Bool.and_assoc]
theorem all2_one {α : Type} (f : α → α → Bool) (x y : α) : all2 f [x] [y] = f x y := by simp [all2]
theorem all2_next {α : Type} (f : α → α → Bool) {a b : List α} {i : Nat} (hi : i < a.length) (hj : i < b.length) (h : all2 f (a.take i) (b.take i) = true) : all2 f (a.take (i + 1)) (b.take (i + 1)) = f a[i] b[i] := by
  rw [List.take_succ_eq_append_getElem hi, List.take_succ_eq_append_getElem hj, all2_app f _ _ _ _ (by simp; omega), h, all2_one, Bool.true_and]
theorem all2_no {α : Type} (f : α → α → Bool) {a b : List α} {i : Nat} (hi : i < a.length) (hj : i < b.length) (h : f a[i] b[i] = false) : all2 f a b = false := by
  have e1 : a = a.take i ++ ([a[i]] ++ a.drop (i + 1)) := by rw [List.singleton_append, ← List.drop_eq_getElem_cons hi, List.take_append_drop]
  have e2 : b = b.take i ++ ([b[i]] ++ b.drop (i + 1)) := by rw [List.singleton_append, ← List.drop_eq_getElem_cons hj, List.take_append_drop]
  rw [e1, e2, all2_app f _ _ _ _ (by simp; omega), all2_app f [a[i]] _ [b[i]] _ rfl, all2_one, h]
  simp
theorem all2_len {α : Type} (f : α → α → Bool) : ∀ (a b : List α), a.length ≠ b.length → all2 f a b = false
  | [], [], h => absurd rfl h
  | [], y :: s, h => by simp [all2]
  | x :: r, [], h => by simp [all2]
  | x :: r, y :: s, h => by
    rw [all2, all2_len f r s (by simpa using h), Bool.and_false]
/-- Are two statements the same? -/
def sameSt (x y : S37) : Bool := x.f0 == y.f0 && (x.f2.toList == y.f2.toList && (x.f3.toList == y.f3.toList && sameEL x.f4 y.f4))
mutual
/-- Are two bodies the same? -/
def sameB : S42 → S42 → Bool
  | ⟨f0, f1, _, f3, f4, f5, f6, f7, f8⟩, y => f1 == y.f1 && (f3.toList == y.f3.toList && (f7 == y.f7 && (f8 == y.f8 && (sameEL f4 y.f4 && (sameBL f5 y.f5 && (all2 sameSt f0 y.f0 && sameAL f6 y.f6))))))
def sameBL : List S42 → List S42 → Bool
  | [], b => b.isEmpty
  | x :: r, b => match b with
    | [] => false
    | y :: s => sameB x y && sameBL r s
def sameAL : List (S83 × List S31 × S42) → List (S83 × List S31 × S42) → Bool
  | [], b => b.isEmpty
  | x :: r, b => match b with
    | [] => false
    | y :: s => sameA x y && sameAL r s
def sameA : S83 × List S31 × S42 → S83 × List S31 × S42 → Bool
  | (p, q), y => sameP p y.1 && sameG q y.2
def sameG : List S31 × S42 → List S31 × S42 → Bool
  | (g, b), y => sameEL g y.1 && sameB b y.2
end
theorem sameBL_all : ∀ (a b : List S42), sameBL a b = all2 sameB a b
  | [], b => by rw [sameBL, all2]
  | x :: r, [] => by rw [sameBL, all2]
  | x :: r, y :: s => by rw [sameBL, all2, sameBL_all r s]
theorem sameAL_all : ∀ (a b : List Arm), sameAL a b = all2 sameA a b
  | [], b => by rw [sameAL, all2]
  | x :: r, [] => by rw [sameAL, all2]
  | x :: r, y :: s => by rw [sameAL, all2, sameAL_all r s]
theorem sameB_eq (x y : S42) : sameB x y = (x.f1 == y.f1 && (x.f3.toList == y.f3.toList && (x.f7 == y.f7 && (x.f8 == y.f8 && (sameEL x.f4 y.f4 && (sameBL x.f5 y.f5 && (all2 sameSt x.f0 y.f0 && all2 sameA x.f6 y.f6))))))) := by cases x; rw [sameB, sameAL_all]
theorem sameA_eq (x y : Arm) : sameA x y = (sameP x.1 y.1 && (sameEL x.2.1 y.2.1 && sameB x.2.2 y.2.2)) := by obtain ⟨p, g, b⟩ := x; rw [sameA, sameG]
/-- What is to be shown. -/
abbrev SB (l : List S42) : Prop := ∀ (b : List S42) (A : Option Addr) (c : Nat) (B : Option Addr) (d : Nat) (w : World), Kd.C k42 w A l.length l → l.length ≤ c → Kd.C k42 w B b.length b → b.length ≤ d → Calls Tryd.prog 37 #[.slice A l.length c, .slice B b.length d] w (Says (sameBL l b) w)
/-- Of two patterns, each alone in a slice. -/
theorem sameP1 (p q : S83) {g h T U : Nat} {Ap Aq : Option Addr} {cp cq : Nat} {w : World} (hg : w.heap[g]? = some (.cells #[.int .i64 p.f0, .int .i64 p.f1, .int .i64 p.f2, .string p.f3, .slice Ap p.f4.length cp] T (0, 0))) (hh : w.heap[h]? = some (.cells #[.int .i64 q.f0, .int .i64 q.f1, .int .i64 q.f2, .string q.f3, .slice Aq q.f4.length cq] U (0, 0)))
    (lp : p.f4.length ≤ cp) (gp : k83.C w Ap p.f4.length p.f4) (lq : q.f4.length ≤ cq) (gq : k83.C w Aq q.f4.length q.f4) :
    Calls Tryd.prog 63 #[.slice (some ⟨g, 0, none⟩) 1 1, .slice (some ⟨h, 0, none⟩) 1 1] w (Says (sameP p q) w) := by
  have h1 := samePL_call [p] [q] (some ⟨g, 0, none⟩) 1 (some ⟨h, 0, none⟩) 1 w (C_one hg (k83_mk w p lp gp)) (Nat.le_refl 1) (C_one hh (k83_mk w q lq gq)) (Nat.le_refl 1)
  rwa [samePL_one] at h1
/-- Of two bodies, each alone in a slice. -/
theorem sameB1 (p q : S42) (hS : SB [p]) {g h T U : Nat} {A0 : Option Addr} {a0 : Nat} {A4 : Option Addr} {a4 : Nat} {A5 : Option Addr} {a5 : Nat} {A6 : Option Addr} {a6 : Nat} {E0 : Option Addr} {e0 : Nat} {E4 : Option Addr} {e4 : Nat} {E5 : Option Addr} {e5 : Nat} {E6 : Option Addr} {e6 : Nat} {w : World} (hg : w.heap[g]? = some (.cells #[.slice A0 p.f0.length a0, .int .i64 p.f1, .int .i64 p.f2, .string p.f3, .slice A4 p.f4.length a4, .slice A5 p.f5.length a5, .slice A6 p.f6.length a6, .bool p.f7, .int .i64 p.f8] T (0, 0))) (hh : w.heap[h]? = some (.cells #[.slice E0 q.f0.length e0, .int .i64 q.f1, .int .i64 q.f2, .string q.f3, .slice E4 q.f4.length e4, .slice E5 q.f5.length e5, .slice E6 q.f6.length e6, .bool q.f7, .int .i64 q.f8] U (0, 0)))
    (hp : BodyC w p A0 a0 A4 a4 A5 a5 A6 a6) (hq : BodyC w q E0 e0 E4 e4 E5 e5 E6 e6) :
    Calls Tryd.prog 37 #[.slice (some ⟨g, 0, none⟩) 1 1, .slice (some ⟨h, 0, none⟩) 1 1] w (Says (sameB p q) w) := by
  have h1 := hS [q] (some ⟨g, 0, none⟩) 1 (some ⟨h, 0, none⟩) 1 w (C_one hg (k42_mk w p hp)) (Nat.le_refl 1) (C_one hh (k42_mk w q hq)) (Nat.le_refl 1)
  rwa [sameBL_all, all2_one] at h1
set_option maxRecDepth 100000 in
set_option maxHeartbeats 64000000 in
theorem SB_list (l : List S42) (hI : ∀ x, x ∈ l → SB x.f5) (hJ : ∀ x, x ∈ l → ∀ y, y ∈ x.f6 → SB [y.2.2]) : SB l := by
  intro b A c B d w hC hc hD hd
  rw [sameBL_all]
  have hlen := C_len hC
  have hlen2 := C_len hD
  have HI := Lib.hid hI
  have HJ := Lib.hid hJ
  have HC := Lib.hid hC
  have HD := Lib.hid hD
  clear hI hJ hC hD
  go_enter Tryd.func37, Tryd.ntmps37
  by_cases hln : l.length = b.length
  · have t1 : ((l.length : Int) == (b.length : Int)) = true := by simp [hln]
    have t2 : ((l.length : Int) != (b.length : Int)) = false := by simp [hln]
    go_wp2
    have HLN := Lib.hid hln
    clear t1 t2 hln
    go_loopw [5] (fun vi wr => ∃ i : Nat, vi = .int .i64 i ∧ i ≤ l.length ∧ Hid (all2 sameB (l.take i) (b.take i) = true) ∧ Hid (Below w.heap.size w wr)) (fun vi _ => l.length - (intOf vi).toNat)
    case atStart => exact ⟨0, by go_num, Nat.zero_le _, Lib.hid (by simp [all2]), Lib.hid (Below.refl _ _)⟩
    case round =>
    obtain ⟨i, rfl, hil, HS, HB⟩ := hrel
    obtain ⟨wq, hwq⟩ : ∃ wq, wq = wr := ⟨_, rfl⟩
    subst hwq
    by_cases hlt : i < l.length
    · have hlt2 : i < b.length := by have := HLN.out; omega
      have q1 : (i : Int) < (l.length : Int) := by omega
      have q2 : (i : Int) < (b.length : Int) := by omega
      have q0 : (0 : Int) ≤ (i : Int) := by omega
      obtain ⟨ad, A0, a0, A4, a4, A5, a5, A6, a6, hA, u0, u1, u2, u3, u4, u5, u6, u7, u8, hX⟩ := at_T42 (Kd.C_below HC.out HB.out) (i : Int) q0 q1
      obtain ⟨be, E0, e0, E4, e4, E5, e5, E6, e6, hB, v0, v1, v2, v3, v4, v5, v6, v7, v8, hY⟩ := at_T42 (Kd.C_below HD.out HB.out) (i : Int) q0 q2
      subst hA
      subst hB
      rw [rd42 l i hlt, Int.toNat_natCast] at u0 u1 u2 u3 u4 u5 u6 u7 u8
      rw [rd42 b i hlt2, Int.toNat_natCast] at v0 v1 v2 v3 v4 v5 v6 v7 v8
      rw [rd42 l i hlt] at hX
      rw [rd42 b i hlt2] at hY
      have V0 := Lib.hid (fun (W' : World) (h : Below wq.heap.size wq W') => (h.cell (World.block_lt_of_cell? wq _ v0)).trans v0)
      have V1 := Lib.hid (fun (W' : World) (h : Below wq.heap.size wq W') => (h.cell (World.block_lt_of_cell? wq _ v1)).trans v1)
      have V2 := Lib.hid (fun (W' : World) (h : Below wq.heap.size wq W') => (h.cell (World.block_lt_of_cell? wq _ v2)).trans v2)
      have V3 := Lib.hid (fun (W' : World) (h : Below wq.heap.size wq W') => (h.cell (World.block_lt_of_cell? wq _ v3)).trans v3)
      have V4 := Lib.hid (fun (W' : World) (h : Below wq.heap.size wq W') => (h.cell (World.block_lt_of_cell? wq _ v4)).trans v4)
      have V5 := Lib.hid (fun (W' : World) (h : Below wq.heap.size wq W') => (h.cell (World.block_lt_of_cell? wq _ v5)).trans v5)
      have V6 := Lib.hid (fun (W' : World) (h : Below wq.heap.size wq W') => (h.cell (World.block_lt_of_cell? wq _ v6)).trans v6)
      have V7 := Lib.hid (fun (W' : World) (h : Below wq.heap.size wq W') => (h.cell (World.block_lt_of_cell? wq _ v7)).trans v7)
      have V8 := Lib.hid (fun (W' : World) (h : Below wq.heap.size wq W') => (h.cell (World.block_lt_of_cell? wq _ v8)).trans v8)
      have HX := Lib.hid hX
      have HY := Lib.hid hY
      have HE := Lib.hid (HI.out l[i] (List.getElem_mem hlt))
      have HF := Lib.hid (HJ.out l[i] (List.getElem_mem hlt))
      have HN := Lib.hid (all2_next sameB hlt hlt2 HS.out)
      have HO := Lib.hid (fun h => all2_no sameB (a := l) (b := b) hlt hlt2 h)
      have HSQ := Lib.hid (sameB_eq l[i] b[i])
      clear hX hY v0 v1 v2 v3 v4 v5 v6 v7 v8 HS
      generalize l[i] = p at *
      generalize b[i] = q at *
      have hp0 : p.f0.length ≤ 9223372036854775807 := C_len HX.out.g0
      have hp6 : p.f6.length ≤ 9223372036854775807 := C_len HX.out.g6
      go_upto_region 7 with fail
      have hal := below_alloc (Below.refl _ wq) (.cells #[.slice A0 p.f0.length a0, .int .i64 p.f1, .int .i64 p.f2, .string p.f3, .slice A4 p.f4.length a4, .slice A5 p.f5.length a5, .slice A6 p.f6.length a6, .bool p.f7, .int .i64 p.f8] 42)
      have X1 := Lib.hid (blk_new wq (.cells #[.slice A0 p.f0.length a0, .int .i64 p.f1, .int .i64 p.f2, .string p.f3, .slice A4 p.f4.length a4, .slice A5 p.f5.length a5, .slice A6 p.f6.length a6, .bool p.f7, .int .i64 p.f8] 42))
      have B1 := Lib.hid hal
      clear hal u0 u1 u2 u3 u4 u5 u6 u7 u8
      have v0 := V0.out _ B1.out
      have v1 := V1.out _ B1.out
      have v2 := V2.out _ B1.out
      have v3 := V3.out _ B1.out
      have v4 := V4.out _ B1.out
      have v5 := V5.out _ B1.out
      have v6 := V6.out _ B1.out
      have v7 := V7.out _ B1.out
      have v8 := V8.out _ B1.out
      generalize wq.alloc (.cells #[.slice A0 p.f0.length a0, .int .i64 p.f1, .int .i64 p.f2, .string p.f3, .slice A4 p.f4.length a4, .slice A5 p.f5.length a5, .slice A6 p.f6.length a6, .bool p.f7, .int .i64 p.f8] 42) = w1 at *
      generalize hgx : wq.heap.size = gx at *
      have BW1 := Lib.hid (show Below wq.heap.size wq w1 by rw [hgx]; exact B1.out)
      clear B1 hgx
      go_upto_region 8 with fail
      have hal := below_alloc (Below.refl _ w1) (.cells #[.slice E0 q.f0.length e0, .int .i64 q.f1, .int .i64 q.f2, .string q.f3, .slice E4 q.f4.length e4, .slice E5 q.f5.length e5, .slice E6 q.f6.length e6, .bool q.f7, .int .i64 q.f8] 42)
      have Y2 := Lib.hid (blk_new w1 (.cells #[.slice E0 q.f0.length e0, .int .i64 q.f1, .int .i64 q.f2, .string q.f3, .slice E4 q.f4.length e4, .slice E5 q.f5.length e5, .slice E6 q.f6.length e6, .bool q.f7, .int .i64 q.f8] 42))
      have X2 := Lib.hid (blk_below X1.out hal)
      have B2 := Lib.hid (below_step BW1.out hal)
      clear hal v0 v1 v2 v3 v4 v5 v6 v7 v8 V0 V1 V2 V3 V4 V5 V6 V7 V8 X1
      generalize w1.alloc (.cells #[.slice E0 q.f0.length e0, .int .i64 q.f1, .int .i64 q.f2, .string q.f3, .slice E4 q.f4.length e4, .slice E5 q.f5.length e5, .slice E6 q.f6.length e6, .bool q.f7, .int .i64 q.f8] 42) = w2 at *
      generalize w1.heap.size = gy at *
      have PX := Lib.hid (HX.out.below B2.out)
      have PY := Lib.hid (HY.out.below B2.out)
      have BQ := Lib.hid (below_step HB.out B2.out)
      clear HX HY BW1 B2
      have XS := Lib.hid (fun (W' : World) (h : Below w2.heap.size w2 W') => blk_below X2.out h)
      have YS := Lib.hid (fun (W' : World) (h : Below w2.heap.size w2 W') => blk_below Y2.out h)
      have HS0 := Lib.hid (show p.f0.length ≠ q.f0.length → sameB p q = false from fun h => by rw [HSQ.out, all2_len _ _ _ h]; simp)
      have HS6 := Lib.hid (show p.f6.length ≠ q.f6.length → sameB p q = false from fun h => by rw [HSQ.out, all2_len _ p.f6 _ h]; simp)
      have y0 := blk_cell X2.out 0
      have z0 := blk_cell Y2.out 0
      have y1 := blk_cell X2.out 1
      have z1 := blk_cell Y2.out 1
      have y3 := blk_cell X2.out 3
      have z3 := blk_cell Y2.out 3
      have y4 := blk_cell X2.out 4
      have z4 := blk_cell Y2.out 4
      have y5 := blk_cell X2.out 5
      have z5 := blk_cell Y2.out 5
      have y6 := blk_cell X2.out 6
      have z6 := blk_cell Y2.out 6
      have y7 := blk_cell X2.out 7
      have z7 := blk_cell Y2.out 7
      have y8 := blk_cell X2.out 8
      have z8 := blk_cell Y2.out 8
      have B6 := Lib.hid (Below.refl w2.heap.size w2)
      go_upto_region 10 with (first
        | (go_at_call 36; refine (sameEL_call p.f4 q.f4 A4 a4 E4 e4 _ PX.out.g4 PX.out.l4 PY.out.g4 PY.out.l4).mono ?_; rintro e w5 ⟨rfl, hd_⟩; clear B6; have B6 := Lib.hid hd_; clear hd_ y0 z0 y1 z1 y3 z3 y4 z4 y5 z5 y6 z6 y7 z7 y8 z8; have y0 := blk_cell (XS.out _ B6.out) 0; have z0 := blk_cell (YS.out _ B6.out) 0; have y5 := blk_cell (XS.out _ B6.out) 5; have z5 := blk_cell (YS.out _ B6.out) 5; have y6 := blk_cell (XS.out _ B6.out) 6; have z6 := blk_cell (YS.out _ B6.out) 6; cases hc4 : sameEL p.f4 q.f4)
        | (go_at_call 37; refine (HE.out q.f5 A5 a5 E5 e5 _ (Kd.C_below PX.out.g5 B6.out) PX.out.l5 (Kd.C_below PY.out.g5 B6.out) PY.out.l5).mono ?_; rintro e w6 ⟨rfl, hd_⟩; have B7 := Lib.hid (below_step B6.out hd_); clear B6; have B6 := B7; clear B7 hd_ y0 z0 y5 z5 y6 z6; have y0 := blk_cell (XS.out _ B6.out) 0; have z0 := blk_cell (YS.out _ B6.out) 0; have y6 := blk_cell (XS.out _ B6.out) 6; have z6 := blk_cell (YS.out _ B6.out) 6; cases hc5 : sameBL p.f5 q.f5))
      any_goals (go_ret; refine ⟨?_, below_step BQ.out B6.out⟩; rw [HO.out (by first | (rw [HSQ.out]; first | (have h_ := ‹¬ p.f1 = q.f1›; simp [h_]; done) | (have h_ := ‹¬ p.f3.toList = q.f3.toList›; simp [h_]; done) | (have h_ := ‹¬ p.f7 = q.f7›; simp [h_]; done) | (have h_ := ‹¬ p.f8 = q.f8›; simp [h_]; done) | (simp [hc4]; done) | (simp [hc5]; done)) | exact HS0.out (by omega) | exact HS6.out (by have h_ := ‹(_ != _) = true›; rw [bne_iff_ne] at h_; omega))]; rfl)
      have hl0 : p.f0.length = q.f0.length := by omega
      have hl6 : p.f6.length = q.f6.length := by first | omega | (have h_ := ‹(_ != _) = false›; rw [bne_eq_false_iff_eq] at h_; omega)
      have HEQ := Lib.hid (show sameB p q = (all2 sameSt p.f0 q.f0 && all2 sameA p.f6 q.f6) by rw [HSQ.out]; simp [*])
      rename p.f1 = q.f1 => k1
      rename p.f3.toList = q.f3.toList => k3
      rename p.f7 = q.f7 => k7
      rename p.f8 = q.f8 => k8
      rename (p.f0.length : Int) = (q.f0.length : Int) => k0
      have HL0 := Lib.hid hl0
      have HL6 := Lib.hid hl6
      clear k1 k3 k7 k8 k0 hl0 hl6 hc4 hc5
      first | (rename (p.f6.length : Int) = (q.f6.length : Int) => k6; clear k6) | (rename ((p.f6.length : Int) != (q.f6.length : Int)) = false => k6; clear k6)
      have BJ0 := Lib.hid (below_step (Below.refl _ w2) B6.out)
      clear HS0 HS6 HSQ
      go_wp2
      go_loopw [8] (fun vj wr => ∃ j : Nat, vj = .int .i64 j ∧ j ≤ p.f0.length ∧ Hid (all2 sameSt (p.f0.take j) (q.f0.take j) = true) ∧ Hid (Below w2.heap.size w2 wr)) (fun vj _ => p.f0.length - (intOf vj).toNat)
      case atStart => exact ⟨0, by go_num, Nat.zero_le _, Lib.hid (by simp [all2]), BJ0⟩
      case round =>
      obtain ⟨j, rfl, hjl, HSJ, HBJ⟩ := hrel
      obtain ⟨wj, hwj⟩ : ∃ wj, wj = wr := ⟨_, rfl⟩
      subst hwj
      clear y0 z0 y6 z6
      have y0 := blk_cell (XS.out _ HBJ.out) 0
      have z0 := blk_cell (YS.out _ HBJ.out) 0
      have y6 := blk_cell (XS.out _ HBJ.out) 6
      have z6 := blk_cell (YS.out _ HBJ.out) 6
      by_cases hjt : j < p.f0.length
      · have hjt2 : j < q.f0.length := by have := HL0.out; omega
        have p1 : (j : Int) < (p.f0.length : Int) := by omega
        have p2 : (j : Int) < (q.f0.length : Int) := by omega
        have p0 : (0 : Int) ≤ (j : Int) := by omega
        obtain ⟨ac, A9, a9, hA, m0, m1, m2, m3, m4, hM⟩ := at_T37 (Kd.C_below PX.out.g0 HBJ.out) (j : Int) p0 p1
        obtain ⟨bc, E9, e9, hB, n0, n1, n2, n3, n4, hN⟩ := at_T37 (Kd.C_below PY.out.g0 HBJ.out) (j : Int) p0 p2
        subst hA
        subst hB
        rw [rd37 p.f0 j hjt, Int.toNat_natCast] at m0 m1 m2 m3 m4
        rw [rd37 q.f0 j hjt2, Int.toNat_natCast] at n0 n1 n2 n3 n4
        rw [rd37 p.f0 j hjt] at hM
        rw [rd37 q.f0 j hjt2] at hN
        have N0 := Lib.hid (fun (W' : World) (h : Below wj.heap.size wj W') => (h.cell (World.block_lt_of_cell? wj _ n0)).trans n0)
        have N1 := Lib.hid (fun (W' : World) (h : Below wj.heap.size wj W') => (h.cell (World.block_lt_of_cell? wj _ n1)).trans n1)
        have N2' := Lib.hid (fun (W' : World) (h : Below wj.heap.size wj W') => (h.cell (World.block_lt_of_cell? wj _ n2)).trans n2)
        have N3 := Lib.hid (fun (W' : World) (h : Below wj.heap.size wj W') => (h.cell (World.block_lt_of_cell? wj _ n3)).trans n3)
        have N4 := Lib.hid (fun (W' : World) (h : Below wj.heap.size wj W') => (h.cell (World.block_lt_of_cell? wj _ n4)).trans n4)
        have HM := Lib.hid hM
        have HNN := Lib.hid hN
        have HN3 := Lib.hid (all2_next sameSt hjt hjt2 HSJ.out)
        have HO3 := Lib.hid (fun h => all2_no sameSt (a := p.f0) (b := q.f0) hjt hjt2 h)
        have HSQ3 := Lib.hid (show sameSt p.f0[j] q.f0[j] = (p.f0[j].f0 == q.f0[j].f0 && (p.f0[j].f2.toList == q.f0[j].f2.toList && (p.f0[j].f3.toList == q.f0[j].f3.toList && sameEL p.f0[j].f4 q.f0[j].f4))) from rfl)
        clear hM hN n0 n1 n2 n3 n4 HSJ
        generalize p.f0[j] = s at *
        generalize q.f0[j] = t at *
        go_upto_region 14 with fail
        have hal := below_alloc (Below.refl _ wj) (.cells #[.int .i64 s.f0, .int .i64 s.f1, .string s.f2, .string s.f3, .slice A9 s.f4.length a9] 37)
        have M1 := Lib.hid (blk_new wj (.cells #[.int .i64 s.f0, .int .i64 s.f1, .string s.f2, .string s.f3, .slice A9 s.f4.length a9] 37))
        have B1 := Lib.hid hal
        have z0' := blk_cell (YS.out _ (below_step HBJ.out hal)) 0
        clear hal m0 m1 m2 m3 m4 z0
        have n0 := N0.out _ B1.out
        have n1 := N1.out _ B1.out
        have n2 := N2'.out _ B1.out
        have n3 := N3.out _ B1.out
        have n4 := N4.out _ B1.out
        generalize wj.alloc (.cells #[.int .i64 s.f0, .int .i64 s.f1, .string s.f2, .string s.f3, .slice A9 s.f4.length a9] 37) = w7 at *
        generalize hgs : wj.heap.size = gs at *
        have BW7 := Lib.hid (show Below wj.heap.size wj w7 by rw [hgs]; exact B1.out)
        clear B1 hgs
        go_upto_region 15 with fail
        have hal := below_alloc (Below.refl _ w7) (.cells #[.int .i64 t.f0, .int .i64 t.f1, .string t.f2, .string t.f3, .slice E9 t.f4.length e9] 37)
        have N2 := Lib.hid (blk_new w7 (.cells #[.int .i64 t.f0, .int .i64 t.f1, .string t.f2, .string t.f3, .slice E9 t.f4.length e9] 37))
        have M2 := Lib.hid (blk_below M1.out hal)
        have B2 := Lib.hid (below_step BW7.out hal)
        clear hal n0 n1 n2 n3 n4 N0 N1 N2' N3 N4 M1 z0' y0 y6 z6
        generalize w7.alloc (.cells #[.int .i64 t.f0, .int .i64 t.f1, .string t.f2, .string t.f3, .slice E9 t.f4.length e9] 37) = w8 at *
        generalize w7.heap.size = gt at *
        have m0 := blk_cell M2.out 0
        have n0 := blk_cell N2.out 0
        have m2 := blk_cell M2.out 2
        have n2 := blk_cell N2.out 2
        have m3 := blk_cell M2.out 3
        have n3 := blk_cell N2.out 3
        have m4 := blk_cell M2.out 4
        have n4 := blk_cell N2.out 4
        have LM := HM.out.1
        have LN := HNN.out.1
        have GM := Lib.hid (Kd.C_below HM.out.2 B2.out)
        have GN := Lib.hid (Kd.C_below HNN.out.2 B2.out)
        have B8 := Lib.hid (Below.refl w8.heap.size w8)
        go_wp2_with (go_at_call 36; refine (sameEL_call s.f4 t.f4 A9 a9 E9 e9 _ GM.out LM GN.out LN).mono ?_; rintro e w9 ⟨rfl, hd_⟩; clear B8; have B8 := Lib.hid hd_; clear hd_; cases hc9 : sameEL s.f4 t.f4)
        any_goals (go_ret; refine ⟨?_, below_step BQ.out (below_step HBJ.out (below_step B2.out B8.out))⟩; rw [HO.out (by rw [HEQ.out, HO3.out (by rw [HSQ3.out]; first | (have h_ := ‹¬ s.f0 = t.f0›; simp [h_]; done) | (have h_ := ‹¬ s.f2.toList = t.f2.toList›; simp [h_]; done) | (have h_ := ‹¬ s.f3.toList = t.f3.toList›; simp [h_]; done) | (simp [hc9]; done))]; rfl)]; rfl)
        go_roundw
        case rel => exact ⟨j + 1, by go_num, hjt, Lib.hid (by rw [HN3.out, HSQ3.out]; simp [*]), Lib.hid (below_step HBJ.out (below_step B2.out B8.out))⟩
        case measure => simp [intOf]; omega
      · obtain rfl : j = p.f0.length := by omega
        have hq_ := HSJ.out
        rw [List.take_length, HL0.out, List.take_length] at hq_
        have HEQ2 := Lib.hid (show sameB p q = all2 sameA p.f6 q.f6 by rw [HEQ.out, hq_, Bool.true_and])
        clear hq_ HSJ HEQ
        go_wp2
        go_loopw [11] (fun vk wr => ∃ k : Nat, vk = .int .i64 k ∧ k ≤ p.f6.length ∧ Hid (all2 sameA (p.f6.take k) (q.f6.take k) = true) ∧ Hid (Below w2.heap.size w2 wr)) (fun vk _ => p.f6.length - (intOf vk).toNat)
        case atStart => exact ⟨0, by go_num, Nat.zero_le _, Lib.hid (by simp [all2]), HBJ⟩
        case round =>
        obtain ⟨k, rfl, hkl, HSK, HBK⟩ := hrel
        obtain ⟨wk, hwk⟩ : ∃ wk, wk = wr := ⟨_, rfl⟩
        subst hwk
        clear y0 z0 y6 z6
        have y6 := blk_cell (XS.out _ HBK.out) 6
        have z6 := blk_cell (YS.out _ HBK.out) 6
        by_cases hkt : k < p.f6.length
        · have hkt2 : k < q.f6.length := by have := HL6.out; omega
          have p1 : (k : Int) < (p.f6.length : Int) := by omega
          have p2 : (k : Int) < (q.f6.length : Int) := by omega
          have p0 : (0 : Int) ≤ (k : Int) := by omega
          obtain ⟨ac, Ap, cp, Ag, cg, G0, g0, G4, g4, G5, g5, G6, g6, hA, m0, m1, m2, m3, m4, m5, m6, m7, m8, m9, m10, m11, m12, m13, m14, hM⟩ := at_TArm (Kd.C_below PX.out.g6 HBK.out) (k : Int) p0 p1
          obtain ⟨bc, Hp, hp, Hg, hg, L0, l0, L4, l4, L5, l5, L6, l6, hB, n0, n1, n2, n3, n4, n5, n6, n7, n8, n9, n10, n11, n12, n13, n14, hN⟩ := at_TArm (Kd.C_below PY.out.g6 HBK.out) (k : Int) p0 p2
          subst hA
          subst hB
          rw [rdArm p.f6 k hkt, Int.toNat_natCast] at m0 m1 m2 m3 m4 m5 m6 m7 m8 m9 m10 m11 m12 m13 m14
          rw [rdArm q.f6 k hkt2, Int.toNat_natCast] at n0 n1 n2 n3 n4 n5 n6 n7 n8 n9 n10 n11 n12 n13 n14
          rw [rdArm p.f6 k hkt] at hM
          rw [rdArm q.f6 k hkt2] at hN
          have Q0 := Lib.hid (fun (W' : World) (h : Below wk.heap.size wk W') => (h.cell (World.block_lt_of_cell? wk _ n0)).trans n0)
          have Q1 := Lib.hid (fun (W' : World) (h : Below wk.heap.size wk W') => (h.cell (World.block_lt_of_cell? wk _ n1)).trans n1)
          have Q2 := Lib.hid (fun (W' : World) (h : Below wk.heap.size wk W') => (h.cell (World.block_lt_of_cell? wk _ n2)).trans n2)
          have Q3 := Lib.hid (fun (W' : World) (h : Below wk.heap.size wk W') => (h.cell (World.block_lt_of_cell? wk _ n3)).trans n3)
          have Q4 := Lib.hid (fun (W' : World) (h : Below wk.heap.size wk W') => (h.cell (World.block_lt_of_cell? wk _ n4)).trans n4)
          have Q5 := Lib.hid (fun (W' : World) (h : Below wk.heap.size wk W') => (h.cell (World.block_lt_of_cell? wk _ n5)).trans n5)
          have Q6 := Lib.hid (fun (W' : World) (h : Below wk.heap.size wk W') => (h.cell (World.block_lt_of_cell? wk _ n6)).trans n6)
          have Q7 := Lib.hid (fun (W' : World) (h : Below wk.heap.size wk W') => (h.cell (World.block_lt_of_cell? wk _ n7)).trans n7)
          have Q8 := Lib.hid (fun (W' : World) (h : Below wk.heap.size wk W') => (h.cell (World.block_lt_of_cell? wk _ n8)).trans n8)
          have Q9 := Lib.hid (fun (W' : World) (h : Below wk.heap.size wk W') => (h.cell (World.block_lt_of_cell? wk _ n9)).trans n9)
          have Q10 := Lib.hid (fun (W' : World) (h : Below wk.heap.size wk W') => (h.cell (World.block_lt_of_cell? wk _ n10)).trans n10)
          have Q11 := Lib.hid (fun (W' : World) (h : Below wk.heap.size wk W') => (h.cell (World.block_lt_of_cell? wk _ n11)).trans n11)
          have Q12 := Lib.hid (fun (W' : World) (h : Below wk.heap.size wk W') => (h.cell (World.block_lt_of_cell? wk _ n12)).trans n12)
          have Q13 := Lib.hid (fun (W' : World) (h : Below wk.heap.size wk W') => (h.cell (World.block_lt_of_cell? wk _ n13)).trans n13)
          have Q14 := Lib.hid (fun (W' : World) (h : Below wk.heap.size wk W') => (h.cell (World.block_lt_of_cell? wk _ n14)).trans n14)
          have HM := Lib.hid hM
          have HNN := Lib.hid hN
          have HN3 := Lib.hid (all2_next sameA hkt hkt2 HSK.out)
          have HO3 := Lib.hid (fun h => all2_no sameA (a := p.f6) (b := q.f6) hkt hkt2 h)
          have HSQ3 := Lib.hid (sameA_eq p.f6[k] q.f6[k])
          have HFS := Lib.hid (HF.out p.f6[k] (List.getElem_mem hkt))
          clear hM hN n0 n1 n2 n3 n4 n5 n6 n7 n8 n9 n10 n11 n12 n13 n14 HSK
          generalize p.f6[k] = s at *
          generalize q.f6[k] = t at *
          go_upto_region 21 with fail
          have hal := below_alloc (Below.refl _ wk) (.cells #[.int .i64 s.1.f0, .int .i64 s.1.f1, .int .i64 s.1.f2, .string s.1.f3, .slice Ap s.1.f4.length cp, .slice Ag s.2.1.length cg, .slice G0 s.2.2.f0.length g0, .int .i64 s.2.2.f1, .int .i64 s.2.2.f2, .string s.2.2.f3, .slice G4 s.2.2.f4.length g4, .slice G5 s.2.2.f5.length g5, .slice G6 s.2.2.f6.length g6, .bool s.2.2.f7, .int .i64 s.2.2.f8] 85)
          have M1 := Lib.hid (blk_new wk (.cells #[.int .i64 s.1.f0, .int .i64 s.1.f1, .int .i64 s.1.f2, .string s.1.f3, .slice Ap s.1.f4.length cp, .slice Ag s.2.1.length cg, .slice G0 s.2.2.f0.length g0, .int .i64 s.2.2.f1, .int .i64 s.2.2.f2, .string s.2.2.f3, .slice G4 s.2.2.f4.length g4, .slice G5 s.2.2.f5.length g5, .slice G6 s.2.2.f6.length g6, .bool s.2.2.f7, .int .i64 s.2.2.f8] 85))
          have B1 := Lib.hid hal
          have z6' := blk_cell (YS.out _ (below_step HBK.out hal)) 6
          clear hal m0 m1 m2 m3 m4 m5 m6 m7 m8 m9 m10 m11 m12 m13 m14 z6 y6
          have n0 := Q0.out _ B1.out
          have n1 := Q1.out _ B1.out
          have n2 := Q2.out _ B1.out
          have n3 := Q3.out _ B1.out
          have n4 := Q4.out _ B1.out
          have n5 := Q5.out _ B1.out
          have n6 := Q6.out _ B1.out
          have n7 := Q7.out _ B1.out
          have n8 := Q8.out _ B1.out
          have n9 := Q9.out _ B1.out
          have n10 := Q10.out _ B1.out
          have n11 := Q11.out _ B1.out
          have n12 := Q12.out _ B1.out
          have n13 := Q13.out _ B1.out
          have n14 := Q14.out _ B1.out
          generalize wk.alloc (.cells #[.int .i64 s.1.f0, .int .i64 s.1.f1, .int .i64 s.1.f2, .string s.1.f3, .slice Ap s.1.f4.length cp, .slice Ag s.2.1.length cg, .slice G0 s.2.2.f0.length g0, .int .i64 s.2.2.f1, .int .i64 s.2.2.f2, .string s.2.2.f3, .slice G4 s.2.2.f4.length g4, .slice G5 s.2.2.f5.length g5, .slice G6 s.2.2.f6.length g6, .bool s.2.2.f7, .int .i64 s.2.2.f8] 85) = w11 at *
          generalize hgs : wk.heap.size = gs at *
          have BW11 := Lib.hid (show Below wk.heap.size wk w11 by rw [hgs]; exact B1.out)
          clear B1 hgs
          go_upto_region 22 with fail
          have hal := below_alloc (Below.refl _ w11) (.cells #[.int .i64 t.1.f0, .int .i64 t.1.f1, .int .i64 t.1.f2, .string t.1.f3, .slice Hp t.1.f4.length hp, .slice Hg t.2.1.length hg, .slice L0 t.2.2.f0.length l0, .int .i64 t.2.2.f1, .int .i64 t.2.2.f2, .string t.2.2.f3, .slice L4 t.2.2.f4.length l4, .slice L5 t.2.2.f5.length l5, .slice L6 t.2.2.f6.length l6, .bool t.2.2.f7, .int .i64 t.2.2.f8] 85)
          have N2 := Lib.hid (blk_new w11 (.cells #[.int .i64 t.1.f0, .int .i64 t.1.f1, .int .i64 t.1.f2, .string t.1.f3, .slice Hp t.1.f4.length hp, .slice Hg t.2.1.length hg, .slice L0 t.2.2.f0.length l0, .int .i64 t.2.2.f1, .int .i64 t.2.2.f2, .string t.2.2.f3, .slice L4 t.2.2.f4.length l4, .slice L5 t.2.2.f5.length l5, .slice L6 t.2.2.f6.length l6, .bool t.2.2.f7, .int .i64 t.2.2.f8] 85))
          have M2 := Lib.hid (blk_below M1.out hal)
          have B12 := Lib.hid (below_step BW11.out hal)
          clear hal n0 n1 n2 n3 n4 n5 n6 n7 n8 n9 n10 n11 n12 n13 n14 Q0 Q1 Q2 Q3 Q4 Q5 Q6 Q7 Q8 Q9 Q10 Q11 Q12 Q13 Q14 M1 z6'
          generalize w11.alloc (.cells #[.int .i64 t.1.f0, .int .i64 t.1.f1, .int .i64 t.1.f2, .string t.1.f3, .slice Hp t.1.f4.length hp, .slice Hg t.2.1.length hg, .slice L0 t.2.2.f0.length l0, .int .i64 t.2.2.f1, .int .i64 t.2.2.f2, .string t.2.2.f3, .slice L4 t.2.2.f4.length l4, .slice L5 t.2.2.f5.length l5, .slice L6 t.2.2.f6.length l6, .bool t.2.2.f7, .int .i64 t.2.2.f8] 85) = w12 at *
          generalize w11.heap.size = gt at *
          have m0 := blk_cell M2.out 0
          have n0 := blk_cell N2.out 0
          have m1 := blk_cell M2.out 1
          have n1 := blk_cell N2.out 1
          have m2 := blk_cell M2.out 2
          have n2 := blk_cell N2.out 2
          have m3 := blk_cell M2.out 3
          have n3 := blk_cell N2.out 3
          have m4 := blk_cell M2.out 4
          have n4 := blk_cell N2.out 4
          have m5 := blk_cell M2.out 5
          have n5 := blk_cell N2.out 5
          have m6 := blk_cell M2.out 6
          have n6 := blk_cell N2.out 6
          have m7 := blk_cell M2.out 7
          have n7 := blk_cell N2.out 7
          have m8 := blk_cell M2.out 8
          have n8 := blk_cell N2.out 8
          have m9 := blk_cell M2.out 9
          have n9 := blk_cell N2.out 9
          have m10 := blk_cell M2.out 10
          have n10 := blk_cell N2.out 10
          have m11 := blk_cell M2.out 11
          have n11 := blk_cell N2.out 11
          have m12 := blk_cell M2.out 12
          have n12 := blk_cell N2.out 12
          have m13 := blk_cell M2.out 13
          have n13 := blk_cell N2.out 13
          have m14 := blk_cell M2.out 14
          have n14 := blk_cell N2.out 14
          have LM := HM.out.1
          have LN := HNN.out.1
          have LM3 := HM.out.2.2.1
          have LN3 := HNN.out.2.2.1
          have MS := Lib.hid (fun (W' : World) (h : Below w12.heap.size w12 W') => blk_below M2.out h)
          have NS := Lib.hid (fun (W' : World) (h : Below w12.heap.size w12 W') => blk_below N2.out h)
          have GM := Lib.hid (Kd.C_below HM.out.2.1 B12.out)
          have GN := Lib.hid (Kd.C_below HNN.out.2.1 B12.out)
          have GM3 := Lib.hid (Kd.C_below HM.out.2.2.2.1 B12.out)
          have GN3 := Lib.hid (Kd.C_below HNN.out.2.2.2.1 B12.out)
          have GM4 := Lib.hid (HM.out.2.2.2.2.below B12.out)
          have GN4 := Lib.hid (HNN.out.2.2.2.2.below B12.out)
          clear HM HNN BW11 M2 N2
          have B8 := Lib.hid (Below.refl w12.heap.size w12)
          have s1 : (w12.alloc (.cells #[.int .i64 s.1.f0, .int .i64 s.1.f1, .int .i64 s.1.f2, .string s.1.f3, .slice Ap s.1.f4.length cp] 83)).heap.size = w12.heap.size + 1 := by simp
          have K1 := blk_alloc (blk_new w12 (.cells #[.int .i64 s.1.f0, .int .i64 s.1.f1, .int .i64 s.1.f2, .string s.1.f3, .slice Ap s.1.f4.length cp] 83)) (.cells #[.int .i64 t.1.f0, .int .i64 t.1.f1, .int .i64 t.1.f2, .string t.1.f3, .slice Hp t.1.f4.length hp] 83)
          have K2 := blk_new (w12.alloc (.cells #[.int .i64 s.1.f0, .int .i64 s.1.f1, .int .i64 s.1.f2, .string s.1.f3, .slice Ap s.1.f4.length cp] 83)) (.cells #[.int .i64 t.1.f0, .int .i64 t.1.f1, .int .i64 t.1.f2, .string t.1.f3, .slice Hp t.1.f4.length hp] 83)
          rw [s1] at K2
          have hal := below_alloc (Below.refl _ w12) (.cells #[.int .i64 s.1.f0, .int .i64 s.1.f1, .int .i64 s.1.f2, .string s.1.f3, .slice Ap s.1.f4.length cp] 83)
          have BB := Lib.hid (below_alloc hal (.cells #[.int .i64 t.1.f0, .int .i64 t.1.f1, .int .i64 t.1.f2, .string t.1.f3, .slice Hp t.1.f4.length hp] 83))
          have r0 := blk_cell (NS.out _ hal) 0
          have r1 := blk_cell (NS.out _ hal) 1
          have r2 := blk_cell (NS.out _ hal) 2
          have r3 := blk_cell (NS.out _ hal) 3
          have r4 := blk_cell (NS.out _ hal) 4
          have CP1 := Lib.hid (sameP1 s.1 t.1 K1 K2 LM (Kd.C_below GM.out BB.out) LN (Kd.C_below GN.out BB.out))
          clear K1 K2 s1 hal B8
          go_wp2_with (first
            | (go_at_call 63; refine (CP1.out).mono ?_; rintro e w13 ⟨rfl, hd_⟩; have B8 := Lib.hid (below_step BB.out hd_); clear hd_ m0 n0 m1 n1 m2 n2 m3 n3 m4 n4 m5 n5 m6 n6 m7 n7 m8 n8 m9 n9 m10 n10 m11 n11 m12 n12 m13 n13 m14 n14 r0 r1 r2 r3 r4; have m5 := blk_cell (MS.out _ B8.out) 5; have n5 := blk_cell (NS.out _ B8.out) 5; cases hc6 : sameP s.1 t.1)
            | (go_at_call 36; refine (sameEL_call s.2.1 t.2.1 Ag cg Hg hg _ (Kd.C_below GM3.out B8.out) LM3 (Kd.C_below GN3.out B8.out) LN3).mono ?_; rintro e w14 ⟨rfl, hd_⟩; have B9 := Lib.hid (below_step B8.out hd_); clear B8 hd_ m5 n5; have B8 := B9; clear B9; cases hc7 : sameEL s.2.1 t.2.1; rotate_left; have m6 := blk_cell (MS.out _ B8.out) 6; have m7 := blk_cell (MS.out _ B8.out) 7; have m8 := blk_cell (MS.out _ B8.out) 8; have m9 := blk_cell (MS.out _ B8.out) 9; have m10 := blk_cell (MS.out _ B8.out) 10; have m11 := blk_cell (MS.out _ B8.out) 11; have m12 := blk_cell (MS.out _ B8.out) 12; have m13 := blk_cell (MS.out _ B8.out) 13; have m14 := blk_cell (MS.out _ B8.out) 14; have s1 : (w14.alloc (.cells #[.slice G0 s.2.2.f0.length g0, .int .i64 s.2.2.f1, .int .i64 s.2.2.f2, .string s.2.2.f3, .slice G4 s.2.2.f4.length g4, .slice G5 s.2.2.f5.length g5, .slice G6 s.2.2.f6.length g6, .bool s.2.2.f7, .int .i64 s.2.2.f8] 42)).heap.size = w14.heap.size + 1 := (by simp); have K1 := blk_alloc (blk_new w14 (.cells #[.slice G0 s.2.2.f0.length g0, .int .i64 s.2.2.f1, .int .i64 s.2.2.f2, .string s.2.2.f3, .slice G4 s.2.2.f4.length g4, .slice G5 s.2.2.f5.length g5, .slice G6 s.2.2.f6.length g6, .bool s.2.2.f7, .int .i64 s.2.2.f8] 42)) (.cells #[.slice L0 t.2.2.f0.length l0, .int .i64 t.2.2.f1, .int .i64 t.2.2.f2, .string t.2.2.f3, .slice L4 t.2.2.f4.length l4, .slice L5 t.2.2.f5.length l5, .slice L6 t.2.2.f6.length l6, .bool t.2.2.f7, .int .i64 t.2.2.f8] 42); have K2 := blk_new (w14.alloc (.cells #[.slice G0 s.2.2.f0.length g0, .int .i64 s.2.2.f1, .int .i64 s.2.2.f2, .string s.2.2.f3, .slice G4 s.2.2.f4.length g4, .slice G5 s.2.2.f5.length g5, .slice G6 s.2.2.f6.length g6, .bool s.2.2.f7, .int .i64 s.2.2.f8] 42)) (.cells #[.slice L0 t.2.2.f0.length l0, .int .i64 t.2.2.f1, .int .i64 t.2.2.f2, .string t.2.2.f3, .slice L4 t.2.2.f4.length l4, .slice L5 t.2.2.f5.length l5, .slice L6 t.2.2.f6.length l6, .bool t.2.2.f7, .int .i64 t.2.2.f8] 42); rw [s1] at K2; have hal := below_step B8.out (below_alloc (Below.refl _ w14) (.cells #[.slice G0 s.2.2.f0.length g0, .int .i64 s.2.2.f1, .int .i64 s.2.2.f2, .string s.2.2.f3, .slice G4 s.2.2.f4.length g4, .slice G5 s.2.2.f5.length g5, .slice G6 s.2.2.f6.length g6, .bool s.2.2.f7, .int .i64 s.2.2.f8] 42)); have BC := Lib.hid (below_alloc (below_alloc (Below.refl _ w14) (.cells #[.slice G0 s.2.2.f0.length g0, .int .i64 s.2.2.f1, .int .i64 s.2.2.f2, .string s.2.2.f3, .slice G4 s.2.2.f4.length g4, .slice G5 s.2.2.f5.length g5, .slice G6 s.2.2.f6.length g6, .bool s.2.2.f7, .int .i64 s.2.2.f8] 42)) (.cells #[.slice L0 t.2.2.f0.length l0, .int .i64 t.2.2.f1, .int .i64 t.2.2.f2, .string t.2.2.f3, .slice L4 t.2.2.f4.length l4, .slice L5 t.2.2.f5.length l5, .slice L6 t.2.2.f6.length l6, .bool t.2.2.f7, .int .i64 t.2.2.f8] 42)); have r6 := blk_cell (NS.out _ hal) 6; have r7 := blk_cell (NS.out _ hal) 7; have r8 := blk_cell (NS.out _ hal) 8; have r9 := blk_cell (NS.out _ hal) 9; have r10 := blk_cell (NS.out _ hal) 10; have r11 := blk_cell (NS.out _ hal) 11; have r12 := blk_cell (NS.out _ hal) 12; have r13 := blk_cell (NS.out _ hal) 13; have r14 := blk_cell (NS.out _ hal) 14; have CB1 := Lib.hid (sameB1 s.2.2 t.2.2 HFS.out K1 K2 (GM4.out.below (below_step B8.out BC.out)) (GN4.out.below (below_step B8.out BC.out))); clear K1 K2 s1 hal)
            | (go_at_call 37; refine (CB1.out).mono ?_; rintro e w15 ⟨rfl, hd_⟩; have B9 := Lib.hid (below_step B8.out (below_step BC.out hd_)); clear B8 hd_; have B8 := B9; clear B9; cases hc8 : sameB s.2.2 t.2.2))
          any_goals (go_ret; refine ⟨?_, below_step BQ.out (below_step HBK.out (below_step B12.out B8.out))⟩; rw [HO.out (by rw [HEQ2.out, HO3.out (by rw [HSQ3.out]; first | (simp [hc6]; done) | (simp [hc7]; done) | (simp [hc8]; done))])]; rfl)
          go_roundw
          case rel => exact ⟨k + 1, by go_num, hkt, Lib.hid (by rw [HN3.out, HSQ3.out, hc6, hc7, hc8]; rfl), Lib.hid (below_step HBK.out (below_step B12.out B8.out))⟩
          case measure => simp [intOf]; omega
        · obtain rfl : k = p.f6.length := by omega
          have hq_ := HSK.out
          rw [List.take_length, HL6.out, List.take_length] at hq_
          have HEQ3 := Lib.hid (show all2 sameB (l.take (i + 1)) (b.take (i + 1)) = true by rw [HN.out, HEQ2.out, hq_])
          clear hq_ HSK HEQ2
          go_wp2
          go_roundw
          case rel => exact ⟨i + 1, by go_num, by omega, HEQ3, Lib.hid (below_step BQ.out HBK.out)⟩
          case measure => simp [intOf]; omega
    · obtain rfl : i = l.length := by omega
      have hq_ := HS.out
      rw [List.take_length, HLN.out, List.take_length] at hq_
      have HQ := Lib.hid hq_
      clear hq_ HS
      go_wp2
      go_ret
      exact ⟨by rw [HQ.out]; rfl, HB.out⟩
  · have t1 : ((l.length : Int) == (b.length : Int)) = false := by simp; omega
    have t2 : ((l.length : Int) != (b.length : Int)) = true := by simp; omega
    have HQ := Lib.hid (all2_len sameB l b hln)
    go_wp2
    go_ret
    exact ⟨by rw [HQ.out]; rfl, Below.refl _ _⟩
theorem SB_any : ∀ (n : Nat) (l : List S42), SizeOf.sizeOf l ≤ n → SB l := by
  intro n
  induction n with
  | zero =>
    intro l h
    cases l <;> simp at h
  | succ n ih =>
    intro l h
    refine SB_list l (fun x hx => ih x.f5 ?_) (fun x hx y hy => ih [y.2.2] ?_)
    · have h1 := List.sizeOf_lt_of_mem hx
      cases x
      simp at h1 ⊢
      omega
    · have h1 := List.sizeOf_lt_of_mem hx
      have h2 := List.sizeOf_lt_of_mem hy
      obtain ⟨y1, y2, y3⟩ := y
      cases x
      simp at h1 h2 ⊢
      omega
end Go.Proofs.YtjboncbmeanlgaaDoor.Tr
