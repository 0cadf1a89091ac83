/- TextR -/
import Derived.Test.YtjboncbmeanlgaaDoorQTextS
/- What the tree's text functions write: receive. -/
set_option linter.unusedVariables false
set_option linter.unusedSimpArgs false
namespace Go.Proofs.YtjboncbmeanlgaaDoor.Tr
open Go.RowKit Go.Proofs Go.Proofs.YtjboncbmeanlgaaDoor.PTreePrints Go.Proofs.YtjboncbmeanlgaaDoorW.PrintWords Go.Proofs.YtjboncbmeanlgaaDoorW.PrintMore Go.Proofs.YtjboncbmeanlgaaDoorW.PrintLast
/-- Guards. -/
def prWL : List S31 → List UInt8
  | [] => []
  | x :: r => [32, 119, 104, 101, 110, 32] ++ (prE x ++ prWL r)
def prSL : List S37 → List UInt8
  | [] => []
  | x :: r => prS x ++ prSL r
mutual
/-- A body's text. -/
def prB : S42 → List UInt8
  | ⟨f0, f1, _, f3, f4, f5, f6, f7, f8⟩ => [123, 32] ++ (prSL f0 ++ ((if f1 = 1 then [98, 101, 99, 111, 109, 101, 32] ++ (bl f3 ++ (40 :: (prEL f4 ++ [41]))) else if f1 = 2 then [115, 116, 111, 112] else if f1 = 3 then [105, 102, 32] ++ (prH f4 ++ (32 :: prI f5)) else [114, 101, 99, 101, 105, 118, 101, 32, 123] ++ (prAL f6 ++ ((if f7 = true then [32, 97, 102, 116, 101, 114, 32] ++ (Lib.itoa f8 ++ (32 :: prO f5)) else []) ++ [32, 125]))) ++ [32, 125]))
def prI : List S42 → List UInt8
  | [] => []
  | x :: r => prB x ++ ([32, 101, 108, 115, 101, 32] ++ prO r)
def prO : List S42 → List UInt8
  | [] => []
  | x :: _ => prB x
def prAL : List (S83 × List S31 × S42) → List UInt8
  | [] => []
  | x :: r => prArm x ++ prAL r
def prArm : S83 × List S31 × S42 → List UInt8
  | (p, q) => 32 :: (prP p ++ prGd q)
def prGd : List S31 × S42 → List UInt8
  | (g, b) => prWL g ++ (32 :: prB b)
end
/-- What receive writes. -/
def prR (x : S42) : List UInt8 := [114, 101, 99, 101, 105, 118, 101, 32, 123] ++ (prAL x.f6 ++ ((if x.f7 = true then [32, 97, 102, 116, 101, 114, 32] ++ (Lib.itoa x.f8 ++ (32 :: prO x.f5)) else []) ++ [32, 125]))
theorem prWL_app : ∀ (a b : List S31), prWL (a ++ b) = prWL a ++ prWL b
  | [], b => by simp [prWL]
  | x :: a, b => by simp [prWL, prWL_app a b]
theorem prSL_app : ∀ (a b : List S37), prSL (a ++ b) = prSL a ++ prSL b
  | [], b => by simp [prSL]
  | x :: a, b => by simp [prSL, prSL_app a b]
theorem prAL_app : ∀ (a b : List Arm), prAL (a ++ b) = prAL a ++ prAL b
  | [], b => by simp [prAL]
  | x :: a, b => by simp [prAL, prAL_app a b]
theorem pre_take {α : Type} (f : List α → List UInt8) (hf : ∀ a b, f (a ++ b) = f a ++ f b) (l : List α) (i : Nat) (h : i < l.length) : f (l.take (i + 1)) = f (l.take i) ++ f [l[i]] ∧ (f (l.take i)).length + (f [l[i]]).length ≤ (f l).length := by
  have h1 : f (l.take (i + 1)) = f (l.take i) ++ f [l[i]] := by rw [List.take_succ_eq_append_getElem h, hf]
  refine ⟨h1, ?_⟩
  have h2 := hf (l.take (i + 1)) (l.drop (i + 1))
  rw [List.take_append_drop, h1] at h2
  rw [h2]
  simp only [List.length_append]
  omega
theorem goodSL_mem : ∀ (l : List S37) (x : S37), goodSL l = true → x ∈ l → goodSt x = true
  | y :: l, x, h, hm => by
    rw [goodSL, Bool.and_eq_true] at h
    rcases List.mem_cons.1 hm with rfl | hm
    · exact h.1
    · exact goodSL_mem l x h.2 hm
theorem goodBL_mem : ∀ (l : List S42) (x : S42), goodBL l = true → x ∈ l → goodB x = true
  | y :: l, x, h, hm => by
    rw [goodBL, Bool.and_eq_true] at h
    rcases List.mem_cons.1 hm with rfl | hm
    · exact h.1
    · exact goodBL_mem l x h.2 hm
theorem goodAL_mem : ∀ (l : List Arm) (x : Arm), goodAL l = true → x ∈ l → goodP x.1 = true ∧ goodEL x.2.1 = true ∧ goodB x.2.2 = true
  | y :: l, x, h, hm => by
    rw [goodAL, Bool.and_eq_true] at h
    rcases List.mem_cons.1 hm with rfl | hm
    · have h1 := h.1
      obtain ⟨p, g, b⟩ := x
      simp only [goodA, goodG, Bool.and_eq_true] at h1
      exact ⟨h1.1, h1.2.1.1, h1.2.2⟩
    · exact goodAL_mem l x h.2 hm
theorem goodB_cases {f0 : List S37} {f1 f2 : Int} {f3 : ByteArray} {f4 : List S31} {f5 : List S42} {f6 : List Arm} {f7 : Bool} {f8 : Int} (h : goodB ⟨f0, f1, f2, f3, f4, f5, f6, f7, f8⟩ = true) :
    goodSL f0 = true ∧ goodBL f5 = true ∧ goodAL f6 = true ∧ ((f1 = 1 ∧ f3.size ≤ 32 ∧ goodEL f4 = true) ∨ f1 = 2 ∨ (f1 = 3 ∧ (∃ p, f4 = [p] ∧ goodE p = true) ∧ ∃ x y, f5 = [x, y]) ∨ (f1 = 4 ∧ (f7 = true → (∃ x, f5 = [x]) ∧ 0 ≤ f8 ∧ f8 ≤ 2305843009213693951))) := by
  rw [goodB, Bool.and_eq_true, Bool.and_eq_true, Bool.and_eq_true] at h
  refine ⟨h.1, h.2.1, h.2.2.1, ?_⟩
  have h := h.2.2.2
  unfold goodEnd at h
  simp only at h
  by_cases h4 : f1 = 4
  · rw [if_pos h4] at h
    refine .inr (.inr (.inr ⟨h4, fun h7 => ?_⟩))
    subst h7
    simp only [if_true, Bool.and_eq_true, decide_eq_true_eq, withinB] at h
    refine ⟨?_, by omega, by omega⟩
    have h5 := h.2.2.1
    match f5, h5 with
    | [], h5 => simp at h5
    | [x], _ => exact ⟨x, rfl⟩
    | x :: y :: r, h5 => simp at h5
  · rw [if_neg h4, Bool.and_eq_true, Bool.and_eq_true, Bool.and_eq_true] at h
    have h := h.2.2.2
    by_cases h1 : f1 = 1
    · rw [if_pos h1, Bool.and_eq_true, Bool.and_eq_true, Bool.and_eq_true] at h
      exact .inl ⟨h1, nameOk_le h.1, h.2.1.1⟩
    · rw [if_neg h1, Bool.and_eq_true] at h
      have h := h.2
      by_cases h2 : f1 = 2
      · exact .inr (.inl h2)
      · rw [if_neg h2] at h
        by_cases h3 : f1 = 3
        · rw [if_pos h3] at h
          simp only [Bool.and_eq_true, decide_eq_true_eq, withinB] at h
          refine .inr (.inr (.inl ⟨h3, ?_, ?_⟩))
          · match f4, h.1 with
            | [], h => simp at h
            | [x], h => exact ⟨x, rfl, goodEL_mem _ x h.1 (by simp)⟩
            | x :: y :: r, h => simp only [List.length_cons] at h; omega
          · match f5, h.2 with
            | [], h => simp at h
            | [x], h => simp at h
            | [x, y], _ => exact ⟨x, y, rfl⟩
            | x :: y :: z :: r, h => simp at h
        · rw [if_neg h3] at h
          exact absurd h (by decide)
theorem first42 {w0 : World} {ad : Addr} {p : S42} {r : List S42} (hC : Kd.C k42 w0 (some ad) (p :: r).length (p :: r)) : ∃ B0 b0 B4 b4 B5 b5 B6 b6, BodyC w0 p B0 b0 B4 b4 B5 b5 B6 b6 ∧ ∀ W' : World, Below w0.heap.size w0 W' → W'.cell? ad = some (.slice B0 p.f0.length b0) ∧ W'.cell? ⟨ad.block, ad.off + 1, none⟩ = some (.int .i64 p.f1) ∧ W'.cell? ⟨ad.block, ad.off + 2, none⟩ = some (.int .i64 p.f2) ∧ W'.cell? ⟨ad.block, ad.off + 3, none⟩ = some (.string p.f3) ∧ W'.cell? ⟨ad.block, ad.off + 4, none⟩ = some (.slice B4 p.f4.length b4) ∧ W'.cell? ⟨ad.block, ad.off + 5, none⟩ = some (.slice B5 p.f5.length b5) ∧ W'.cell? ⟨ad.block, ad.off + 6, none⟩ = some (.slice B6 p.f6.length b6) ∧ W'.cell? ⟨ad.block, ad.off + 7, none⟩ = some (.bool p.f7) ∧ W'.cell? ⟨ad.block, ad.off + 8, none⟩ = some (.int .i64 p.f8) := by
  obtain ⟨ad', B0, b0, B4, b4, B5, b5, B6, b6, hA, u0, u1, u2, u3, u4, u5, u6, u7, u8, hB⟩ := at_T42 hC 0 (by omega) (by simp)
  injection hA with hA
  subst hA
  have e0 : ad.add ((0 : Int).toNat * 9) = ad := by cases ad; simp [Addr.add]
  have r0 : rd_T42 (p :: r) 0 = p := rfl
  rw [r0] at u0 u1 u2 u3 u4 u5 u6 u7 u8 hB
  rw [e0] at u0 u1 u2 u3 u4 u5 u6 u7 u8
  exact ⟨B0, b0, B4, b4, B5, b5, B6, b6, hB, fun W' h => ⟨(h.cell (World.block_lt_of_cell? w0 _ u0)).trans u0, (h.cell (World.block_lt_of_cell? w0 _ u1)).trans u1, (h.cell (World.block_lt_of_cell? w0 _ u2)).trans u2, (h.cell (World.block_lt_of_cell? w0 _ u3)).trans u3, (h.cell (World.block_lt_of_cell? w0 _ u4)).trans u4, (h.cell (World.block_lt_of_cell? w0 _ u5)).trans u5, (h.cell (World.block_lt_of_cell? w0 _ u6)).trans u6, (h.cell (World.block_lt_of_cell? w0 _ u7)).trans u7, (h.cell (World.block_lt_of_cell? w0 _ u8)).trans u8⟩⟩
theorem second42 {w0 : World} {ad : Addr} {p q : S42} (hC : Kd.C k42 w0 (some ad) [p, q].length [p, q]) : ∃ B0 b0 B4 b4 B5 b5 B6 b6, BodyC w0 q B0 b0 B4 b4 B5 b5 B6 b6 ∧ ∀ W' : World, Below w0.heap.size w0 W' → W'.cell? ⟨ad.block, ad.off + 9, none⟩ = some (.slice B0 q.f0.length b0) ∧ W'.cell? ⟨ad.block, ad.off + 9 + 1, none⟩ = some (.int .i64 q.f1) ∧ W'.cell? ⟨ad.block, ad.off + 9 + 2, none⟩ = some (.int .i64 q.f2) ∧ W'.cell? ⟨ad.block, ad.off + 9 + 3, none⟩ = some (.string q.f3) ∧ W'.cell? ⟨ad.block, ad.off + 9 + 4, none⟩ = some (.slice B4 q.f4.length b4) ∧ W'.cell? ⟨ad.block, ad.off + 9 + 5, none⟩ = some (.slice B5 q.f5.length b5) ∧ W'.cell? ⟨ad.block, ad.off + 9 + 6, none⟩ = some (.slice B6 q.f6.length b6) ∧ W'.cell? ⟨ad.block, ad.off + 9 + 7, none⟩ = some (.bool q.f7) ∧ W'.cell? ⟨ad.block, ad.off + 9 + 8, none⟩ = some (.int .i64 q.f8) := by
  obtain ⟨ad', B0, b0, B4, b4, B5, b5, B6, b6, hA, u0, u1, u2, u3, u4, u5, u6, u7, u8, hB⟩ := at_T42 hC 1 (by omega) (by simp)
  injection hA with hA
  subst hA
  have e0 : ad.add ((1 : Int).toNat * 9) = ad.add 9 := rfl
  have r0 : rd_T42 [p, q] 1 = q := rfl
  rw [r0] at u0 u1 u2 u3 u4 u5 u6 u7 u8 hB
  rw [e0] at u0 u1 u2 u3 u4 u5 u6 u7 u8
  replace u0 : w0.cell? ⟨ad.block, ad.off + 9, none⟩ = _ := u0
  replace u1 : w0.cell? ⟨ad.block, ad.off + 9 + 1, none⟩ = _ := u1
  replace u2 : w0.cell? ⟨ad.block, ad.off + 9 + 2, none⟩ = _ := u2
  replace u3 : w0.cell? ⟨ad.block, ad.off + 9 + 3, none⟩ = _ := u3
  replace u4 : w0.cell? ⟨ad.block, ad.off + 9 + 4, none⟩ = _ := u4
  replace u5 : w0.cell? ⟨ad.block, ad.off + 9 + 5, none⟩ = _ := u5
  replace u6 : w0.cell? ⟨ad.block, ad.off + 9 + 6, none⟩ = _ := u6
  replace u7 : w0.cell? ⟨ad.block, ad.off + 9 + 7, none⟩ = _ := u7
  replace u8 : w0.cell? ⟨ad.block, ad.off + 9 + 8, none⟩ = _ := u8
  exact ⟨B0, b0, B4, b4, B5, b5, B6, b6, hB, fun W' h => ⟨(h.cell (World.block_lt_of_cell? w0 _ u0)).trans u0, (h.cell (World.block_lt_of_cell? w0 _ u1)).trans u1, (h.cell (World.block_lt_of_cell? w0 _ u2)).trans u2, (h.cell (World.block_lt_of_cell? w0 _ u3)).trans u3, (h.cell (World.block_lt_of_cell? w0 _ u4)).trans u4, (h.cell (World.block_lt_of_cell? w0 _ u5)).trans u5, (h.cell (World.block_lt_of_cell? w0 _ u6)).trans u6, (h.cell (World.block_lt_of_cell? w0 _ u7)).trans u7, (h.cell (World.block_lt_of_cell? w0 _ u8)).trans u8⟩⟩
/-- What is to be shown of a body. -/
def TB (w0 : World) (x : S42) : Prop := goodB x = true → ∀ (B b : Nat) (A0 : Option Addr) (c0 : Nat) (A4 : Option Addr) (c4 : Nat) (A5 : Option Addr) (c5 : Nat) (A6 : Option Addr) (c6 : Nat) (l : List UInt8) (W : World), TS w0 B b W W l → BodyC w0 x A0 c0 A4 c4 A5 c5 A6 c6 → l.length + (prB x).length ≤ 140737488355328 →
  Calls Tryd.prog 26 #[.pointer (some ⟨b, 0, none⟩), bodyV x A0 c0 A4 c4 A5 c5 A6 c6] W (Wrote B b (l ++ prB x) W)
set_option maxRecDepth 100000 in
set_option maxHeartbeats 32000000 in
theorem TR_ok (w0 : World) (x : S42) (hI : ∀ y, y ∈ x.f5 → TB w0 y) (hJ : ∀ y, y ∈ x.f6 → TB w0 y.2.2) (hgP : goodBL x.f5 = true) (hgA : goodAL x.f6 = true) (hLt : x.f7 = true → (∃ y, x.f5 = [y]) ∧ 0 ≤ x.f8 ∧ x.f8 ≤ 2305843009213693951)
    (B b : Nat) (A0 : Option Addr) (c0 : Nat) (A4 : Option Addr) (c4 : Nat) (A5 : Option Addr) (c5 : Nat) (A6 : Option Addr) (c6 : Nat) (l : List UInt8) (W : World) (hS : TS w0 B b W W l) (hB : BodyC w0 x A0 c0 A4 c4 A5 c5 A6 c6) (hl : l.length + (prR x).length ≤ 140737488355328) :
    Calls Tryd.prog 54 #[.pointer (some ⟨b, 0, none⟩), bodyV x A0 c0 A4 c4 A5 c5 A6 c6] W (Wrote B b (l ++ prR x) W) := by
  obtain ⟨f0, f1, f2, f3, f4, f5, f6, f7, f8⟩ := x
  simp only at hI hJ hgP hgA hLt
  have hln6 := C_len hB.g6
  simp only at hln6
  have HI := Lib.hid hI
  have HJ := Lib.hid hJ
  have HB := Lib.hid hB
  have SP0 := Lib.hid hS
  have HL := Lib.hid hl
  have HGP := Lib.hid hgP
  have HGA := Lib.hid hgA
  have HLT := Lib.hid hLt
  have HP := Lib.hid (show prR ⟨f0, f1, f2, f3, f4, f5, f6, f7, f8⟩ = [114, 101, 99, 101, 105, 118, 101, 32, 123] ++ (prAL f6 ++ ((if f7 = true then [32, 97, 102, 116, 101, 114, 32] ++ (Lib.itoa f8 ++ (32 :: prO f5)) else []) ++ [32, 125])) from rfl)
  clear hI hJ hB hS hl hgP hgA hLt
  unfold bodyV
  simp only
  go_enter Tryd.func54, Tryd.ntmps54
  have hal := below_alloc (Below.refl _ W) (.cells #[.slice A0 f0.length c0, .int .i64 f1, .int .i64 f2, .string f3, .slice A4 f4.length c4, .slice A5 f5.length c5, .slice A6 f6.length c6, .bool f7, .int .i64 f8] 42)
  have X1 := Lib.hid (blk_new W (.cells #[.slice A0 f0.length c0, .int .i64 f1, .int .i64 f2, .string f3, .slice A4 f4.length c4, .slice A5 f5.length c5, .slice A6 f6.length c6, .bool f7, .int .i64 f8] 42))
  have hnb : W.heap.size ≠ b := by have := SP0.out.ne; omega
  have S1 := Lib.hid (SP0.out.below hal)
  clear hal SP0
  go_upto_region 2 with fail
  generalize W.alloc (.cells #[.slice A0 f0.length c0, .int .i64 f1, .int .i64 f2, .string f3, .slice A4 f4.length c4, .slice A5 f5.length c5, .slice A6 f6.length c6, .bool f7, .int .i64 f8] 42) = wp at *
  generalize W.heap.size = gx at *
  go_upto_region 3 with (go_at_call 24; refine (write_call S1.out _ (by have h_ := HL.out; rw [HP.out] at h_; simp only [size_bl, bl_app, bl_lit, List.size_toArray, List.length_append, List.length_cons, List.length_nil] at h_ ⊢; omega)).mono ?_; rintro e w2 ⟨rfl, hs, hk⟩; have S2 := Lib.hid hs; have X2 := Lib.hid (TS.blk hk X1.out hnb (by decide)); clear hs hk)
  have y6 := blk_cell X2.out 6
  obtain ⟨l1, hl1⟩ : ∃ q, q = l ++ bl ⟨#[114, 101, 99, 101, 105, 118, 101, 32, 123]⟩ := ⟨_, rfl⟩
  rw [← hl1] at S2
  have HL1 := Lib.hid hl1
  clear hl1
  have HLA := Lib.hid (show l1.length + (prAL f6).length ≤ 140737488355328 by have h_ := HL.out; rw [HP.out] at h_; rw [HL1.out]; simp only [bl_lit, List.size_toArray, List.length_append, List.length_cons, List.length_nil] at h_ ⊢; omega)
  go_wp2
  go_loopw [18] (fun vi wr => ∃ i : Nat, vi = .int .i64 i ∧ i ≤ f6.length ∧ Hid (TS w0 B b W wr (l1 ++ prAL (f6.take i))) ∧ Hid (wr.heap[gx]? = some (.cells #[.slice A0 f0.length c0, .int .i64 f1, .int .i64 f2, .string f3, .slice A4 f4.length c4, .slice A5 f5.length c5, .slice A6 f6.length c6, .bool f7, .int .i64 f8] 42 (0, 0)))) (fun vi _ => f6.length - (intOf vi).toNat)
  case atStart => exact ⟨0, by go_num, Nat.zero_le _, Lib.hid (S2.out.cast (by simp [prAL])), Lib.hid X2.out⟩
  case round =>
    obtain ⟨i, rfl, hil, HS, HX⟩ := hrel
    obtain ⟨wq, hwq⟩ : ∃ wq, wq = wr := ⟨_, rfl⟩
    subst hwq
    by_cases hlt : i < f6.length
    · have q1 : (i : Int) < (f6.length : Int) := by omega
      have q0 : (0 : Int) ≤ (i : Int) := by omega
      obtain ⟨ad_, Ap, cp, Ag, cg, B0, b0, B4, b4, B5, b5, B6, b6, hA_, u0, u1, u2, u3, u4, u5, u6, u7, u8, u9, u10, u11, u12, u13, u14, hX_⟩ := at_TArm HB.out.g6 (i : Int) q0 q1
      subst hA_
      rw [rdArm f6 i hlt, Int.toNat_natCast] at u0 u1 u2 u3 u4 u5 u6 u7 u8 u9 u10 u11 u12 u13 u14
      rw [rdArm f6 i hlt] at hX_
      replace u0 := (HS.out.o.cell (World.block_lt_of_cell? w0 _ u0)).trans u0
      replace u1 := (HS.out.o.cell (World.block_lt_of_cell? w0 _ u1)).trans u1
      replace u2 := (HS.out.o.cell (World.block_lt_of_cell? w0 _ u2)).trans u2
      replace u3 := (HS.out.o.cell (World.block_lt_of_cell? w0 _ u3)).trans u3
      replace u4 := (HS.out.o.cell (World.block_lt_of_cell? w0 _ u4)).trans u4
      replace u5 := (HS.out.o.cell (World.block_lt_of_cell? w0 _ u5)).trans u5
      replace u6 := (HS.out.o.cell (World.block_lt_of_cell? w0 _ u6)).trans u6
      replace u7 := (HS.out.o.cell (World.block_lt_of_cell? w0 _ u7)).trans u7
      replace u8 := (HS.out.o.cell (World.block_lt_of_cell? w0 _ u8)).trans u8
      replace u9 := (HS.out.o.cell (World.block_lt_of_cell? w0 _ u9)).trans u9
      replace u10 := (HS.out.o.cell (World.block_lt_of_cell? w0 _ u10)).trans u10
      replace u11 := (HS.out.o.cell (World.block_lt_of_cell? w0 _ u11)).trans u11
      replace u12 := (HS.out.o.cell (World.block_lt_of_cell? w0 _ u12)).trans u12
      replace u13 := (HS.out.o.cell (World.block_lt_of_cell? w0 _ u13)).trans u13
      replace u14 := (HS.out.o.cell (World.block_lt_of_cell? w0 _ u14)).trans u14
      obtain ⟨ht1, ht2⟩ := pre_take prAL prAL_app f6 i hlt
      have hone : prAL [f6[i]] = prArm f6[i] := by simp [prAL]
      rw [hone] at ht1 ht2
      have HT := Lib.hid ht1
      have HLR := Lib.hid (show (l1 ++ prAL (f6.take i)).length + (prArm f6[i]).length ≤ 140737488355328 by have h_ := HLA.out; rw [List.length_append]; omega)
      have HGM := Lib.hid (goodAL_mem f6 f6[i] HGA.out (List.getElem_mem hlt))
      have HE := Lib.hid (HJ.out f6[i] (List.getElem_mem hlt) HGM.out.2.2)
      have HZ := Lib.hid hX_
      clear hX_ ht1 ht2 hone
      have hgl := C_len HZ.out.2.2.2.1
      obtain ⟨l2, hl2⟩ : ∃ q, q = l1 ++ prAL (f6.take i) := ⟨_, rfl⟩
      rw [← hl2] at HS HLR
      have HL2 := Lib.hid hl2
      clear hl2
      generalize f6[i] = x at *
      have HPA := Lib.hid (show prArm x = 32 :: (prP x.1 ++ (prWL x.2.1 ++ (32 :: prB x.2.2))) by obtain ⟨p, g, b⟩ := x; simp only [prArm, prGd])
      go_upto_region 6 with fail
      have hal := below_alloc (Below.refl _ wq) (.cells #[.int .i64 x.1.f0, .int .i64 x.1.f1, .int .i64 x.1.f2, .string x.1.f3, .slice Ap x.1.f4.length cp, .slice Ag x.2.1.length cg, .slice B0 x.2.2.f0.length b0, .int .i64 x.2.2.f1, .int .i64 x.2.2.f2, .string x.2.2.f3, .slice B4 x.2.2.f4.length b4, .slice B5 x.2.2.f5.length b5, .slice B6 x.2.2.f6.length b6, .bool x.2.2.f7, .int .i64 x.2.2.f8] 85)
      have Y4 := Lib.hid (blk_new wq (.cells #[.int .i64 x.1.f0, .int .i64 x.1.f1, .int .i64 x.1.f2, .string x.1.f3, .slice Ap x.1.f4.length cp, .slice Ag x.2.1.length cg, .slice B0 x.2.2.f0.length b0, .int .i64 x.2.2.f1, .int .i64 x.2.2.f2, .string x.2.2.f3, .slice B4 x.2.2.f4.length b4, .slice B5 x.2.2.f5.length b5, .slice B6 x.2.2.f6.length b6, .bool x.2.2.f7, .int .i64 x.2.2.f8] 85))
      have hna : wq.heap.size ≠ b := by have := HS.out.ne; omega
      have S4 := Lib.hid (HS.out.below hal)
      have X4 := Lib.hid (blk_below HX.out hal)
      clear hal u0 u1 u2 u3 u4 u5 u6 u7 u8 u9 u10 u11 u12 u13 u14 HS HX
      generalize wq.alloc (.cells #[.int .i64 x.1.f0, .int .i64 x.1.f1, .int .i64 x.1.f2, .string x.1.f3, .slice Ap x.1.f4.length cp, .slice Ag x.2.1.length cg, .slice B0 x.2.2.f0.length b0, .int .i64 x.2.2.f1, .int .i64 x.2.2.f2, .string x.2.2.f3, .slice B4 x.2.2.f4.length b4, .slice B5 x.2.2.f5.length b5, .slice B6 x.2.2.f6.length b6, .bool x.2.2.f7, .int .i64 x.2.2.f8] 85) = w4 at *
      generalize wq.heap.size = ga at *
      go_upto_region 7 with (go_at_call 24; refine (write_call S4.out _ (by have h_ := HLR.out; rw [HPA.out] at h_; simp only [size_bl, bl_app, bl_lit, List.size_toArray, List.length_append, List.length_cons, List.length_nil] at h_ ⊢; omega)).mono ?_; rintro e w5 ⟨rfl, hs, hk⟩; have S5 := Lib.hid hs; have X5 := Lib.hid (TS.blk hk X4.out hnb (by decide)); have Y5 := Lib.hid (TS.blk hk Y4.out hna (by decide)); clear hs hk)
      have z0 := blk_cell Y5.out 0
      have z1 := blk_cell Y5.out 1
      have z2 := blk_cell Y5.out 2
      have z3 := blk_cell Y5.out 3
      have z4 := blk_cell Y5.out 4
      go_upto_region 8 with (go_at_call 73; refine (TP_call w0 x.1 HGM.out.1 B b Ap cp _ _ S5.out.self HZ.out.2.1 HZ.out.1 (by have h_ := HLR.out; rw [HPA.out] at h_; simp only [size_bl, bl_app, bl_lit, List.size_toArray, List.length_append, List.length_cons, List.length_nil] at h_ ⊢; omega)).mono ?_; rintro e w6 ⟨rfl, ht, hf, hk⟩; have S6 := Lib.hid (S5.out.wrote ht hf hk); have X6 := Lib.hid (TS.blk hk X5.out hnb (by decide)); have Y6 := Lib.hid (TS.blk hk Y5.out hna (by decide)); clear ht hf hk)
      clear z0 z1 z2 z3 z4
      have z5 := blk_cell Y6.out 5
      obtain ⟨l3, hl3⟩ : ∃ q, q = (l2 ++ bl ⟨#[32]⟩) ++ prP x.1 := ⟨_, rfl⟩
      rw [← hl3] at S6
      have HL3 := Lib.hid hl3
      clear hl3
      have HLG := Lib.hid (show l3.length + ((prWL x.2.1).length + ((prB x.2.2).length + 1)) ≤ 140737488355328 by have h_ := HLR.out; rw [HPA.out] at h_; rw [HL3.out]; simp only [bl_lit, List.size_toArray, List.length_append, List.length_cons, List.length_nil] at h_ ⊢; omega)
      go_wp2
      go_loopw [31] (fun vj wr => ∃ j : Nat, vj = .int .i64 j ∧ j ≤ x.2.1.length ∧ Hid (TS w0 B b W wr (l3 ++ prWL (x.2.1.take j))) ∧ Hid (wr.heap[gx]? = some (.cells #[.slice A0 f0.length c0, .int .i64 f1, .int .i64 f2, .string f3, .slice A4 f4.length c4, .slice A5 f5.length c5, .slice (some ad_) f6.length c6, .bool f7, .int .i64 f8] 42 (0, 0))) ∧ Hid (wr.heap[ga]? = some (.cells #[.int .i64 x.1.f0, .int .i64 x.1.f1, .int .i64 x.1.f2, .string x.1.f3, .slice Ap x.1.f4.length cp, .slice Ag x.2.1.length cg, .slice B0 x.2.2.f0.length b0, .int .i64 x.2.2.f1, .int .i64 x.2.2.f2, .string x.2.2.f3, .slice B4 x.2.2.f4.length b4, .slice B5 x.2.2.f5.length b5, .slice B6 x.2.2.f6.length b6, .bool x.2.2.f7, .int .i64 x.2.2.f8] 85 (0, 0)))) (fun vj _ => x.2.1.length - (intOf vj).toNat)
      case atStart => exact ⟨0, by go_num, Nat.zero_le _, Lib.hid (S6.out.cast (by simp [prWL])), Lib.hid X6.out, Lib.hid Y6.out⟩
      case round =>
        obtain ⟨j, rfl, hjl, HS2, HX2, HY2⟩ := hrel
        obtain ⟨wi, hwi⟩ : ∃ wi, wi = wr := ⟨_, rfl⟩
        subst hwi
        by_cases hjt : j < x.2.1.length
        · have p1 : (j : Int) < (x.2.1.length : Int) := by omega
          have p0 : (0 : Int) ≤ (j : Int) := by omega
          obtain ⟨ae, Ay, cy, hAe, v0, v1, v2, v3, v4, hcy, hCy⟩ := at_T31 HZ.out.2.2.2.1 (j : Int) p0 p1
          subst hAe
          rw [rd31 x.2.1 j hjt, Int.toNat_natCast] at v0 v1 v2 v3 v4
          rw [rd31 x.2.1 j hjt] at hcy hCy
          replace v0 := (HS2.out.o.cell (World.block_lt_of_cell? w0 _ v0)).trans v0
          replace v1 := (HS2.out.o.cell (World.block_lt_of_cell? w0 _ v1)).trans v1
          replace v2 := (HS2.out.o.cell (World.block_lt_of_cell? w0 _ v2)).trans v2
          replace v3 := (HS2.out.o.cell (World.block_lt_of_cell? w0 _ v3)).trans v3
          replace v4 := (HS2.out.o.cell (World.block_lt_of_cell? w0 _ v4)).trans v4
          obtain ⟨ht1, ht2⟩ := pre_take prWL prWL_app x.2.1 j hjt
          have hone : prWL [x.2.1[j]] = [32, 119, 104, 101, 110, 32] ++ prE x.2.1[j] := by simp [prWL]
          rw [hone] at ht1 ht2
          have HTJ := Lib.hid ht1
          have HLJ := Lib.hid (show (l3 ++ prWL (x.2.1.take j)).length + ([32, 119, 104, 101, 110, 32] ++ prE x.2.1[j]).length ≤ 140737488355328 by have h_ := HLG.out; rw [List.length_append]; omega)
          have hge := goodEL_mem x.2.1 x.2.1[j] HGM.out.2.1 (List.getElem_mem hjt)
          have HCy := Lib.hid hCy
          clear ht1 ht2 hone hCy
          generalize x.2.1[j] = y at *
          go_upto_region 11 with fail
          have hal := below_alloc (Below.refl _ wi) (.cells #[.int .i64 y.f0, .int .i64 y.f1, .int .i64 y.f2, .string y.f3, .slice Ay y.f4.length cy] 31)
          have Z7 := Lib.hid (blk_new wi (.cells #[.int .i64 y.f0, .int .i64 y.f1, .int .i64 y.f2, .string y.f3, .slice Ay y.f4.length cy] 31))
          have hnz : wi.heap.size ≠ b := by have := HS2.out.ne; omega
          have S7 := Lib.hid (HS2.out.below hal)
          have X7 := Lib.hid (blk_below HX2.out hal)
          have Y7 := Lib.hid (blk_below HY2.out hal)
          clear hal v0 v1 v2 v3 v4 HS2 HX2 HY2
          generalize wi.alloc (.cells #[.int .i64 y.f0, .int .i64 y.f1, .int .i64 y.f2, .string y.f3, .slice Ay y.f4.length cy] 31) = w7 at *
          generalize wi.heap.size = gz at *
          go_upto_region 12 with (go_at_call 24; refine (write_call S7.out _ (by have h_ := HLJ.out; simp only [size_bl, bl_app, bl_lit, List.size_toArray, List.length_append, List.length_cons, List.length_nil] at h_ ⊢; omega)).mono ?_; rintro e w8 ⟨rfl, hs, hk⟩; have S8 := Lib.hid hs; have X8 := Lib.hid (TS.blk hk X7.out hnb (by decide)); have Y8 := Lib.hid (TS.blk hk Y7.out hna (by decide)); have Z8 := Lib.hid (TS.blk hk Z7.out hnz (by decide)); clear hs hk)
          have t0 := blk_cell Z8.out 0
          have t1 := blk_cell Z8.out 1
          have t2 := blk_cell Z8.out 2
          have t3 := blk_cell Z8.out 3
          have t4 := blk_cell Z8.out 4
          go_wp2_with (go_at_call 28; refine (TE_call w0 y hge B b Ay cy _ _ S8.out.self HCy.out hcy (by have h_ := HLJ.out; simp only [size_bl, bl_app, bl_lit, List.size_toArray, List.length_append, List.length_cons, List.length_nil] at h_ ⊢; omega)).mono ?_; rintro e w9 ⟨rfl, ht, hf, hk⟩; have S9 := Lib.hid (S8.out.wrote ht hf hk); have X9 := Lib.hid (TS.blk hk X8.out hnb (by decide)); have Y9 := Lib.hid (TS.blk hk Y8.out hna (by decide)); clear ht hf hk)
          go_roundw
          case rel => first | exact ⟨j + 1, by go_num, hjt, Lib.hid (S9.out.cast (by rw [HTJ.out]; simp [bl])), X9, Y9⟩ | exact ⟨j + 1, by go_num, hjt, Lib.hid (S9.out.cast (by rw [HTJ.out]; simp [bl]))⟩
          case measure => simp [intOf]; omega
        · obtain rfl : j = x.2.1.length := by omega
          have hg_ := HS2.out
          rw [List.take_length] at hg_
          have S10 := Lib.hid hg_
          have X10 := Lib.hid HX2.out
          have Y10 := Lib.hid HY2.out
          clear hg_ HS2 HX2 HY2
          go_upto_region 15 with (go_at_call 24; refine (write_call S10.out _ (by have h_ := HLG.out; simp only [size_bl, bl_app, bl_lit, List.size_toArray, List.length_append, List.length_cons, List.length_nil] at h_ ⊢; omega)).mono ?_; rintro e w11 ⟨rfl, hs, hk⟩; have S11 := Lib.hid hs; have X11 := Lib.hid (TS.blk hk X10.out hnb (by decide)); have Y11 := Lib.hid (TS.blk hk Y10.out hna (by decide)); clear hs hk)
          have z6 := blk_cell Y11.out 6
          have z7 := blk_cell Y11.out 7
          have z8 := blk_cell Y11.out 8
          have z9 := blk_cell Y11.out 9
          have z10 := blk_cell Y11.out 10
          have z11 := blk_cell Y11.out 11
          have z12 := blk_cell Y11.out 12
          have z13 := blk_cell Y11.out 13
          have z14 := blk_cell Y11.out 14
          go_wp2_with (go_at_call 26; refine (HE.out B b B0 b0 B4 b4 B5 b5 B6 b6 _ _ S11.out.self HZ.out.2.2.2.2 (by have h_ := HLG.out; simp only [size_bl, bl_app, bl_lit, List.size_toArray, List.length_append, List.length_cons, List.length_nil] at h_ ⊢; omega)).mono ?_; rintro e w12 ⟨rfl, ht, hf, hk⟩; have S12 := Lib.hid (S11.out.wrote ht hf hk); have X12 := Lib.hid (TS.blk hk X11.out hnb (by decide)); clear ht hf hk)
          go_roundw
          case rel => first | exact ⟨i + 1, by go_num, hlt, Lib.hid (S12.out.cast (by rw [HT.out, HPA.out, HL3.out, HL2.out]; simp [bl])), X12⟩ | exact ⟨i + 1, by go_num, hlt, Lib.hid (S12.out.cast (by rw [HT.out, HPA.out, HL3.out, HL2.out]; simp [bl]))⟩
          case measure => simp [intOf]; omega
    · obtain rfl : i = f6.length := by omega
      have hg_ := HS.out
      rw [List.take_length] at hg_
      have S4 := Lib.hid hg_
      have X4 := Lib.hid HX.out
      clear hg_ HS HX y6
      have y7 := blk_cell X4.out 7
      have y8 := blk_cell X4.out 8
      have y5 := blk_cell X4.out 5
      cases f7 with
      | false =>
        have HP2 := Lib.hid (show prR ⟨f0, f1, f2, f3, f4, f5, f6, false, f8⟩ = [114, 101, 99, 101, 105, 118, 101, 32, 123] ++ (prAL f6 ++ ([] ++ [32, 125])) by rw [HP.out]; rfl)
        go_wp2_with (go_at_call 24; refine (write_call S4.out _ (by have h_ := HL.out; rw [HP2.out] at h_; rw [HL1.out]; simp only [size_bl, bl_app,  bl_lit, List.size_toArray, List.length_append, List.length_cons, List.length_nil] at h_ ⊢; omega)).mono ?_; rintro e w5 ⟨rfl, hs, hk⟩; have S5 := Lib.hid hs; clear hs hk)
        go_end0
        exact S5.out.tell (by rw [HP2.out, HL1.out]; simp [bl])
      | true =>
        obtain ⟨⟨p, hp⟩, h80, h81⟩ := HLT.out rfl
        subst hp
        have HP2 := Lib.hid (show prR ⟨f0, f1, f2, f3, f4, [p], f6, true, f8⟩ = [114, 101, 99, 101, 105, 118, 101, 32, 123] ++ (prAL f6 ++ (([32, 97, 102, 116, 101, 114, 32] ++ (Lib.itoa f8 ++ (32 :: prB p))) ++ [32, 125])) by rw [HP.out]; simp only [prO]; rfl)
        have HTAB := Lib.hid (S4.out.tab.below S4.out.o)
        have hA5 : ∃ ad, A5 = some ad := by
          obtain ⟨ad, _, _, _, _, _, _, _, _, h, _⟩ := at_T42 HB.out.g5 0 (by omega) (by simp)
          exact ⟨ad, h⟩
        obtain ⟨ad, hA5⟩ := hA5
        subst hA5
        obtain ⟨B0, b0, B4, b4, B5, b5, B6, b6, hBp, hU⟩ := first42 HB.out.g5
        have HU := Lib.hid hU
        have HBP := Lib.hid hBp
        have HEp := Lib.hid (HI.out p (by simp) (goodBL_mem _ p HGP.out (by simp)))
        clear hU hBp
        obtain ⟨sa, hsa⟩ : ∃ sa : ByteArray, sa = ⟨(Lib.itoa f8).toArray⟩ := ⟨_, rfl⟩
        have HSA := Lib.hid hsa
        have HSB := Lib.hid (show bl sa = Lib.itoa f8 by rw [hsa])
        have hss : sa.size ≤ 140737488355328 := by have h_ := HL.out; rw [HP2.out] at h_; rw [size_bl, HSB.out]; simp only [List.length_append, List.length_cons, List.length_nil] at h_; omega
        clear hsa
        have hs1 : ¬ 9223372036854775807 < 7 + sa.size := by omega
        have hs2 : ¬ 9223372036854775807 < 7 + sa.size + 1 := by omega
        simp only [List.length_cons, List.length_nil, Nat.zero_add] at *
        go_upto_region 19 with (first | (go_at_call 55; refine (itoa_call f8 (by omega) (by omega) _ HTAB.out).mono ?_; rintro e w5 ⟨rfl, hd⟩; rw [← HSA.out]; have S5 := Lib.hid (S4.out.below hd); have X5 := Lib.hid (blk_below X4.out hd); clear hd) | (go_at_call 24; refine (write_call S5.out _ (by have h_ := HL.out; rw [HP2.out] at h_; rw [HL1.out]; simp only [size_bl, bl_app, HSB.out, bl_lit, List.size_toArray, List.length_append, List.length_cons, List.length_nil] at h_ ⊢; omega)).mono ?_; rintro e w6 ⟨rfl, hs, hk⟩; have S6 := Lib.hid hs; have X6 := Lib.hid (TS.blk hk X5.out hnb (by decide)); clear hs hk))
        clear y5 y7 y8
        have y5 := blk_cell X6.out 5
        obtain ⟨u0, u1, u2, u3, u4, u5, u6, u7, u8⟩ := HU.out _ S6.out.o
        go_upto_region 20 with (go_at_call 26; refine (HEp.out B b B0 b0 B4 b4 B5 b5 B6 b6 _ _ S6.out.self HBP.out (by have h_ := HL.out; rw [HP2.out] at h_; rw [HL1.out]; simp only [size_bl, bl_app, HSB.out, bl_lit, List.size_toArray, List.length_append, List.length_cons, List.length_nil] at h_ ⊢; omega)).mono ?_; rintro e w7 ⟨rfl, ht, hf, hk⟩; have S7 := Lib.hid (S6.out.wrote ht hf hk); clear ht hf hk)
        go_wp2_with (go_at_call 24; refine (write_call S7.out _ (by have h_ := HL.out; rw [HP2.out] at h_; rw [HL1.out]; simp only [size_bl, bl_app, HSB.out, bl_lit, List.size_toArray, List.length_append, List.length_cons, List.length_nil] at h_ ⊢; omega)).mono ?_; rintro e w8 ⟨rfl, hs, hk⟩; have S8 := Lib.hid hs; clear hs hk)
        go_end0
        exact S8.out.tell (by rw [HP2.out, HL1.out, bl_app, bl_app, HSB.out]; simp [bl])
end Go.Proofs.YtjboncbmeanlgaaDoor.Tr
