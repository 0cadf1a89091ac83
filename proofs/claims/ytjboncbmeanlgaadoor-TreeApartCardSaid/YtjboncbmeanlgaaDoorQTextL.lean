/- TextL -/
import Derived.Test.YtjboncbmeanlgaaDoorQTextA
/- What the tree's text functions write: expressions, patterns. -/
set_option linter.unusedVariables false
set_option linter.unusedSimpArgs false
namespace Go.Proofs.YtjboncbmeanlgaaDoor.Tr
open Go.RowKit Go.Proofs Go.Proofs.YtjboncbmeanlgaaDoor.PTreePrints Go.Proofs.YtjboncbmeanlgaaDoorW.PrintWords Go.Proofs.YtjboncbmeanlgaaDoorW.PrintMore Go.Proofs.YtjboncbmeanlgaaDoorW.PrintLast
theorem goodEL_mem : ∀ (l : List S31) (x : S31), goodEL l = true → x ∈ l → goodE x = true
  | y :: l, x, h, hm => by
    rw [goodEL, Bool.and_eq_true] at h
    rcases List.mem_cons.1 hm with rfl | hm
    · exact h.1
    · exact goodEL_mem l x h.2 hm
theorem goodPL_mem : ∀ (l : List S83) (x : S83), goodPL l = true → x ∈ l → goodP x = true
  | y :: l, x, h, hm => by
    rw [goodPL, Bool.and_eq_true] at h
    rcases List.mem_cons.1 hm with rfl | hm
    · exact h.1
    · exact goodPL_mem l x h.2 hm
theorem size_bl (s : ByteArray) : s.size = (bl s).length := by rw [bl, Array.length_toList]; rfl
theorem size_of (l : List UInt8) : (⟨l.toArray⟩ : ByteArray).size = l.length := by rw [size_bl]
theorem prEL_app (a b : List S31) : prEL (a ++ b) = prEL a ++ (if a = [] then prEL b else prET b) := by
  cases a with
  | nil => simp [prEL]
  | cons y r => simp [prEL, prET_app]
theorem prEL_take (l : List S31) (i : Nat) : (prEL (l.take i)).length ≤ (prEL l).length := by
  have h := prEL_app (l.take i) (l.drop i)
  rw [List.take_append_drop] at h
  rw [h, List.length_append]
  omega
/-- What is to be shown of an expression. -/
def TE (w0 : World) (x : S31) : Prop := goodE x = true → ∀ (B b : Nat) (A : Option Addr) (c : Nat) (l : List UInt8) (W : World), TS w0 B b W W l → Kd.C k31 w0 A x.f4.length x.f4 → x.f4.length ≤ c → l.length + (prE x).length ≤ 140737488355328 →
  Calls Tryd.prog 28 #[.pointer (some ⟨b, 0, none⟩), .agg #[.int .i64 x.f0, .int .i64 x.f1, .int .i64 x.f2, .string x.f3, .slice A x.f4.length c]] W (Wrote B b (l ++ prE x) W)
set_option maxRecDepth 100000 in
set_option maxHeartbeats 16000000 in
theorem TE_list (w0 : World) (xs : List S31) (hI : ∀ x, x ∈ xs → TE w0 x) (hG : goodEL xs = true) (B b : Nat) (A : Option Addr) (c : Nat) (l : List UInt8) (W : World) (hS : TS w0 B b W W l) (hC : Kd.C k31 w0 A xs.length xs) (hc : xs.length ≤ c) (hl : l.length + (prEL xs).length ≤ 140737488355328) :
    Calls Tryd.prog 27 #[.pointer (some ⟨b, 0, none⟩), .slice A xs.length c, .func (.func 28) #[.pointer (some ⟨b, 0, none⟩)] #[]] W (Wrote B b (l ++ prEL xs) W) := by
  have hlen := C_len hC
  have HI := Lib.hid hI
  have HG := Lib.hid hG
  have HC := Lib.hid hC
  have SP := Lib.hid hS
  have HL := Lib.hid hl
  clear hI hG hC hS hl
  go_enter Tryd.func27, Tryd.ntmps27
  go_wp2
  go_loopw [10] (fun vi wr => ∃ i : Nat, vi = .int .i64 i ∧ i ≤ xs.length ∧ Hid (TS w0 B b W wr (l ++ prEL (xs.take i)))) (fun vi _ => xs.length - (intOf vi).toNat)
  case atStart => exact ⟨0, by go_num, Nat.zero_le _, Lib.hid (SP.out.cast (by simp [prEL]))⟩
  case round =>
    obtain ⟨i, rfl, hil, HS⟩ := hrel
    obtain ⟨wq, hwq⟩ : ∃ wq, wq = wr := ⟨_, rfl⟩
    subst hwq
    by_cases hlt : i < xs.length
    · have q1 : (i : Int) < (xs.length : Int) := by omega
      have q0 : (0 : Int) ≤ (i : Int) := by omega
      obtain ⟨ad, A5, c5, hA, u0, u1, u2, u3, u4, hc5, hC5⟩ := at_T31 HC.out (i : Int) q0 q1
      subst hA
      rw [rd31 xs i hlt, Int.toNat_natCast] at u0 u1 u2 u3 u4
      rw [rd31 xs i hlt] at hc5 hC5
      replace u0 := (HS.out.o.cell (World.block_lt_of_cell? w0 _ u0)).trans u0
      replace u1 := (HS.out.o.cell (World.block_lt_of_cell? w0 _ u1)).trans u1
      replace u2 := (HS.out.o.cell (World.block_lt_of_cell? w0 _ u2)).trans u2
      replace u3 := (HS.out.o.cell (World.block_lt_of_cell? w0 _ u3)).trans u3
      replace u4 := (HS.out.o.cell (World.block_lt_of_cell? w0 _ u4)).trans u4
      have HE := Lib.hid (HI.out xs[i] (List.getElem_mem hlt) (goodEL_mem xs _ HG.out (List.getElem_mem hlt)))
      have hsn : prEL (xs.take (i + 1)) = prEL (xs.take i) ++ ((if xs.take i = [] then [] else [44, 32]) ++ prE xs[i]) := by rw [List.take_succ_eq_append_getElem hlt, prEL_snoc]
      have hle := prEL_take xs (i + 1)
      have HT := Lib.hid hsn
      have HLE := Lib.hid hle
      have HC5 := Lib.hid hC5
      clear hC5 hsn hle
      have hnil : xs.take i = [] ↔ i = 0 := by
        cases xs with
        | nil => simp at hlt
        | cons y r => simp
      generalize xs[i] = x at *
      obtain ⟨pi, hpi⟩ : ∃ pi, pi = prEL (xs.take i) := ⟨_, rfl⟩
      rw [← hpi] at HS HT
      clear hpi
      go_upto_region 3 with fail
      have hal := below_alloc (Below.refl _ wq) (.cells #[.int .i64 x.f0, .int .i64 x.f1, .int .i64 x.f2, .string x.f3, .slice A5 x.f4.length c5] 31)
      have XC := Lib.hid (blk_new wq (.cells #[.int .i64 x.f0, .int .i64 x.f1, .int .i64 x.f2, .string x.f3, .slice A5 x.f4.length c5] 31))
      have hnb : wq.heap.size ≠ b := by have := HS.out.ne; omega
      have S4 := Lib.hid (HS.out.below hal)
      clear hal u0 u1 u2 u3 u4 HS
      generalize wq.alloc (.cells #[.int .i64 x.f0, .int .i64 x.f1, .int .i64 x.f2, .string x.f3, .slice A5 x.f4.length c5] 31) = w4 at *
      generalize wq.heap.size = gq at *
      by_cases h0 : i = 0
      · subst h0
        have e1 := HT.out
        rw [if_pos (hnil.2 rfl), List.nil_append] at e1
        have HB := Lib.hid (show (l ++ pi).length + (prE x).length ≤ 140737488355328 by have h1 := HLE.out; have h2 := HL.out; rw [e1, List.length_append] at h1; rw [List.length_append]; omega)
        have HX := Lib.hid (show (l ++ pi) ++ prE x = l ++ prEL (xs.take (0 + 1)) by rw [e1, List.append_assoc])
        clear e1
        have z0 := blk_cell XC.out 0
        have z1 := blk_cell XC.out 1
        have z2 := blk_cell XC.out 2
        have z3 := blk_cell XC.out 3
        have z4 := blk_cell XC.out 4
        go_wp2_with (go_at_call 28; refine (HE.out B b A5 c5 _ _ S4.out.self HC5.out hc5 HB.out).mono ?_; rintro e w6 ⟨rfl, ht, hf, hk⟩; have S6 := Lib.hid (S4.out.wrote ht hf hk); clear ht hf hk)
        go_roundw
        case rel => exact ⟨1, by go_num, hlt, Lib.hid (S6.out.cast HX.out)⟩
        case measure => simp [intOf]; omega
      · have hi0 : (i : Int) > 0 := by omega
        have e1 := HT.out
        rw [if_neg (fun h => h0 (hnil.1 h))] at e1
        have HB0 := Lib.hid (show (l ++ pi).length + (⟨#[44, 32]⟩ : ByteArray).size ≤ 140737488355328 by have h1 := HLE.out; have h2 := HL.out; rw [e1, List.length_append, List.length_append] at h1; rw [List.length_append]; simp only [List.length_cons, List.length_nil] at h1; have h3 : (⟨#[44, 32]⟩ : ByteArray).size = 2 := rfl; omega)
        have HB := Lib.hid (show ((l ++ pi) ++ bl ⟨#[44, 32]⟩).length + (prE x).length ≤ 140737488355328 by have h1 := HLE.out; have h2 := HL.out; rw [e1, List.length_append, List.length_append] at h1; rw [List.length_append, List.length_append]; simp only [List.length_cons, List.length_nil] at h1; have h3 : (bl ⟨#[44, 32]⟩).length = 2 := rfl; omega)
        have HX := Lib.hid (show ((l ++ pi) ++ bl ⟨#[44, 32]⟩) ++ prE x = l ++ prEL (xs.take (i + 1)) by rw [e1]; simp [bl])
        clear e1
        go_upto_region 5 with (go_at_call 24; refine (write_call S4.out _ HB0.out).mono ?_; rintro e w5 ⟨rfl, hs, hk⟩; have S5 := Lib.hid hs; have X5 := Lib.hid (TS.blk hk XC.out hnb (by decide)); clear hs hk)
        have z0 := blk_cell X5.out 0
        have z1 := blk_cell X5.out 1
        have z2 := blk_cell X5.out 2
        have z3 := blk_cell X5.out 3
        have z4 := blk_cell X5.out 4
        go_wp2_with (go_at_call 28; refine (HE.out B b A5 c5 _ _ S5.out.self HC5.out hc5 HB.out).mono ?_; rintro e w6 ⟨rfl, ht, hf, hk⟩; have S6 := Lib.hid (S5.out.wrote ht hf hk); clear ht hf hk)
        go_roundw
        case rel => exact ⟨i + 1, by go_num, hlt, Lib.hid (S6.out.cast HX.out)⟩
        case measure => simp [intOf]; omega
    · obtain rfl : i = xs.length := by omega
      have hg_ := HS.out
      rw [List.take_length] at hg_
      have HG_ := Lib.hid hg_
      clear hg_
      go_wp2
      go_end0
      exact HG_.out.tell rfl
theorem prPL_app (a b : List S83) : prPL (a ++ b) = prPL a ++ (if a = [] then prPL b else prPT b) := by
  cases a with
  | nil => simp [prPL]
  | cons y r => simp [prPL, prPT_app]
theorem prPL_take (l : List S83) (i : Nat) : (prPL (l.take i)).length ≤ (prPL l).length := by
  have h := prPL_app (l.take i) (l.drop i)
  rw [List.take_append_drop] at h
  rw [h, List.length_append]
  omega
/-- What is to be shown of a pattern. -/
def TP (w0 : World) (x : S83) : Prop := goodP x = true → ∀ (B b : Nat) (A : Option Addr) (c : Nat) (l : List UInt8) (W : World), TS w0 B b W W l → Kd.C k83 w0 A x.f4.length x.f4 → x.f4.length ≤ c → l.length + (prP x).length ≤ 140737488355328 →
  Calls Tryd.prog 73 #[.pointer (some ⟨b, 0, none⟩), .agg #[.int .i64 x.f0, .int .i64 x.f1, .int .i64 x.f2, .string x.f3, .slice A x.f4.length c]] W (Wrote B b (l ++ prP x) W)
set_option maxRecDepth 100000 in
set_option maxHeartbeats 16000000 in
theorem TP_list (w0 : World) (xs : List S83) (hI : ∀ x, x ∈ xs → TP w0 x) (hG : goodPL xs = true) (B b : Nat) (A : Option Addr) (c : Nat) (l : List UInt8) (W : World) (hS : TS w0 B b W W l) (hC : Kd.C k83 w0 A xs.length xs) (hc : xs.length ≤ c) (hl : l.length + (prPL xs).length ≤ 140737488355328) :
    Calls Tryd.prog 82 #[.pointer (some ⟨b, 0, none⟩), .slice A xs.length c, .func (.func 73) #[.pointer (some ⟨b, 0, none⟩)] #[]] W (Wrote B b (l ++ prPL xs) W) := by
  have hlen := C_len hC
  have HI := Lib.hid hI
  have HG := Lib.hid hG
  have HC := Lib.hid hC
  have SP := Lib.hid hS
  have HL := Lib.hid hl
  clear hI hG hC hS hl
  go_enter Tryd.func82, Tryd.ntmps82
  go_wp2
  go_loopw [10] (fun vi wr => ∃ i : Nat, vi = .int .i64 i ∧ i ≤ xs.length ∧ Hid (TS w0 B b W wr (l ++ prPL (xs.take i)))) (fun vi _ => xs.length - (intOf vi).toNat)
  case atStart => exact ⟨0, by go_num, Nat.zero_le _, Lib.hid (SP.out.cast (by simp [prPL]))⟩
  case round =>
    obtain ⟨i, rfl, hil, HS⟩ := hrel
    obtain ⟨wq, hwq⟩ : ∃ wq, wq = wr := ⟨_, rfl⟩
    subst hwq
    by_cases hlt : i < xs.length
    · have q1 : (i : Int) < (xs.length : Int) := by omega
      have q0 : (0 : Int) ≤ (i : Int) := by omega
      obtain ⟨ad, A5, c5, hA, u0, u1, u2, u3, u4, hc5, hC5⟩ := at_T83 HC.out (i : Int) q0 q1
      subst hA
      rw [rd83 xs i hlt, Int.toNat_natCast] at u0 u1 u2 u3 u4
      rw [rd83 xs i hlt] at hc5 hC5
      replace u0 := (HS.out.o.cell (World.block_lt_of_cell? w0 _ u0)).trans u0
      replace u1 := (HS.out.o.cell (World.block_lt_of_cell? w0 _ u1)).trans u1
      replace u2 := (HS.out.o.cell (World.block_lt_of_cell? w0 _ u2)).trans u2
      replace u3 := (HS.out.o.cell (World.block_lt_of_cell? w0 _ u3)).trans u3
      replace u4 := (HS.out.o.cell (World.block_lt_of_cell? w0 _ u4)).trans u4
      have HE := Lib.hid (HI.out xs[i] (List.getElem_mem hlt) (goodPL_mem xs _ HG.out (List.getElem_mem hlt)))
      have hsn : prPL (xs.take (i + 1)) = prPL (xs.take i) ++ ((if xs.take i = [] then [] else [44, 32]) ++ prP xs[i]) := by rw [List.take_succ_eq_append_getElem hlt, prPL_snoc]
      have hle := prPL_take xs (i + 1)
      have HT := Lib.hid hsn
      have HLE := Lib.hid hle
      have HC5 := Lib.hid hC5
      clear hC5 hsn hle
      have hnil : xs.take i = [] ↔ i = 0 := by
        cases xs with
        | nil => simp at hlt
        | cons y r => simp
      generalize xs[i] = x at *
      obtain ⟨pi, hpi⟩ : ∃ pi, pi = prPL (xs.take i) := ⟨_, rfl⟩
      rw [← hpi] at HS HT
      clear hpi
      go_upto_region 3 with fail
      have hal := below_alloc (Below.refl _ wq) (.cells #[.int .i64 x.f0, .int .i64 x.f1, .int .i64 x.f2, .string x.f3, .slice A5 x.f4.length c5] 83)
      have XC := Lib.hid (blk_new wq (.cells #[.int .i64 x.f0, .int .i64 x.f1, .int .i64 x.f2, .string x.f3, .slice A5 x.f4.length c5] 83))
      have hnb : wq.heap.size ≠ b := by have := HS.out.ne; omega
      have S4 := Lib.hid (HS.out.below hal)
      clear hal u0 u1 u2 u3 u4 HS
      generalize wq.alloc (.cells #[.int .i64 x.f0, .int .i64 x.f1, .int .i64 x.f2, .string x.f3, .slice A5 x.f4.length c5] 83) = w4 at *
      generalize wq.heap.size = gq at *
      by_cases h0 : i = 0
      · subst h0
        have e1 := HT.out
        rw [if_pos (hnil.2 rfl), List.nil_append] at e1
        have HB := Lib.hid (show (l ++ pi).length + (prP x).length ≤ 140737488355328 by have h1 := HLE.out; have h2 := HL.out; rw [e1, List.length_append] at h1; rw [List.length_append]; omega)
        have HX := Lib.hid (show (l ++ pi) ++ prP x = l ++ prPL (xs.take (0 + 1)) by rw [e1, List.append_assoc])
        clear e1
        have z0 := blk_cell XC.out 0
        have z1 := blk_cell XC.out 1
        have z2 := blk_cell XC.out 2
        have z3 := blk_cell XC.out 3
        have z4 := blk_cell XC.out 4
        go_wp2_with (go_at_call 73; refine (HE.out B b A5 c5 _ _ S4.out.self HC5.out hc5 HB.out).mono ?_; rintro e w6 ⟨rfl, ht, hf, hk⟩; have S6 := Lib.hid (S4.out.wrote ht hf hk); clear ht hf hk)
        go_roundw
        case rel => exact ⟨1, by go_num, hlt, Lib.hid (S6.out.cast HX.out)⟩
        case measure => simp [intOf]; omega
      · have hi0 : (i : Int) > 0 := by omega
        have e1 := HT.out
        rw [if_neg (fun h => h0 (hnil.1 h))] at e1
        have HB0 := Lib.hid (show (l ++ pi).length + (⟨#[44, 32]⟩ : ByteArray).size ≤ 140737488355328 by have h1 := HLE.out; have h2 := HL.out; rw [e1, List.length_append, List.length_append] at h1; rw [List.length_append]; simp only [List.length_cons, List.length_nil] at h1; have h3 : (⟨#[44, 32]⟩ : ByteArray).size = 2 := rfl; omega)
        have HB := Lib.hid (show ((l ++ pi) ++ bl ⟨#[44, 32]⟩).length + (prP x).length ≤ 140737488355328 by have h1 := HLE.out; have h2 := HL.out; rw [e1, List.length_append, List.length_append] at h1; rw [List.length_append, List.length_append]; simp only [List.length_cons, List.length_nil] at h1; have h3 : (bl ⟨#[44, 32]⟩).length = 2 := rfl; omega)
        have HX := Lib.hid (show ((l ++ pi) ++ bl ⟨#[44, 32]⟩) ++ prP x = l ++ prPL (xs.take (i + 1)) by rw [e1]; simp [bl])
        clear e1
        go_upto_region 5 with (go_at_call 24; refine (write_call S4.out _ HB0.out).mono ?_; rintro e w5 ⟨rfl, hs, hk⟩; have S5 := Lib.hid hs; have X5 := Lib.hid (TS.blk hk XC.out hnb (by decide)); clear hs hk)
        have z0 := blk_cell X5.out 0
        have z1 := blk_cell X5.out 1
        have z2 := blk_cell X5.out 2
        have z3 := blk_cell X5.out 3
        have z4 := blk_cell X5.out 4
        go_wp2_with (go_at_call 73; refine (HE.out B b A5 c5 _ _ S5.out.self HC5.out hc5 HB.out).mono ?_; rintro e w6 ⟨rfl, ht, hf, hk⟩; have S6 := Lib.hid (S5.out.wrote ht hf hk); clear ht hf hk)
        go_roundw
        case rel => exact ⟨i + 1, by go_num, hlt, Lib.hid (S6.out.cast HX.out)⟩
        case measure => simp [intOf]; omega
    · obtain rfl : i = xs.length := by omega
      have hg_ := HS.out
      rw [List.take_length] at hg_
      have HG_ := Lib.hid hg_
      clear hg_
      go_wp2
      go_end0
      exact HG_.out.tell rfl
end Go.Proofs.YtjboncbmeanlgaaDoor.Tr
