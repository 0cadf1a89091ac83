/- The program's iterator over lives: each life in the stable order of beginnings. -/
import Derived.Test.YtelheeekbihfcacSortI
import Derived.Test.YtelheeekbihfcacRange
set_option linter.unusedVariables false
set_option linter.unusedSimpArgs false
namespace Go.Proofs.Ytelheeekbihfcac.Srt
open Go.RowKit Go.Sort Go.Proofs Go.Lib Go.Proofs.Ytelheeekbihfcac.PScanAssigns Go.Proofs.YtelheeekbihfcacW.PrintWords
attribute [local go_sem] Oper.semAt_some

structure ItOk (l : List S40) (A : Option Addr) (c0 lb : Nat) (c : Nat × List Nat) (W : World) : Prop where
  row : W.heap[c.1]? = some (.cells (ordRow c.2) 3 (0, 0))
  box : W.cell? ⟨lb, 0, none⟩ = some (.slice A l.length c0)
  read : Kd.C k40 W A l.length l
  ord : Order l c.2

theorem It_cell {l : List S40} {A : Option Addr} {c0 lb : Nat} {c : Nat × List Nat} {W : World} (h : ItOk l A c0 lb c W) (k : Nat) (hk : k < l.length) : W.cell? ⟨c.1, k, none⟩ = some (.int .i64 ((c.2.getD k 0 : Nat) : Int)) := by
  rw [blk_cell h.row k]
  have hl : k < c.2.length := by rw [h.ord.length]; exact hk
  simp [ordRow, hl]

/-- The row of places when k of them have been written. -/
def fillRow (k n : Nat) : Array Value := ((List.range n).map fun j : Nat => if j < k then Value.int .i64 (j : Int) else .int .i64 0).toArray
theorem fillRow_zero (n : Nat) : madeCells #[Value.int .i64 0] n = fillRow 0 n := by
  apply Array.ext
  · simp [madeCells, fillRow]
  · intro i h1 h2; simp [madeCells, fillRow, Nat.mod_one]
theorem fillRow_all (n : Nat) : fillRow n n = ordRow (List.range n) := by
  unfold fillRow ordRow
  congr 1
  apply List.map_congr_left
  intro j hj
  rw [if_pos (List.mem_range.1 hj)]
theorem fillRow_step (k n : Nat) (hk : k < n) : (fillRow k n).setIfInBounds k (.int .i64 (k : Int)) = fillRow (k + 1) n := by
  apply Array.ext_getElem?
  intro i
  rw [Array.getElem?_setIfInBounds]
  have hs : (fillRow k n).size = n := by simp [fillRow]
  by_cases h : k = i
  · subst h
    rw [if_pos rfl, if_pos (by omega)]
    simp [fillRow, hk]
  · rw [if_neg h]
    rcases Nat.lt_or_ge i n with h2 | h2
    · simp only [fillRow, List.getElem?_toArray, List.getElem?_map, List.getElem?_range h2, Option.map_some]
      by_cases h3 : i < k
      · rw [if_pos h3, if_pos (by omega)]
      · rw [if_neg h3, if_neg (by omega)]
    · simp [fillRow, h2]

set_option maxRecDepth 100000 in
set_option maxHeartbeats 2000000 in
theorem taken1 (n : Nat) (hn : 1 ≤ n) (l : List S40) (A : Option Addr) (c0 lb lp : Nat) (W : World) (J : (Nat × List Nat) → List Nat → World → Prop) (hsz : l.length ≤ 10000)
    (hl : W.cell? ⟨lb, 0, none⟩ = some (.slice A l.length c0)) (hr : Kd.C k40 W A l.length l)
    (hIt : ∀ c pre W', J c pre W' → ItOk l A c0 lb c W') (h0 : ∀ c W', Below W.heap.size W W' → W.heap.size ≤ c.1 → ItOk l A c0 lb c W' → J c [] W')
    (hY : ∀ (c : Nat × List Nat) pre (x : Nat) W1, (pre ++ [x]) <+: c.2 → J c pre W1 → YieldAt Fence.wide (n - 1) Try.prog lp #[.int .i64 (x : Int), .agg #[.int .i64 (rd_T40 l x).f0, .int .i64 (rd_T40 l x).f1]] W1 fun e W' => e = .returned (.bool true) ∧ J c (pre ++ [x]) W') :
    CallsIn Fence.wide n Try.prog 23 #[.func (.yield lp) #[] #[], .pointer (some ⟨lb, 0, none⟩)] W fun e W' => (∃ v, e = .returned v) ∧ ∃ (c : Nat × List Nat) (xs : List Nat), xs = c.2 ∧ J c xs W' := by
  have hlb := World.block_lt_of_cell? W _ hl
  have hmk := print_make (P := Try.prog) 24 3 .i64 8 Try.underlying24 (by kernel_rfl) (by omega) l.length (by omega)
  have HR := Lib.hid hr
  have HIt := Lib.hid hIt
  have H0 := Lib.hid h0
  have HY := Lib.hid hY
  clear hr hIt h0 hY
  have hlb' : lb < W.heap.size := hlb
  refine callsIn_of_wp Try.func23 rfl trivial ?_ rfl
  simp only [Try.ntmps23, List.size_toArray, List.length_cons, List.length_nil, Nat.reduceAdd, Nat.reduceSub, Array.replicate_succ, Array.replicate_zero, List.push_toArray, List.append_toArray, List.nil_append, List.cons_append]
  gi_wp2
  gi_loopw [12] (fun vk wr => ∃ k : Nat, vk = .int .i64 k ∧ k ≤ l.length ∧ Hid (wr.heap[W.heap.size]? = some (.cells (fillRow k l.length) 3 (0, 0))) ∧ Hid (wr.heap[W.heap.size + 1]? = some (.cells #[.slice (some ⟨W.heap.size, 0, none⟩) l.length l.length] 24 (0, 0))) ∧ Hid (Below W.heap.size W wr)) (fun vk _ => l.length - (intOf vk).toNat)
  case atStart =>
    refine ⟨0, by go_num, Nat.zero_le _, Lib.hid ?_, Lib.hid ?_, Lib.hid ?_⟩
    · rw [← fillRow_zero]
      exact blk_alloc (blk_new _ _) _
    · have := blk_new (W.alloc (.cells (madeCells #[Value.int .i64 0] l.length) 3)) (.cells #[.slice (some ⟨W.heap.size, 0, none⟩) l.length l.length] 24)
      rwa [World.size_alloc] at this
    · exact ((Below.refl _ W).alloc (Nat.le_refl _) _).alloc (by simp) _
  case round =>
    obtain ⟨k, rfl, hk, R1, R2, R3⟩ := hrel
    have hl1 : wr.cell? ⟨lb, 0, none⟩ = some (.slice A l.length c0) := (R3.out.cell (p := ⟨lb, 0, none⟩) hlb').trans hl
    have ho1 : wr.cell? ⟨W.heap.size + 1, 0, none⟩ = some (.slice (some ⟨W.heap.size, 0, none⟩) l.length l.length) := blk_cell R2.out 0
    by_cases hlt : k < l.length
    · obtain ⟨v0, hv0⟩ : ∃ v0, wr.cell? ⟨W.heap.size, k, none⟩ = some v0 := by
        rw [blk_cell R1.out k]
        exact ⟨_, Array.getElem?_eq_getElem (by simp [fillRow]; exact hlt)⟩
      have hf0 : wr.frozen? ⟨W.heap.size, k, none⟩ = false := blk_frozen R1.out k
      have hk0 : (0 : Int) ≤ k := by omega
      have hk1 : (k : Int) < l.length := by omega
      have R1' := Lib.hid (show (wr.setCell ⟨W.heap.size, k, none⟩ (.int .i64 k)).heap[W.heap.size]? = some (.cells (fillRow (k + 1) l.length) 3 (0, 0)) by rw [← fillRow_step k l.length hlt]; exact blk_set R1.out k _)
      have R2' := Lib.hid (show (wr.setCell ⟨W.heap.size, k, none⟩ (.int .i64 k)).heap[W.heap.size + 1]? = some (.cells #[.slice (some ⟨W.heap.size, 0, none⟩) l.length l.length] 24 (0, 0)) from blk_far R2.out (by show W.heap.size + 1 ≠ W.heap.size; omega) _)
      have R3' := Lib.hid (below_set (g := W.heap.size) (j := k) (v := .int .i64 k) R3.out (Nat.le_refl _))
      gi_wp2
      go_roundw
      case rel => exact ⟨k + 1, by go_num, by omega, R1', R2', R3'⟩
      case measure => simp [intOf]; omega
    · obtain rfl : k = l.length := by omega
      have hcall := order_call l A c0 W.heap.size lb (W.heap.size + 1) l.length wr hl1 ho1 (Kd.C_below HR.out R3.out) (fun h2 ad e => by
        subst e
        obtain ⟨ad', e, h1, _⟩ := at_T40 HR.out 0 (by omega) (by omega)
        cases e
        have := World.block_lt_of_cell? W _ h1
        unfold Addr.add at this
        simp at this
        omega) (by omega) (by omega) (by omega) (by rw [← fillRow_all]; exact R1.out)
      have HC := Lib.hid hcall
      clear hcall
      gi_wp2_with fail
      refine ⟨trivial, ?_⟩
      clear hl1 ho1
      refine (callsIn_wide.2 HC.out).mono ?_
      rintro e w1 ⟨rfl, o, hO, hg, hrow⟩
      have hBB : Below W.heap.size W w1 := R3.out.grown hg (by have := R3.out.size; omega) (by intro k e; injection e with e; omega)
      have hbx : w1.heap[W.heap.size + 1]? = some (.cells #[.slice (some ⟨W.heap.size, 0, none⟩) l.length l.length] 24 (0, 0)) := blk_grown R2.out hg (by simp)
      have ho1 : w1.cell? ⟨W.heap.size + 1, 0, none⟩ = some (.slice (some ⟨W.heap.size, 0, none⟩) l.length l.length) := blk_cell hbx 0
      have J0 := Lib.hid (H0.out (W.heap.size, o) w1 hBB (Nat.le_refl _) ⟨hrow, (hBB.cell (p := ⟨lb, 0, none⟩) hlb').trans hl, Kd.C_below HR.out hBB, hO⟩)
      have HO := Lib.hid hO
      clear hO hg hrow hBB hbx R1 R2 R3 H0
      gi_wp2
      gi_loopw [26] (fun vk wr => ∃ k : Nat, vk = .int .i64 k ∧ k ≤ l.length ∧ Hid (J (W.heap.size, o) (o.take k) wr)) (fun vk _ => l.length - (intOf vk).toNat)
      case atStart => exact ⟨0, by go_num, Nat.zero_le _, J0⟩
      case round =>
        obtain ⟨k, rfl, hk, HJ⟩ := hrel
        by_cases hlt2 : k < l.length
        · have it := HIt.out _ _ _ HJ.out
          have hx0 := It_cell it k hlt2
          have hol : k < o.length := by rw [HO.out.length]; exact hlt2
          obtain ⟨x, hx⟩ : ∃ x, o.getD k 0 = x := ⟨_, rfl⟩
          have hxe : o[k] = x := by rw [← hx]; simp [List.getD_eq_getElem?_getD, hol]
          have hxn : x < l.length := by
            have : x ∈ List.range l.length := HO.out.perm.mem_iff.1 (by rw [← hxe]; exact List.getElem_mem hol)
            exact List.mem_range.1 this
          have hpre : o.take k ++ [x] = o.take (k + 1) := by rw [List.take_succ_eq_append_getElem hol, hxe]
          simp only [hx] at hx0
          obtain ⟨ad, rfl, hx1, hx2⟩ := at_T40 it.read (x : Int) (by omega) (by omega)
          rw [Int.toNat_natCast] at hx1 hx2
          have hb1 := it.box
          obtain ⟨fn, tmps, assign, body, hy, hR⟩ := HY.out (W.heap.size, o) (o.take k) x wr (by rw [hpre]; exact List.take_prefix _ _) HJ.out
          rw [hpre] at hR
          have HRd := Lib.hid hR
          clear hR it hx hxe hpre
          have hk0 : (0 : Int) ≤ k := by omega
          have hk1 : (k : Int) < l.length := by omega
          have hx3 : (0 : Int) ≤ x := by omega
          have hx4 : (x : Int) < l.length := by omega
          gi_wp2
          refine HRd.out.mono ?_
          rintro e W3 ⟨rfl, hJ3⟩
          have HJ3 := Lib.hid hJ3
          clear hJ3 hx0 hx1 hx2 hb1 hy
          gi_wp2
          go_roundw
          case rel => exact ⟨k + 1, by go_num, by omega, HJ3⟩
          case measure => simp [intOf]; omega
        · obtain rfl : k = l.length := by omega
          gi_wp2
          go_end0
          refine ⟨⟨_, rfl⟩, (W.heap.size, o), o, rfl, ?_⟩
          have := HJ.out
          rwa [List.take_of_length_le (by rw [HO.out.length]; exact Nat.le_refl _)] at this

set_option maxHeartbeats 400000 in
theorem taken_in (n : Nat) (A : Option Addr) (len c0 : Nat) (w : World) :
    CallsIn Fence.wide n Try.prog 19 #[.slice A len c0] w fun e w' => e = .returned (.func (.func 23) #[] #[.pointer (some ⟨w.heap.size, 0, none⟩)]) ∧ w.alloc (.cells #[.slice A len c0] 22) = w' := by
  refine callsIn_of_wp Try.func19 rfl trivial ?_ rfl
  simp only [Try.ntmps19, List.size_toArray, List.length_cons, List.length_nil, Nat.reduceAdd, Nat.reduceSub, Array.replicate_succ, Array.replicate_zero, List.push_toArray, List.append_toArray, List.nil_append, List.cons_append]
  gi_wp2
  go_ret
  exact ⟨rfl, rfl⟩
end Go.Proofs.Ytelheeekbihfcac.Srt
