/- The library's sort.SliceStable over the program: common words for the walks of its helpers. -/
import Derived.Test.YtelheeekbihfcacRows
import Derived.Shelf.GgSortFunc.Compose
import Derived.WalkKit
import Derived.WalkSpells
import Derived.WalkLawsBesides
import Derived.Deep.LoopGhost
import Derived.IntWalk
import Derived.Lib.Hide
set_option linter.unusedVariables false
set_option linter.unusedSimpArgs false
namespace Go.Proofs.Ytelheeekbihfcac.Srt
open Go.RowKit Go.Sort Go.Proofs
variable {α : Type} [Inhabited α]

/-- W is w with the row holding dk, some draws on, some new blocks. -/
structure At (enc : α → Value) (w : World) (blk off : Nat) (W : World) (dk : Array α) : Prop where
  out : ∃ m os, W = sortWorld enc w blk off m dk os

theorem At.start {enc : α → Value} {w : World} {blk off : Nat} {d : Array α} (h : Holds enc w blk off d) : At enc w blk off w d := ⟨0, #[], (sortWorld_start enc w blk off d h).symm⟩

theorem At.alloc {enc : α → Value} {w W : World} {blk off : Nat} {dk : Array α} (h : At enc w blk off W dk) (o : Obj) : At enc w blk off (W.alloc o) dk := by
  obtain ⟨m, os, rfl⟩ := h
  exact ⟨m, os ++ #[o], by unfold sortWorld; rw [alloc_eq_grow, grow_grow]⟩

theorem At.drewN {enc : α → Value} {w W : World} {blk off : Nat} {dk : Array α} (h : At enc w blk off W dk) (q : Nat) : At enc w blk off (W.drewN q) dk := by
  obtain ⟨m, os, rfl⟩ := h
  refine ⟨m + q, os, ?_⟩
  unfold sortWorld
  simp [World.drewN, Sort.ahead, grow, putRow, mapBlock, Nat.add_assoc]

theorem At.trans {enc : α → Value} {w W W' : World} {blk off : Nat} {dk d' : Array α} (hblk : blk < w.heap.size) (h : At enc w blk off W dk) (h' : At enc W blk off W' d') (hs : d'.size = dk.size) : At enc w blk off W' d' := by
  obtain ⟨m, os, rfl⟩ := h
  obtain ⟨m', os', rfl⟩ := h'
  exact ⟨_, _, sortWorld_on enc w blk off m m' dk d' os os' hblk hs⟩

theorem At.holds {enc : α → Value} {w W : World} {blk off : Nat} {d dk : Array α} (h : At enc w blk off W dk) (hblk : blk < w.heap.size) (h0 : Holds enc w blk off d) (hs : dk.size = d.size) : Holds enc W blk off dk := by
  obtain ⟨m, os, rfl⟩ := h
  exact holds_sortWorld enc w blk off m d dk os hblk h0 hs

theorem At.lt {enc : α → Value} {w W : World} {blk off : Nat} {dk : Array α} (h : At enc w blk off W dk) (hblk : blk < w.heap.size) : blk < W.heap.size := by
  obtain ⟨m, os, rfl⟩ := h
  exact lt_sortWorld enc w blk off m dk os hblk

theorem At.size {enc : α → Value} {w W : World} {blk off : Nat} {dk : Array α} (h : At enc w blk off W dk) : w.heap.size ≤ W.heap.size := by
  obtain ⟨m, os, rfl⟩ := h
  unfold sortWorld
  rw [size_grow, size_putRow]
  show w.heap.size ≤ w.heap.size + _
  omega

theorem At.swap {enc : α → Value} {w W : World} {blk off : Nat} {d dk : Array α} (h : At enc w blk off W dk) (hblk : blk < w.heap.size) (h0 : Holds enc w blk off d) (hs : dk.size = d.size) (i j : Nat) (hi : i < dk.size) (hj : j < dk.size) :
    At enc w blk off ((W.setCell ⟨blk, off + i, none⟩ (enc dk[j]!)).setCell ⟨blk, off + j, none⟩ (enc dk[i]!)) (swp dk i j) := by
  obtain ⟨m, os, rfl⟩ := h
  refine ⟨m, os, ?_⟩
  unfold sortWorld
  rw [← putRow_grow enc (Sort.ahead w m) os blk off dk hblk, ← putRow_grow enc (Sort.ahead w m) os blk off (swp dk i j) hblk]
  exact putRow_swp enc _ blk off dk i j hi hj

/-- A cell outside the row's block is read as ever. -/
theorem At.cell {enc : α → Value} {w W : World} {blk off : Nat} {dk : Array α} (h : At enc w blk off W dk) {a : Addr} {v : Value} (hb : a.block ≠ blk) (hc : w.cell? a = some v) : W.cell? a = some v := by
  obtain ⟨m, os, rfl⟩ := h
  have hlt : a.block < w.heap.size := World.block_lt_of_cell? w a hc
  unfold sortWorld
  rw [cell?_grow _ _ _ (by rw [size_putRow]; exact hlt), cell?_putRow_other enc _ blk off dk a (Or.inl hb)]
  exact hc

theorem At.less {P : Program} {g : Nat} {lb : Array Value} {enc : α → Value} {lt : α → α → Bool} {blk off size : Nat} {w W : World} {dk : Array α} (h : At enc w blk off W dk) (hl : LessReads P g lb enc lt blk off size w) (hs : dk.size = size) (i j : Int) (hi : 0 ≤ i) (hi' : i < size) (hj : 0 ≤ j) (hj' : j < size) :
    Calls P g (#[.int .i64 i, .int .i64 j] ++ lb) W fun e w' => e = .returned (.bool (lt dk[i.toNat]! dk[j.toNat]!)) ∧ ∃ q, w' = W.drewN q := by
  obtain ⟨m, os, rfl⟩ := h
  obtain ⟨i, rfl⟩ := Int.eq_ofNat_of_zero_le hi
  obtain ⟨j, rfl⟩ := Int.eq_ofNat_of_zero_le hj
  exact hl m os dk hs i j (by omega) (by omega)

theorem At.lessReads {P : Program} {g : Nat} {lb : Array Value} {enc : α → Value} {lt : α → α → Bool} {blk off size : Nat} {w W : World} {dk : Array α} (h : At enc w blk off W dk) (hblk : blk < w.heap.size) (hl : LessReads P g lb enc lt blk off size w) (hs : dk.size = size) : LessReads P g lb enc lt blk off size W := by
  obtain ⟨m, os, rfl⟩ := h
  exact hl.on hblk m dk os hs

theorem swaps {P : Program} {sf : Nat} {sb : Array Value} {enc : α → Value} {blk off size : Nat} (hw : SwapSwaps P sf sb enc blk off size) {W : World} {dk : Array α} (hH : Holds enc W blk off dk) (hs : dk.size = size) (i j : Int) (hi : 0 ≤ i) (hi' : i < size) (hj : 0 ≤ j) (hj' : j < size) :
    (callFunc sf (#[.int .i64 i, .int .i64 j] ++ sb)).run P W = .ok (.value (.tuple #[])) ((W.setCell ⟨blk, off + i.toNat, none⟩ (enc dk[j.toNat]!)).setCell ⟨blk, off + j.toNat, none⟩ (enc dk[i.toNat]!)) := by
  obtain ⟨i, rfl⟩ := Int.eq_ofNat_of_zero_le hi
  obtain ⟨j, rfl⟩ := Int.eq_ofNat_of_zero_le hj
  exact hw W dk hH hs i j (by omega) (by omega)

theorem get_swp (d : Array α) (i j k : Nat) (hi : i < d.size) (hj : j < d.size) : (swp d i j)[k]! = if k = j then d[i]! else if k = i then d[j]! else d[k]! := by
  unfold swp
  by_cases h1 : k = j
  · subst h1
    rw [if_pos rfl, getElem!_set_same _ _ _ (by simpa using hj)]
  · rw [if_neg h1, getElem!_set_other _ _ _ _ h1]
    by_cases h2 : k = i
    · subst h2
      rw [if_pos rfl, getElem!_set_same _ _ _ hi]
    · rw [if_neg h2, getElem!_set_other _ _ _ _ h2]

def DataV (g : Nat) (lb : Array Value) (sf : Nat) (sb : Array Value) : Value := .agg #[.func (.func g) #[] lb, .func (.func sf) #[] sb]
def BoxO (g : Nat) (lb : Array Value) (sf : Nat) (sb : Array Value) : Obj := .cells #[.func (.func g) #[] lb, .func (.func sf) #[] sb] 62
end Go.Proofs.Ytelheeekbihfcac.Srt
