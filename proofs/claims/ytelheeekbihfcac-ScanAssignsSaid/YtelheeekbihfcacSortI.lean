/- What sort.SliceStable leaves in the row of places: all places, by the beginnings of their lives, those that begin alike in their own order. -/
import Derived.Test.YtelheeekbihfcacSortH
set_option linter.unusedVariables false
set_option linter.unusedSimpArgs false
namespace Go.Proofs.Ytelheeekbihfcac.Srt
open Go.RowKit Go.Sort Go.Proofs Go.Lib Go.Proofs.Ytelheeekbihfcac.PScanAssigns Go.Proofs.YtelheeekbihfcacW.PrintWords

def Ahead (l : List S40) (i j : Nat) : Prop := (rd_T40 l i).f0 < (rd_T40 l j).f0 ∨ ((rd_T40 l i).f0 = (rd_T40 l j).f0 ∧ i < j)
structure Order (l : List S40) (o : List Nat) : Prop where
  perm : o.Perm (List.range l.length)
  srt : o.Pairwise (Ahead l)
theorem Order.length {l : List S40} {o : List Nat} (h : Order l o) : o.length = l.length := by rw [h.perm.length_eq, List.length_range]

def ordRow (o : List Nat) : Array Value := (o.map fun k : Nat => Value.int .i64 (k : Int)).toArray

theorem grow_grownBy (w : World) (os : Array Obj) (row : Option Nat) : w.grownBy (grow w os) row := by
  refine ⟨rfl, rfl, rfl, by rw [size_grow]; omega, fun i hi _ => ?_⟩
  show (w.heap ++ os)[i]? = w.heap[i]?
  rw [Array.getElem?_append_left hi]

section
variable {n : Nat}
def encF (x : Fin n) : Value := .int .i64 (x.1 : Int)
def ltF (l : List S40) (x y : Fin n) : Bool := decide ((rd_T40 l x.1).f0 < (rd_T40 l y.1).f0)
def RF (l : List S40) (x y : Fin n) : Prop := Ahead l x.1 y.1
theorem ordF (l : List S40) : Ord (α := Fin n) (RF l) (ltF l) := by
  refine ⟨⟨fun x => by simp [ltF], fun x y z h1 h2 => ?_, fun x y z h1 h2 => ?_⟩, fun x y h => ?_, fun x y h => ?_⟩
  · simp only [ltF, decide_eq_true_eq] at *; omega
  · simp only [ltF, decide_eq_false_iff_not] at *; omega
  · simp only [ltF, decide_eq_true_eq] at h; exact Or.inl h
  · simp only [ltF, decide_eq_false_iff_not]; rcases h with h | ⟨h, _⟩ <;> omega
end

theorem at_grownBy {α : Type} [Inhabited α] {enc : α → Value} {w W : World} {blk off : Nat} {dk : Array α} (h : At enc w blk off W dk) : w.grownBy W (some blk) := by
  obtain ⟨m, os, rfl⟩ := h
  refine ⟨rfl, rfl, rfl, ?_, fun i hi hne => ?_⟩
  · unfold sortWorld; rw [size_grow, size_putRow]; show w.heap.size ≤ w.heap.size + _; omega
  · show ((putRow enc (Sort.ahead w m) blk off dk).heap ++ os)[i]? = _
    rw [Array.getElem?_append_left (by rw [size_putRow]; exact hi)]
    show (w.heap.modify blk _)[i]? = _
    rw [Array.getElem?_modify, if_neg (fun e => hne (by rw [e]))]

theorem at_row {α : Type} [Inhabited α] {enc : α → Value} {w W : World} {blk : Nat} {d dk : Array α} {t : TypeId} (h : At enc w blk 0 W dk) (hb : w.heap[blk]? = some (.cells (d.map enc) t (0, 0))) (hs : dk.size = d.size) : W.heap[blk]? = some (.cells (dk.map enc) t (0, 0)) := by
  obtain ⟨m, os, rfl⟩ := h
  have hlt : blk < w.heap.size := (Array.getElem?_eq_some_iff.1 hb).1
  show ((putRow enc (Sort.ahead w m) blk 0 dk).heap ++ os)[blk]? = _
  rw [Array.getElem?_append_left (by rw [size_putRow]; exact hlt)]
  show (w.heap.modify blk _)[blk]? = _
  rw [Array.getElem?_modify, if_pos rfl, hb]
  simp only [Option.map_some, onCells]
  congr 2
  apply Array.ext_getElem?
  intro k
  simp only [putCells, Array.getElem?_mapIdx, Array.getElem?_map]
  rcases Nat.lt_or_ge k d.size with hk | hk
  · rw [Array.getElem?_eq_getElem hk, Array.getElem?_eq_getElem (show k < dk.size by omega)]
    simp only [Option.map_some]
    rw [if_pos (by omega), Nat.sub_zero, getElem!_pos dk k (by omega)]
  · rw [Array.getElem?_eq_none hk, Array.getElem?_eq_none (by omega)]
    rfl

theorem holds_of_row {α : Type} [Inhabited α] {enc : α → Value} {w : World} {blk : Nat} {d : Array α} {t : TypeId} (hb : w.heap[blk]? = some (.cells (d.map enc) t (0, 0))) : Holds enc w blk 0 d := by
  intro j hj
  constructor
  · rw [Nat.zero_add, blk_cell hb j, Array.getElem?_map, Array.getElem?_eq_getElem hj, Option.map_some, getElem!_pos d j hj]
  · exact blk_frozen hb _

set_option maxHeartbeats 1000000 in
theorem order_call (l : List S40) (A : Option Addr) (c0 blk lb ob c : Nat) (W : World) (hl : W.cell? ⟨lb, 0, none⟩ = some (.slice A l.length c0)) (ho : W.cell? ⟨ob, 0, none⟩ = some (.slice (some ⟨blk, 0, none⟩) l.length c))
    (hr : Kd.C k40 W A l.length l) (hA : 2 ≤ l.length → ∀ ad, A = some ad → ad.block ≠ blk) (hlb : lb ≠ blk) (hob : ob ≠ blk) (hsz : l.length < 4611686018427387904)
    (hb : W.heap[blk]? = some (.cells (ordRow (List.range l.length)) 3 (0, 0))) :
    Calls Try.prog 24 #[.iface 24 (.slice (some ⟨blk, 0, none⟩) l.length c), .func (.func 25) #[] #[.pointer (some ⟨lb, 0, none⟩), .pointer (some ⟨ob, 0, none⟩)]] W fun e w' =>
      e = .returned (.tuple #[]) ∧ ∃ o, Order l o ∧ W.grownBy w' (some blk) ∧ w'.heap[blk]? = some (.cells (ordRow o) 3 (0, 0)) := by
  have hlt : blk < W.heap.size := (Array.getElem?_eq_some_iff.1 hb).1
  rcases Nat.lt_or_ge l.length 2 with h2 | h2
  · -- none or one
    have hK : swapperK l.length siE 2 ≤ 2 := by
      unfold swapperK
      rcases Nat.eq_zero_or_pos l.length with h0 | h0
      · rw [h0]; decide
      · rw [show l.length = 1 by omega]; decide
    obtain ⟨f, hf⟩ : ∃ f, Try.prog.funcs.findIdx? (·.name == "internal/reflectlite" ++ ".Swapper$" ++ toString (swapperK l.length siE 2)) = some f := by
      rcases Nat.eq_zero_or_pos l.length with h0 | h0
      · exact ⟨30, by rw [show swapperK l.length siE 2 = 1 by rw [h0]; rfl]; kernel_rfl⟩
      · exact ⟨31, by rw [show swapperK l.length siE 2 = 2 by rw [show l.length = 1 by omega]; rfl]; kernel_rfl⟩
    refine (sliceStable_of (some ⟨blk, 0, none⟩) l.length c hsz f hf (.func 25) #[] _ W _ ((stable_tiny (.func 25) #[] _ f _ l.length (by omega) _).mono fun e w' h => h)).mono ?_
    rintro e w' ⟨rfl, os, rfl⟩
    refine ⟨rfl, List.range l.length, ⟨List.Perm.refl _, ?_⟩, ?_, ?_⟩
    · rcases Nat.eq_zero_or_pos l.length with h0 | h0
      · rw [h0]; exact List.Pairwise.nil
      · rw [show l.length = 1 by omega]; exact List.pairwise_singleton _ _
    · unfold stW; rw [alloc_eq_grow, alloc_eq_grow, grow_grow, grow_grow]; exact grow_grownBy _ _ _
    · unfold stW; rw [alloc_eq_grow, alloc_eq_grow, grow_grow, grow_grow]
      show (W.heap ++ _)[blk]? = _
      rw [Array.getElem?_append_left hlt]; exact hb
  · -- two or more
    haveI : Inhabited (Fin l.length) := ⟨⟨0, by omega⟩⟩
    obtain ⟨ad, rfl, hcells⟩ := hr.2.2 (by omega)
    have hfs : ∀ k : Nat, k < l.length → W.cell? (ad.add (k * 2)) = some (.int .i64 (rd_T40 l k).f0) := fun k hk => by
      obtain ⟨ad', e, h1, _⟩ := at_T40 hr (k : Int) (by omega) (by omega)
      cases e
      simpa using h1
    have hd : (Array.ofFn (fun x : Fin l.length => x)).map encF = ordRow (List.range l.length) := by
      apply Array.ext
      · simp [ordRow]
      · intro i h1 h2; simp [ordRow, encF]
    have hb' : W.heap[blk]? = some (.cells ((Array.ofFn (fun x : Fin l.length => x)).map encF) 3 (0, 0)) := by rw [hd]; exact hb
    have hH : Holds encF W blk 0 (Array.ofFn (fun x : Fin l.length => x)) := holds_of_row hb'
    have hdn : (Array.ofFn (fun x : Fin l.length => x)).size = l.length := by simp
    generalize hde : Array.ofFn (fun x : Fin l.length => x) = d at *
    have hless : LessReads Try.prog 25 #[.pointer (some ⟨lb, 0, none⟩), .pointer (some ⟨ob, 0, none⟩)] (encF (n := l.length)) (ltF l) blk 0 d.size W := by
      intro m os dk hs i j hi hj
      have hAt : At encF W blk 0 (sortWorld encF W blk 0 m dk os) dk := ⟨m, os, rfl⟩
      have hK := hAt.holds hlt hH (by rw [hs])
      have had := hA h2 ad rfl
      rw [hdn] at hs hi hj
      have := less_any blk lb ob l.length c0 c ad l _ (fun t => (dk[t]!).1) (hAt.cell hlb hl) (hAt.cell hob ho) (fun k hk => hAt.cell (by unfold Addr.add; split <;> exact had) (hfs k hk)) (fun t ht => (dk[t]!).2) (fun t ht => by have h := (hK t (by omega)).1; rw [Nat.zero_add] at h; exact h) hsz i j hi hj
      exact this
    have hW : stW (some ⟨blk, 0, none⟩) l.length c W = grow W #[.cells #[.slice (some ⟨blk, 0, none⟩) l.length c] 24, .cells #[.pointer (some ⟨0, 24, none⟩), .pointer (some ⟨W.heap.size, 0, none⟩), .int .u64 151] 56] := by
      unfold stW; rw [alloc_eq_grow, alloc_eq_grow, grow_grow]; rfl
    have hB : sliceBound Try.prog 3 siE 2 (some ⟨blk, 0, none⟩) l.length c = #[.slice (some ⟨blk, 0, none⟩) l.length c, typeHandle Try.prog 3] := by
      unfold sliceBound; rw [if_neg (swapperK_gt _ _ _ h2)]
    have hsw : SwapSwaps Try.prog 34 #[.slice (some ⟨blk, 0, none⟩) l.length c, typeHandle Try.prog 3] (encF (n := l.length)) blk 0 d.size := by
      rw [hdn]
      exact swapSwaps_of_literal true 34 (fun args W => run_callFunc_extern Try.func34 (by kernel_rfl) (by kernel_rfl) (by kernel_rfl) (e := Extern.ReflectliteSwapper.swap true) (by kernel_rfl) args W) 3 siE siE_info (by kernel_rfl) (fun _ => by kernel_rfl) encF (fun _ => rfl) blk 0 l.length c
    generalize (#[.cells #[.slice (some ⟨blk, 0, none⟩) l.length c] 24, .cells #[.pointer (some ⟨0, 24, none⟩), .pointer (some ⟨W.heap.size, 0, none⟩), .int .u64 151] 56] : Array Obj) = os0 at hW
    have hI : Init (RF l) (ltF l) 0 d.size d := by
      intro i j _ hij hj hx
      subst hde
      have ei : (Array.ofFn (fun x : Fin l.length => x))[i]! = ⟨i, by omega⟩ := by rw [getElem!_pos _ i (by omega)]; simp
      have ej : (Array.ofFn (fun x : Fin l.length => x))[j]! = ⟨j, by omega⟩ := by rw [getElem!_pos _ j (by omega)]; simp
      have hx' : ¬ (rd_T40 l j).f0 < (rd_T40 l i).f0 := by
        rw [ei, ej] at hx
        simpa [ltF] using hx
      rw [ei, ej]
      show Ahead l i j
      unfold Ahead
      omega
    have hlt1 : blk < (grow W os0).heap.size := by rw [size_grow]; omega
    have hst := stable (ordF l) (g := 25) (lb := #[.pointer (some ⟨lb, 0, none⟩), .pointer (some ⟨ob, 0, none⟩)]) (sf := 34) (sb := #[.slice (some ⟨blk, 0, none⟩) l.length c, typeHandle Try.prog 3]) (blk := blk) (off := 0) (d := d) (w := grow W os0)
      ⟨enters_of Try.func25 (by kernel_rfl) rfl, hless.grow hlt os0, hsw, hlt1, by omega⟩ (holds_grow encF W os0 blk 0 d hlt hH) hI
    rw [hdn] at hst
    refine (sliceStable_of (some ⟨blk, 0, none⟩) l.length c hsz 34 (by rw [siK _ h2]; kernel_rfl) (.func 25) #[] _ W _ (by rw [hB, hW]; exact hst)).mono ?_
    rintro e w' ⟨rfl, d', hA', hD⟩
    have hb1 : (grow W os0).heap[blk]? = some (.cells (d.map encF) 3 (0, 0)) := by
      show (W.heap ++ os0)[blk]? = _
      rw [Array.getElem?_append_left hlt]; exact hb'
    have hrow := at_row hA' hb1 hD.perm.1
    refine ⟨rfl, d'.toList.map (·.1), ⟨?_, ?_⟩, (grow_grownBy W os0 (some blk)).trans (at_grownBy hA'), ?_⟩
    · have hp := hD.perm.2.2
      have e1 : d'.extract 0 l.length = d' := by
        have := hD.perm.1
        apply Array.ext
        · simp; omega
        · intro i h1 h2; simp
      have e2 : d.extract 0 l.length = d := by
        apply Array.ext
        · simp; omega
        · intro i h1 h2; simp
      rw [e1, e2] at hp
      have := hp.map (fun x : Fin l.length => x.1)
      refine this.trans ?_
      rw [← hde]
      have e3 : (Array.ofFn (fun x : Fin l.length => x)).toList.map (fun x : Fin l.length => x.1) = List.range l.length := by
        apply List.ext_getElem
        · simp
        · intro i h1 h2; simp
      rw [e3]
    · rw [List.pairwise_map, List.pairwise_iff_getElem]
      intro i j hi hj hij
      have := hD.srt i j (Nat.zero_le _) hij (by simp at hj; have := hD.perm.1; omega)
      rw [getElem!_pos d' i (by simpa using hi), getElem!_pos d' j (by simpa using hj)] at this
      simpa [RF] using this
    · rw [hrow]
      congr 2
      apply Array.ext
      · simp [ordRow]
      · intro i h1 h2; simp [ordRow, encF]
end Go.Proofs.Ytelheeekbihfcac.Srt
