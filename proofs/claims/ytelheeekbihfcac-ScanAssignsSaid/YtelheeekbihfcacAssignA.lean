/- What is known while the program's Assign goes. -/
import Derived.Test.YtelheeekbihfcacAssign
import Derived.Deep.DeepCutAuto
import Derived.Laws.EntriesVeiled
set_option linter.unusedVariables false
set_option linter.unusedSimpArgs false
namespace Go.Proofs.Ytelheeekbihfcac.Srt
open Go.RowKit Go.Proofs Go.Proofs.Ytelheeekbihfcac.PScanAssigns Go.Proofs.YtelheeekbihfcacW.PrintWords Go.Proofs.YtelheeekbihfcacW.PrintMore
attribute [local go_sem] Oper.semAt_some

/-- Where the boxes and rows of Assign lie. -/
structure Keys where
  bl : Nat
  br : Nat
  bs : Nat
  Rr : Nat
  Rh : Nat
  bh : Nat
  bp : Nat
  bf : Nat
  Rw : Nat
  bw : Nat
  bn : Nat
  lb : Nat

def frame (K : Keys) (l : List S40) (A : Option Addr) (c0 regs : Nat) (st : St) (v : Value) : List (Nat × Obj) :=
  [(K.bl, .cells #[.slice A l.length c0] 22 (0, 0)), (K.br, .cells #[.slice (some ⟨K.Rr, 0, none⟩) l.length l.length] 24 (0, 0)), (K.bs, .cells #[.int .i64 st.slots] 3 (0, 0)),
   (K.Rr, .cells (intRow st.rooms) 3 (0, 0)), (K.Rh, .cells (intRow st.held) 3 (0, 0)), (K.bh, .cells #[.slice (some ⟨K.Rh, 0, none⟩) regs regs] 24 (0, 0)),
   (K.bp, .cells #[v] 24 (0, 0)), (K.bf, .cells #[.func (.func 17) #[] #[.pointer (some ⟨K.bp, 0, none⟩), .pointer (some ⟨K.bl, 0, none⟩), .pointer (some ⟨K.br, 0, none⟩), .pointer (some ⟨K.bs, 0, none⟩)]] 43 (0, 0)),
   (K.Rw, .cells (intRow st.wh) 3 (0, 0)), (K.bw, .cells #[.slice (some ⟨K.Rw, 0, none⟩) l.length l.length] 24 (0, 0)), (K.bn, .cells #[.int .i64 (st.now : Int)] 3 (0, 0)), (K.lb, .cells #[.slice A l.length c0] 22 (0, 0))]

def held0 (k regs : Nat) : List Int := (List.range regs).map fun j : Nat => if j < k then -1 else 0
theorem held0_zero (regs : Nat) : List.replicate regs 0 = held0 0 regs := by
  apply List.ext_getElem
  · simp [held0]
  · intro i h1 h2; simp [held0]
theorem held0_all (regs : Nat) : held0 regs regs = List.replicate regs (-1) := by
  apply List.ext_getElem
  · simp [held0]
  · intro i h1 h2; simp [held0] at h1 ⊢; exact h1
theorem held0_step (k regs : Nat) (hk : k < regs) : (held0 k regs).set k (-1) = held0 (k + 1) regs := by
  apply List.ext_getElem
  · simp [held0]
  · intro i h1 h2
    simp only [List.getElem_set, held0, List.getElem_map, List.getElem_range]
    by_cases h : k = i
    · subst h; rw [if_pos rfl, if_pos (by omega)]
    · rw [if_neg h]
      by_cases h3 : i < k
      · rw [if_pos h3, if_pos (by omega)]
      · rw [if_neg h3, if_neg (by omega)]

theorem below_putObj {B : Nat} {w W : World} (h : Below B w W) {k : Nat} (hk : B ≤ k) (o : Obj) : Below B w (W.putObj k o) :=
  ⟨h.os, h.tape, h.output, by rw [World.putObj_size]; exact h.size, fun i hi => (World.putObj_heap_other (by omega)).trans (h.block i hi)⟩
theorem HC.putObj {L : List (Nat × Obj)} {W : World} (h : HC L W) {k : Nat} (hk : ∀ p, p ∈ L → p.1 ≠ k) (o : Obj) : HC L (W.putObj k o) :=
  ⟨fun p hp => (World.putObj_heap_other (hk p hp)).trans (h.get p hp), h.nd⟩

/-- What is known between two rounds: n0: how many blocks lay when the loop began; c: where the row of places lies, and what it holds. -/
structure Fr (K : Keys) (l : List S40) (A : Option Addr) (c0 regs : Nat) (w : World) (n0 : Nat) (c : Nat × List Nat) (pre : List Nat) (W : World) : Prop where
  out : ∃ (st : St) (v : Value), Run l regs pre st ∧ HC ((c.1, .cells (ordRow c.2) 3 (0, 0)) :: frame K l A c0 regs st v) W ∧ W.ownsRow w.heap.size 3 1 v st.sp.length (nums .i64 (natRow st.sp)) ∧ (∀ k, v.ownBlock = some k → n0 + 2 ≤ k ∧ k ≠ c.1)
  below : Below w.heap.size w W
  pre : pre <+: c.2
  ord : Order l c.2
  lo : n0 + 2 ≤ c.1

structure KeysOk (K : Keys) (w : World) (n0 : Nat) : Prop where
  lo : w.heap.size ≤ K.bl ∧ w.heap.size ≤ K.br ∧ w.heap.size ≤ K.bs ∧ w.heap.size ≤ K.Rr ∧ w.heap.size ≤ K.Rh ∧ w.heap.size ≤ K.bh ∧ w.heap.size ≤ K.bp ∧ w.heap.size ≤ K.bf ∧ w.heap.size ≤ K.Rw ∧ w.heap.size ≤ K.bw ∧ w.heap.size ≤ K.bn ∧ w.heap.size ≤ K.lb
  hi : K.bl < n0 ∧ K.br < n0 ∧ K.bs < n0 ∧ K.Rr < n0 ∧ K.Rh < n0 ∧ K.bh < n0 ∧ K.bp < n0 ∧ K.bf < n0 ∧ K.Rw < n0 ∧ K.bw < n0 ∧ K.bn < n0 ∧ K.lb < n0

theorem frame_keys {K : Keys} {l : List S40} {A : Option Addr} {c0 regs : Nat} {w : World} {n0 : Nat} (h : KeysOk K w n0) {st : St} {v : Value} : ∀ p, p ∈ frame K l A c0 regs st v → w.heap.size ≤ p.1 ∧ p.1 < n0 := by
  intro p hp
  have h1 := h.lo
  have h2 := h.hi
  simp only [frame, List.mem_cons, List.not_mem_nil, or_false] at hp
  rcases hp with rfl | rfl | rfl | rfl | rfl | rfl | rfl | rfl | rfl | rfl | rfl | rfl <;> simp only <;> omega

theorem Fr.putObj {K : Keys} {l : List S40} {A : Option Addr} {c0 regs : Nat} {w : World} {n0 : Nat} {c : Nat × List Nat} {pre : List Nat} {W : World} (hK : KeysOk K w n0) (hn : w.heap.size ≤ n0) (h : Fr K l A c0 regs w n0 c pre W) (o : Obj) : Fr K l A c0 regs w n0 c pre (W.putObj (n0 + 1) o) := by
  obtain ⟨⟨st, v, h1, h2, h3, h4⟩, h5, h6, h7, h8⟩ := h
  refine ⟨⟨st, v, h1, h2.putObj (fun p hp => ?_) o, own_move h3 (fun k hk => World.putObj_heap_other (by have := h4 k hk; omega)), h4⟩, below_putObj h5 (by omega) o, h6, h7, h8⟩
  rcases List.mem_cons.1 hp with rfl | hp
  · simp only; omega
  · have := frame_keys hK p hp; omega

theorem Fr.it {K : Keys} {l : List S40} {A : Option Addr} {c0 regs : Nat} {w : World} {n0 : Nat} {c : Nat × List Nat} {pre : List Nat} {W : World} (hr : Kd.C k40 w A l.length l) (h : Fr K l A c0 regs w n0 c pre W) : ItOk l A c0 K.lb c W := by
  obtain ⟨⟨st, v, h1, h2, h3, h4⟩, h5, h6, h7, h8⟩ := h
  exact ⟨h2.at 0 rfl, blk_cell (h2.at 12 rfl) 0, Kd.C_below hr h5, h7⟩

theorem HC.rev {L : List (Nat × Obj)} {W : World} (h : HC L W) : HC L.reverse W :=
  ⟨fun p hp => h.get p (List.mem_reverse.1 hp), by rw [List.map_reverse]; exact List.pairwise_reverse.2 (h.nd.imp Ne.symm)⟩
theorem HC.cons {L : List (Nat × Obj)} {W : World} (h : HC L W) {b : Nat} {o : Obj} (hb : W.heap[b]? = some o) (hn : ∀ p, p ∈ L → p.1 ≠ b) : HC ((b, o) :: L) W := by
  refine ⟨fun p hp => ?_, List.nodup_cons.2 ⟨fun hm => ?_, h.nd⟩⟩
  · rcases List.mem_cons.1 hp with rfl | hp
    · exact hb
    · exact h.get p hp
  · obtain ⟨p, hp, he⟩ := List.mem_map.1 hm
    exact hn p hp he

/-- What Assign answers. -/
structure Assigned (l : List S40) (regs : Nat) (w : World) (e : Ending) (w' : World) : Prop where
  out : ∃ (o : List Nat) (st : St) (v : Value), Order l o ∧ Run l regs o st ∧ e = .returned (.tuple #[v, .int .i64 st.slots]) ∧ Kd.R (Kd.int .i64) 3 w' w.heap.size (fun _ => True) v st.rooms ∧ Below w.heap.size w w'

end Go.Proofs.Ytelheeekbihfcac.Srt
