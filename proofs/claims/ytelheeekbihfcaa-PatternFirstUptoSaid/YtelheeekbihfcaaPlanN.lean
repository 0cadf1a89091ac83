/- The plan's nodes. -/
import Derived.Test.YtelheeekbihfcaaNext
set_option linter.unusedVariables false
set_option linter.unusedSimpArgs false
namespace Go.Proofs.Ytelheeekbihfcaa.Pt
open Go.RowKit Go.Proofs Go.Proofs.Ytelheeekbihfcaa.PPatternFirst Go.Proofs.YtelheeekbihfcaaW.PrintWords Go.Proofs.YtelheeekbihfcaaW.PrintMore Go.Proofs.YtelheeekbihfcaaW.PrintLast

/-- The node of a test that stands at pos. -/
def nodeOf (allT : List (List S39)) (firsts : List Int) (e : Int) (n k pos : Nat) (t : S39) : S41 := ⟨t, (pos : Int) + 1, nextG allT firsts e t (n - (k + 1)) (k + 1), -1⟩
/-- The nodes of some tests, from pos on. -/
def blockOf (allT : List (List S39)) (firsts : List Int) (e : Int) (n k : Nat) : List S39 → Nat → List S41
  | [], _ => []
  | t :: r, pos => nodeOf allT firsts e n k pos t :: blockOf allT firsts e n k r (pos + 1)
def leafOf (a : Int) : S41 := ⟨⟨[], 0, 0⟩, 0, 0, a⟩
/-- The nodes of the patterns from the k-th on, from pos on. -/
def nodesOf (allT : List (List S39)) (firsts : List Int) (e : Int) (n : Nat) : List (List S39) → Nat → Nat → List S41
  | [], _, _ => []
  | ts :: r, k, pos => blockOf allT firsts e n k ts pos ++ (leafOf k :: nodesOf allT firsts e n r (k + 1) (pos + (ts.length + 1)))
theorem blockOf_len (allT : List (List S39)) (firsts : List Int) (e : Int) (n k : Nat) : ∀ (ts : List S39) (pos : Nat), (blockOf allT firsts e n k ts pos).length = ts.length
  | [], _ => rfl
  | t :: r, pos => by simp [blockOf, blockOf_len allT firsts e n k r]
theorem blockOf_snoc (allT : List (List S39)) (firsts : List Int) (e : Int) (n k : Nat) : ∀ (ts : List S39) (t : S39) (pos : Nat), blockOf allT firsts e n k (ts ++ [t]) pos = blockOf allT firsts e n k ts pos ++ [nodeOf allT firsts e n k (pos + ts.length) t]
  | [], t, pos => by simp [blockOf]
  | s :: r, t, pos => by
    have ih := blockOf_snoc allT firsts e n k r t (pos + 1)
    rw [List.cons_append, blockOf, ih, blockOf, List.cons_append, List.length_cons, show pos + 1 + r.length = pos + (r.length + 1) by omega]
/-- How many nodes some patterns have. -/
def endOf : List (List S39) → Nat
  | [] => 0
  | x :: r => x.length + 1 + endOf r
theorem nodesOf_len (allT : List (List S39)) (firsts : List Int) (e : Int) (n : Nat) : ∀ (l : List (List S39)) (k pos : Nat), (nodesOf allT firsts e n l k pos).length = endOf l
  | [], _, _ => rfl
  | x :: r, k, pos => by simp [nodesOf, endOf, nodesOf_len allT firsts e n r, blockOf_len]; omega
theorem nodesOf_snoc (allT : List (List S39)) (firsts : List Int) (e : Int) (n : Nat) : ∀ (l : List (List S39)) (x : List S39) (k pos : Nat), nodesOf allT firsts e n (l ++ [x]) k pos = nodesOf allT firsts e n l k pos ++ (blockOf allT firsts e n (k + l.length) x (pos + endOf l) ++ [leafOf ((k + l.length : Nat) : Int)])
  | [], x, k, pos => by simp [nodesOf, endOf]
  | y :: l, x, k, pos => by
    have ih := nodesOf_snoc allT firsts e n l x (k + 1) (pos + (y.length + 1))
    rw [List.cons_append, nodesOf, ih, nodesOf, endOf, List.length_cons, show k + 1 + l.length = k + (l.length + 1) by omega, show pos + (y.length + 1) + endOf l = pos + (y.length + 1 + endOf l) by omega]
    simp only [List.append_assoc, List.cons_append]

/-- A row of nodes of the call's own, each readable in the world Wb. -/
def NodeRow (Wb wr : World) (v : Value) (nodes : List S41) : Prop := ∃ cells, wr.ownsRow Wb.heap.size 41 6 v nodes.length cells ∧ Reps (fun (x : S41) (cs : List Value) => k41.K Wb x cs) 6 nodes cells
theorem NodeRow.below {Wb wr w1 : World} {v : Value} {nodes : List S41} (h : NodeRow Wb wr v nodes) (hb : Below wr.heap.size wr w1) : NodeRow Wb w1 v nodes := by
  obtain ⟨cells, h1, h2⟩ := h
  exact ⟨cells, own_move h1 (fun k hk => hb.block k (own_lt h1 k hk)), h2⟩
theorem NodeRow.nil (Wb wr : World) : NodeRow Wb wr (.slice none 0 0) [] := ⟨[], own_nil _ _ _ _, Reps.none _ _⟩
theorem NodeRow.slice {Wb wr : World} {v : Value} {nodes : List S41} (h : NodeRow Wb wr v nodes) : ∃ A c, v = .slice A nodes.length c := by
  obtain ⟨cells, h1, _⟩ := h
  exact own_slice h1
/-- A row of nodes is read. -/
theorem NodeRow.reads {Wb wr : World} {A : Option Addr} {n c : Nat} {nodes : List S41} (h : NodeRow Wb wr (.slice A n c) nodes) (hB : Below Wb.heap.size Wb wr) : n = nodes.length ∧ n ≤ c ∧ Kd.C k41 wr A nodes.length nodes := by
  obtain ⟨cells, h1, h2⟩ := h
  obtain ⟨A', c', he, hr⟩ := own_reads_row h1 h2 rfl
  injection he with e1 e2 e3
  subst e1 e2 e3
  exact ⟨rfl, own_cap h1, hr.imp_ (Below.refl _ _) (fun p cs hp => k41.K_below hB hp)⟩
mutual
/-- A test's path is no longer than the pattern is deep. -/
theorem testsP_path (at_ : List ByteArray) : ∀ (p : S53) (path : List Int) (t : S39), t ∈ testsP at_ p path → t.f0.length ≤ path.length + nodesP p
  | ⟨k, a, n, nm, args⟩, path, t, h => by
    have hl := testsL_path at_ args path 0 t
    have ho : t ∈ ownT at_ ⟨k, a, n, nm, args⟩ path → t.f0 = path := by
      unfold ownT
      repeat' split
      all_goals (intro h; simp at h)
      all_goals (subst h; rfl)
    unfold testsP at h
    unfold nodesP
    rcases List.mem_append.1 h with h | h
    · rw [ho h]; omega
    · split at h
      · have := hl h; omega
      · simp at h
theorem testsL_path (at_ : List ByteArray) : ∀ (l : List S53) (path : List Int) (i : Nat) (t : S39), t ∈ testsL at_ l path i → t.f0.length ≤ path.length + 1 + nodesL l
  | [], _, _, _, h => by simp [testsL] at h
  | x :: r, path, i, t, h => by
    have h1 := testsP_path at_ x (path ++ [(i : Int)]) t
    have h2 := testsL_path at_ r path (i + 1) t
    simp only [testsL, nodesL, List.mem_append, List.length_append, List.length_singleton] at h h1 ⊢
    rcases h with h | h
    · have := h1 h; omega
    · have := h2 h; omega
end
/-- One node more. -/
theorem NodeRow.snoc {Wb w6 : World} {v1 : Value} {nodes : List S41} {cells cs : List Value} {x : S41} (ho : w6.ownsRow Wb.heap.size 41 6 v1 (nodes.length + 1) (cells ++ cs)) (hr : Reps (fun (x : S41) (cs : List Value) => k41.K Wb x cs) 6 nodes cells) (hx : k41.K Wb x cs) (hc : cs.length = 6) : NodeRow Wb w6 v1 (nodes ++ [x]) :=
  ⟨cells ++ cs, by rw [List.length_append, List.length_singleton]; exact ho, Reps.snoc hr hx hc⟩
/-- A store of what stood there already. -/
theorem below_same {Wb w6 : World} {base g : Nat} {t : TypeId} {v : Value} (h : Below base Wb w6) (hg : w6.heap[g]? = some (.cells #[v] t (0, 0))) : Below base Wb (w6.setCell ⟨g, 0, none⟩ v) :=
  ⟨h.os, h.tape, h.output, by simpa using h.size, fun k hk => by
    by_cases hkg : k = g
    · subst hkg
      have h1 := blk_set hg 0 v
      simp only [List.setIfInBounds_toArray, List.set_cons_zero] at h1
      rw [h1, ← hg]
      exact h.block k hk
    · exact (Below.heap_setCell w6 ⟨g, 0, none⟩ v k hkg).trans (h.block k hk)⟩
/-- A row of nodes stays where an older box is stored. -/
theorem NodeRow.far {Wb wr : World} {v : Value} {nodes : List S41} (h : NodeRow Wb wr v nodes) {p : Addr} (hp : p.block < Wb.heap.size) (u : Value) : NodeRow Wb (wr.setCell p u) v nodes := by
  obtain ⟨cells, h1, h2⟩ := h
  exact ⟨cells, own_move h1 (fun k hk => Below.heap_setCell wr p u k (fun e => by have := own_base h1 k hk; omega)), h2⟩
theorem info41' : (Try.prog.info? 41).map (fun i => (i.zero, i.size, i.bytes)) = some (some (.agg #[.slice none 0 0, .int .i64 0, .int .i64 0, .int .i64 0, .int .i64 0, .int .i64 0]), 6, 64) := by kernel_rfl
theorem load31 (w : World) (g : Nat) (v : Value) (h : w.heap[g]? = some (.cells #[v] 31 (0, 0))) : (loadVar 31 ⟨g, 0, none⟩).run Try.prog w = .ok v w := by
  have k := blk_cell h 0
  go_simp
theorem results8 (tmps : Array Value) (w : World) (g : Nat) (v : Value) (hp : tmps.getD 5 undef = .pointer (some ⟨g, 0, none⟩)) (h : w.heap[g]? = some (.cells #[v] 31 (0, 0))) : (results Try.f8 tmps).run Try.prog w = .ok (.tuple #[tmps.getD 4 undef, v]) w := by
  have hp' : tmps[5]?.getD undef = .pointer (some ⟨g, 0, none⟩) := by simpa using hp
  have hr : Try.f8.results = #[.tmp 4, .cell 5 31] := rfl
  simp [results, hr, hp', asAddr, load31 w g v h]
end Go.Proofs.Ytelheeekbihfcaa.Pt
