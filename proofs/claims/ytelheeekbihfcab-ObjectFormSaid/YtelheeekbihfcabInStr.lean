/- An append of a string inside a fence; what stays there. -/
import Derived.Test.YtelheeekbihfcabWriteP
import Derived.Lib.BufStepsIn
set_option linter.unusedVariables false
set_option linter.unusedSimpArgs false
namespace Go.Proofs.Ytelheeekbihfcab.Ob
open Go.RowKit Go.Proofs Go.Proofs.Ytelheeekbihfcab.PObjectReads Go.Proofs.YtelheeekbihfcabW.PrintWords Go.Proofs.YtelheeekbihfcabW.PrintMore

theorem in_append_str {F : Fence} {n' : Nat} {P : Program} {ops : Array Oper} {rest : List Oper} {o : Oper} {a : Act} {Q : Exit → Act → World → Prop} {w0 W : World} (base : Nat) (hgd : o.guard = none) (s x : Operand) (t u e : TypeId)
    (ho : o.op = .call { callee := .builtin .append, args := #[s, x], argTypes := #[t, u] })
    (ht : P.underlying t = some (.slice e)) (hu : P.underlying u = some .string) (hinfo : (P.info? e).map (fun i => (i.zero, i.size, i.bytes)) = some (some (.int .u8 0), 1, 1))
    (v : Value) (xs : List Int) (y : ByteArray) (hs : a.eval s = v) (hx : a.eval x = .string y)
    (HO : W.ownsRow base e 1 v xs.length (nums .u8 xs)) (HB : Below base w0 W) (hbase : base ≤ W.heap.size) (hl : xs.length + y.size ≤ 140737488355328)
    (h : ∀ v1 w1, w1.ownsRow base e 1 v1 (xs ++ bytesOf y).length (nums .u8 (xs ++ bytesOf y)) → Below base w0 w1 → W.grownBy w1 v.ownBlock → wpListIn F n' P ops Q rest (a.put o.dst v1) w1) :
    wpListIn F n' P ops Q (o :: rest) a W := by
  obtain ⟨i0, hi, hzz⟩ := Option.map_eq_some_iff.1 hinfo
  simp only [Prod.mk.injEq] at hzz
  obtain ⟨hz0, hz1, hz2⟩ := hzz
  refine wpListIn_plain hgd fun K hK => ?_
  obtain ⟨v', w', hr, h2, h3, h4⟩ := Lib.run_append_own_string (P := P) W base t u o.type e i0 ht hu hi hz0 hz1 hz2 v xs.length (nums .u8 xs) HO y (by simp only [maxLen]; omega) hl hbase
  have hl2 : (xs ++ bytesOf y).length = xs.length + y.size := by rw [List.length_append, bytesOf_length]
  have hc : nums .u8 (xs ++ bytesOf y) = nums .u8 xs ++ Lib.strCells y := by
    rw [nums_append]
    congr 1
    simp [nums, bytesOf, Lib.strCells]
  unfold Oper.wpIn
  refine ⟨?_, ?_⟩
  · simp [Oper.about, ho, resolve, Target.leads, Sem.run_pure]
  · rw [Oper.semAt_plain F _ _ (by rw [ho]; intro c hc'; cases hc')]
    simp [execOp, ho, resolve, invoke, builtin, hs, hx, hr, Result.andThen]
    exact hK _ _ (h v' w' (by rw [hl2, hc]; exact h2) (HB.grown h3 hbase (own_base HO)) h3)

theorem putO_at2 {base g L : Nat} {W0 W : World} {bs : List Int} (R : Nat) (ni : Int) (cs : Array Value) (m c : Nat) (h : AtO base g W0 L W bs) (hR : W.heap.size = R) (hbase : base ≤ W0.heap.size) (hg : base ≤ g) (hcs : cs.toList = nums .u64 (ints cs)) (hm : (ints cs).length = m) (hx : ∀ x, x ∈ ints cs → 0 ≤ x ∧ x < 18446744073709551616) (hn : 0 ≤ ni ∧ ni ≤ 8) (hm2 : m ≤ 10) (hl : L ≤ 1000000000) :
    Calls Try.prog 22 #[.int .i64 ni, .slice (some ⟨R, 0, none⟩) m c, .pointer (some ⟨g, 0, none⟩)] (W.alloc (.cells cs 22)) fun e W' => e = .returned (.tuple #[]) ∧ AtO base g W0 (L + 80) W' (bs ++ lesB ni.toNat (ints cs)) ∧ KB base g W W' := by
  subst hR
  exact putO_at ni cs m c h hbase hg hcs hm hx hn hm2 hl
def secsL (ws : List Int) (ls : List S47) : List (List Int) := [sectB 1 1 6 120 (4 * (ws.length : Int)) 0 0 4 0, sectB 7 2 0 (sOf ws) (lOf ls) 3 1 8 24, sectB 15 3 0 (sOf ws + lOf ls) (zOf ls) 0 0 1 0, sectB 23 3 0 (sOf ws + lOf ls + zOf ls) 33 0 0 1 0]
def secs (ws : List Int) (ls : List S47) (i : Nat) : List Int := ((secsL ws ls).take i).flatten
theorem file_eq (e s : Int) (ws : List Int) (ls : List S47) : pad8 (pad8 (headB e s (4 * (ws.length : Int)) (hOf ws ls) ++ wordsB ws) ++ le 24 0 ++ symsB 1 ls ++ le 1 0 ++ namesB ls ++ bytesOf sects) ++ sectB 0 0 0 0 0 0 0 0 0 ++ secs ws ls 4 = fileB e s ws ls := by
  unfold fileB
  simp only [secs, secsL, List.take, List.flatten_cons, List.flatten_nil, List.append_assoc, List.append_nil]
theorem items_mem : ∀ (ls : List S47) (a : Nat) (p : Nat × S47), p ∈ items a ls → p.2 ∈ ls ∧ p.1 ≤ a + nm ls
  | [], _, _, h => by cases h
  | x :: r, a, p, h => by
    rcases List.mem_cons.1 h with rfl | h
    · exact ⟨by simp, by simp⟩
    · have := items_mem r _ p h
      exact ⟨by simp [this.1], by simp [nm]; omega⟩
theorem pre_mem {ls : List S47} {pre : List (Nat × S47)} {x : Nat × S47} (h : (pre ++ [x]) <+: items 1 ls) : x.2 ∈ ls ∧ x.1 ≤ 1 + nm ls ∧ pre.length < ls.length := by
  have h1 := items_mem ls 1 x (h.subset (by simp))
  have h2 := h.length_le
  rw [items_len] at h2
  simp at h2
  exact ⟨h1.1, h1.2, h2⟩
theorem AtO.vg {base g L : Nat} {W0 W : World} {bs : List Int} (h : AtO base g W0 L W bs) : ∃ v, W.heap[g]? = some (.cells #[v] 29 (0, 0)) := by
  obtain ⟨v, h1, _⟩ := h.buf.out
  exact ⟨v, h1⟩

set_option maxHeartbeats 400000 in
theorem named_in (n : Nat) (e s : Int) (A2 : Option Addr) (n2 c2 : Nat) (A3 : Option Addr) (n3 c3 : Nat) (w : World) :
    CallsIn Fence.wide n Try.prog 24 #[.agg #[.int .u64 e, .int .u64 s, .slice A2 n2 c2, .slice A3 n3 c3]] w fun e' w' => e' = .returned (.func (.func 34) #[] #[.pointer (some ⟨w.heap.size, 0, none⟩)]) ∧ w.alloc (.cells #[.int .u64 e, .int .u64 s, .slice A2 n2 c2, .slice A3 n3 c3] 26) = w' := by
  refine callsIn_of_wp Try.func24 rfl trivial ?_ rfl
  simp only [Try.ntmps24, List.size_toArray, List.length_cons, List.length_nil, Nat.reduceAdd, Nat.reduceSub, Array.replicate_succ, Array.replicate_zero, List.push_toArray, List.append_toArray, List.nil_append, List.cons_append]
  gi_wp2
  go_ret
  exact ⟨rfl, rfl⟩
theorem size66 : ∀ h, (Try.prog.types[66]'h).size = 9 := fun h => by kernel_rfl
theorem idx67 (cs : Array Value) (out : Array Value) (i : Nat) (hi : i < 4) (h : cs.extract (i * 9) (i * 9 + 9) = out) (w : World) : (Instr.index 67 (.agg cs) (.int .i64 (i : Int))).run Try.prog w = .ok (.agg out) w := by
  have hu := Try.underlying67
  have hu6 := Try.underlying66
  have hz66 := size66
  simp [Instr.index, go_sem, hu, hu6]
  rw [if_pos hi, h]
theorem idx67_0 (v0 v1 v2 v3 v4 v5 v6 v7 v8 v9 v10 v11 v12 v13 v14 v15 v16 v17 v18 v19 v20 v21 v22 v23 v24 v25 v26 v27 v28 v29 v30 v31 v32 v33 v34 v35 : Value) (w : World) : (Instr.index 67 (.agg #[v0, v1, v2, v3, v4, v5, v6, v7, v8, v9, v10, v11, v12, v13, v14, v15, v16, v17, v18, v19, v20, v21, v22, v23, v24, v25, v26, v27, v28, v29, v30, v31, v32, v33, v34, v35]) (.int .i64 0)).run Try.prog w = .ok (.agg #[v0, v1, v2, v3, v4, v5, v6, v7, v8]) w := idx67 _ _ 0 (by decide) rfl w
theorem idx67_1 (v0 v1 v2 v3 v4 v5 v6 v7 v8 v9 v10 v11 v12 v13 v14 v15 v16 v17 v18 v19 v20 v21 v22 v23 v24 v25 v26 v27 v28 v29 v30 v31 v32 v33 v34 v35 : Value) (w : World) : (Instr.index 67 (.agg #[v0, v1, v2, v3, v4, v5, v6, v7, v8, v9, v10, v11, v12, v13, v14, v15, v16, v17, v18, v19, v20, v21, v22, v23, v24, v25, v26, v27, v28, v29, v30, v31, v32, v33, v34, v35]) (.int .i64 1)).run Try.prog w = .ok (.agg #[v9, v10, v11, v12, v13, v14, v15, v16, v17]) w := idx67 _ _ 1 (by decide) rfl w
theorem idx67_2 (v0 v1 v2 v3 v4 v5 v6 v7 v8 v9 v10 v11 v12 v13 v14 v15 v16 v17 v18 v19 v20 v21 v22 v23 v24 v25 v26 v27 v28 v29 v30 v31 v32 v33 v34 v35 : Value) (w : World) : (Instr.index 67 (.agg #[v0, v1, v2, v3, v4, v5, v6, v7, v8, v9, v10, v11, v12, v13, v14, v15, v16, v17, v18, v19, v20, v21, v22, v23, v24, v25, v26, v27, v28, v29, v30, v31, v32, v33, v34, v35]) (.int .i64 2)).run Try.prog w = .ok (.agg #[v18, v19, v20, v21, v22, v23, v24, v25, v26]) w := idx67 _ _ 2 (by decide) rfl w
theorem idx67_3 (v0 v1 v2 v3 v4 v5 v6 v7 v8 v9 v10 v11 v12 v13 v14 v15 v16 v17 v18 v19 v20 v21 v22 v23 v24 v25 v26 v27 v28 v29 v30 v31 v32 v33 v34 v35 : Value) (w : World) : (Instr.index 67 (.agg #[v0, v1, v2, v3, v4, v5, v6, v7, v8, v9, v10, v11, v12, v13, v14, v15, v16, v17, v18, v19, v20, v21, v22, v23, v24, v25, v26, v27, v28, v29, v30, v31, v32, v33, v34, v35]) (.int .i64 3)).run Try.prog w = .ok (.agg #[v27, v28, v29, v30, v31, v32, v33, v34, v35]) w := idx67 _ _ 3 (by decide) rfl w
end Go.Proofs.Ytelheeekbihfcab.Ob
