/- The program's iterator over labels: each with the place of its name. -/
import Derived.Test.YtelheeekbihfcabFill
import Derived.Test.YtelheeekbihfcabRange
set_option linter.unusedVariables false
set_option linter.unusedSimpArgs false
namespace Go.Proofs.Ytelheeekbihfcab.Ob
open Go.RowKit Go.Proofs Go.Proofs.Ytelheeekbihfcab.PObjectReads Go.Proofs.YtelheeekbihfcabW.PrintWords Go.Proofs.YtelheeekbihfcabW.PrintMore
attribute [local go_sem] Oper.semAt_some

def items : Nat → List S47 → List (Nat × S47)
  | _, [] => []
  | a, x :: r => (a, x) :: items (a + x.f0.size + 1) r
theorem items_len : ∀ a ls, (items a ls).length = ls.length
  | _, [] => rfl
  | a, x :: r => by simp [items, items_len]
theorem items_at : ∀ (ls : List S47) (a i : Nat) (h : i < ls.length), (items a ls)[i]? = some (a + nm (ls.take i), ls[i])
  | x :: r, a, 0, _ => by simp [items, nm]
  | x :: r, a, i + 1, h => by
    simp only [items, List.getElem?_cons_succ, List.take_succ_cons, nm, List.getElem_cons_succ]
    rw [items_at r _ i (by simpa using h)]
    congr 2
    omega
theorem items_take (ls : List S47) (a i : Nat) (h : i < ls.length) : (items a ls).take (i + 1) = (items a ls).take i ++ [(a + nm (ls.take i), ls[i])] := by
  have h1 : i < (items a ls).length := by rw [items_len]; exact h
  have h2 := items_at ls a i h
  rw [List.getElem?_eq_getElem h1] at h2
  injection h2 with h2
  rw [List.take_succ_eq_append_getElem h1, h2]
def itemV (p : Nat × S47) : Array Value := #[.int .u64 (p.1 : Int), .agg #[.string p.2.f0, .int .u64 p.2.f1]]

set_option maxRecDepth 100000 in
set_option maxHeartbeats 4000000 in
theorem named1 (n : Nat) (hn : 1 ≤ n) (v0 v1 v2 : Value) (A3 : Option Addr) (c3 : Nat) (ls : List S47) (lb lp : Nat) (W : World) (J : List (Nat × S47) → World → Prop) (hln : ls.length ≤ 5000) (hns : ∀ x, x ∈ ls → x.f0.size ≤ 1000)
    (hl : W.heap[lb]? = some (.cells #[v0, v1, v2, .slice A3 ls.length c3] 26 (0, 0))) (hr : Kd.C k47 W A3 ls.length ls)
    (hIt : ∀ pre W', J pre W' → W'.heap[lb]? = some (.cells #[v0, v1, v2, .slice A3 ls.length c3] 26 (0, 0)) ∧ Kd.C k47 W' A3 ls.length ls) (hb : ∀ pre W1 W2, J pre W1 → Below W1.heap.size W1 W2 → J pre W2) (h0 : J [] W)
    (hY : ∀ pre (x : Nat × S47) W1, (pre ++ [x]) <+: items 1 ls → J pre W1 → YieldAt Fence.wide (n - 1) Try.prog lp (itemV x) W1 fun e W' => e = .returned (.bool true) ∧ J (pre ++ [x]) W' ∧ Rng.KeepT 47 W1 W') :
    CallsIn Fence.wide n Try.prog 34 #[.func (.yield lp) #[] #[], .pointer (some ⟨lb, 0, none⟩)] W fun e W' => (∃ v, e = .returned v) ∧ J (items 1 ls) W' := by
  have hlb := blk_cell hl 3
  have HR := Lib.hid hr
  have HIt := Lib.hid hIt
  have HB := Lib.hid hb
  have H0 := Lib.hid h0
  have HY := Lib.hid hY
  have HNS := Lib.hid hns
  have hnm := nm_le ls hns
  clear hr hIt h0 hY hb hns
  refine callsIn_of_wp Try.func34 rfl trivial ?_ rfl
  simp only [Try.ntmps34, List.size_toArray, List.length_cons, List.length_nil, Nat.reduceAdd, Nat.reduceSub, Array.replicate_succ, Array.replicate_zero, List.push_toArray, List.append_toArray, List.nil_append, List.cons_append]
  gi_wp2
  gi_loopw [3, 9] (fun v3 vk wr => ∃ k : Nat, v3 = .int .u64 ((1 + nm (ls.take k) : Nat) : Int) ∧ vk = .int .i64 k ∧ k ≤ ls.length ∧ Hid (J ((items 1 ls).take k) wr)) (fun _ vk _ => ls.length - (intOf vk).toNat)
  case atStart => exact ⟨0, by simp [nm], by go_num, Nat.zero_le _, Lib.hid (by simpa using H0.out)⟩
  case round =>
    obtain ⟨k, rfl, rfl, hk, HJ⟩ := hrel
    by_cases hlt : k < ls.length
    · have it := HIt.out _ _ HJ.out
      obtain ⟨ad, rfl, hx0, hx1⟩ := at_T47 it.2 (k : Int) (by omega) (by omega)
      rw [rd47 ls k hlt, Int.toNat_natCast] at hx0 hx1
      have hpre := items_take ls 1 k hlt
      have hxs := HNS.out ls[k] (List.getElem_mem hlt)
      have hnt := Lib.hid (nm_take ls k hlt)
      have hnl := nm_le (ls.take k) (fun x hx => HNS.out x (List.mem_of_mem_take hx))
      rw [List.length_take] at hnl
      have hpf : (items 1 ls).take (k + 1) <+: items 1 ls := List.take_prefix _ _
      generalize hX : ls[k] = X at *
      generalize hN : nm (ls.take k) = N at *
      have HX := Lib.hid hX
      have HN := Lib.hid hN
      have hk0 : (0 : Int) ≤ k := by omega
      have hk1 : (k : Int) < ls.length := by omega
      have HP := Lib.hid hpre
      have HPF := Lib.hid hpf
      obtain ⟨M, hM⟩ : ∃ M : Int, M = ((1 + N : Nat) : Int) := ⟨_, rfl⟩
      rw [← hM]
      have hM1 : 0 ≤ M ∧ M ≤ 6000000 := by omega
      have HM := Lib.hid hM
      clear hX hN hpre hpf hM it
      have HW : Below wr.heap.size wr (wr.alloc (.cells #[.string X.f0, .int .u64 X.f1] 47)) := below_alloc (Below.refl _ _) _
      have hJ2 := HB.out _ _ _ HJ.out HW
      have hx3 := blk_new wr (.cells #[.string X.f0, .int .u64 X.f1] 47)
      generalize hwr : wr.heap.size = B0 at *
      obtain ⟨fn, tmps, assign, body, hy, hR⟩ := HY.out ((items 1 ls).take k) (1 + N, X) _ (by rw [← HP.out]; exact HPF.out) hJ2
      rw [← HP.out] at hR
      simp only [itemV, ← HM.out] at hy
      have HRd := Lib.hid hR
      have HX3 := Lib.hid hx3
      clear hR HW hJ2 hx3
      gi_wp2
      refine HRd.out.mono ?_
      rintro e W3 ⟨rfl, hJ3, hT3⟩
      have HJ3 := Lib.hid hJ3
      have cx := blk_cell (hT3 _ _ HX3.out) 0
      have q9 : IntKind.u64.wrap ((X.f0.size : Int) + 1) = (X.f0.size : Int) + 1 := by simp [IntKind.wrap, IntKind.bits, IntKind.signed]; omega
      have q10 : IntKind.u64.wrap (M + ((X.f0.size : Int) + 1)) = M + ((X.f0.size : Int) + 1) := by simp [IntKind.wrap, IntKind.bits, IntKind.signed]; omega
      clear hJ3 hT3 hx0 hx1 hy
      gi_wp2
      go_roundw
      case rel => exact ⟨k + 1, by rw [hnt.out, HM.out]; congr 1; omega, by go_num, hlt, HJ3⟩
      case measure => simp [intOf]; omega
    · obtain rfl : k = ls.length := by omega
      gi_wp2
      go_end0
      refine ⟨⟨_, rfl⟩, ?_⟩
      have := HJ.out
      rwa [List.take_of_length_le (by rw [items_len]; exact Nat.le_refl _)] at this
end Go.Proofs.Ytelheeekbihfcab.Ob
