/- The pattern's variables: the walk over a pattern; Vars. -/
import Derived.Test.YtelheeekbihfcaaVarsA
set_option linter.unusedVariables false
set_option linter.unusedSimpArgs false
namespace Go.Proofs.Ytelheeekbihfcaa.Pt
open Go.RowKit Go.Proofs Go.Proofs.Ytelheeekbihfcaa.PPatternFirst Go.Proofs.YtelheeekbihfcaaW.PrintWords Go.Proofs.YtelheeekbihfcaaW.PrintMore Go.Proofs.YtelheeekbihfcaaW.PrintLast

/-- What the walk's functions hold. -/
structure BoxV (g1 g2 b2 b3 : Nat) (W : World) : Prop where
  b : W.heap[b2]? = some (.cells #[.func (.func 31) #[] #[.pointer (some ⟨g1, 0, none⟩), .pointer (some ⟨g2, 0, none⟩)]] 84 (0, 0))
  c : W.heap[b3]? = some (.cells #[.func (.func 34) #[] #[.pointer (some ⟨b2, 0, none⟩), .pointer (some ⟨b3, 0, none⟩)]] 84 (0, 0))
theorem BoxV.keep {g1 g2 b2 b3 base : Nat} {W W' : World} {l : List (ByteArray × List Int)} (h : BoxV g1 g2 b2 b3 W) (hO : VarB base g1 g2 W l) (hK : KV base g1 g2 W W') : BoxV g1 g2 b2 b3 W' := by
  obtain ⟨v, u, hv, hu, _⟩ := hO
  exact ⟨hK.blk h.b (by decide) (by decide) (ne_blk h.b hv (by decide)) (ne_blk h.b hu (by decide)), hK.blk h.c (by decide) (by decide) (ne_blk h.c hv (by decide)) (ne_blk h.c hu (by decide))⟩
theorem BoxV.below {g1 g2 b2 b3 : Nat} {W W' : World} (h : BoxV g1 g2 b2 b3 W) (hb : Below W.heap.size W W') : BoxV g1 g2 b2 b3 W' := ⟨blk_below h.b hb, blk_below h.c hb⟩
/-- What is to be shown of a pattern. -/
def GoV (W0 : World) (g1 g2 b2 b3 : Nat) (p : S53) : Prop :=
  ∀ (b' : Nat) (A4 : Option Addr) (c4 : Nat) (vp : Value) (path : List Int) (l : List (ByteArray × List Int)) (W : World), VarB W0.heap.size g1 g2 W l → Below W0.heap.size W0 W → BoxV g1 g2 b2 b3 W → Kd.C k53 W0 A4 p.f4.length p.f4 → p.f4.length ≤ c4 →
    Kd.R (Kd.int .i64) 3 W b' (fun _ => True) vp path → W0.heap.size ≤ b' → l.length + nodesP p ≤ 1000000 → path.length + nodesP p ≤ 1000000 →
    Calls Try.prog 34 #[.agg #[.int .i64 p.f0, .int .i64 p.f1, .int .i64 p.f2, .string p.f3, .slice A4 p.f4.length c4], vp, .pointer (some ⟨b2, 0, none⟩), .pointer (some ⟨b3, 0, none⟩)] W fun e W' => e = .returned (.tuple #[]) ∧ VarB W0.heap.size g1 g2 W' (l ++ varsP p path) ∧ KV W0.heap.size g1 g2 W W'
theorem varsL_snoc : ∀ (l : List S53) (x : S53) (path : List Int) (i : Nat), varsL (l ++ [x]) path i = varsL l path i ++ varsP x (path ++ [((i + l.length : Nat) : Int)])
  | [], x, path, i => by simp [varsL]
  | y :: l, x, path, i => by
    have ih := varsL_snoc l x path (i + 1)
    rw [List.cons_append, varsL, ih, varsL, List.append_assoc, List.length_cons, show i + 1 + l.length = i + (l.length + 1) by omega]
mutual
theorem varsP_len : ∀ (p : S53) (path : List Int), (varsP p path).length ≤ nodesP p
  | ⟨k, a, n, nm, args⟩, path => by
    have h := varsL_len args path 0
    have h1 : (ownV ⟨k, a, n, nm, args⟩ path).length ≤ 1 := by
      unfold ownV
      repeat' split
      all_goals simp
    unfold varsP nodesP
    rw [List.length_append]
    split
    · omega
    · simp; omega
theorem varsL_len : ∀ (l : List S53) (path : List Int) (i : Nat), (varsL l path i).length ≤ nodesL l
  | [], _, _ => by simp [varsL, nodesL]
  | x :: r, path, i => by
    have h1 := varsP_len x (path ++ [(i : Int)])
    have h2 := varsL_len r path (i + 1)
    simp only [varsL, nodesL, List.length_append]
    omega
end
/-- A path stays. -/
theorem KV.path {base g1 g2 b' : Nat} {W W' : World} {vp : Value} {path : List Int} {l : List (ByteArray × List Int)} (hK : KV base g1 g2 W W') (hO : VarB base g1 g2 W l) (hp : Kd.R (Kd.int .i64) 3 W b' (fun _ => True) vp path) : Kd.R (Kd.int .i64) 3 W' b' (fun _ => True) vp path := by
  have ho := Kd.own_of_R (h1 := fun _ => rfl) hp
  obtain ⟨v, u, hv, hu, _⟩ := hO
  refine Kd.R_of_own (h1 := fun _ => rfl) (own_move ho (fun k hk => ?_)) (fun _ _ => trivial)
  obtain ⟨c1, e1⟩ := own_typed ho k hk
  exact (hK.blk e1 (by decide) (by decide) (ne_blk e1 hv (by decide)) (ne_blk e1 hu (by decide))).trans e1.symm

set_option maxRecDepth 100000 in
set_option maxHeartbeats 8000000 in
theorem gov_ok (W0 : World) (g1 g2 b2 b3 : Nat) (hg1 : W0.heap.size ≤ g1) (hg2 : W0.heap.size ≤ g2)
    (f0 f1 f2 : Int) (f3 : ByteArray) (args : List S53) (hIH : ∀ x, x ∈ args → GoV W0 g1 g2 b2 b3 x) : GoV W0 g1 g2 b2 b3 ⟨f0, f1, f2, f3, args⟩ := by
  intro b' A4 c4 vp path l W hO hB hX hC hc4 hp hb hn1 hn2
  simp only at hC hc4 ⊢
  simp only [nodesP] at hn1 hn2
  obtain ⟨Ap, cp, rfl⟩ := Kd.R_slice hp
  have HI := Lib.hid hIH
  have HC := Lib.hid hC
  have HO := Lib.hid hO
  have HB := Lib.hid hB
  have HX := Lib.hid hX
  have HP := Lib.hid hp
  have hl1 : l.length ≤ 1000000 := by omega
  clear hIH hC hO hB hX hp
  go_enter Try.func34, Try.ntmps34
  go_upto_region 1 with fail
  have hbl := below_alloc (Below.refl _ W) (.cells #[.int .i64 f0, .int .i64 f1, .int .i64 f2, .string f3, .slice A4 args.length c4] 53)
  have XB := Lib.hid (blk_new W (.cells #[.int .i64 f0, .int .i64 f1, .int .i64 f2, .string f3, .slice A4 args.length c4] 53))
  have O1 := Lib.hid (HO.out.below hbl)
  have B1 := Lib.hid (below_step HB.out hbl)
  have X1 := Lib.hid (HX.out.below hbl)
  have P1 := Lib.hid (Kd.R_below HP.out hbl)
  have K1 := Lib.hid (KV.of_below (base := W0.heap.size) (g1 := g1) (g2 := g2) hbl)
  generalize W.alloc (.cells #[.int .i64 f0, .int .i64 f1, .int .i64 f2, .string f3, .slice A4 args.length c4] 53) = W1 at *
  generalize W.heap.size = gb at *
  have kb := blk_cell X1.out.b 0
  have k0 := blk_cell XB.out 0
  have k1 := blk_cell XB.out 1
  have k2 := blk_cell XB.out 2
  have k3 := blk_cell XB.out 3
  have k4 := blk_cell XB.out 4
  clear hbl HO HX HP HB
  go_upto_region 2 with (go_at_call 31; refine (var_call W0.heap.size g1 g2 b' f0 f1 f2 f3 args A4 c4 (.slice Ap path.length cp) path l _ O1.out B1.out.size hg1 hg2 P1.out hb hl1).mono ?_; rintro e W2 ⟨rfl, ho, hk⟩; have O2 := Lib.hid ho; have K2 := Lib.hid hk; clear ho hk)
  have hgb : gb ≠ g1 ∧ gb ≠ g2 := by obtain ⟨v, u, hv, hu, _⟩ := O1.out; exact ⟨ne_blk XB.out hv (by decide), ne_blk XB.out hu (by decide)⟩
  have XB2 := Lib.hid (K2.out.blk XB.out (by decide) (by decide) hgb.1 hgb.2)
  have X2 := Lib.hid (X1.out.keep O1.out K2.out)
  have B2 := Lib.hid (B1.out.trans (K2.out.below B1.out.size))
  have P2 := Lib.hid (K2.out.path O1.out P1.out)
  have K3 := Lib.hid (K1.out.trans K2.out)
  clear kb k0 k1 k2 k3 k4 X1 XB B1 P1 K1 K2
  have k0 := blk_cell XB2.out 0
  have k4 := blk_cell XB2.out 4
  have hlo : (ownV ⟨f0, f1, f2, f3, args⟩ path).length ≤ 1 := by
    unfold ownV
    repeat' split
    all_goals simp
  by_cases e5 : f0 = 5
  · subst e5
    have hq4 : (args.length : Int) ≤ 1000000 := by have := nodesL_le args; omega
    go_wp2
    go_loopw [18] (fun v18 wr => ∃ i : Nat, v18 = .int .i64 i ∧ i ≤ args.length ∧ Hid (VarB W0.heap.size g1 g2 wr (l ++ ownV ⟨5, f1, f2, f3, args⟩ path ++ varsL (args.take i) path 0)) ∧ Hid (KV W0.heap.size g1 g2 W2 wr)) (fun v18 _ => args.length - (intOf v18).toNat)
    case atStart => exact ⟨0, by go_num, Nat.zero_le _, Lib.hid (by simpa [varsL] using O2.out), Lib.hid (KV.refl _ _ _ _)⟩
    case round =>
      obtain ⟨i, rfl, hi, HOI, HKI⟩ := hrel
      by_cases hlt : i < args.length
      · have q1 : (i : Int) < (args.length : Int) := by omega
        have q0 : (0 : Int) ≤ (i : Int) := by omega
        have HBI := Lib.hid (B2.out.trans (HKI.out.below B2.out.size))
        have HXI := Lib.hid (X2.out.keep O2.out HKI.out)
        have HPI := Lib.hid (HKI.out.path O2.out P2.out)
        obtain ⟨ad, A5, c5, hA4, u0, u1, u2, u3, u4, hc5, hC5⟩ := at_T53 HC.out (i : Int) q0 q1
        subst hA4
        rw [rd53 args i hlt, Int.toNat_natCast] at u0 u1 u2 u3 u4
        rw [rd53 args i hlt] at hc5 hC5
        replace u0 := (HBI.out.cell (World.block_lt_of_cell? W0 _ u0)).trans u0
        replace u1 := (HBI.out.cell (World.block_lt_of_cell? W0 _ u1)).trans u1
        replace u2 := (HBI.out.cell (World.block_lt_of_cell? W0 _ u2)).trans u2
        replace u3 := (HBI.out.cell (World.block_lt_of_cell? W0 _ u3)).trans u3
        replace u4 := (HBI.out.cell (World.block_lt_of_cell? W0 _ u4)).trans u4
        have hx0 := HI.out args[i] (List.getElem_mem hlt)
        have hng := nodesL_get hlt
        have htl := varsL_len (args.take i) path 0
        have hnp : i ≤ nodesL (args.take i) := by have := nodesL_le (args.take i); rw [List.length_take, Nat.min_eq_left (Nat.le_of_lt hlt)] at this; exact this
        have hm1 : (l ++ ownV ⟨5, f1, f2, f3, args⟩ path ++ varsL (args.take i) path 0).length + nodesP args[i] ≤ 1000000 := by simp only [List.length_append]; omega
        have hm2 : (path ++ [(i : Int)]).length + nodesP args[i] ≤ 1000000 := by simp only [List.length_append, List.length_singleton]; omega
        have hpl : path.length ≤ 1000000 := by omega
        have htk : varsL (args.take (i + 1)) path 0 = varsL (args.take i) path 0 ++ varsP args[i] (path ++ [(i : Int)]) := by
          rw [List.take_succ_eq_append_getElem hlt, varsL_snoc, List.length_take, Nat.min_eq_left (Nat.le_of_lt hlt), Nat.zero_add]
        have HC5 := Lib.hid hC5
        clear hC5 hng htl hnp
        go_upto_region 6 with fail
        have hbl := below_alloc (Below.refl _ wr) (.cells #[.int .i64 args[i].f0, .int .i64 args[i].f1, .int .i64 args[i].f2, .string args[i].f3, .slice A5 args[i].f4.length c5] 53)
        have GD := Lib.hid (blk_drew (blk_new wr (.cells #[.int .i64 args[i].f0, .int .i64 args[i].f1, .int .i64 args[i].f2, .string args[i].f3, .slice A5 args[i].f4.length c5] 53)))
        have hbd := below_drew1 hbl
        have OD := Lib.hid (HOI.out.below hbd)
        have BD := Lib.hid (below_step HBI.out hbd)
        have XD := Lib.hid (HXI.out.below hbd)
        have PD := Lib.hid (Kd.R_below HPI.out hbd)
        have KD := Lib.hid (HKI.out.trans (KV.of_below (base := W0.heap.size) (g1 := g1) (g2 := g2) hbd))
        clear hbl hbd HOI HBI HXI HPI u0 u1 u2 u3 u4
        generalize wr.alloc (.cells #[.int .i64 args[i].f0, .int .i64 args[i].f1, .int .i64 args[i].f2, .string args[i].f3, .slice A5 args[i].f4.length c5] 53) = W3 at *
        generalize wr.heap.size = g7 at *
        generalize hTS : l ++ ownV ⟨5, f1, f2, f3, args⟩ path ++ varsL (args.take i) path 0 = TS at *
        generalize args[i] = x at *
        refine start_ (n := 6) (S := fun w' => w'.cell? ⟨b3, 0, none⟩ = some (.func (.func 34) #[] #[.pointer (some ⟨b2, 0, none⟩), .pointer (some ⟨b3, 0, none⟩)]) ∧ w'.cell? ⟨g7, 0, none⟩ = some (.int .i64 x.f0) ∧ w'.cell? ⟨g7, 1, none⟩ = some (.int .i64 x.f1) ∧ w'.cell? ⟨g7, 2, none⟩ = some (.int .i64 x.f2) ∧ w'.cell? ⟨g7, 3, none⟩ = some (.string x.f3) ∧ w'.cell? ⟨g7, 4, none⟩ = some (.slice A5 x.f4.length c5)) (ds := []) #[false, false, false, false, false, false] (by kernel_rfl) rfl rfl ⟨blk_cell XD.out.c 0, blk_cell GD.out 0, blk_cell GD.out 1, blk_cell GD.out 2, blk_cell GD.out 3, blk_cell GD.out 4⟩ (fun hHeld => ?_)
        refine pure_ (i := 2) (N := some 25) (v := ?_) (a' := ?_) #[false, false, true, false, false, false] rfl rfl (by kernel_rfl) (fun _ _ _ h => h) (Or.inl ⟨by rfl, ?_⟩) ?_ ?_
        rotate_left
        · intro w'
          go_simp
          with_reducible rfl
        rotate_left
        · simp only [Act.put, List.setIfInBounds_toArray, List.set_cons_zero, List.set_cons_succ, i64_w, i32_w]
          rfl
        refine pure_ (i := 3) (N := some 26) (v := ?_) (a' := ?_) #[false, false, true, true, false, false] rfl rfl (by kernel_rfl) (fun _ _ _ h => h) (Or.inl ⟨by rfl, ?_⟩) ?_ ?_
        rotate_left
        · intro w'
          go_simp
          with_reducible rfl
        rotate_left
        · simp only [Act.put, List.setIfInBounds_toArray, List.set_cons_zero, List.set_cons_succ, i64_w, i32_w]
          rfl
        refine take_ (i := 0) (N := some 23) (v := ?_) (a' := ?_) #[true, false, true, true, false, false] rfl rfl (by kernel_rfl) (fun _ _ _ h => h) (Or.inl ⟨by rfl, ?_⟩) hHeld ?_ ?_
        rotate_left
        · rintro w' ⟨s0, s1, s2, s3, s4, s5⟩
          go_simp
          with_reducible rfl
        rotate_left
        · simp only [Act.put, List.setIfInBounds_toArray, List.set_cons_zero, List.set_cons_succ, i64_w, i32_w]
          rfl
        refine take_ (i := 1) (N := some 24) (v := ?_) (a' := ?_) #[true, true, true, true, false, false] rfl rfl (by kernel_rfl) (fun _ _ _ h => h) (Or.inl ⟨by rfl, ?_⟩) hHeld ?_ ?_
        rotate_left
        · rintro w' ⟨s0, s1, s2, s3, s4, s5⟩
          go_simp
          with_reducible rfl
        rotate_left
        · simp only [Act.put, List.setIfInBounds_toArray, List.set_cons_zero, List.set_cons_succ, i64_w, i32_w]
          rfl
        refine one_ (i := 4) (N := some 27) #[true, true, true, true, true, false] rfl rfl (by kernel_rfl) (by decide) (fun K hK => ?_)
        refine goes_ Try.func35 (by kernel_rfl) rfl #[.slice Ap path.length cp, .int .i64 (i : Int)] (by rfl) rfl rfl (by simp only [List.map_toArray, List.map_cons, List.map_nil]; rfl) ?_
        with_reducible refine (longer_call Ap cp path (i : Int) _ (Kd.R_reads' PD.out).2.2 (Kd.R_reads' PD.out).2.1 hpl).mono ?_
        rintro e w4 ⟨vq, rfl, hq, hd⟩
        refine ⟨_, rfl, ?_⟩
        have OE := Lib.hid (OD.out.below hd)
        have BE := Lib.hid (below_step BD.out hd)
        have XE := Lib.hid (XD.out.below hd)
        have GE := Lib.hid (blk_below GD.out hd)
        have PE := Lib.hid (Kd.R_below PD.out hd)
        have KE := Lib.hid (KD.out.trans (KV.of_below hd))
        have QE := Lib.hid hq
        have hb7 : W0.heap.size ≤ W3.drew.heap.size := BD.out.size
        clear hq hd
        refine hK.out _ _ ⟨blk_cell XE.out.c 0, blk_cell GE.out 0, blk_cell GE.out 1, blk_cell GE.out 2, blk_cell GE.out 3, blk_cell GE.out 4⟩ (fun hHeld => ?_)
        clear hK K
        refine norm_ (a' := ?_) ?_ ?_
        rotate_left
        · show Act.put _ (some 27) _ = _
          simp only [Act.put, List.setIfInBounds_toArray, List.set_cons_zero, List.set_cons_succ, i64_w, i32_w]
          rfl
        refine one_ (i := 5) (N := some 28) #[true, true, true, true, true, true] rfl rfl (by kernel_rfl) (by decide) (fun K hK => ?_)
        refine call_ 34 #[.agg #[.int .i64 x.f0, .int .i64 x.f1, .int .i64 x.f2, .string x.f3, .slice A5 x.f4.length c5], vq, .pointer (some ⟨b2, 0, none⟩), .pointer (some ⟨b3, 0, none⟩)] (by rfl) rfl (by go_simp) ?_
        refine (hx0 _ A5 c5 vq (path ++ [(i : Int)]) _ _ OE.out BE.out XE.out HC5.out hc5 QE.out hb7 hm1 hm2).mono ?_
        rintro e w5 ⟨rfl, ho, hk⟩
        refine ⟨_, rfl, ?_⟩
        have O5 := Lib.hid ho
        have K5 := Lib.hid (KE.out.trans hk)
        have X5 := Lib.hid (XE.out.keep OE.out hk)
        have hg7 : g7 ≠ g1 ∧ g7 ≠ g2 := by obtain ⟨vv, vu, hv, hu, _⟩ := OE.out; exact ⟨ne_blk GE.out hv (by decide), ne_blk GE.out hu (by decide)⟩
        have G5 := Lib.hid (hk.blk GE.out (by decide) (by decide) hg7.1 hg7.2)
        clear ho hk hg7
        refine hK.out _ _ ⟨blk_cell X5.out.c 0, blk_cell G5.out 0, blk_cell G5.out 1, blk_cell G5.out 2, blk_cell G5.out 3, blk_cell G5.out 4⟩ (fun hHeld => ?_)
        clear hK K
        refine norm_ (a' := ?_) ?_ ?_
        rotate_left
        · show Act.put _ (some 28) _ = _
          simp only [Act.put, List.setIfInBounds_toArray, List.set_cons_zero, List.set_cons_succ, i64_w, i32_w]
          rfl
        refine done_ (by kernel_rfl) ?_
        clear hHeld
        go_wp2
        go_roundw
        case rel => exact ⟨i + 1, by go_num, hlt, Lib.hid (by rw [htk, ← List.append_assoc, hTS]; exact O5.out), K5⟩
        case measure => simp [intOf]; omega
      · obtain rfl : i = args.length := by omega
        go_wp2
        go_end0
        rw [show varsP ⟨5, f1, f2, f3, args⟩ path = ownV ⟨5, f1, f2, f3, args⟩ path ++ varsL args path 0 by rw [varsP, if_pos rfl], ← List.append_assoc]
        have hO := HOI.out
        rw [List.take_length] at hO
        exact ⟨rfl, hO, K3.out.trans HKI.out⟩
  · have e5' : (f0 == 5) = false := by simpa using e5
    go_wp2
    go_end0
    rw [show varsP ⟨f0, f1, f2, f3, args⟩ path = ownV ⟨f0, f1, f2, f3, args⟩ path by unfold varsP; rw [if_neg e5, List.append_nil]]
    exact ⟨rfl, O2.out, K3.out⟩

theorem gov_all (W0 : World) (g1 g2 b2 b3 : Nat) (hg1 : W0.heap.size ≤ g1) (hg2 : W0.heap.size ≤ g2) :
    ∀ (n : Nat) (p : S53), SizeOf.sizeOf p ≤ n → GoV W0 g1 g2 b2 b3 p := by
  intro n
  induction n with
  | zero =>
    intro p hp
    cases p
    simp at hp
  | succ n ih =>
    intro p hp
    obtain ⟨f0, f1, f2, f3, args⟩ := p
    refine gov_ok W0 g1 g2 b2 b3 hg1 hg2 f0 f1 f2 f3 args (fun x hx => ih x ?_)
    have h1 := List.sizeOf_lt_of_mem hx
    simp at hp
    omega

set_option maxRecDepth 100000 in
set_option maxHeartbeats 8000000 in
theorem walkv_call (W0 : World) (g1 g2 : Nat) (hg1 : W0.heap.size ≤ g1) (hg2 : W0.heap.size ≤ g2)
    (f0 f1 f2 : Int) (f3 : ByteArray) (args : List S53) (A4 : Option Addr) (c4 : Nat) (l : List (ByteArray × List Int)) (W : World) (hO : VarB W0.heap.size g1 g2 W l) (hB : Below W0.heap.size W0 W)
    (hC : Kd.C k53 W0 A4 args.length args) (hc4 : args.length ≤ c4) (hn : l.length + nodesP ⟨f0, f1, f2, f3, args⟩ ≤ 1000000) :
    Calls Try.prog 25 #[.agg #[.int .i64 f0, .int .i64 f1, .int .i64 f2, .string f3, .slice A4 args.length c4], .func (.func 31) #[] #[.pointer (some ⟨g1, 0, none⟩), .pointer (some ⟨g2, 0, none⟩)]] W fun e W' => e = .returned (.tuple #[]) ∧ VarB W0.heap.size g1 g2 W' (l ++ varsP ⟨f0, f1, f2, f3, args⟩ []) ∧ KV W0.heap.size g1 g2 W W' := by
  have HG := Lib.hid fun (b2 b3 : Nat) => gov_all W0 g1 g2 b2 b3 hg1 hg2 _ ⟨f0, f1, f2, f3, args⟩ (Nat.le_refl _)
  have HO := Lib.hid hO
  have HB := Lib.hid hB
  have HC := Lib.hid hC
  clear hO hB hC
  go_enter Try.func25, Try.ntmps25
  go_upto_region 2 with fail
  have s1 : (W.alloc (.cells #[.int .i64 f0, .int .i64 f1, .int .i64 f2, .string f3, .slice A4 args.length c4] 53)).heap.size = W.heap.size + 1 := by simp
  have s2 : ((W.alloc (.cells #[.int .i64 f0, .int .i64 f1, .int .i64 f2, .string f3, .slice A4 args.length c4] 53)).alloc (.cells #[.func (.func 31) #[] #[.pointer (some ⟨g1, 0, none⟩), .pointer (some ⟨g2, 0, none⟩)]] 84)).heap.size = W.heap.size + 1 + 1 := by simp
  have X3 := blk_new ((W.alloc (.cells #[.int .i64 f0, .int .i64 f1, .int .i64 f2, .string f3, .slice A4 args.length c4] 53)).alloc (.cells #[.func (.func 31) #[] #[.pointer (some ⟨g1, 0, none⟩), .pointer (some ⟨g2, 0, none⟩)]] 84)) (.cells #[.nilFunc] 84)
  have X2 := blk_alloc (blk_new (W.alloc (.cells #[.int .i64 f0, .int .i64 f1, .int .i64 f2, .string f3, .slice A4 args.length c4] 53)) (.cells #[.func (.func 31) #[] #[.pointer (some ⟨g1, 0, none⟩), .pointer (some ⟨g2, 0, none⟩)]] 84)) (.cells #[.nilFunc] 84)
  have X1 := blk_alloc (blk_alloc (blk_new W (.cells #[.int .i64 f0, .int .i64 f1, .int .i64 f2, .string f3, .slice A4 args.length c4] 53)) (.cells #[.func (.func 31) #[] #[.pointer (some ⟨g1, 0, none⟩), .pointer (some ⟨g2, 0, none⟩)]] 84)) (.cells #[.nilFunc] 84)
  rw [s2] at X3
  rw [s1] at X2
  have hbl := below_alloc (below_alloc (below_alloc (Below.refl _ W) (.cells #[.int .i64 f0, .int .i64 f1, .int .i64 f2, .string f3, .slice A4 args.length c4] 53)) (.cells #[.func (.func 31) #[] #[.pointer (some ⟨g1, 0, none⟩), .pointer (some ⟨g2, 0, none⟩)]] 84)) (.cells #[.nilFunc] 84)
  have BL := Lib.hid hbl
  generalize (((W.alloc (.cells #[.int .i64 f0, .int .i64 f1, .int .i64 f2, .string f3, .slice A4 args.length c4] 53)).alloc (.cells #[.func (.func 31) #[] #[.pointer (some ⟨g1, 0, none⟩), .pointer (some ⟨g2, 0, none⟩)]] 84)).alloc (.cells #[.nilFunc] 84)) = W3 at *
  have c3 := blk_cell X3 0
  have f3' := blk_frozen X3 0
  clear s1 s2 hbl
  have Y3 := Lib.hid (blk_set X3 0 (.func (.func 34) #[] #[.pointer (some ⟨W.heap.size + 1, 0, none⟩), .pointer (some ⟨W.heap.size + 1 + 1, 0, none⟩)]))
  have hgo3 : W.heap.size + 1 + 1 ≠ g1 := by have := HO.out.lt; omega
  have n31 : ¬ W.heap.size + 1 = W.heap.size + 1 + 1 := by omega
  have n30 : ¬ W.heap.size = W.heap.size + 1 + 1 := by omega
  have Y2 := Lib.hid ((Below.heap_setCell W3 ⟨W.heap.size + 1 + 1, 0, none⟩ (.func (.func 34) #[] #[.pointer (some ⟨W.heap.size + 1, 0, none⟩), .pointer (some ⟨W.heap.size + 1 + 1, 0, none⟩)]) (W.heap.size + 1) n31).trans X2)
  have Y1 := Lib.hid ((Below.heap_setCell W3 ⟨W.heap.size + 1 + 1, 0, none⟩ (.func (.func 34) #[] #[.pointer (some ⟨W.heap.size + 1, 0, none⟩), .pointer (some ⟨W.heap.size + 1 + 1, 0, none⟩)]) W.heap.size n30).trans X1)
  have X1_ := Lib.hid X1
  have hge : W0.heap.size ≤ W.heap.size + 1 + 1 := by have := HB.out.size; omega
  go_upto_region 3 with fail
  have hbs := BL.out.setCell (p := ⟨W.heap.size + 1 + 1, 0, none⟩) (show W.heap.size ≤ W.heap.size + 1 + 1 by omega) (.func (.func 34) #[] #[.pointer (some ⟨W.heap.size + 1, 0, none⟩), .pointer (some ⟨W.heap.size + 1 + 1, 0, none⟩)])
  have OS := Lib.hid (HO.out.below hbs)
  have BS := Lib.hid (below_step HB.out hbs)
  have KS := Lib.hid (KV.of_below (base := W0.heap.size) (g1 := g1) (g2 := g2) hbs)
  have XS : BoxV g1 g2 (W.heap.size + 1) (W.heap.size + 1 + 1) (W3.setCell ⟨W.heap.size + 1 + 1, 0, none⟩ (.func (.func 34) #[] #[.pointer (some ⟨W.heap.size + 1, 0, none⟩), .pointer (some ⟨W.heap.size + 1 + 1, 0, none⟩)])) := ⟨Y2.out, by have := Y3.out; simpa using this⟩
  have XS_ := Lib.hid XS
  have kc := blk_cell XS.c 0
  have y0 := blk_cell Y1.out 0
  have y1 := blk_cell Y1.out 1
  have y2 := blk_cell Y1.out 2
  have y3 := blk_cell Y1.out 3
  have y4 := blk_cell Y1.out 4
  have hl0 : ([] : List Int).length + nodesP ⟨f0, f1, f2, f3, args⟩ ≤ 1000000 := by simp only [List.length_nil]; omega
  clear hbs XS c3 f3' X1 X2 X3 BL Y2 Y3
  generalize W3.setCell ⟨W.heap.size + 1 + 1, 0, none⟩ (.func (.func 34) #[] #[.pointer (some ⟨W.heap.size + 1, 0, none⟩), .pointer (some ⟨W.heap.size + 1 + 1, 0, none⟩)]) = WS at *
  go_wp2_with (go_at_call 34; refine (HG.out _ _ W0.heap.size A4 c4 (.slice none 0 0) [] l _ OS.out BS.out XS_.out HC.out hc4 (Kd.R_nil _ _ _ _ _) (Nat.le_refl _) hn hl0).mono ?_; rintro e W5 ⟨rfl, ho, hk⟩; have O5 := Lib.hid ho; have K5 := Lib.hid hk; clear ho hk)
  go_end0
  exact ⟨rfl, O5.out, KS.out.trans K5.out⟩

end Go.Proofs.Ytelheeekbihfcaa.Pt
