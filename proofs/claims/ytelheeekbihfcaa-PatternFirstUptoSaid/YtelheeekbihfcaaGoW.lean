/- The pattern's walk through a pattern, walked. -/
import Derived.Test.YtelheeekbihfcaaGoC
set_option linter.unusedVariables false
set_option linter.unusedSimpArgs false
namespace Go.Proofs.Ytelheeekbihfcaa.Pt
open Go.RowKit Go.Proofs Go.Proofs.Ytelheeekbihfcaa.PPatternFirst Go.Proofs.YtelheeekbihfcaaW.PrintWords Go.Proofs.YtelheeekbihfcaaW.PrintMore Go.Proofs.YtelheeekbihfcaaW.PrintLast

/-- A path stays. -/
theorem KT.path {base go b' : Nat} {W W' : World} {vp : Value} {path : List Int} {l : List S39} (hK : KT base go W W') (hO : OutB base go W l) (hp : Kd.R (Kd.int .i64) 3 W b' (fun _ => True) vp path) : Kd.R (Kd.int .i64) 3 W' b' (fun _ => True) vp path := by
  have ho := Kd.own_of_R (h1 := fun _ => rfl) hp
  obtain ⟨v, hv, _⟩ := hO
  refine Kd.R_of_own (h1 := fun _ => rfl) (own_move ho (fun k hk => hK.block k (own_lt ho k hk) (fun hs => ?_))) (fun _ _ => trivial)
  obtain ⟨c1, e1⟩ := own_typed ho k hk
  rcases hs.2 with rfl | ⟨c2, fr, e2⟩
  · exact ne_blk e1 hv (by decide) rfl
  · rw [e1] at e2
    injection e2 with e2
    injection e2 with _ e2
    exact absurd e2 (by decide)
theorem rd53 (l : List S53) (i : Nat) (h : i < l.length) : rd_T53 l (i : Int) = l[i] := by
  unfold rd_T53
  rw [Int.toNat_natCast, List.getD_eq_getElem?_getD, List.getElem?_eq_getElem h]
  rfl

set_option maxRecDepth 100000 in
set_option maxHeartbeats 8000000 in
theorem go_ok (W0 : World) (go ga b2 b3 : Nat) (at_ : List ByteArray) (Aa : Option Addr) (ca : Nat) (hgo : W0.heap.size ≤ go) (hCa : Kd.C Kd.string W0 Aa at_.length at_) (hca : at_.length ≤ ca) (hal : at_.length ≤ 1000000)
    (f0 f1 f2 : Int) (f3 : ByteArray) (args : List S53) (hIH : ∀ x, x ∈ args → GoOk W0 go ga b2 b3 at_ Aa ca x) : GoOk W0 go ga b2 b3 at_ Aa ca ⟨f0, f1, f2, f3, args⟩ := by
  intro b' A4 c4 vp path l W hO hB hX hC hc4 hp hb hn1 hn2
  simp only at hC hc4 ⊢
  simp only [nodesP] at hn1 hn2
  obtain ⟨Ap, cp, rfl⟩ := Kd.R_slice hp
  have HI := Lib.hid hIH
  have HC := Lib.hid hC
  have HCA := Lib.hid hCa
  have HO := Lib.hid hO
  have HB := Lib.hid hB
  have HX := Lib.hid hX
  have HP := Lib.hid hp
  have hl1 : l.length ≤ 1000000 := by omega
  clear hIH hC hCa hO hB hX hp
  go_enter Try.func34, Try.ntmps34
  go_upto_region 1 with fail
  have hbl := below_alloc (Below.refl _ W) (.cells #[.int .i64 f0, .int .i64 f1, .int .i64 f2, .string f3, .slice A4 args.length c4] 53)
  have XB := Lib.hid (blk_new W (.cells #[.int .i64 f0, .int .i64 f1, .int .i64 f2, .string f3, .slice A4 args.length c4] 53))
  have O1 := Lib.hid (HO.out.below hbl)
  have B1 := Lib.hid (below_step HB.out hbl)
  have X1 := Lib.hid (HX.out.below hbl)
  have P1 := Lib.hid (Kd.R_below HP.out hbl)
  have K1 := Lib.hid (KT.of_below (base := W0.heap.size) (g := go) hbl)
  generalize W.alloc (.cells #[.int .i64 f0, .int .i64 f1, .int .i64 f2, .string f3, .slice A4 args.length c4] 53) = W1 at *
  generalize W.heap.size = gb at *
  have kb := blk_cell X1.out.b 0
  have k0 := blk_cell XB.out 0
  have k1 := blk_cell XB.out 1
  have k2 := blk_cell XB.out 2
  have k3 := blk_cell XB.out 3
  have k4 := blk_cell XB.out 4
  clear hbl HO HX HP HB
  go_upto_region 2 with (go_at_call 26; refine (at_call W0.heap.size go ga b' f0 f1 f2 f3 args A4 c4 (.slice Ap path.length cp) path l at_ Aa ca _ O1.out B1.out.size hgo X1.out.a (Kd.C_below HCA.out B1.out) hca hal P1.out hb hl1).mono ?_; rintro e W2 ⟨rfl, ho, hk⟩; have O2 := Lib.hid ho; have K2 := Lib.hid hk; clear ho hk)
  have hgb : gb ≠ go := by obtain ⟨v, hv, _⟩ := O1.out; exact ne_blk XB.out hv (by decide)
  have XB2 := Lib.hid (K2.out.blk XB.out (by decide) hgb)
  have X2 := Lib.hid (X1.out.keep O1.out K2.out)
  have B2 := Lib.hid (B1.out.trans (K2.out.below B1.out.size))
  have P2 := Lib.hid (K2.out.path O1.out P1.out)
  have K3 := Lib.hid (K1.out.trans K2.out)
  clear kb k0 k1 k2 k3 k4 X1 XB B1 P1 K1 K2
  have k0 := blk_cell XB2.out 0
  have k4 := blk_cell XB2.out 4
  have hlo : (ownT at_ ⟨f0, f1, f2, f3, args⟩ path).length ≤ 1 := by
    unfold ownT
    repeat' split
    all_goals simp
  by_cases e5 : f0 = 5
  · subst e5
    have hq4 : (args.length : Int) ≤ 1000000 := by have := nodesL_le args; omega
    go_wp2
    go_loopw [18] (fun v18 wr => ∃ i : Nat, v18 = .int .i64 i ∧ i ≤ args.length ∧ Hid (OutB W0.heap.size go wr (l ++ ownT at_ ⟨5, f1, f2, f3, args⟩ path ++ testsL at_ (args.take i) path 0)) ∧ Hid (KT W0.heap.size go W2 wr)) (fun v18 _ => args.length - (intOf v18).toNat)
    case atStart => exact ⟨0, by go_num, Nat.zero_le _, Lib.hid (by simpa [testsL] using O2.out), Lib.hid (KT.refl _ _ _)⟩
    case round =>
      obtain ⟨i, rfl, hi, HOI, HKI⟩ := hrel
      by_cases hlt : i < args.length
      · have q1 : (i : Int) < (args.length : Int) := by omega
        have q0 : (0 : Int) ≤ (i : Int) := by omega
        have HBI := Lib.hid (B2.out.trans (HKI.out.below B2.out.size))
        have HXI := Lib.hid (X2.out.keep O2.out HKI.out)
        have HPI := Lib.hid (HKI.out.path O2.out P2.out)
        obtain ⟨ad, A5, c5, hA4, u0, u1, u2, u3, u4, hc5, hC5⟩ := at_T53 HC.out (i : Int) q0 q1
        subst hA4
        rw [rd53 args i hlt, Int.toNat_natCast] at u0 u1 u2 u3 u4
        rw [rd53 args i hlt] at hc5 hC5
        replace u0 := (HBI.out.cell (World.block_lt_of_cell? W0 _ u0)).trans u0
        replace u1 := (HBI.out.cell (World.block_lt_of_cell? W0 _ u1)).trans u1
        replace u2 := (HBI.out.cell (World.block_lt_of_cell? W0 _ u2)).trans u2
        replace u3 := (HBI.out.cell (World.block_lt_of_cell? W0 _ u3)).trans u3
        replace u4 := (HBI.out.cell (World.block_lt_of_cell? W0 _ u4)).trans u4
        have hx0 := HI.out args[i] (List.getElem_mem hlt)
        have hng := nodesL_get hlt
        have htl := testsL_len at_ (args.take i) path 0
        have hnp : i ≤ nodesL (args.take i) := by have := nodesL_le (args.take i); rw [List.length_take, Nat.min_eq_left (Nat.le_of_lt hlt)] at this; exact this
        have hm1 : (l ++ ownT at_ ⟨5, f1, f2, f3, args⟩ path ++ testsL at_ (args.take i) path 0).length + nodesP args[i] ≤ 1000000 := by simp only [List.length_append]; omega
        have hm2 : (path ++ [(i : Int)]).length + nodesP args[i] ≤ 1000000 := by simp only [List.length_append, List.length_singleton]; omega
        have hpl : path.length ≤ 1000000 := by omega
        have htk : testsL at_ (args.take (i + 1)) path 0 = testsL at_ (args.take i) path 0 ++ testsP at_ args[i] (path ++ [(i : Int)]) := by
          rw [List.take_succ_eq_append_getElem hlt, testsL_snoc, List.length_take, Nat.min_eq_left (Nat.le_of_lt hlt), Nat.zero_add]
        have HC5 := Lib.hid hC5
        clear hC5 hng htl hnp
        go_upto_region 6 with fail
        have hbl := below_alloc (Below.refl _ wr) (.cells #[.int .i64 args[i].f0, .int .i64 args[i].f1, .int .i64 args[i].f2, .string args[i].f3, .slice A5 args[i].f4.length c5] 53)
        have GD := Lib.hid (blk_drew (blk_new wr (.cells #[.int .i64 args[i].f0, .int .i64 args[i].f1, .int .i64 args[i].f2, .string args[i].f3, .slice A5 args[i].f4.length c5] 53)))
        have hbd := below_drew1 hbl
        have OD := Lib.hid (HOI.out.below hbd)
        have BD := Lib.hid (below_step HBI.out hbd)
        have XD := Lib.hid (HXI.out.below hbd)
        have PD := Lib.hid (Kd.R_below HPI.out hbd)
        have KD := Lib.hid (HKI.out.trans (KT.of_below (base := W0.heap.size) (g := go) hbd))
        clear hbl hbd HOI HBI HXI HPI u0 u1 u2 u3 u4
        generalize wr.alloc (.cells #[.int .i64 args[i].f0, .int .i64 args[i].f1, .int .i64 args[i].f2, .string args[i].f3, .slice A5 args[i].f4.length c5] 53) = W3 at *
        generalize wr.heap.size = g7 at *
        generalize hTS : l ++ ownT at_ ⟨5, f1, f2, f3, args⟩ path ++ testsL at_ (args.take i) path 0 = TS at *
        generalize args[i] = x at *
        refine start_ (n := 6) (S := fun w' => w'.cell? ⟨b3, 0, none⟩ = some (.func (.func 34) #[] #[.pointer (some ⟨b2, 0, none⟩), .pointer (some ⟨b3, 0, none⟩)]) ∧ w'.cell? ⟨g7, 0, none⟩ = some (.int .i64 x.f0) ∧ w'.cell? ⟨g7, 1, none⟩ = some (.int .i64 x.f1) ∧ w'.cell? ⟨g7, 2, none⟩ = some (.int .i64 x.f2) ∧ w'.cell? ⟨g7, 3, none⟩ = some (.string x.f3) ∧ w'.cell? ⟨g7, 4, none⟩ = some (.slice A5 x.f4.length c5)) (ds := []) #[false, false, false, false, false, false] (by kernel_rfl) rfl rfl ⟨blk_cell XD.out.c 0, blk_cell GD.out 0, blk_cell GD.out 1, blk_cell GD.out 2, blk_cell GD.out 3, blk_cell GD.out 4⟩ (fun hHeld => ?_)
        refine pure_ (i := 2) (N := some 25) (v := ?_) (a' := ?_) #[false, false, true, false, false, false] rfl rfl (by kernel_rfl) (fun _ _ _ h => h) (Or.inl ⟨by rfl, ?_⟩) ?_ ?_
        rotate_left
        · intro w'
          go_simp
          with_reducible rfl
        rotate_left
        · simp only [Act.put, List.setIfInBounds_toArray, List.set_cons_zero, List.set_cons_succ, i64_w, i32_w]
          rfl
        refine pure_ (i := 3) (N := some 26) (v := ?_) (a' := ?_) #[false, false, true, true, false, false] rfl rfl (by kernel_rfl) (fun _ _ _ h => h) (Or.inl ⟨by rfl, ?_⟩) ?_ ?_
        rotate_left
        · intro w'
          go_simp
          with_reducible rfl
        rotate_left
        · simp only [Act.put, List.setIfInBounds_toArray, List.set_cons_zero, List.set_cons_succ, i64_w, i32_w]
          rfl
        refine take_ (i := 0) (N := some 23) (v := ?_) (a' := ?_) #[true, false, true, true, false, false] rfl rfl (by kernel_rfl) (fun _ _ _ h => h) (Or.inl ⟨by rfl, ?_⟩) hHeld ?_ ?_
        rotate_left
        · rintro w' ⟨s0, s1, s2, s3, s4, s5⟩
          go_simp
          with_reducible rfl
        rotate_left
        · simp only [Act.put, List.setIfInBounds_toArray, List.set_cons_zero, List.set_cons_succ, i64_w, i32_w]
          rfl
        refine take_ (i := 1) (N := some 24) (v := ?_) (a' := ?_) #[true, true, true, true, false, false] rfl rfl (by kernel_rfl) (fun _ _ _ h => h) (Or.inl ⟨by rfl, ?_⟩) hHeld ?_ ?_
        rotate_left
        · rintro w' ⟨s0, s1, s2, s3, s4, s5⟩
          go_simp
          with_reducible rfl
        rotate_left
        · simp only [Act.put, List.setIfInBounds_toArray, List.set_cons_zero, List.set_cons_succ, i64_w, i32_w]
          rfl
        refine one_ (i := 4) (N := some 27) #[true, true, true, true, true, false] rfl rfl (by kernel_rfl) (by decide) (fun K hK => ?_)
        refine goes_ Try.func35 (by kernel_rfl) rfl #[.slice Ap path.length cp, .int .i64 (i : Int)] (by rfl) rfl rfl (by simp only [List.map_toArray, List.map_cons, List.map_nil]; rfl) ?_
        with_reducible refine (longer_call Ap cp path (i : Int) _ (Kd.R_reads' PD.out).2.2 (Kd.R_reads' PD.out).2.1 hpl).mono ?_
        rintro e w4 ⟨vq, rfl, hq, hd⟩
        refine ⟨_, rfl, ?_⟩
        have OE := Lib.hid (OD.out.below hd)
        have BE := Lib.hid (below_step BD.out hd)
        have XE := Lib.hid (XD.out.below hd)
        have GE := Lib.hid (blk_below GD.out hd)
        have PE := Lib.hid (Kd.R_below PD.out hd)
        have KE := Lib.hid (KD.out.trans (KT.of_below hd))
        have QE := Lib.hid hq
        have hb7 : W0.heap.size ≤ W3.drew.heap.size := BD.out.size
        clear hq hd
        refine hK.out _ _ ⟨blk_cell XE.out.c 0, blk_cell GE.out 0, blk_cell GE.out 1, blk_cell GE.out 2, blk_cell GE.out 3, blk_cell GE.out 4⟩ (fun hHeld => ?_)
        clear hK K
        refine norm_ (a' := ?_) ?_ ?_
        rotate_left
        · show Act.put _ (some 27) _ = _
          simp only [Act.put, List.setIfInBounds_toArray, List.set_cons_zero, List.set_cons_succ, i64_w, i32_w]
          rfl
        refine one_ (i := 5) (N := some 28) #[true, true, true, true, true, true] rfl rfl (by kernel_rfl) (by decide) (fun K hK => ?_)
        refine call_ 34 #[.agg #[.int .i64 x.f0, .int .i64 x.f1, .int .i64 x.f2, .string x.f3, .slice A5 x.f4.length c5], vq, .pointer (some ⟨b2, 0, none⟩), .pointer (some ⟨b3, 0, none⟩)] (by rfl) rfl (by go_simp) ?_
        refine (hx0 _ A5 c5 vq (path ++ [(i : Int)]) _ _ OE.out BE.out XE.out HC5.out hc5 QE.out hb7 hm1 hm2).mono ?_
        rintro e w5 ⟨rfl, ho, hk⟩
        refine ⟨_, rfl, ?_⟩
        have O5 := Lib.hid ho
        have K5 := Lib.hid (KE.out.trans hk)
        have X5 := Lib.hid (XE.out.keep OE.out hk)
        have hg7 : g7 ≠ go := by obtain ⟨vv, hv, _⟩ := OE.out; exact ne_blk GE.out hv (by decide)
        have G5 := Lib.hid (hk.blk GE.out (by decide) hg7)
        clear ho hk hg7
        refine hK.out _ _ ⟨blk_cell X5.out.c 0, blk_cell G5.out 0, blk_cell G5.out 1, blk_cell G5.out 2, blk_cell G5.out 3, blk_cell G5.out 4⟩ (fun hHeld => ?_)
        clear hK K
        refine norm_ (a' := ?_) ?_ ?_
        rotate_left
        · show Act.put _ (some 28) _ = _
          simp only [Act.put, List.setIfInBounds_toArray, List.set_cons_zero, List.set_cons_succ, i64_w, i32_w]
          rfl
        refine done_ (by kernel_rfl) ?_
        clear hHeld
        go_wp2
        go_roundw
        case rel => exact ⟨i + 1, by go_num, hlt, Lib.hid (by rw [htk, ← List.append_assoc, hTS]; exact O5.out), K5⟩
        case measure => simp [intOf]; omega
      · obtain rfl : i = args.length := by omega
        go_wp2
        go_end0
        rw [show testsP at_ ⟨5, f1, f2, f3, args⟩ path = ownT at_ ⟨5, f1, f2, f3, args⟩ path ++ testsL at_ args path 0 by rw [testsP, if_pos rfl], ← List.append_assoc]
        have hO := HOI.out
        rw [List.take_length] at hO
        exact ⟨rfl, hO, K3.out.trans HKI.out⟩
  · have e5' : (f0 == 5) = false := by simpa using e5
    go_wp2
    go_end0
    rw [show testsP at_ ⟨f0, f1, f2, f3, args⟩ path = ownT at_ ⟨f0, f1, f2, f3, args⟩ path by unfold testsP; rw [if_neg e5, List.append_nil]]
    exact ⟨rfl, O2.out, K3.out⟩
end Go.Proofs.Ytelheeekbihfcaa.Pt
