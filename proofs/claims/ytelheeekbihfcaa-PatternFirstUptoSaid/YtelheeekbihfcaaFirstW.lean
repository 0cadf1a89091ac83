/- The law PatternFirst, walked. -/
import Derived.Test.YtelheeekbihfcaaLightW
import Derived.Test.YtelheeekbihfcaaLivesW
import Derived.Test.YtelheeekbihfcaaManyP
set_option linter.unusedVariables false
set_option linter.unusedSimpArgs false
namespace Go.Proofs.Ytelheeekbihfcaa.Pt
open Go.RowKit Go.Proofs Go.Proofs.Ytelheeekbihfcaa.PPatternFirst Go.Proofs.YtelheeekbihfcaaW.PrintWords Go.Proofs.YtelheeekbihfcaaW.PrintMore Go.Proofs.YtelheeekbihfcaaW.PrintLast

theorem blockOf_path (allT : List (List S39)) (firsts : List Int) (e : Int) (n k : Nat) : ∀ (ts : List S39) (pos : Nat) (x : S41), x ∈ blockOf allT firsts e n k ts pos → ∃ t, t ∈ ts ∧ x.f0 = t
  | [], _, _, h => by simp [blockOf] at h
  | t :: r, pos, x, h => by
    rw [blockOf] at h
    rcases List.mem_cons.1 h with rfl | h
    · exact ⟨t, List.mem_cons_self, rfl⟩
    · obtain ⟨u, hu, e⟩ := blockOf_path allT firsts e n k r (pos + 1) x h
      exact ⟨u, List.mem_cons_of_mem _ hu, e⟩
theorem nodesOf_path (allT : List (List S39)) (firsts : List Int) (e : Int) (n : Nat) : ∀ (l : List (List S39)) (k pos : Nat) (x : S41), x ∈ nodesOf allT firsts e n l k pos → x.f0.f0 = [] ∨ ∃ ts t, ts ∈ l ∧ t ∈ ts ∧ x.f0 = t
  | [], _, _, _, h => by simp [nodesOf] at h
  | ts :: r, k, pos, x, h => by
    rw [nodesOf] at h
    rcases List.mem_append.1 h with h | h
    · obtain ⟨t, ht, e⟩ := blockOf_path allT firsts e n k ts pos x h
      exact Or.inr ⟨ts, t, List.mem_cons_self, ht, e⟩
    · rcases List.mem_cons.1 h with rfl | h
      · exact Or.inl rfl
      · rcases nodesOf_path allT firsts e n r (k + 1) _ x h with h | ⟨us, t, h1, h2, h3⟩
        · exact Or.inl h
        · exact Or.inr ⟨us, t, List.mem_cons_of_mem _ h1, h2, h3⟩
theorem nodesL_mem : ∀ (l : List S53) (x : S53), x ∈ l → nodesP x ≤ nodesL l
  | y :: r, x, h => by
    rw [nodesL]
    rcases List.mem_cons.1 h with rfl | h
    · omega
    · have := nodesL_mem r x h; omega
theorem planN_path (at_ : List ByteArray) (l : List S53) (hn : nodesL l ≤ 1000000) : ∀ x, x ∈ planN at_ l → x.f0.f0.length ≤ 1000000 := by
  intro x hx
  unfold planN at hx
  rcases List.mem_append.1 hx with hx | hx
  · rcases nodesOf_path _ _ _ _ _ _ _ x hx with h | ⟨ts, t, h1, h2, h3⟩
    · rw [h]; simp
    · unfold allOf at h1
      obtain ⟨p, hp, rfl⟩ := List.mem_map.1 h1
      have h4 := testsP_path at_ p [] t h2
      have h5 := nodesL_mem l p hp
      rw [h3]
      simp only [List.length_nil] at h4
      omega
  · rw [List.mem_singleton.1 hx]
    simp [leafOf]
theorem rem_nat (fr : Int) (n : Nat) (h : 0 < n) (h2 : n ≤ 30) : ∃ k : Nat, wrap64 ((IntKind.u64.wrap fr).tmod (n : Int)) = (k : Int) ∧ k < n := by
  have h0 : 0 ≤ IntKind.u64.wrap fr := by unfold IntKind.wrap; simp only [IntKind.signed, Bool.false_eq_true, if_false, false_and]; exact Int.emod_nonneg _ (by decide)
  have h3 := Int.tmod_nonneg (n : Int) h0
  have h4 := Int.tmod_lt_of_pos (IntKind.u64.wrap fr) (show (0 : Int) < (n : Int) by omega)
  generalize (IntKind.u64.wrap fr).tmod (n : Int) = q at *
  refine ⟨q.toNat, ?_, by omega⟩
  rw [w_small _ h3 (by omega)]
  omega

set_option maxRecDepth 100000 in
set_option maxHeartbeats 8000000 in
theorem first_true (A0 : Option Addr) (l : List S53) (c0 : Nat) (A1 : Option Addr) (at_ : List ByteArray) (c1 : Nat) (v : S27) (A2 : Option Addr) (c2 : Nat) (fr : Int) (w : World)
    (hC : Kd.C k53 w A0 l.length l) (hc0 : l.length ≤ c0) (hCa : Kd.C Kd.string w A1 at_.length at_) (hc1 : at_.length ≤ c1) (hCv : Kd.C k27 w A2 v.f2.length v.f2) (hc2 : v.f2.length ≤ c2) (hn : nodesL l ≤ 800000) (hv : nodesV v ≤ 1000000) :
    Calls Try.prog 4 #[.slice A0 l.length c0, .slice A1 at_.length c1, .agg #[.int .i64 v.f0, .int .i64 v.f1, .slice A2 v.f2.length c2], .int .i64 fr] w fun e w' => e = .returned (.bool true) ∧ Below w.heap.size w w' := by
  have HC := Lib.hid hC
  have HCA := Lib.hid hCa
  have HCV := Lib.hid hCv
  have hn1 : nodesL l ≤ 1000000 := by omega
  obtain ⟨k15, r15, e15⟩ := light15_tot v hv
  have E15 := Lib.hid e15
  clear hC hCa hCv e15
  go_enter Try.func4, Try.ntmps4
  have hbl1 := below_alloc (Below.refl _ w) (.cells #[.int .i64 v.f0, .int .i64 v.f1, .slice A2 v.f2.length c2] 27)
  have XB := Lib.hid (blk_new w (.cells #[.int .i64 v.f0, .int .i64 v.f1, .slice A2 v.f2.length c2] 27))
  have B1 := Lib.hid hbl1
  clear hbl1
  go_upto_region 1 with fail
  generalize w.alloc (.cells #[.int .i64 v.f0, .int .i64 v.f1, .slice A2 v.f2.length c2] 27) = W1 at *
  generalize hgb : w.heap.size = gb at *
  have BW1 := Lib.hid (show Below w.heap.size w W1 by rw [hgb]; exact B1.out)
  have C1 := Lib.hid (Kd.C_below HC.out BW1.out)
  have CA1 := Lib.hid (Kd.C_below HCA.out BW1.out)
  have CV1 := Lib.hid (Kd.C_below HCV.out BW1.out)
  go_upto_region 3 with (first | (go_at_call 5; refine (light_ok A0 l c0 _ C1.out hc0 hn1).mono ?_; rintro e w2 ⟨b, rfl, h30, hd⟩; have B2 := Lib.hid (below_step BW1.out hd); have XB2 := Lib.hid (blk_below XB.out hd); have C2 := Lib.hid (Kd.C_below C1.out hd); have CA2 := Lib.hid (Kd.C_below CA1.out hd); have CV2 := Lib.hid (Kd.C_below CV1.out hd); clear hd; have j0 := blk_cell XB2.out 0; have j1 := blk_cell XB2.out 1; have j2 := blk_cell XB2.out 2; have hb : b = true ∧ l.length ≤ 30 ∨ b = false := (by cases b; exact Or.inr rfl; exact Or.inl ⟨rfl, h30 rfl⟩); clear h30; rcases hb with ⟨rfl, hl30⟩ | rfl) | (go_at_call 6; refine (postbaglaw15_Light.calls k15 (some ⟨w2.heap.size, 0, none⟩) 1 [v] r15 _ (C_one (d := k27) (blk_new w2 _) (k27_mk _ v hc2 (Kd.C_below CV2.out (below_alloc (Below.refl _ w2) _))) rfl) (Nat.le_refl 1) E15.out).mono ?_; rintro e w3 ⟨rfl, hd⟩; have hd2 := below_step (below_alloc (Below.refl _ w2) (.cells #[.int .i64 v.f0, .int .i64 v.f1, .slice A2 v.f2.length c2] 27)) hd; have B3 := Lib.hid (below_step B2.out hd2); have XB3 := Lib.hid (blk_below XB2.out hd2); have C3 := Lib.hid (Kd.C_below C2.out hd2); have CA3 := Lib.hid (Kd.C_below CA2.out hd2); have CV3 := Lib.hid (Kd.C_below CV2.out hd2); clear hd hd2; cases r15) | (go_at_call 7; refine (lives_true _).mono ?_; rintro e w9 ⟨rfl, hd9⟩; have HD9 := Lib.hid hd9; clear hd9))
  · go_ret
    exact ⟨rfl, below_step B3.out HD9.out⟩
  · go_ret
    exact ⟨rfl, below_step B3.out HD9.out⟩
  rotate_left
  · go_ret
    exact ⟨rfl, below_step B3.out HD9.out⟩
  · go_ret
    exact ⟨rfl, below_step B2.out HD9.out⟩
  rename_i hq1 hq2 _ _
  have hl1 : 0 < l.length := by
    have h := hq2.2
    rw [beq_eq_false_iff_ne] at h
    omega
  have ha50 : at_.length ≤ 50 := by omega
  clear hq1 hq2
  clear j0 j1 j2 B1 XB C1 CA1 CV1 B2 XB2 C2 CA2 CV2 BW1 E15
  go_upto_region 4 with (go_at_call 8; refine (plan_one at_ A1 c1 A0 l c0 _ CA3.out hc1 (by omega) C3.out hc0 (by omega) (by omega)).mono ?_; rintro e w4 ⟨AN, cN, AF, cF, rfl, hcN, hCN, hcF, hCF, hd⟩; have B4 := Lib.hid (below_step B3.out hd); have XB4 := Lib.hid (blk_below XB3.out hd); have C4 := Lib.hid (Kd.C_below C3.out hd); have CA4 := Lib.hid (Kd.C_below CA3.out hd); have CV4 := Lib.hid (Kd.C_below CV3.out hd); have CN4 := Lib.hid hCN; have CF4 := Lib.hid hCF; have HCN := Lib.hid hcN; have HCF := Lib.hid hcF; clear hd hCN hCF hcN hcF)
  clear B3 XB3 C3 CA3 CV3
  obtain ⟨k, hk, hkl⟩ := rem_nat fr l.length hl1 hl30
  go_upto_region 5 with fail
  rw [hk]
  go_wp2
  have hall : (allOf at_ l).length = l.length := by simp [allOf]
  have HW0 := Lib.hid (show wantL v ((allOf at_ l).drop l.length) l.length = -2 by rw [← hall, List.drop_length]; rfl)
  go_loopw [13, 12] (fun v13 v12 wr => ∃ i : Nat, v13 = .int .i64 ((i : Int) - 1) ∧ v12 = .int .i64 (wantL v ((allOf at_ l).drop i) i) ∧ k ≤ i ∧ i ≤ l.length ∧ Hid (Below w4.heap.size w4 wr)) (fun v13 _ _ => (intOf v13 + 1).toNat)
  case atStart => exact ⟨l.length, rfl, by rw [HW0.out], Nat.le_of_lt hkl, Nat.le_refl _, Lib.hid (Below.refl _ _)⟩
  case round =>
    obtain ⟨i, rfl, rfl, hki, hil, HBR⟩ := hrel
    obtain ⟨wq, hwq⟩ : ∃ wq, wq = wr := ⟨_, rfl⟩
    subst hwq
    by_cases hlt : k < i
    · obtain ⟨j, rfl⟩ : ∃ j, i = j + 1 := ⟨i - 1, by omega⟩
      have hj : (((j + 1 : Nat) : Int) - 1) = (j : Int) := by omega
      rw [hj]
      have hjl : j < l.length := hil
      have q1 : (j : Int) < (l.length : Int) := by omega
      have q0 : (0 : Int) ≤ (j : Int) := by omega
      have q2 : (k : Int) ≤ (j : Int) := by omega
      have BQ := Lib.hid (below_step B4.out HBR.out)
      have CQ := Lib.hid (Kd.C_below C4.out HBR.out)
      have CAQ := Lib.hid (Kd.C_below CA4.out HBR.out)
      have CVQ := Lib.hid (Kd.C_below CV4.out HBR.out)
      have XBQ := Lib.hid (blk_below XB4.out HBR.out)
      obtain ⟨ad, A5, c5, hA0, u0, u1, u2, u3, u4, hc5, hC5⟩ := at_T53 CQ.out (j : Int) q0 q1
      subst hA0
      rw [rd53 l j hjl, Int.toNat_natCast] at u0 u1 u2 u3 u4
      rw [rd53 l j hjl] at hc5 hC5
      have hng := nodesL_get hjl
      have hnp : nodesP l[j] ≤ 800000 := by omega
      have HC5 := Lib.hid hC5
      have HT := Lib.hid (show (allOf at_ l)[j]'(by omega) = testsP at_ l[j] [] by simp [allOf])
      have HWD := Lib.hid (wantL_drop v (allOf at_ l) j (by omega))
      have HTL := Lib.hid (testsP_len at_ l[j] [])
      have HTP := Lib.hid (testsP_path at_ l[j] [])
      clear hC5 hng
      rw [HT.out] at HWD
      generalize hx : l[j] = x at *
      clear HT
      have HNP := Lib.hid hnp
      go_upto_region 11 with (go_at_call 14; refine (tests_callP at_ A1 c1 x A5 c5 _ CAQ.out hc1 (by omega) HC5.out hc5 (by omega)).mono ?_; rintro e w5 ⟨v5, rfl, hr, hd⟩; have B5 := Lib.hid (below_step BQ.out hd); have R5 := Lib.hid (below_step HBR.out hd); have XB5 := Lib.hid (blk_below XBQ.out hd); have CV5 := Lib.hid (Kd.C_below CVQ.out hd); obtain ⟨AT, cT, rfl⟩ := Kd.R_slice hr; have HR5 := Lib.hid hr; clear hd hr)
      generalize hts : testsP at_ x [] = ts at *
      have hlts : ts.length ≤ 800000 := by have := HTL.out; have := HNP.out; omega
      go_loopw [65, 14] (fun v65 v14 wr => ∃ m : Nat, v65 = .int .i64 m ∧ v14 = .bool ((ts.take m).all (fitsV v)) ∧ m ≤ ts.length ∧ Hid (Below w5.heap.size w5 wr)) (fun v65 _ _ => ts.length - (intOf v65).toNat)
      case atStart => exact ⟨0, by go_num, rfl, Nat.zero_le _, Lib.hid (Below.refl _ _)⟩
      case round =>
        obtain ⟨m, rfl, rfl, hml, HBI⟩ := hrel
        obtain ⟨wi, hwi⟩ : ∃ wi, wi = wr := ⟨_, rfl⟩
        subst hwi
        by_cases hm : m < ts.length
        · have p1 : (m : Int) < (ts.length : Int) := by omega
          have p0 : (0 : Int) ≤ (m : Int) := by omega
          obtain ⟨_, hqT, hCT⟩ := Kd.R_reads' (Kd.R_below HR5.out HBI.out)
          obtain ⟨adT, A7, c7, hAT, t0, t1, t2, hc7, hC7⟩ := at_T39 hCT (m : Int) p0 p1
          subst hAT
          have hrd : rd_T39 ts (m : Int) = ts[m] := by
            unfold rd_T39
            rw [Int.toNat_natCast, List.getD_eq_getElem?_getD, List.getElem?_eq_getElem hm]
            rfl
          rw [hrd, Int.toNat_natCast] at t0 t1 t2
          rw [hrd] at hc7 hC7
          have HTK := Lib.hid (show (ts.take (m + 1)).all (fitsV v) = ((ts.take m).all (fitsV v) && fitsV v ts[m]) by rw [List.take_succ_eq_append_getElem hm, List.all_append]; simp)
          have hpl : ts[m].f0.length ≤ 1000000 := by
            have := HTP.out ts[m] (List.getElem_mem hm)
            have := HNP.out
            simp only [List.length_nil] at *
            omega
          have HFT := Lib.hid (fits_f v ts[m] hpl)
          have HC7 := Lib.hid hC7
          generalize ts[m] = tt at *
          clear hqT hCT hC7
          go_upto_region 13 with fail
          have hal := below_alloc (Below.refl _ wi) (.cells #[.slice A7 tt.f0.length c7, .int .i64 tt.f1, .int .i64 tt.f2] 39)
          have XT := Lib.hid (blk_new wi (.cells #[.slice A7 tt.f0.length c7, .int .i64 tt.f1, .int .i64 tt.f2] 39))
          have B6 := Lib.hid (below_step HBI.out hal)
          have C76 := Lib.hid (Kd.C_below HC7.out hal)
          have XB6 := Lib.hid (blk_below XB5.out B6.out)
          have CV6 := Lib.hid (Kd.C_below CV5.out B6.out)
          clear hal t0 t1 t2
          generalize wi.alloc (.cells #[.slice A7 tt.f0.length c7, .int .i64 tt.f1, .int .i64 tt.f2] 39) = w6 at *
          generalize wi.heap.size = gt at *
          have y0 := blk_cell XT.out 0
          have y1 := blk_cell XT.out 1
          have y2 := blk_cell XT.out 2
          have z0 := blk_cell XB6.out 0
          have z1 := blk_cell XB6.out 1
          have z2 := blk_cell XB6.out 2
          cases hb : (ts.take m).all (fitsV v) with
          | true =>
            rw [hb] at HTK
            go_wp2_with (go_at_call 15; refine (pattern_Fits.calls _ A7 c7 tt.f0 tt.f1 tt.f2 v.f0 v.f1 A2 c2 v.f2 (fitsV v tt) _ C76.out hc7 CV6.out hc2 HFT.out).mono ?_; rintro e w7 ⟨rfl, hd⟩; have B7 := Lib.hid (below_step B6.out hd); clear hd)
            go_roundw
            case rel => exact ⟨m + 1, by go_num, by rw [HTK.out, Bool.true_and], hm, B7⟩
            case measure => simp [intOf]; omega
          | false =>
            rw [hb] at HTK
            go_wp2
            go_roundw
            case rel => exact ⟨m + 1, by go_num, by rw [HTK.out, Bool.false_and], hm, B6⟩
            case measure => simp [intOf]; omega
        · obtain rfl : m = ts.length := by omega
          rw [List.take_length]
          cases hb : ts.all (fitsV v) with
          | true =>
            rw [hb, if_pos rfl] at HWD
            go_wp2
            refine ⟨⟨j, rfl, by rw [HWD.out], by omega, by omega, Lib.hid (below_step R5.out HBI.out)⟩, by simp [intOf]⟩
          | false =>
            rw [hb, if_neg (by simp)] at HWD
            go_wp2
            refine ⟨⟨j, rfl, by rw [HWD.out], by omega, by omega, Lib.hid (below_step R5.out HBI.out)⟩, by simp [intOf]⟩
    · obtain rfl : k = i := by omega
      have hlenF : (firstsOf (allOf at_ l) 0).length = l.length := by rw [firstsOf_len, hall]
      have hlenF2 : (((firstsOf (allOf at_ l) 0).length : Int) == (l.length : Int)) = true := by rw [hlenF]; simp
      have q0 : (0 : Int) ≤ (k : Int) := by omega
      have q1 : (k : Int) < ((firstsOf (allOf at_ l) 0).length : Int) := by rw [hlenF]; omega
      have hend := endOf_nodes at_ l
      have hpn : (planN at_ l).length = endOf (allOf at_ l) + 1 := by unfold planN; rw [show l.length = (allOf at_ l).length from hall.symm, nn_len]
      obtain ⟨kg, hg⟩ := go_f (planN at_ l) v ((firstsOf (allOf at_ l) 0).getD k 0) (by omega) (planN_path at_ l (by omega))
      have hgo := go_first (allOf at_ l) v k (by omega)
      rw [hpn] at hg
      have hg2 : planN at_ l = nodesOf (allOf at_ l) (firstsOf (allOf at_ l) 0) ((endOf (allOf at_ l) : Nat) : Int) (allOf at_ l).length (allOf at_ l) 0 0 ++ [leafOf (-2)] := by unfold planN; rw [hall]
      rw [hg2, hgo, ← hg2] at hg
      have HGO := Lib.hid hg
      have BQ := Lib.hid (below_step B4.out HBR.out)
      obtain ⟨adF, hAF, uF0⟩ := Kd.at_int (Kd.C_below CF4.out HBR.out) (k : Int) q0 q1
      subst hAF
      have uF : wq.cell? (adF.add k) = some (.int .i64 ((firstsOf (allOf at_ l) 0).getD k 0)) := by
        rw [Int.toNat_natCast] at uF0
        exact uF0
      have XQ := Lib.hid (blk_below XB4.out HBR.out)
      have CNQ := Lib.hid (Kd.C_below CN4.out HBR.out)
      have CVQ := Lib.hid (Kd.C_below CV4.out HBR.out)
      have hcN := HCN.out
      clear hg hgo hg2 hpn hend uF0
      generalize (firstsOf (allOf at_ l) 0).getD k 0 = fk at *
      go_wp2
      have uFd : wq.drew.cell? (adF.add k) = some (.int .i64 (fk)) := uF
      have XD := Lib.hid (blk_drew XQ.out)
      have BD := Lib.hid (below_drew1 BQ.out)
      have CND := Lib.hid (Kd.C_drew CNQ.out)
      have CVD := Lib.hid (Kd.C_drew CVQ.out)
      clear uF XQ BQ CNQ CVQ
      refine start_ (n := 20) (S := fun w' => w'.cell? (adF.add k) = some (.int .i64 (fk)) ∧ w'.cell? ⟨gb, 0, none⟩ = some (.int .i64 v.f0) ∧ w'.cell? ⟨gb, 1, none⟩ = some (.int .i64 v.f1) ∧ w'.cell? ⟨gb, 2, none⟩ = some (.slice A2 v.f2.length c2)) (ds := [17]) #[false, false, false, false, false, false, false, false, false, false, false, false, false, false, false, false, false, false, false, false] (by kernel_rfl) rfl rfl ⟨uFd, blk_cell XD.out 0, blk_cell XD.out 1, blk_cell XD.out 2⟩ (fun hHeld => ?_)
      generalize wq.drew = wd at *
      refine pure_ (i := 0) (N := some 78) (v := ?_) (a' := ?_) #[true, false, false, false, false, false, false, false, false, false, false, false, false, false, false, false, false, false, false, false] rfl rfl (by kernel_rfl) (fun _ _ _ h => h) (Or.inl ⟨by rfl, ?_⟩) ?_ ?_
      rotate_left
      · intro w'
        go_simp
        with_reducible rfl
      rotate_left
      · simp only [Act.put, List.setIfInBounds_toArray, List.set_cons_zero, List.set_cons_succ, i64_w, i32_w]
        rfl
      refine pure_ (i := 1) (N := some 79) (v := ?_) (a' := ?_) #[true, true, false, false, false, false, false, false, false, false, false, false, false, false, false, false, false, false, false, false] rfl rfl (by kernel_rfl) (fun _ _ _ h => h) (Or.inl ⟨by rfl, ?_⟩) ?_ ?_
      rotate_left
      · intro w'
        go_simp
        with_reducible rfl
      rotate_left
      · simp only [Act.put, List.setIfInBounds_toArray, List.set_cons_zero, List.set_cons_succ, i64_w, i32_w]
        rfl
      refine pure_ (i := 2) (N := some 80) (v := ?_) (a' := ?_) #[true, true, true, false, false, false, false, false, false, false, false, false, false, false, false, false, false, false, false, false] rfl rfl (by kernel_rfl) (fun _ _ _ h => h) (Or.inl ⟨by rfl, ?_⟩) ?_ ?_
      rotate_left
      · intro w'
        go_simp
        with_reducible rfl
      rotate_left
      · simp only [Act.put, List.setIfInBounds_toArray, List.set_cons_zero, List.set_cons_succ, i64_w, i32_w]
        rfl
      refine pure_ (i := 3) (N := some 81) (v := ?_) (a' := ?_) #[true, true, true, true, false, false, false, false, false, false, false, false, false, false, false, false, false, false, false, false] rfl rfl (by kernel_rfl) (fun _ _ _ h => h) (Or.inl ⟨by rfl, ?_⟩) ?_ ?_
      rotate_left
      · intro w'
        go_simp
        with_reducible rfl
      rotate_left
      · simp only [Act.put, List.setIfInBounds_toArray, List.set_cons_zero, List.set_cons_succ, i64_w, i32_w]
        rfl
      refine pure_ (i := 4) (N := some 82) (v := ?_) (a' := ?_) #[true, true, true, true, true, false, false, false, false, false, false, false, false, false, false, false, false, false, false, false] rfl rfl (by kernel_rfl) (fun _ _ _ h => h) (Or.inl ⟨by rfl, ?_⟩) ?_ ?_
      rotate_left
      · intro w'
        go_simp
        with_reducible rfl
      rotate_left
      · simp only [Act.put, List.setIfInBounds_toArray, List.set_cons_zero, List.set_cons_succ, i64_w, i32_w]
        rfl
      refine pure_ (i := 5) (N := some 83) (v := ?_) (a' := ?_) #[true, true, true, true, true, true, false, false, false, false, false, false, false, false, false, false, false, false, false, false] rfl rfl (by kernel_rfl) (fun _ _ _ h => h) (Or.inl ⟨by rfl, ?_⟩) ?_ ?_
      rotate_left
      · intro w'
        go_simp
        with_reducible rfl
      rotate_left
      · simp only [Act.put, List.setIfInBounds_toArray, List.set_cons_zero, List.set_cons_succ, i64_w, i32_w]
        rfl
      refine pure_ (i := 6) (N := some 84) (v := ?_) (a' := ?_) #[true, true, true, true, true, true, true, false, false, false, false, false, false, false, false, false, false, false, false, false] rfl rfl (by kernel_rfl) (fun _ _ _ h => h) (Or.inl ⟨by rfl, ?_⟩) ?_ ?_
      rotate_left
      · intro w'
        go_simp
        with_reducible rfl
      rotate_left
      · simp only [Act.put, List.setIfInBounds_toArray, List.set_cons_zero, List.set_cons_succ, i64_w, i32_w]
        rfl
      refine pure_ (i := 7) (N := some 85) (v := ?_) (a' := ?_) #[true, true, true, true, true, true, true, true, false, false, false, false, false, false, false, false, false, false, false, false] rfl rfl (by kernel_rfl) (fun _ _ _ h => h) (Or.inl ⟨by rfl, ?_⟩) ?_ ?_
      rotate_left
      · intro w'
        go_simp
        with_reducible rfl
      rotate_left
      · simp only [Act.put, List.setIfInBounds_toArray, List.set_cons_zero, List.set_cons_succ, i64_w, i32_w]
        rfl
      refine pure_ (i := 8) (N := some 86) (v := ?_) (a' := ?_) #[true, true, true, true, true, true, true, true, true, false, false, false, false, false, false, false, false, false, false, false] rfl rfl (by kernel_rfl) (fun _ _ _ h => h) (Or.inl ⟨by rfl, ?_⟩) ?_ ?_
      rotate_left
      · intro w'
        go_simp
        with_reducible rfl
      rotate_left
      · simp only [Act.put, List.setIfInBounds_toArray, List.set_cons_zero, List.set_cons_succ, i64_w, i32_w]
        rfl
      refine pure_ (i := 9) (N := some 87) (v := ?_) (a' := ?_) #[true, true, true, true, true, true, true, true, true, true, false, false, false, false, false, false, false, false, false, false] rfl rfl (by kernel_rfl) (fun _ _ _ h => h) (Or.inl ⟨by rfl, ?_⟩) ?_ ?_
      rotate_left
      · intro w'
        go_simp
        with_reducible rfl
      rotate_left
      · simp only [Act.put, List.setIfInBounds_toArray, List.set_cons_zero, List.set_cons_succ, i64_w, i32_w]
        rfl
      refine pure_ (i := 13) (N := some 91) (v := ?_) (a' := ?_) #[true, true, true, true, true, true, true, true, true, true, false, false, false, true, false, false, false, false, false, false] rfl rfl (by kernel_rfl) (fun _ _ _ h => h) (Or.inl ⟨by rfl, ?_⟩) ?_ ?_
      rotate_left
      · intro w'
        go_simp
        with_reducible rfl
      rotate_left
      · simp only [Act.put, List.setIfInBounds_toArray, List.set_cons_zero, List.set_cons_succ, i64_w, i32_w]
        rfl
      refine take_ (i := 10) (N := some 88) (v := ?_) (a' := ?_) #[true, true, true, true, true, true, true, true, true, true, true, false, false, true, false, false, false, false, false, false] rfl rfl (by kernel_rfl) (fun _ _ _ h => h) (Or.inl ⟨by rfl, ?_⟩) hHeld ?_ ?_
      rotate_left
      · rintro w' ⟨s0, s1, s2, s3⟩
        go_simp
        with_reducible rfl
      rotate_left
      · simp only [Act.put, List.setIfInBounds_toArray, List.set_cons_zero, List.set_cons_succ, i64_w, i32_w]
        rfl
      refine take_ (i := 11) (N := some 89) (v := ?_) (a' := ?_) #[true, true, true, true, true, true, true, true, true, true, true, true, false, true, false, false, false, false, false, false] rfl rfl (by kernel_rfl) (fun _ _ _ h => h) (Or.inl ⟨by rfl, ?_⟩) hHeld ?_ ?_
      rotate_left
      · rintro w' ⟨s0, s1, s2, s3⟩
        go_simp
        with_reducible rfl
      rotate_left
      · simp only [Act.put, List.setIfInBounds_toArray, List.set_cons_zero, List.set_cons_succ, i64_w, i32_w]
        rfl
      refine one_ (i := 12) (N := some 90) #[true, true, true, true, true, true, true, true, true, true, true, true, true, true, false, false, false, false, false, false] rfl rfl (by kernel_rfl) (by decide) (fun K hK => ?_)
      refine goes_ Try.func12 (by kernel_rfl) rfl #[.slice AN (planN at_ l).length cN, .int .i64 (fk), .agg #[.int .i64 v.f0, .int .i64 v.f1, .slice A2 v.f2.length c2]] (by rfl) rfl rfl (by simp only [List.map_toArray, List.map_cons, List.map_nil]; rfl) ?_
      with_reducible refine (pattern_Go.calls kg AN cN (planN at_ l) (fk) v.f0 v.f1 A2 c2 v.f2 (wantL v ((allOf at_ l).drop k) k) _ CND.out hcN CVD.out hc2 HGO.out).mono ?_
      rintro e w7 ⟨rfl, hd⟩
      refine ⟨_, rfl, ?_⟩
      have uF7 := (hd.cell (World.block_lt_of_cell? _ _ uFd)).trans uFd
      have XE := Lib.hid (blk_below XD.out hd)
      have BE := Lib.hid (below_step BD.out hd)
      refine hK.out _ _ ⟨uF7, blk_cell XE.out 0, blk_cell XE.out 1, blk_cell XE.out 2⟩ (fun hHeld => ?_)
      clear hK K
      refine norm_ (a' := ?_) ?_ ?_
      rotate_left
      · show Act.put _ (some 90) _ = _
        simp only [Act.put, List.setIfInBounds_toArray, List.set_cons_zero, List.set_cons_succ, i64_w, i32_w]
        rfl
      refine pure_ (i := 14) (N := some 92) (v := ?_) (a' := ?_) #[true, true, true, true, true, true, true, true, true, true, true, true, true, true, true, false, false, false, false, false] rfl rfl (by kernel_rfl) (fun _ _ _ h => h) (Or.inl ⟨by rfl, ?_⟩) ?_ ?_
      rotate_left
      · intro w'
        go_simp
        with_reducible rfl
      rotate_left
      · simp only [Act.put, List.setIfInBounds_toArray, List.set_cons_zero, List.set_cons_succ, i64_w, i32_w]
        rfl
      refine pure_ (i := 15) (N := some 93) (v := ?_) (a' := ?_) #[true, true, true, true, true, true, true, true, true, true, true, true, true, true, true, true, false, false, false, false] rfl rfl (by kernel_rfl) (fun _ _ _ h => h) (Or.inl ⟨by rfl, ?_⟩) ?_ ?_
      rotate_left
      · intro w'
        go_simp
        with_reducible rfl
      rotate_left
      · simp only [Act.put, List.setIfInBounds_toArray, List.set_cons_zero, List.set_cons_succ, i64_w, i32_w]
        rfl
      refine pure_ (i := 16) (N := some 94) (v := ?_) (a' := ?_) #[true, true, true, true, true, true, true, true, true, true, true, true, true, true, true, true, true, false, false, false] rfl rfl (by kernel_rfl) (fun _ _ _ h => h) (Or.inl ⟨by rfl, ?_⟩) ?_ ?_
      rotate_left
      · intro w'
        go_simp
        with_reducible rfl
      rotate_left
      · simp only [Act.put, List.setIfInBounds_toArray, List.set_cons_zero, List.set_cons_succ, i64_w, i32_w]
        rfl
      refine last_ (i := 17) (N := some 95) #[true, true, true, true, true, true, true, true, true, true, true, true, true, true, true, true, true, true, false, false] rfl rfl (by kernel_rfl) (by decide) (fun K hK => ?_)
      refine goes_ Try.func7 (by kernel_rfl) rfl #[] (by rfl) rfl rfl (by simp only [List.map_toArray, List.map_nil]) ?_
      with_reducible refine (lives_true _).mono ?_
      rintro e w8 ⟨rfl, hd8⟩
      refine ⟨_, rfl, ?_⟩
      have BF := Lib.hid (below_step BE.out hd8)
      refine hK.out _ _ ?_
      clear hK K
      refine norm_ (a' := ?_) ?_ ?_
      rotate_left
      · show Act.put _ (some 95) _ = _
        simp only [Act.put, List.setIfInBounds_toArray, List.set_cons_zero, List.set_cons_succ, i64_w, i32_w]
        rfl
      refine pure_ (i := 18) (N := some 96) (v := ?_) (a' := ?_) #[true, true, true, true, true, true, true, true, true, true, true, true, true, true, true, true, true, true, true, false] rfl rfl (by kernel_rfl) (fun _ _ _ h => h) (Or.inl ⟨by rfl, ?_⟩) ?_ ?_
      rotate_left
      · intro w'
        go_simp
        with_reducible rfl
      rotate_left
      · simp only [Act.put, List.setIfInBounds_toArray, List.set_cons_zero, List.set_cons_succ, i64_w, i32_w]
        rfl
      refine pure_ (i := 19) (N := some 8) (v := ?_) (a' := ?_) #[true, true, true, true, true, true, true, true, true, true, true, true, true, true, true, true, true, true, true, true] rfl rfl (by kernel_rfl) (fun _ _ _ h => h) (Or.inl ⟨by rfl, ?_⟩) ?_ ?_
      rotate_left
      · intro w'
        go_simp
        with_reducible rfl
      rotate_left
      · simp only [Act.put, List.setIfInBounds_toArray, List.set_cons_zero, List.set_cons_succ, i64_w, i32_w]
        rfl
      refine done_ (by kernel_rfl) ?_
      go_wp2
      go_ret
      exact ⟨rfl, BF.out⟩
end Go.Proofs.Ytelheeekbihfcaa.Pt
