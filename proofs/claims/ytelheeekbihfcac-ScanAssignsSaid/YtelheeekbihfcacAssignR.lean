/- One round of the program's Assign. -/
import Derived.Test.YtelheeekbihfcacAssignA
import Derived.Test.YtelheeekbihfcacRound
import Derived.Sort.CutIn
set_option linter.unusedVariables false
set_option linter.unusedSimpArgs false
namespace Go.Proofs.Ytelheeekbihfcac.Srt
open Go.RowKit Go.Proofs Go.Proofs.Ytelheeekbihfcac.PScanAssigns Go.Proofs.YtelheeekbihfcacW.PrintWords Go.Proofs.YtelheeekbihfcacW.PrintMore
attribute [local go_sem] Oper.semAt_some

/-- The known blocks in a round: the life, the row of places, the frame. -/
def known (B : Nat) (a : S40) (c : Nat × List Nat) (K : Keys) (l : List S40) (A : Option Addr) (c0 regs : Nat) (st : St) (v : Value) : List (Nat × Obj) :=
  (B, .cells #[.int .i64 a.f0, .int .i64 a.f1] 40 (0, 0)) :: (c.1, .cells (ordRow c.2) 3 (0, 0)) :: frame K l A c0 regs st v

theorem below_comp {B : Nat} {w w1 w2 : World} (h : Below B w w1) (k : Below B w1 w2) : Below B w w2 :=
  ⟨k.os.trans h.os, k.tape.trans h.tape, k.output.trans h.output, Nat.le_trans h.size k.size, fun i hi => (k.block i hi).trans (h.block i hi)⟩

theorem KeepsOthers.of_keepS {S : Nat → Prop} {W W' : World} (h : KeepS S W W') (hS : ∀ k, S k → ∀ o, W.heap[k]? = some o → o.isCells = true) : KeepsOthers W W' :=
  ⟨h.size, fun k o hk ho => (h.block k (blk_lt hk) (fun e => by have := hS k e o hk; rw [this] at ho; cases ho)).trans hk⟩

theorem slot_st (l : List S40) (A : Option Addr) (c0 regs n0 B : Nat) (a : S40) (c : Nat × List Nat) (K : Keys) (st : St) (v : Value) (i : Nat) (w W : World) (hr : Kd.C k40 w A l.length l)
    (H : HC (known B a c K l A c0 regs st v) W) (hB : Below w.heap.size w W) (hK : KeysOk K w n0) (hn : w.heap.size ≤ n0) (hv : W.ownsRow w.heap.size 3 1 v st.sp.length (nums .i64 (natRow st.sp))) (ho : ∀ k, v.ownBlock = some k → n0 + 2 ≤ k ∧ k ≠ c.1)
    (hrl : st.rooms.length = l.length) (hi : i < l.length) (hlen : l.length ≤ 10000) (hsl : st.sp.length ≤ 10000) (hsp : ∀ k, k ∈ st.sp → k < l.length ∧ ∃ m : Nat, 1 ≤ m ∧ m ≤ st.sp.length + 1 ∧ rd st.rooms k = -(m : Int)) (hc1 : n0 + 2 ≤ c.1) (hBn : n0 + 2 ≤ B) :
    Calls Try.prog 17 #[.int .i64 i, .pointer (some ⟨K.bp, 0, none⟩), .pointer (some ⟨K.bl, 0, none⟩), .pointer (some ⟨K.br, 0, none⟩), .pointer (some ⟨K.bs, 0, none⟩)] W fun e W' => e = .returned (.tuple #[]) ∧ ∃ s v', SlotIs l st.rooms st.sp i s ∧
      HC (known B a c K l A c0 regs { st with rooms := st.rooms.set i (-(s : Int)), slots := mx st.slots s, sp := st.sp ++ [i] } v') W' ∧ W'.ownsRow w.heap.size 3 1 v' (st.sp ++ [i]).length (nums .i64 (natRow (st.sp ++ [i]))) ∧
      (∀ k, v'.ownBlock = some k → n0 + 2 ≤ k ∧ k ≠ c.1) ∧ Below w.heap.size w W' ∧ KeepsOthers W W' := by
  have hk := hK.hi
  have hvn : ∀ b, b < n0 → some b ≠ v.ownBlock := fun b hb e => by have := ho b e.symm; omega
  have n1 := H.ne 8 3 rfl rfl (by decide)
  have n2 := H.ne 4 5 rfl rfl (by decide)
  refine (slot_any l A c0 K.bp K.bl K.br K.bs K.Rr v st.sp st.rooms st.slots i W w.heap.size (H.at 2 rfl) (Kd.C_below hr hB) (H.at 8 rfl) hv (H.at 3 rfl) (H.at 5 rfl) hrl (H.at 4 rfl) n1 n2
    (hvn _ hk.2.2.2.1) (hvn _ hk.2.2.1) (hvn _ hk.2.2.2.2.2.2.1) hB.size hi hlen hsl hsp).mono ?_
  rintro e W' ⟨rfl, s, v', h1, h2, h3, h4, h5, h6, h7⟩
  have hT : ∀ (j : Nat) (b : Nat) (o : Obj), (known B a c K l A c0 regs st v)[j]? = some (b, o) → j ≠ 8 → j ≠ 5 → j ≠ 4 → some b ≠ v.ownBlock → W'.heap[b]? = some o := fun j b o hj e1 e2 e3 e4 =>
    h7.blk (H.at j hj) (by
      rintro (e | e | e | e)
      · exact H.ne j 8 hj rfl e1 e
      · exact H.ne j 5 hj rfl e2 e
      · exact H.ne j 4 hj rfl e3 e
      · exact e4 e)
  have hBv : some B ≠ v.ownBlock := own_ne hv (H.at 0 rfl) (by decide)
  have hcv : some c.1 ≠ v.ownBlock := fun e => (ho _ e.symm).2 rfl
  refine ⟨rfl, s, v', h1, ⟨fun p hp => ?_, H.nd⟩, h3, fun k hk' => ?_, ?_, ?_⟩
  · simp only [known, frame, List.mem_cons, List.not_mem_nil, or_false] at hp
    rcases hp with rfl | rfl | rfl | rfl | rfl | rfl | rfl | rfl | rfl | rfl | rfl | rfl | rfl | rfl
    · exact hT 0 _ _ rfl (by decide) (by decide) (by decide) hBv
    · exact hT 1 _ _ rfl (by decide) (by decide) (by decide) hcv
    · exact hT 2 _ _ rfl (by decide) (by decide) (by decide) (hvn _ (by simp only; omega))
    · exact hT 3 _ _ rfl (by decide) (by decide) (by decide) (hvn _ (by simp only; omega))
    · exact h5
    · exact h4
    · exact hT 6 _ _ rfl (by decide) (by decide) (by decide) (hvn _ (by simp only; omega))
    · exact hT 7 _ _ rfl (by decide) (by decide) (by decide) (hvn _ (by simp only; omega))
    · exact h2
    · exact hT 9 _ _ rfl (by decide) (by decide) (by decide) (hvn _ (by simp only; omega))
    · exact hT 10 _ _ rfl (by decide) (by decide) (by decide) (hvn _ (by simp only; omega))
    · exact hT 11 _ _ rfl (by decide) (by decide) (by decide) (hvn _ (by simp only; omega))
    · exact hT 12 _ _ rfl (by decide) (by decide) (by decide) (hvn _ (by simp only; omega))
    · exact hT 13 _ _ rfl (by decide) (by decide) (by decide) (hvn _ (by simp only; omega))
  · have l1 := blk_lt (H.at 0 rfl)
    have l2 := blk_lt (H.at 1 rfl)
    rcases h6 with h6 | ⟨b, h6, hb⟩
    · rw [h6] at hk'; exact ho k hk'
    · rw [h6] at hk'
      injection hk' with hk'
      subst hk'
      exact ⟨by omega, by omega⟩
  · have hl := hK.lo
    refine below_comp hB (h7.below hB.size ?_)
    rintro k (rfl | rfl | rfl | e)
    · omega
    · omega
    · omega
    · exact own_base hv k e.symm
  · refine KeepsOthers.of_keepS h7 ?_
    rintro k (rfl | rfl | rfl | e) o hk'
    · rw [H.at 8 rfl] at hk'; cases hk'; rfl
    · rw [H.at 5 rfl] at hk'; cases hk'; rfl
    · rw [H.at 4 rfl] at hk'; cases hk'; rfl
    · obtain ⟨cells, hc⟩ := own_typed hv k e.symm
      rw [hc] at hk'; cases hk'; rfl

/-- The body of the first range over a function in a text. -/
def findRange : Code → Option (Code × Code)
  | .rangeFunc _ _ a b => some (a, b)
  | .seq x y => (findRange x).or (findRange y)
  | .block _ c => findRange c
  | .scope c => findRange c
  | _ => none

theorem goesOn_outgrown (W : World) (K : World → Prop) : ¬ LetsOut (Rng.goesOn W K) := fun ⟨_, _, h⟩ => h

theorem round_fin {l : List S40} {A : Option Addr} {c0 regs n0 B : Nat} {a : S40} {c : Nat × List Nat} {pre : List Nat} {x : Nat} {K : Keys} {w W W' : World} {ac : Act} (st : St) (v : Value) (h1 : Run l regs (pre ++ [x]) st)
    (h2 : HC (known B a c K l A c0 regs st v) W') (h3 : W'.ownsRow w.heap.size 3 1 v st.sp.length (nums .i64 (natRow st.sp))) (h4 : ∀ k, v.ownBlock = some k → n0 + 2 ≤ k ∧ k ≠ c.1) (h5 : Below w.heap.size w W') (h6 : KeepsOthers W W')
    (h7 : (pre ++ [x]) <+: c.2) (h8 : Order l c.2) (h9 : n0 + 2 ≤ c.1) : Rng.goesOn W (Fr K l A c0 regs w n0 c (pre ++ [x])) .normal ac W' :=
  ⟨h6, ⟨⟨st, v, h1, h2.sub (List.sublist_cons_self _ _), h3, h4⟩, h5, h7, h8, h9⟩⟩

set_option maxRecDepth 100000 in
set_option maxHeartbeats 4000000 in
theorem round_body (asg bd : Code) (hcode : (Try.f8.body.bind findRange) = some (asg, bd)) (l : List S40) (A : Option Addr) (c0 regs n0 lp B x : Nat) (c : Nat × List Nat) (pre : List Nat) (K : Keys) (st : St) (v : Value) (w W : World) (hr : Kd.C k40 w A l.length l) (hc0 : l.length ≤ c0)
    (H : HC (known B (rd_T40 l x) c K l A c0 regs st v) W) (hB : Below w.heap.size w W) (hK : KeysOk K w n0) (hn : w.heap.size ≤ n0) (hv : W.ownsRow w.heap.size 3 1 v st.sp.length (nums .i64 (natRow st.sp))) (ho : ∀ k, v.ownBlock = some k → n0 + 2 ≤ k ∧ k ≠ c.1)
    (hlen : l.length ≤ 10000) (hreg : regs ≤ 64) (hc1 : n0 + 2 ≤ c.1) (hBn : n0 + 2 ≤ B) (hrun : Run l regs pre st) (hpre : (pre ++ [x]) <+: c.2) (hord : Order l c.2)
    (u3 u7 u14 u15 u16 u17 u18 u19 u20 u21 u22 u23 u24 u25 u26 u27 u28 u29 u30 u31 u32 u33 u34 u35 u36 u37 u38 u39 u40 u41 u42 u43 u44 u45 u46 u47 u48 u49 u50 u51 u52 u53 u54 u55 u56 u57 u58 u59 u60 u61 u62 u63 u64 u65 u66 u67 u68 u69 u70 u71 u72 u73 u74 u75 u76 u77 u78 u79 u80 u81 u82 u83 u84 u85 u86 u87 u88 u89 u90 u91 u92 u93 u94 u95 u96 u97 u98 u99 u100 u101 u102 u103 u104 u105 u106 u107 u108 u109 u110 u111 u112 u113 u114 u115 u116 u117 u118 u119 u120 u121 u122 u123 u124 u125 u126 u127 u128 u129 u130 u131 u132 u133 u134 u135 u136 u137 u138 : Value) :
    bd.wpIn (Fence.wide.inRound lp) 4 Try.prog (Rng.goesOn W (Fr K l A c0 regs w n0 c (pre ++ [x]))) { tmps := List.toArray ((.slice A l.length c0) :: (.int .i64 regs) :: (.pointer (some ⟨K.bl, 0, none⟩)) :: (u3) :: (.pointer (some ⟨K.br, 0, none⟩)) :: (.pointer (some ⟨K.bs, 0, none⟩)) :: (.pointer (some ⟨K.bh, 0, none⟩)) :: (u7) :: (.pointer (some ⟨K.bp, 0, none⟩)) :: (.pointer (some ⟨K.bf, 0, none⟩)) :: (.pointer (some ⟨K.bw, 0, none⟩)) :: (.pointer (some ⟨K.bn, 0, none⟩)) :: (.int .i64 x) :: (.pointer (some ⟨B, 0, none⟩)) :: (u14) :: (u15) :: (u16) :: (u17) :: (u18) :: (u19) :: (u20) :: (u21) :: (u22) :: (u23) :: (u24) :: (u25) :: (u26) :: (u27) :: (u28) :: (u29) :: (u30) :: (u31) :: (u32) :: (u33) :: (u34) :: (u35) :: (u36) :: (u37) :: (u38) :: (u39) :: (u40) :: (u41) :: (u42) :: (u43) :: (u44) :: (u45) :: (u46) :: (u47) :: (u48) :: (u49) :: (u50) :: (u51) :: (u52) :: (u53) :: (u54) :: (u55) :: (u56) :: (u57) :: (u58) :: (u59) :: (u60) :: (u61) :: (u62) :: (u63) :: (u64) :: (u65) :: (u66) :: (u67) :: (u68) :: (u69) :: (u70) :: (u71) :: (u72) :: (u73) :: (u74) :: (u75) :: (u76) :: (u77) :: (u78) :: (u79) :: (u80) :: (u81) :: (u82) :: (u83) :: (u84) :: (u85) :: (u86) :: (u87) :: (u88) :: (u89) :: (u90) :: (u91) :: (u92) :: (u93) :: (u94) :: (u95) :: (u96) :: (u97) :: (u98) :: (u99) :: (u100) :: (u101) :: (u102) :: (u103) :: (u104) :: (u105) :: (u106) :: (u107) :: (u108) :: (u109) :: (u110) :: (u111) :: (u112) :: (u113) :: (u114) :: (u115) :: (u116) :: (u117) :: (u118) :: (u119) :: (u120) :: (u121) :: (u122) :: (u123) :: (u124) :: (u125) :: (u126) :: (u127) :: (u128) :: (u129) :: (u130) :: (u131) :: (u132) :: (u133) :: (u134) :: (u135) :: (u136) :: (u137) :: (u138) :: []), defers := [] } W := by
  simp only [Try.f8, findRange, Option.bind, Option.or] at hcode
  injection hcode with hcode
  injection hcode with hc1 hc2
  subst hc1 hc2
  have hxl : x < l.length := by
    have : x ∈ List.range l.length := hord.perm.mem_iff.1 (hpre.subset (by simp))
    exact List.mem_range.1 this
  have hprel : ∀ k, k ∈ pre → k < l.length := fun k hk => List.mem_range.1 (hord.perm.mem_iff.1 (hpre.subset (List.mem_append_left _ hk)))
  have hnd : (pre ++ [x]).Nodup := (hord.perm.nodup_iff.2 List.nodup_range).sublist hpre.sublist
  have hnd2 := List.nodup_append.1 hnd
  have hI := hrun.inv hnd2.1 hprel
  have hplen : pre.length < l.length := by
    have h1 := hpre.length_le
    rw [hord.length] at h1
    simp at h1
    omega
  have hspl : st.sp.length ≤ 10000 := by have := hI.spl; omega
  have hnb : (st.now : Int) ≤ 10000 := by have := hI.now; omega
  have HI := Lib.hid hI
  have HH := Lib.hid H
  have HB := Lib.hid hB
  have HV := Lib.hid hv
  have HO := Lib.hid ho
  have HR := Lib.hid hr
  have HKo := Lib.hid hK
  have HORD := Lib.hid hord
  have HPRE := Lib.hid hpre
  have HPL := Lib.hid hprel
  have HRUN := Lib.hid hrun
  have HND := Lib.hid hnd
  clear H hB hv ho hr hK hord hpre hprel hrun hnd hnd2 hI hplen
  have q1 : W.cell? ⟨K.bn, 0, none⟩ = some (.int .i64 st.now) := blk_cell (HH.out.at 12 rfl) 0
  have q2 : W.frozen? ⟨K.bn, 0, none⟩ = false := blk_frozen (HH.out.at 12 rfl) 0
  gi_upto_region 17 with fail
  gi_cut [] from 51 (fun wx => Hid (W.setCell ⟨K.bn, 0, none⟩ (.int .i64 ((st.now : Int) + 1)) = wx))
  case first =>
    gi_wp2
    go_meet
    exact Lib.hid rfl
  case rest =>
    have H1 : HC (known B (rd_T40 l x) c K l A c0 regs { st with now := st.now + 1 } v) wc := by
      have h := HH.out.set 12 rfl 0 (.int .i64 ((st.now : Int) + 1))
      rw [hcut.out] at h
      exact h
    have hbnv : some K.bn ≠ v.ownBlock := fun e => by have h1 := HO.out _ e.symm; have h2 := HKo.out.hi; omega
    have V1 : wc.ownsRow w.heap.size 3 1 v st.sp.length (nums .i64 (natRow st.sp)) := by rw [← hcut.out]; exact own_setCell HV.out hbnv _
    have B1 : Below w.heap.size w wc := by rw [← hcut.out]; exact HB.out.setCell (p := ⟨K.bn, 0, none⟩) (by have h2 := HKo.out.lo; simp only; omega) _
    have KO1 : KeepsOthers W wc := by rw [← hcut.out]; exact KeepsOthers.setCell _ _ _
    have HH1 := Lib.hid H1
    have HV1 := Lib.hid V1
    have HB1 := Lib.hid B1
    have HKO1 := Lib.hid KO1
    clear H1 V1 B1 KO1 hbnv hcut q1 q2 HH HV HB
    obtain ⟨w1, rfl⟩ : ∃ w1 : World, w1 = wc := ⟨_, rfl⟩
    have q1 : w1.cell? ⟨K.bn, 0, none⟩ = some (.int .i64 ((st.now : Int) + 1)) := blk_cell (HH1.out.at 12 rfl) 0
    have q2 : w1.cell? ⟨K.bw, 0, none⟩ = some (.slice (some ⟨K.Rw, 0, none⟩) l.length l.length) := blk_cell (HH1.out.at 11 rfl) 0
    obtain ⟨v0, hv0⟩ : ∃ v0, w1.cell? ⟨K.Rw, x, none⟩ = some v0 := by
      rw [blk_cell (HH1.out.at 10 rfl) x, intRow_get _ _ (by rw [HI.out.wl]; exact hxl)]; exact ⟨_, rfl⟩
    have hf0 : w1.frozen? ⟨K.Rw, x, none⟩ = false := blk_frozen (HH1.out.at 10 rfl) x
    have g1 : (0 : Int) ≤ x := by omega
    have g2 : (x : Int) < l.length := by omega
    gi_upto_region 18 with fail
    gi_cut [] from 51 (fun wx => Hid (w1.setCell ⟨K.Rw, x, none⟩ (.int .i64 ((st.now : Int) + 1)) = wx))
    case first =>
      gi_wp2
      go_meet
      exact Lib.hid rfl
    case rest =>
      obtain ⟨st1, hst1⟩ : ∃ st1 : St, st1 = { st with now := st.now + 1, wh := st.wh.set x ((st.now : Int) + 1) } := ⟨_, rfl⟩
      have H1 : HC (known B (rd_T40 l x) c K l A c0 regs st1 v) wc := by
        have h := HH1.out.set 10 rfl x (.int .i64 ((st.now : Int) + 1))
        rw [hcut.out, intRow_set] at h
        rw [hst1]
        exact h
      have hbnv : some K.Rw ≠ v.ownBlock := fun e => by have h1 := HO.out _ e.symm; have h2 := HKo.out.hi; omega
      have V1 : wc.ownsRow w.heap.size 3 1 v st1.sp.length (nums .i64 (natRow st1.sp)) := by rw [← hcut.out, hst1]; exact own_setCell HV1.out hbnv _
      have B1 : Below w.heap.size w wc := by rw [← hcut.out]; exact HB1.out.setCell (p := ⟨K.Rw, x, none⟩) (by have h2 := HKo.out.lo; simp only; omega) _
      have KO1 : KeepsOthers W wc := by rw [← hcut.out]; exact HKO1.out.trans (KeepsOthers.setCell _ _ _)
      have HH2 := Lib.hid H1
      have HV2 := Lib.hid V1
      have HB2 := Lib.hid B1
      have HKO2 := Lib.hid KO1
      clear H1 V1 B1 KO1 hbnv hcut q1 q2 hv0 hf0 HH1 HV1 HB1 HKO1
      obtain ⟨w2, rfl⟩ : ∃ w2 : World, w2 = wc := ⟨_, rfl⟩
      have q1 : w2.cell? ⟨K.bh, 0, none⟩ = some (.slice (some ⟨K.Rh, 0, none⟩) regs regs) := blk_cell (HH2.out.at 7 rfl) 0
      have HST1 := Lib.hid hst1
      clear hst1
      gi_wp2
      gi_loopw [60, 14, 15] (fun vr vw va wr => ∃ (r worst : Nat) (at_ : Int), vr = .int .i64 r ∧ vw = .int .i64 worst ∧ va = .int .i64 at_ ∧ r ≤ regs ∧ worst < l.length ∧ -1 ≤ at_ ∧ at_ < 64 ∧ Hid (HC (known B (rd_T40 l x) c K l A c0 regs st1 v) wr) ∧ Hid (wr.ownsRow w.heap.size 3 1 v st1.sp.length (nums .i64 (natRow st1.sp))) ∧ Hid (Below w.heap.size w wr) ∧ Hid (KeepsOthers W wr) ∧ Hid (look l st1.wh x st1.held 0 x (-1) = look l st1.wh x (st1.held.drop r) r worst at_)) (fun vr _ _ _ => regs - (intOf vr).toNat)
      case atStart => exact ⟨0, x, -1, by go_num, rfl, rfl, Nat.zero_le _, hxl, by omega, by omega, HH2, HV2, HB2, HKO2, Lib.hid (by rw [List.drop_zero])⟩
      case round =>
        obtain ⟨r, worst, at_, rfl, rfl, rfl, hr, hwl, ha0, ha1, L1, L2, L3, L4, L5⟩ := hrel
        have es : st1.held = st.held := by rw [HST1.out]
        by_cases hlt : r < regs
        · have q1 := blk_cell (L1.out.at 6 rfl) r
          rw [es, intRow_get _ _ (by rw [HI.out.hl]; exact hlt)] at q1
          have g3 : (0 : Int) ≤ r := by omega
          have g4 : (r : Int) < regs := by omega
          obtain ⟨hd, hhd⟩ : ∃ hd : Int, rd st.held (r : Int) = hd := ⟨_, rfl⟩
          rw [hhd] at q1
          have HHD := Lib.hid hhd
          have hcase : hd = -1 ∨ ∃ h : Nat, hd = h ∧ h ∈ pre ∧ rd st.rooms h = r := by rw [← hhd]; exact HI.out.held r hlt
          have HCASE := Lib.hid hcase
          clear hhd
          gi_wp2
          gi_cut [76, 123, 124, 125, 126, 127, 128, 129, 130, 131, 132, 133, 134, 135, 136, 137, 138] from 65 (fun s s123 s124 s125 s126 s127 s128 s129 s130 s131 s132 s133 s134 s135 s136 s137 s138 wx => (s123 = u123 ∧ s124 = u124 ∧ s125 = u125 ∧ s126 = u126 ∧ s127 = u127 ∧ s128 = u128 ∧ s129 = u129 ∧ s130 = u130 ∧ s131 = u131 ∧ s132 = u132 ∧ s133 = u133 ∧ s134 = u134 ∧ s135 = u135 ∧ s136 = u136 ∧ s137 = u137 ∧ s138 = u138) ∧ s = .bool (decide (hd < 0 ∨ To l hd.toNat ≤ From l x)) ∧ Hid (∃ nq, wr.drewN nq = wx))
          case first =>
            rcases hcase with rfl | ⟨h, rfl, hmem, hroom⟩
            · refine Rng.wpIn_round_quiet (by kernel_rfl) (by kernel_rfl) (by kernel_rfl) ?_
              repeat (go_big_quiet_step (fail))
              refine wpQuiet_nil ?_
              intro _ hw'
              obtain ⟨nq, hw''⟩ := hw'
              subst hw''
              gi_wp2
              go_meet
              exact ⟨(⟨rfl, rfl, rfl, rfl, rfl, rfl, rfl, rfl, rfl, rfl, rfl, rfl, rfl, rfl, rfl, rfl⟩), by simp, Lib.hid ⟨_, rfl⟩⟩
            · have hhl := HPL.out h hmem
              have cl : wr.cell? ⟨K.bl, 0, none⟩ = some (.slice A l.length c0) := blk_cell (L1.out.at 2 rfl) 0
              have cB : wr.cell? ⟨B, 0, none⟩ = some (.int .i64 (rd_T40 l x).f0) := blk_cell (L1.out.at 0 rfl) 0
              obtain ⟨ad, e1, hk1, hk2⟩ := at_T40 (Kd.C_below HR.out L3.out) (h : Int) (by omega) (by omega)
              rw [Int.toNat_natCast] at hk1 hk2
              have g5 : (0 : Int) ≤ h := by omega
              have g6 : (h : Int) < l.length := by omega
              have g7 : ¬ (h : Int) < 0 := by omega
              rw [e1] at cl
              clear HCASE e1
              refine Rng.wpIn_round_quiet (by kernel_rfl) (by kernel_rfl) (by kernel_rfl) ?_
              repeat (go_big_quiet_step (fail))
              refine wpQuiet_nil ?_
              intro _ hw'
              obtain ⟨nq, hw''⟩ := hw'
              subst hw''
              gi_wp2
              go_meet
              refine ⟨(⟨rfl, rfl, rfl, rfl, rfl, rfl, rfl, rfl, rfl, rfl, rfl, rfl, rfl, rfl, rfl, rfl⟩), ?_, Lib.hid ⟨_, rfl⟩⟩
              simp only [To, From, Int.toNat_natCast]
              exact congrArg Value.bool (decide_eq_decide.2 ⟨Or.inr, fun hh => hh.resolve_left (by omega)⟩)
          case rest =>
            obtain ⟨⟨rfl, rfl, rfl, rfl, rfl, rfl, rfl, rfl, rfl, rfl, rfl, rfl, rfl, rfl, rfl, rfl⟩, rfl, hcut⟩ := hcut
            obtain ⟨nq, hnq⟩ := hcut.out
            have M1 := Lib.hid (show HC (known B (rd_T40 l x) c K l A c0 regs st1 v) wc by rw [← hnq]; exact ⟨L1.out.get, L1.out.nd⟩)
            have M2 := Lib.hid (show wc.ownsRow w.heap.size 3 1 v st1.sp.length (nums .i64 (natRow st1.sp)) by rw [← hnq]; exact L2.out)
            have M3 := Lib.hid (show Below w.heap.size w wc by rw [← hnq]; exact ⟨L3.out.os, L3.out.tape, L3.out.output, L3.out.size, L3.out.block⟩)
            have M4 := Lib.hid (show KeepsOthers W wc by rw [← hnq]; exact ⟨L4.out.size, L4.out.same⟩)
            clear L1 L2 L3 L4 hcut hnq q1
            obtain ⟨w3, rfl⟩ : ∃ w3 : World, w3 = wc := ⟨_, rfl⟩
            by_cases hfree : hd < 0 ∨ To l hd.toNat ≤ From l x
            · rw [decide_eq_true hfree]
              have LK := Lib.hid (show look l st1.wh x st.held 0 x (-1) = (some r, worst, at_) by
                have h := L5.out
                rw [es, rd_drop st.held r (by rw [HI.out.hl]; exact hlt), HHD.out] at h
                rw [h]
                simp only [look]
                rw [if_pos hfree])
              clear hcase HCASE L5 hfree
              gi_wp2
              have p1 : w3.cell? ⟨K.bh, 0, none⟩ = some (.slice (some ⟨K.Rh, 0, none⟩) regs regs) := blk_cell (M1.out.at 7 rfl) 0
              have p2 : w3.cell? ⟨K.br, 0, none⟩ = some (.slice (some ⟨K.Rr, 0, none⟩) l.length l.length) := blk_cell (M1.out.at 3 rfl) 0
              have er : st1.rooms = st.rooms := by rw [HST1.out]
              obtain ⟨v1, hv1⟩ : ∃ v1, w3.cell? ⟨K.Rh, r, none⟩ = some v1 := by
                rw [blk_cell (M1.out.at 6 rfl) r, intRow_get _ _ (by rw [es, HI.out.hl]; exact hlt)]; exact ⟨_, rfl⟩
              have hf1 : w3.frozen? ⟨K.Rh, r, none⟩ = false := blk_frozen (M1.out.at 6 rfl) r
              have N1 := Lib.hid (show HC (known B (rd_T40 l x) c K l A c0 regs { st1 with held := st1.held.set r x } v) (w3.setCell ⟨K.Rh, r, none⟩ (.int .i64 x)) by
                have h := M1.out.set 6 rfl r (.int .i64 x)
                rw [intRow_set] at h
                exact h)
              obtain ⟨v2, hv2⟩ : ∃ v2, (w3.setCell ⟨K.Rh, r, none⟩ (.int .i64 x)).cell? ⟨K.Rr, x, none⟩ = some v2 := by
                rw [blk_cell (N1.out.at 5 rfl) x, intRow_get _ _ (by simp only; rw [er, HI.out.rl]; exact hxl)]; exact ⟨_, rfl⟩
              have hf2 : (w3.setCell ⟨K.Rh, r, none⟩ (.int .i64 x)).frozen? ⟨K.Rr, x, none⟩ = false := blk_frozen (N1.out.at 5 rfl) x
              have N2 := Lib.hid (show HC (known B (rd_T40 l x) c K l A c0 regs { st1 with held := st1.held.set r x, rooms := st1.rooms.set x r } v) ((w3.setCell ⟨K.Rh, r, none⟩ (.int .i64 x)).setCell ⟨K.Rr, x, none⟩ (.int .i64 r)) by
                have h := N1.out.set 5 rfl x (.int .i64 r)
                rw [intRow_set] at h
                exact h)
              refine Rng.wpIn_round_held (S := fun w' => w'.cell? ⟨K.bh, 0, none⟩ = some (.slice (some ⟨K.Rh, 0, none⟩) regs regs) ∧ w'.cell? ⟨K.br, 0, none⟩ = some (.slice (some ⟨K.Rr, 0, none⟩) l.length l.length)) (by kernel_rfl) (by kernel_rfl) ?_
              have hS : w3.drew.cell? ⟨K.bh, 0, none⟩ = some (.slice (some ⟨K.Rh, 0, none⟩) regs regs) ∧ w3.drew.cell? ⟨K.br, 0, none⟩ = some (.slice (some ⟨K.Rr, 0, none⟩) l.length l.length) := ⟨p1, p2⟩
              refine wpAnyH_take (i := 0) (v := .slice (some ⟨K.Rh, 0, none⟩) regs regs) rfl (by kernel_rfl) (by kernel_rfl) (by kernel_rfl) (fun _ _ _ h => by cases h.1) (Or.inl ⟨by rfl, ?_⟩) hS ?_
              · intro w hSw
                simp only [List.getElem_toArray, List.getElem_cons_zero, List.getElem_cons_succ]
                (try dsimp only at hSw)
                go_simp
              simp only [List.getElem_toArray, List.getElem_cons_zero, List.getElem_cons_succ, Act.put, List.setIfInBounds_toArray, List.set_cons_zero, List.set_cons_succ]
              refine wpAnyH_take (i := 1) (v := .int .i64 r) rfl (by kernel_rfl) (by kernel_rfl) (by kernel_rfl) (fun _ _ _ h => by cases h.1) (Or.inl ⟨by rfl, ?_⟩) hS ?_
              · intro w hSw
                simp only [List.getElem_toArray, List.getElem_cons_zero, List.getElem_cons_succ]
                (try dsimp only at hSw)
                go_simp
              simp only [List.getElem_toArray, List.getElem_cons_zero, List.getElem_cons_succ, Act.put, List.setIfInBounds_toArray, List.set_cons_zero, List.set_cons_succ]
              refine wpAnyH_take (i := 2) (v := .slice (some ⟨K.Rr, 0, none⟩) l.length l.length) rfl (by kernel_rfl) (by kernel_rfl) (by kernel_rfl) (fun _ _ _ h => by cases h.1) (Or.inl ⟨by rfl, ?_⟩) hS ?_
              · intro w hSw
                simp only [List.getElem_toArray, List.getElem_cons_zero, List.getElem_cons_succ]
                (try dsimp only at hSw)
                go_simp
              simp only [List.getElem_toArray, List.getElem_cons_zero, List.getElem_cons_succ, Act.put, List.setIfInBounds_toArray, List.set_cons_zero, List.set_cons_succ]
              refine wpAnyH_take (i := 3) (v := .int .i64 x) rfl (by kernel_rfl) (by kernel_rfl) (by kernel_rfl) (fun _ _ _ h => by cases h.1) (Or.inl ⟨by rfl, ?_⟩) hS ?_
              · intro w hSw
                simp only [List.getElem_toArray, List.getElem_cons_zero, List.getElem_cons_succ]
                (try dsimp only at hSw)
                go_simp
              simp only [List.getElem_toArray, List.getElem_cons_zero, List.getElem_cons_succ, Act.put, List.setIfInBounds_toArray, List.set_cons_zero, List.set_cons_succ]
              refine wpAnyH_take (i := 4) (v := .int .i64 x) rfl (by kernel_rfl) (by kernel_rfl) (by kernel_rfl) (fun _ _ _ h => by cases h.1) (Or.inl ⟨by rfl, ?_⟩) hS ?_
              · intro w hSw
                simp only [List.getElem_toArray, List.getElem_cons_zero, List.getElem_cons_succ]
                (try dsimp only at hSw)
                go_simp
              simp only [List.getElem_toArray, List.getElem_cons_zero, List.getElem_cons_succ, Act.put, List.setIfInBounds_toArray, List.set_cons_zero, List.set_cons_succ]
              refine wpAnyH_take (i := 5) (v := .int .i64 r) rfl (by kernel_rfl) (by kernel_rfl) (by kernel_rfl) (fun _ _ _ h => by cases h.1) (Or.inl ⟨by rfl, ?_⟩) hS ?_
              · intro w hSw
                simp only [List.getElem_toArray, List.getElem_cons_zero, List.getElem_cons_succ]
                (try dsimp only at hSw)
                go_simp
              simp only [List.getElem_toArray, List.getElem_cons_zero, List.getElem_cons_succ, Act.put, List.setIfInBounds_toArray, List.set_cons_zero, List.set_cons_succ]
              refine wpAnyH_take (i := 6) (v := .pointer (some ⟨K.Rh, r, none⟩)) rfl (by kernel_rfl) (by kernel_rfl) (by kernel_rfl) (fun _ _ _ h => by cases h.1) (Or.inl ⟨by rfl, ?_⟩) hS ?_
              · intro w hSw
                simp only [List.getElem_toArray, List.getElem_cons_zero, List.getElem_cons_succ]
                (try dsimp only at hSw)
                go_simp
              simp only [List.getElem_toArray, List.getElem_cons_zero, List.getElem_cons_succ, Act.put, List.setIfInBounds_toArray, List.set_cons_zero, List.set_cons_succ]
              refine wpAnyH_ready (rs := [7]) (by kernel_rfl) (by simp) ?_
              refine AllReadyH.cons (o := _) rfl (fun KK hK => ?_) AllReadyH.nil
              simp only [List.getElem_toArray, List.getElem_cons_zero, List.getElem_cons_succ]
              go_simp
              refine hK.out _ _ ⟨blk_cell (N1.out.at 7 rfl) 0, blk_cell (N1.out.at 3 rfl) 0⟩ (fun hHeld => ?_)
              clear hS hK
              refine wpAnyH_take (i := 8) (v := .pointer (some ⟨K.Rr, x, none⟩)) rfl (by kernel_rfl) (by kernel_rfl) (by kernel_rfl) (fun _ _ _ h => by cases h.1) (Or.inl ⟨by rfl, ?_⟩) hHeld ?_
              · intro w hSw
                simp only [List.getElem_toArray, List.getElem_cons_zero, List.getElem_cons_succ]
                (try dsimp only at hSw)
                go_simp
              simp only [List.getElem_toArray, List.getElem_cons_zero, List.getElem_cons_succ, Act.put, List.setIfInBounds_toArray, List.set_cons_zero, List.set_cons_succ]
              refine wpAnyH_ready (rs := [9]) (by kernel_rfl) (by simp) ?_
              refine AllReadyH.cons (o := _) rfl (fun KK hK => ?_) AllReadyH.nil
              simp only [List.getElem_toArray, List.getElem_cons_zero, List.getElem_cons_succ]
              go_simp
              refine hK.out _ _ ⟨blk_cell (N2.out.at 7 rfl) 0, blk_cell (N2.out.at 3 rfl) 0⟩ (fun hHeld2 => ?_)
              refine wpAnyH_done (by kernel_rfl) ?_ _
              refine ⟨rfl, ?_⟩
              clear hK hHeld hHeld2
              have hlo := HKo.out.lo
              have hhi := HKo.out.hi
              have b1 : some K.Rh ≠ v.ownBlock := fun e => by have h1 := HO.out _ e.symm; omega
              have b2 : some K.Rr ≠ v.ownBlock := fun e => by have h1 := HO.out _ e.symm; omega
              obtain ⟨w9, hw9⟩ : ∃ w9, (w3.setCell ⟨K.Rh, r, none⟩ (.int .i64 x)).setCell ⟨K.Rr, x, none⟩ (.int .i64 r) = w9 := ⟨_, rfl⟩
              have G1 := Lib.hid (show HC (known B (rd_T40 l x) c K l A c0 regs { st1 with held := st1.held.set r x, rooms := st1.rooms.set x r } v) w9.drew by rw [← hw9]; exact ⟨N2.out.get, N2.out.nd⟩)
              have G2 := Lib.hid (show w9.drew.ownsRow w.heap.size 3 1 v st1.sp.length (nums .i64 (natRow st1.sp)) by rw [← hw9]; exact own_drew (own_setCell (own_setCell M2.out b1 _) b2 _))
              have G3 := Lib.hid (show Below w.heap.size w w9.drew by rw [← hw9]; exact ((M3.out.setCell (p := ⟨K.Rh, r, none⟩) (by simp only; omega) _).setCell (p := ⟨K.Rr, x, none⟩) (by simp only; omega) _).drew)
              have G4 := Lib.hid (show KeepsOthers W w9.drew by rw [← hw9]; exact ((M4.out.trans (KeepsOthers.setCell _ _ _)).trans (KeepsOthers.setCell _ _ _)).trans ⟨Nat.le_refl _, fun _ _ h _ => h⟩)
              gi_wp2
              rw [hw9]
              refine round_fin _ v ?_ G1.out G2.out HO.out G3.out G4.out HPRE.out HORD.out hc1
              have hs := Step.free (l := l) (st := st) (i := x) r worst at_ (by have h := LK.out; rw [HST1.out] at h; exact h)
              have h := Run.snoc HRUN.out hs
              rw [HST1.out]
              exact h
            · rw [decide_eq_false hfree]
              obtain ⟨h, rfl, hmem, hroom⟩ := HCASE.out.resolve_left (by omega)
              have hhl := HPL.out h hmem
              have HFREE := Lib.hid hfree
              clear hcase HCASE hfree
              gi_wp2
              gi_cut [119, 123, 124, 125, 126, 127, 128, 129, 130, 131, 132, 133, 134, 135, 136, 137, 138] from 85 (fun s s123 s124 s125 s126 s127 s128 s129 s130 s131 s132 s133 s134 s135 s136 s137 s138 wx => (s123 = u123 ∧ s124 = u124 ∧ s125 = u125 ∧ s126 = u126 ∧ s127 = u127 ∧ s128 = u128 ∧ s129 = u129 ∧ s130 = u130 ∧ s131 = u131 ∧ s132 = u132 ∧ s133 = u133 ∧ s134 = u134 ∧ s135 = u135 ∧ s136 = u136 ∧ s137 = u137 ∧ s138 = u138) ∧ s = .bool (worse l st1.wh h worst) ∧ Hid (∃ nq, w3.drewN nq = wx))
              case first =>
                have cl : w3.cell? ⟨K.bl, 0, none⟩ = some (.slice A l.length c0) := blk_cell (M1.out.at 2 rfl) 0
                have cw : w3.cell? ⟨K.bw, 0, none⟩ = some (.slice (some ⟨K.Rw, 0, none⟩) l.length l.length) := blk_cell (M1.out.at 11 rfl) 0
                have ewl : st1.wh.length = l.length := by rw [HST1.out]; simp; exact HI.out.wl
                have cw1 : w3.cell? ⟨K.Rw, h, none⟩ = some (.int .i64 (rd st1.wh h)) := by rw [blk_cell (M1.out.at 10 rfl) h, intRow_get _ _ (by rw [ewl]; exact hhl)]
                have cw2 : w3.cell? ⟨K.Rw, worst, none⟩ = some (.int .i64 (rd st1.wh worst)) := by rw [blk_cell (M1.out.at 10 rfl) worst, intRow_get _ _ (by rw [ewl]; exact hwl)]
                obtain ⟨ad, e1, hk1, hk2⟩ := at_T40 (Kd.C_below HR.out M3.out) (h : Int) (by omega) (by omega)
                obtain ⟨ad', e2, hk3, hk4⟩ := at_T40 (Kd.C_below HR.out M3.out) (worst : Int) (by omega) (by omega)
                rw [Int.toNat_natCast] at hk1 hk2 hk3 hk4
                obtain rfl : ad = ad' := by rw [e1] at e2; injection e2
                rw [e1] at cl
                clear e1 e2
                have g5 : (0 : Int) ≤ h := by omega
                have g6 : (h : Int) < l.length := by omega
                have g7 : (0 : Int) ≤ worst := by omega
                have g8 : (worst : Int) < l.length := by omega
                have hwo : worse l st1.wh h worst = (decide ((rd_T40 l h).f1 > (rd_T40 l worst).f1) || (decide ((rd_T40 l h).f1 = (rd_T40 l worst).f1) && decide (rd st1.wh h > rd st1.wh worst))) := rfl
                have HWO := Lib.hid hwo
                clear hwo
                generalize hth : (rd_T40 l h).f1 = th at *
                generalize htw : (rd_T40 l worst).f1 = tw at *
                clear hth htw
                by_cases hgt : tw < th
                · refine Rng.wpIn_round_quiet (by kernel_rfl) (by kernel_rfl) (by kernel_rfl) ?_
                  repeat (go_big_quiet_step (fail))
                  refine wpQuiet_nil ?_
                  intro _ hw'
                  obtain ⟨nq, hw''⟩ := hw'
                  subst hw''
                  gi_wp2
                  go_meet
                  exact ⟨(⟨rfl, rfl, rfl, rfl, rfl, rfl, rfl, rfl, rfl, rfl, rfl, rfl, rfl, rfl, rfl, rfl⟩), by rw [HWO.out]; simp [hgt], Lib.hid ⟨_, rfl⟩⟩
                · by_cases heq : th = tw
                  · subst heq
                    refine Rng.wpIn_round_quiet (by kernel_rfl) (by kernel_rfl) (by kernel_rfl) ?_
                    repeat (go_big_quiet_step (fail))
                    refine wpQuiet_nil ?_
                    intro _ hw'
                    obtain ⟨nq, hw''⟩ := hw'
                    subst hw''
                    gi_wp2
                    go_meet
                    exact ⟨(⟨rfl, rfl, rfl, rfl, rfl, rfl, rfl, rfl, rfl, rfl, rfl, rfl, rfl, rfl, rfl, rfl⟩), by rw [HWO.out]; simp, Lib.hid ⟨_, rfl⟩⟩
                  · have heq2 : ¬ tw = th := fun e => heq e.symm
                    have heq3 : decide (th = tw) = false := decide_eq_false heq
                    have heq4 : (th == tw) = false := beq_eq_false_iff_ne.2 heq
                    refine Rng.wpIn_round_quiet (by kernel_rfl) (by kernel_rfl) (by kernel_rfl) ?_
                    repeat (go_big_quiet_step (fail))
                    refine wpQuiet_nil ?_
                    intro _ hw'
                    obtain ⟨nq, hw''⟩ := hw'
                    subst hw''
                    gi_wp2
                    go_meet
                    exact ⟨(⟨rfl, rfl, rfl, rfl, rfl, rfl, rfl, rfl, rfl, rfl, rfl, rfl, rfl, rfl, rfl, rfl⟩), by rw [HWO.out]; simp [heq, hgt], Lib.hid ⟨_, rfl⟩⟩
              case rest =>
                obtain ⟨⟨rfl, rfl, rfl, rfl, rfl, rfl, rfl, rfl, rfl, rfl, rfl, rfl, rfl, rfl, rfl, rfl⟩, rfl, hcut⟩ := hcut
                obtain ⟨nq, hnq⟩ := hcut.out
                have P1 := Lib.hid (show HC (known B (rd_T40 l x) c K l A c0 regs st1 v) wc by rw [← hnq]; exact ⟨M1.out.get, M1.out.nd⟩)
                have P2 := Lib.hid (show wc.ownsRow w.heap.size 3 1 v st1.sp.length (nums .i64 (natRow st1.sp)) by rw [← hnq]; exact M2.out)
                have P3 := Lib.hid (show Below w.heap.size w wc by rw [← hnq]; exact ⟨M3.out.os, M3.out.tape, M3.out.output, M3.out.size, M3.out.block⟩)
                have P4 := Lib.hid (show KeepsOthers W wc by rw [← hnq]; exact ⟨M4.out.size, M4.out.same⟩)
                have LK := Lib.hid (show look l st1.wh x st1.held 0 x (-1) = if worse l st1.wh h worst = true then look l st1.wh x (st1.held.drop (r + 1)) (r + 1) h r else look l st1.wh x (st1.held.drop (r + 1)) (r + 1) worst at_ by
                  have h1 := L5.out
                  rw [es, rd_drop st.held r (by rw [HI.out.hl]; exact hlt), HHD.out] at h1
                  rw [es, h1]
                  conv => lhs; simp only [look]
                  rw [if_neg HFREE.out]
                  simp only [Int.toNat_natCast])
                clear M1 M2 M3 M4 hcut hnq L5
                cases hwo : worse l st1.wh h worst with
                | true =>
                  rw [hwo] at LK
                  have LK2 := Lib.hid (LK.out.trans (if_pos rfl))
                  clear LK hwo
                  gi_wp2
                  go_roundw
                  case rel => exact ⟨r + 1, h, r, by go_num, rfl, rfl, by omega, hhl, by omega, by omega, P1, P2, P3, P4, LK2⟩
                  case measure => simp [intOf]; omega
                | false =>
                  rw [hwo] at LK
                  have LK2 := Lib.hid (LK.out.trans (if_neg (by decide)))
                  clear LK hwo
                  gi_wp2
                  go_roundw
                  case rel => exact ⟨r + 1, worst, at_, by go_num, rfl, rfl, by omega, hwl, by omega, by omega, P1, P2, P3, P4, LK2⟩
                  case measure => simp [intOf]; omega
        · obtain rfl : regs = r := by omega
          have LK := Lib.hid (show look l st1.wh x st.held 0 x (-1) = (none, worst, at_) by
            have h1 := L5.out
            rw [es, List.drop_eq_nil_of_le (by rw [HI.out.hl]; exact Nat.le_refl _)] at h1
            rw [h1]
            rfl)
          clear L5
          have cf := blk_cell (L1.out.at 9 rfl) 0
          simp only [List.getElem?_toArray, List.getElem?_cons_zero] at cf
          by_cases hwx : worst = x
          · subst hwx
            have hslot := Lib.hid (slot_st l A c0 regs n0 B (rd_T40 l worst) c K st1 v worst w wr HR.out L1.out L3.out HKo.out hn L2.out HO.out (by rw [HST1.out]; exact HI.out.rl) hwl hlen (by rw [HST1.out]; exact hspl)
              (fun k hk => by rw [HST1.out] at hk ⊢; exact ⟨HPL.out k (HI.out.sp k hk).1, (HI.out.sp k hk).2⟩) hc1 hBn)
            gi_wp2_with fail
            refine ⟨trivial, ?_⟩
            refine (CallsIn.inRound lp (callsIn_wide.2 hslot.out)).mono ?_
            rintro e w5 ⟨rfl, s, v5, t1, t2, t3, t4, t5, t6⟩
            have T1 := Lib.hid t1
            have T2 := Lib.hid t2
            have T3 := Lib.hid t3
            have T4 := Lib.hid t4
            have T5 := Lib.hid t5
            have T6 := Lib.hid t6
            clear t1 t2 t3 t4 t5 t6 hslot cf
            gi_wp2
            refine round_fin _ v5 ?_ T2.out T3.out T4.out T5.out (L4.out.trans T6.out) HPRE.out HORD.out hc1
            have hs := Step.self (l := l) (st := st) (i := worst) at_ s (by have h := LK.out; rw [HST1.out] at h; exact h) (by have h := T1.out; rw [HST1.out] at h; exact h)
            have h := Run.snoc HRUN.out hs
            rw [HST1.out]
            exact h
          · obtain ⟨q, hq, haq, hrq⟩ := ((look_spec l st1.wh x st.held _ 0 x (-1) rfl (Nat.zero_le _) (Or.inl rfl) _ _ _ (by rw [List.drop_zero]; exact LK.out)).2).resolve_left hwx
            subst haq
            have hqr : q < regs := by rw [← HI.out.hl]; exact hq
            have hqs : q < st.held.length := hq
            clear hq
            have g5 : (0 : Int) ≤ q := by omega
            have g6 : (q : Int) < regs := by omega
            have hwx2 : ¬ (worst : Int) = x := by omega
            have hwx3 : ¬ (x : Int) = worst := by omega
            gi_wp2
            have p1 : wr.cell? ⟨K.bh, 0, none⟩ = some (.slice (some ⟨K.Rh, 0, none⟩) regs regs) := blk_cell (L1.out.at 7 rfl) 0
            have p2 : wr.cell? ⟨K.br, 0, none⟩ = some (.slice (some ⟨K.Rr, 0, none⟩) l.length l.length) := blk_cell (L1.out.at 3 rfl) 0
            have er : st1.rooms = st.rooms := by rw [HST1.out]
            obtain ⟨v1, hv1⟩ : ∃ v1, wr.cell? ⟨K.Rh, q, none⟩ = some v1 := by
              rw [blk_cell (L1.out.at 6 rfl) q, intRow_get _ _ (by rw [es, HI.out.hl]; exact hqr)]; exact ⟨_, rfl⟩
            have hf1 : wr.frozen? ⟨K.Rh, q, none⟩ = false := blk_frozen (L1.out.at 6 rfl) q
            have N1 := Lib.hid (show HC (known B (rd_T40 l x) c K l A c0 regs { st1 with held := st1.held.set q x } v) (wr.setCell ⟨K.Rh, q, none⟩ (.int .i64 x)) by
              have h := L1.out.set 6 rfl q (.int .i64 x)
              rw [intRow_set] at h
              exact h)
            obtain ⟨v2, hv2⟩ : ∃ v2, (wr.setCell ⟨K.Rh, q, none⟩ (.int .i64 x)).cell? ⟨K.Rr, x, none⟩ = some v2 := by
              rw [blk_cell (N1.out.at 5 rfl) x, intRow_get _ _ (by simp only; rw [er, HI.out.rl]; exact hxl)]; exact ⟨_, rfl⟩
            have hf2 : (wr.setCell ⟨K.Rh, q, none⟩ (.int .i64 x)).frozen? ⟨K.Rr, x, none⟩ = false := blk_frozen (N1.out.at 5 rfl) x
            have N2 := Lib.hid (show HC (known B (rd_T40 l x) c K l A c0 regs { st1 with held := st1.held.set q x, rooms := st1.rooms.set x q } v) ((wr.setCell ⟨K.Rh, q, none⟩ (.int .i64 x)).setCell ⟨K.Rr, x, none⟩ (.int .i64 q)) by
              have h := N1.out.set 5 rfl x (.int .i64 q)
              rw [intRow_set] at h
              exact h)
            refine Rng.wpIn_round_held (S := fun w' => w'.cell? ⟨K.bh, 0, none⟩ = some (.slice (some ⟨K.Rh, 0, none⟩) regs regs) ∧ w'.cell? ⟨K.br, 0, none⟩ = some (.slice (some ⟨K.Rr, 0, none⟩) l.length l.length)) (by kernel_rfl) (by kernel_rfl) ?_
            have hS : wr.drew.cell? ⟨K.bh, 0, none⟩ = some (.slice (some ⟨K.Rh, 0, none⟩) regs regs) ∧ wr.drew.cell? ⟨K.br, 0, none⟩ = some (.slice (some ⟨K.Rr, 0, none⟩) l.length l.length) := ⟨p1, p2⟩
            refine wpAnyH_take (i := 0) (v := .slice (some ⟨K.Rh, 0, none⟩) regs regs) rfl (by kernel_rfl) (by kernel_rfl) (by kernel_rfl) (fun _ _ _ h => by cases h.1) (Or.inl ⟨by rfl, ?_⟩) hS ?_
            · intro w hSw
              simp only [List.getElem_toArray, List.getElem_cons_zero, List.getElem_cons_succ]
              (try dsimp only at hSw)
              go_simp
            simp only [List.getElem_toArray, List.getElem_cons_zero, List.getElem_cons_succ, Act.put, List.setIfInBounds_toArray, List.set_cons_zero, List.set_cons_succ]
            refine wpAnyH_take (i := 1) (v := .int .i64 q) rfl (by kernel_rfl) (by kernel_rfl) (by kernel_rfl) (fun _ _ _ h => by cases h.1) (Or.inl ⟨by rfl, ?_⟩) hS ?_
            · intro w hSw
              simp only [List.getElem_toArray, List.getElem_cons_zero, List.getElem_cons_succ]
              (try dsimp only at hSw)
              go_simp
            simp only [List.getElem_toArray, List.getElem_cons_zero, List.getElem_cons_succ, Act.put, List.setIfInBounds_toArray, List.set_cons_zero, List.set_cons_succ]
            refine wpAnyH_take (i := 2) (v := .slice (some ⟨K.Rr, 0, none⟩) l.length l.length) rfl (by kernel_rfl) (by kernel_rfl) (by kernel_rfl) (fun _ _ _ h => by cases h.1) (Or.inl ⟨by rfl, ?_⟩) hS ?_
            · intro w hSw
              simp only [List.getElem_toArray, List.getElem_cons_zero, List.getElem_cons_succ]
              (try dsimp only at hSw)
              go_simp
            simp only [List.getElem_toArray, List.getElem_cons_zero, List.getElem_cons_succ, Act.put, List.setIfInBounds_toArray, List.set_cons_zero, List.set_cons_succ]
            refine wpAnyH_take (i := 3) (v := .int .i64 x) rfl (by kernel_rfl) (by kernel_rfl) (by kernel_rfl) (fun _ _ _ h => by cases h.1) (Or.inl ⟨by rfl, ?_⟩) hS ?_
            · intro w hSw
              simp only [List.getElem_toArray, List.getElem_cons_zero, List.getElem_cons_succ]
              (try dsimp only at hSw)
              go_simp
            simp only [List.getElem_toArray, List.getElem_cons_zero, List.getElem_cons_succ, Act.put, List.setIfInBounds_toArray, List.set_cons_zero, List.set_cons_succ]
            refine wpAnyH_take (i := 4) (v := .int .i64 x) rfl (by kernel_rfl) (by kernel_rfl) (by kernel_rfl) (fun _ _ _ h => by cases h.1) (Or.inl ⟨by rfl, ?_⟩) hS ?_
            · intro w hSw
              simp only [List.getElem_toArray, List.getElem_cons_zero, List.getElem_cons_succ]
              (try dsimp only at hSw)
              go_simp
            simp only [List.getElem_toArray, List.getElem_cons_zero, List.getElem_cons_succ, Act.put, List.setIfInBounds_toArray, List.set_cons_zero, List.set_cons_succ]
            refine wpAnyH_take (i := 5) (v := .int .i64 q) rfl (by kernel_rfl) (by kernel_rfl) (by kernel_rfl) (fun _ _ _ h => by cases h.1) (Or.inl ⟨by rfl, ?_⟩) hS ?_
            · intro w hSw
              simp only [List.getElem_toArray, List.getElem_cons_zero, List.getElem_cons_succ]
              (try dsimp only at hSw)
              go_simp
            simp only [List.getElem_toArray, List.getElem_cons_zero, List.getElem_cons_succ, Act.put, List.setIfInBounds_toArray, List.set_cons_zero, List.set_cons_succ]
            refine wpAnyH_take (i := 6) (v := .pointer (some ⟨K.Rh, q, none⟩)) rfl (by kernel_rfl) (by kernel_rfl) (by kernel_rfl) (fun _ _ _ h => by cases h.1) (Or.inl ⟨by rfl, ?_⟩) hS ?_
            · intro w hSw
              simp only [List.getElem_toArray, List.getElem_cons_zero, List.getElem_cons_succ]
              (try dsimp only at hSw)
              go_simp
            simp only [List.getElem_toArray, List.getElem_cons_zero, List.getElem_cons_succ, Act.put, List.setIfInBounds_toArray, List.set_cons_zero, List.set_cons_succ]
            refine wpAnyH_ready (rs := [7]) (by kernel_rfl) (by simp) ?_
            refine AllReadyH.cons (o := _) rfl (fun KK hK => ?_) AllReadyH.nil
            simp only [List.getElem_toArray, List.getElem_cons_zero, List.getElem_cons_succ]
            go_simp
            refine hK.out _ _ ⟨blk_cell (N1.out.at 7 rfl) 0, blk_cell (N1.out.at 3 rfl) 0⟩ (fun hHeld => ?_)
            clear hS hK
            refine wpAnyH_take (i := 8) (v := .pointer (some ⟨K.Rr, x, none⟩)) rfl (by kernel_rfl) (by kernel_rfl) (by kernel_rfl) (fun _ _ _ h => by cases h.1) (Or.inl ⟨by rfl, ?_⟩) hHeld ?_
            · intro w hSw
              simp only [List.getElem_toArray, List.getElem_cons_zero, List.getElem_cons_succ]
              (try dsimp only at hSw)
              go_simp
            simp only [List.getElem_toArray, List.getElem_cons_zero, List.getElem_cons_succ, Act.put, List.setIfInBounds_toArray, List.set_cons_zero, List.set_cons_succ]
            refine wpAnyH_ready (rs := [9]) (by kernel_rfl) (by simp) ?_
            refine AllReadyH.cons (o := _) rfl (fun KK hK => ?_) AllReadyH.nil
            simp only [List.getElem_toArray, List.getElem_cons_zero, List.getElem_cons_succ]
            go_simp
            refine hK.out _ _ ⟨blk_cell (N2.out.at 7 rfl) 0, blk_cell (N2.out.at 3 rfl) 0⟩ (fun hHeld2 => ?_)
            refine wpAnyH_done (by kernel_rfl) ?_ _
            refine ⟨rfl, ?_⟩
            clear hK hHeld hHeld2
            have hlo := HKo.out.lo
            have hhi := HKo.out.hi
            have b1 : some K.Rh ≠ v.ownBlock := fun e => by have h1 := HO.out _ e.symm; omega
            have b2 : some K.Rr ≠ v.ownBlock := fun e => by have h1 := HO.out _ e.symm; omega
            obtain ⟨w9, hw9⟩ : ∃ w9, (wr.setCell ⟨K.Rh, q, none⟩ (.int .i64 x)).setCell ⟨K.Rr, x, none⟩ (.int .i64 q) = w9 := ⟨_, rfl⟩
            have G1 := Lib.hid (show HC (known B (rd_T40 l x) c K l A c0 regs { st1 with held := st1.held.set q x, rooms := st1.rooms.set x q } v) w9.drew by rw [← hw9]; exact ⟨N2.out.get, N2.out.nd⟩)
            have G2 := Lib.hid (show w9.drew.ownsRow w.heap.size 3 1 v st1.sp.length (nums .i64 (natRow st1.sp)) by rw [← hw9]; exact own_drew (own_setCell (own_setCell L2.out b1 _) b2 _))
            have G3 := Lib.hid (show Below w.heap.size w w9.drew by rw [← hw9]; exact ((L3.out.setCell (p := ⟨K.Rh, q, none⟩) (by simp only; omega) _).setCell (p := ⟨K.Rr, x, none⟩) (by simp only; omega) _).drew)
            have G4 := Lib.hid (show KeepsOthers W w9.drew by rw [← hw9]; exact ((L4.out.trans (KeepsOthers.setCell _ _ _)).trans (KeepsOthers.setCell _ _ _)).trans ⟨Nat.le_refl _, fun _ _ h _ => h⟩)
            have cf9 : w9.cell? ⟨K.bf, 0, none⟩ = _ := blk_cell (G1.out.at 9 rfl) 0
            simp only [List.getElem?_toArray, List.getElem?_cons_zero] at cf9
            have hxn : x ∉ pre := fun hm => (List.nodup_append.1 HND.out).2.2 x hm x (by simp) rfl
            have hslot := Lib.hid (slot_st l A c0 regs n0 B (rd_T40 l x) c K { st1 with held := st1.held.set q x, rooms := st1.rooms.set x q } v worst w w9.drew HR.out G1.out G3.out HKo.out hn G2.out HO.out (by simp only [List.length_set]; rw [er]; exact HI.out.rl) hwl hlen (by simp only; rw [HST1.out]; exact hspl)
              (fun k hk => by
                have hk2 : k ∈ st.sp := by have h := hk; simp only at h; rw [HST1.out] at h; exact h
                have h1 := HI.out.sp k hk2
                refine ⟨HPL.out k h1.1, ?_⟩
                simp only
                rw [er, rooms_other HI.out hxl _ (fun e => hxn (by rw [← e]; exact h1.1)), HST1.out]
                exact h1.2) hc1 hBn)
            gi_wp2_with fail
            refine ⟨trivial, ?_⟩
            refine (CallsIn.inRound lp (callsIn_wide.2 hslot.out)).mono ?_
            rintro e w5 ⟨rfl, s, v5, t1, t2, t3, t4, t5, t6⟩
            have T1 := Lib.hid t1
            have T2 := Lib.hid t2
            have T3 := Lib.hid t3
            have T4 := Lib.hid t4
            have T5 := Lib.hid t5
            have T6 := Lib.hid t6
            clear t1 t2 t3 t4 t5 t6 hslot cf
            gi_wp2
            refine round_fin _ v5 ?_ T2.out T3.out T4.out T5.out (G4.out.trans T6.out) HPRE.out HORD.out hc1
            have hs := Step.other (l := l) (st := st) (i := x) worst q s (by have h := LK.out; rw [HST1.out] at h; exact h) hwx (by have h := T1.out; rw [HST1.out] at h; exact h)
            have h := Run.snoc HRUN.out hs
            rw [HST1.out]
            exact h
end Go.Proofs.Ytelheeekbihfcac.Srt
