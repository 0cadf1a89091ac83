/- The program's Assign, walked where lives may be. -/
import Derived.Test.YtelheeekbihfcacAssignR
set_option linter.unusedVariables false
set_option linter.unusedSimpArgs false
namespace Go.Proofs.Ytelheeekbihfcac.Srt
open Go.RowKit Go.Proofs Go.Proofs.Ytelheeekbihfcac.PScanAssigns Go.Proofs.YtelheeekbihfcacW.PrintWords Go.Proofs.YtelheeekbihfcacW.PrintMore
attribute [local go_sem] Oper.semAt_some

set_option maxRecDepth 100000 in
set_option maxHeartbeats 4000000 in
theorem assign_good (k : Nat) (A : Option Addr) (c0 : Nat) (l : List S40) (regs : Nat) (w : World) (hr0 : Kd.C k40 w A l.length l) (hc0 : l.length ≤ c0) (h : scan_Good.f k l = some true) (hlen : l.length ≤ 10000) (hreg : regs ≤ 64) :
    Calls Try.prog 8 #[.slice A l.length c0, .int .i64 regs] w (Assigned l regs w) := by
  have HG := Lib.hid fun W => fun hW : Below w.heap.size w W => scan_Good.calls k A c0 l true W (Kd.C_below hr0 hW) hc0 h
  have HR := Lib.hid hr0
  clear hr0 h
  have HB := Lib.hid (below_alloc (below_alloc (below_alloc (Below.refl w.heap.size w) (.cells #[.slice A l.length c0] 22)) (.cells #[.slice none 0 0] 24)) (.cells #[.int .i64 0] 3))
  have H0 := ((((HC.nil w).alloc (.cells #[.slice A l.length c0] 22)).alloc (.cells #[.slice none 0 0] 24)).alloc (.cells #[.int .i64 0] 3))
  simp only [World.size_alloc] at H0
  have HH0 := Lib.hid H0
  clear H0
  have hmk1 := print_make (P := Try.prog) 24 3 .i64 8 Try.underlying24 (by kernel_rfl) (by omega) l.length (by omega)
  have hmk2 := print_make (P := Try.prog) 24 3 .i64 8 Try.underlying24 (by kernel_rfl) (by omega) regs (by omega)
  have hneg : ¬ (regs : Int) < 0 := by omega
  have hbig : ¬ (64 : Int) < regs := by omega
  refine (callsIn_wide (n := 6)).1 ?_
  refine callsIn_of_wp_marks Try.func8 rfl trivial ?_ rfl
  simp only [Try.ntmps8, List.size_toArray, List.length_cons, List.length_nil, Nat.reduceAdd, Nat.reduceSub, Array.replicate_succ, Array.replicate_zero, List.push_toArray, List.append_toArray, List.nil_append, List.cons_append]
  refine wpIn_wide.2 ?_
  go_wp2
  go_step3
  go_upto_region 3 with (go_at_call 12; refine (HG.out _ HB.out).mono ?_; rintro e w1 ⟨rfl, hb1⟩; have H1 := HH0.out.below hb1; have HB1 := Lib.hid (below_step HB.out hb1); have q1 := blk_cell (H1.at 2 rfl) 0; have HH1 := Lib.hid H1; clear H1 hb1)
  have q2 : ∀ o, (w1.alloc o).cell? ⟨w.heap.size + 1, 0, none⟩ = some (.slice none 0 0) := fun o => blk_cell (blk_alloc (HH1.out.at 1 rfl) o) 0
  have q3 : ∀ o, (w1.alloc o).frozen? ⟨w.heap.size + 1, 0, none⟩ = false := fun o => blk_frozen (blk_alloc (HH1.out.at 1 rfl) o) 0
  go_cut [] from 18 (fun wx => Hid ((w1.alloc (.cells (madeCells #[.int .i64 0] l.length) 3)).setCell ⟨w.heap.size + 1, 0, none⟩ (.slice (some ⟨w1.heap.size, 0, none⟩) l.length l.length) = wx))
  case first =>
    go_wp2
    go_meet
    exact Lib.hid rfl
  case rest =>
    have H2 := (HH1.out.alloc (.cells (madeCells #[.int .i64 0] l.length) 3)).set 2 rfl 0 (.slice (some ⟨w1.heap.size, 0, none⟩) l.length l.length)
    rw [hcut.out, intRow_made] at H2
    have B2 := (below_alloc HB1.out (.cells (madeCells #[.int .i64 0] l.length) 3)).setCell (p := ⟨w.heap.size + 1, 0, none⟩) (by simp) (.slice (some ⟨w1.heap.size, 0, none⟩) l.length l.length)
    rw [hcut.out] at B2
    have HH2 := Lib.hid H2
    have HB2 := Lib.hid B2
    have hs1 := Lib.hid HB1.out.size
    generalize hRr : w1.heap.size = Rr at *
    clear q1 q2 q3 HH1 HB1 hcut H2 B2 hRr
    obtain ⟨w2, rfl⟩ : ∃ w2 : World, w2 = wc := ⟨_, rfl⟩
    go_upto_region 4 with fail
    go_cut [6] from 18 (fun s wx => s = .pointer (some ⟨w2.heap.size + 1, 0, none⟩) ∧ Hid ((w2.alloc (.cells (madeCells #[.int .i64 0] regs) 3)).alloc (.cells #[.slice (some ⟨w2.heap.size, 0, none⟩) regs regs] 24) = wx))
    case first =>
      go_wp2
      go_meet
      exact ⟨rfl, Lib.hid rfl⟩
    case rest =>
      obtain ⟨rfl, hcut⟩ := hcut
      have H3 := (HH2.out.alloc (.cells (madeCells #[.int .i64 0] regs) 3)).alloc (.cells #[.slice (some ⟨w2.heap.size, 0, none⟩) regs regs] 24)
      rw [hcut.out, intRow_made, World.size_alloc] at H3
      have B3 := below_alloc (below_alloc HB2.out (.cells (madeCells #[.int .i64 0] regs) 3)) (.cells #[.slice (some ⟨w2.heap.size, 0, none⟩) regs regs] 24)
      rw [hcut.out] at B3
      have HH3 : Hid (HC [(w2.heap.size + 1, .cells #[.slice (some ⟨w2.heap.size, 0, none⟩) regs regs] 24 (0, 0)), (w2.heap.size, .cells (intRow (held0 0 regs)) 3 (0, 0)), (Rr, .cells (intRow (List.replicate l.length 0)) 3 (0, 0)), (w.heap.size + 1 + 1, .cells #[.int .i64 0] 3 (0, 0)), (w.heap.size + 1, .cells #[.slice (some ⟨Rr, 0, none⟩) l.length l.length] 24 (0, 0)), (w.heap.size, .cells #[.slice A l.length c0] 22 (0, 0))] wc) := Lib.hid (by rw [← held0_zero]; exact H3)
      have HB3 := Lib.hid B3
      have hs2 := Lib.hid HB2.out.size
      generalize hRh : w2.heap.size = Rh at *
      clear HH2 HB2 hcut H3 B3 hRh
      obtain ⟨w3, rfl⟩ : ∃ w3 : World, w3 = wc := ⟨_, rfl⟩
      have q1 := blk_cell (HH3.out.at 0 rfl) 0
      simp only [List.getElem?_toArray, List.getElem?_cons_zero] at q1
      go_wp2
      go_loopw [36] (fun vk wr => ∃ k : Nat, vk = .int .i64 k ∧ k ≤ regs ∧ Hid (HC [(Rh + 1, .cells #[.slice (some ⟨Rh, 0, none⟩) regs regs] 24 (0, 0)), (Rh, .cells (intRow (held0 k regs)) 3 (0, 0)), (Rr, .cells (intRow (List.replicate l.length 0)) 3 (0, 0)), (w.heap.size + 1 + 1, .cells #[.int .i64 0] 3 (0, 0)), (w.heap.size + 1, .cells #[.slice (some ⟨Rr, 0, none⟩) l.length l.length] 24 (0, 0)), (w.heap.size, .cells #[.slice A l.length c0] 22 (0, 0))] wr) ∧ Hid (Below w.heap.size w wr)) (fun vk _ => regs - (intOf vk).toNat)
      case atStart => exact ⟨0, by go_num, Nat.zero_le _, HH3, HB3⟩
      case round =>
        obtain ⟨k, rfl, hk, H, B⟩ := hrel
        by_cases hlt : k < regs
        · have c1 := blk_cell (H.out.at 0 rfl) 0
          simp only [List.getElem?_toArray, List.getElem?_cons_zero] at c1
          obtain ⟨v0, hv0⟩ : ∃ v0, wr.cell? ⟨Rh, k, none⟩ = some v0 := by
            rw [blk_cell (H.out.at 1 rfl) k, intRow_get _ _ (by simp [held0]; exact hlt)]; exact ⟨_, rfl⟩
          have hf0 : wr.frozen? ⟨Rh, k, none⟩ = false := blk_frozen (H.out.at 1 rfl) k
          have g1 : (0 : Int) ≤ k := by omega
          have g2 : (k : Int) < regs := by omega
          have H' := Lib.hid (H.out.set 1 rfl k (.int .i64 (-1)))
          rw [intRow_set, held0_step k regs hlt] at H'
          have B' := Lib.hid (below_set (g := Rh) (j := k) (v := .int .i64 (-1)) B.out (by have := hs1.out; have := hs2.out; omega))
          clear H B
          go_wp2
          go_roundw
          case rel => exact ⟨k + 1, by go_num, by omega, H', B'⟩
          case measure => simp [intOf]; omega
        · obtain rfl : regs = k := by omega
          rw [held0_all] at H
          obtain ⟨w4, rfl⟩ : ∃ w4 : World, w4 = wr := ⟨_, rfl⟩
          clear HH3 HB3 q1
          have q1 : ∀ o1 o2, ((w4.alloc o1).alloc o2).cell? ⟨w.heap.size, 0, none⟩ = some (.slice A l.length c0) := fun o1 o2 => blk_cell (blk_alloc (blk_alloc (H.out.at 5 rfl) o1) o2) 0
          go_upto_region 12 with fail
          go_cut [10] from 18 (fun s wx => s = .pointer (some ⟨w4.heap.size + 1 + 1 + 1, 0, none⟩) ∧ Hid ((((w4.alloc (.cells #[.slice none 0 0] 24)).alloc (.cells #[.func (.func 17) #[] #[.pointer (some ⟨w4.heap.size, 0, none⟩), .pointer (some ⟨w.heap.size, 0, none⟩), .pointer (some ⟨w.heap.size + 1, 0, none⟩), .pointer (some ⟨w.heap.size + 1 + 1, 0, none⟩)]] 43)).alloc (.cells (madeCells #[.int .i64 0] l.length) 3)).alloc (.cells #[.slice (some ⟨w4.heap.size + 1 + 1, 0, none⟩) l.length l.length] 24) = wx))
          case first =>
            go_wp2
            go_meet
            exact ⟨rfl, Lib.hid rfl⟩
          case rest =>
            obtain ⟨rfl, hcut⟩ := hcut
            have H5 := (((H.out.alloc (.cells #[.slice none 0 0] 24)).alloc (.cells #[.func (.func 17) #[] #[.pointer (some ⟨w4.heap.size, 0, none⟩), .pointer (some ⟨w.heap.size, 0, none⟩), .pointer (some ⟨w.heap.size + 1, 0, none⟩), .pointer (some ⟨w.heap.size + 1 + 1, 0, none⟩)]] 43)).alloc (.cells (madeCells #[.int .i64 0] l.length) 3)).alloc (.cells #[.slice (some ⟨w4.heap.size + 1 + 1, 0, none⟩) l.length l.length] 24)
            rw [hcut.out, intRow_made] at H5
            simp only [World.size_alloc] at H5
            have B5 := below_alloc (below_alloc (below_alloc (below_alloc B.out (.cells #[.slice none 0 0] 24)) (.cells #[.func (.func 17) #[] #[.pointer (some ⟨w4.heap.size, 0, none⟩), .pointer (some ⟨w.heap.size, 0, none⟩), .pointer (some ⟨w.heap.size + 1, 0, none⟩), .pointer (some ⟨w.heap.size + 1 + 1, 0, none⟩)]] 43)) (.cells (madeCells #[.int .i64 0] l.length) 3)) (.cells #[.slice (some ⟨w4.heap.size + 1 + 1, 0, none⟩) l.length l.length] 24)
            rw [hcut.out] at B5
            have HH5 := Lib.hid H5
            have HB5 := Lib.hid B5
            have hs3 := Lib.hid B.out.size
            have hs5 := Lib.hid (show wc.heap.size = w4.heap.size + 1 + 1 + 1 + 1 by rw [← hcut.out]; simp)
            generalize hb4 : w4.heap.size = b4 at *
            clear H B hcut H5 B5 q1 hb4
            obtain ⟨w5, rfl⟩ : ∃ w5 : World, w5 = wc := ⟨_, rfl⟩
            have q1 : ∀ o1, (w5.alloc o1).cell? ⟨w.heap.size, 0, none⟩ = some (.slice A l.length c0) := fun o1 => blk_cell (blk_alloc (HH5.out.at 9 rfl) o1) 0
            go_wp2
            go_step3
            go_wp2_with (go_at_call 19; refine (callsIn_wide.1 (taken_in 6 A l.length c0 _)).mono ?_; rintro e w6 ⟨rfl, hw6⟩; have HW6 := Lib.hid hw6; clear hw6)
            refine wpIn_wide.1 (show Code.wpIn Fence.wide 6 _ _ _ _ _ from ?_)
            have H6 := (HH5.out.alloc (.cells #[.int .i64 0] 3)).alloc (.cells #[.slice A l.length c0] 22)
            rw [HW6.out] at H6
            simp only [World.size_alloc] at H6
            have B6 := below_alloc (below_alloc HB5.out (.cells #[.int .i64 0] 3)) (.cells #[.slice A l.length c0] 22)
            rw [HW6.out] at B6
            have hs6 := Lib.hid (show w6.heap.size = w5.heap.size + 1 + 1 by rw [← HW6.out]; simp)
            have k1 := (Array.getElem?_eq_some_iff.1 (H6.at 0 rfl)).1
            have k2 := (Array.getElem?_eq_some_iff.1 (H6.at 1 rfl)).1
            have k3 := (Array.getElem?_eq_some_iff.1 (H6.at 2 rfl)).1
            have k4 := (Array.getElem?_eq_some_iff.1 (H6.at 3 rfl)).1
            have k5 := (Array.getElem?_eq_some_iff.1 (H6.at 4 rfl)).1
            have k6 := (Array.getElem?_eq_some_iff.1 (H6.at 5 rfl)).1
            have k7 := (Array.getElem?_eq_some_iff.1 (H6.at 6 rfl)).1
            have k8 := (Array.getElem?_eq_some_iff.1 (H6.at 7 rfl)).1
            have k9 := (Array.getElem?_eq_some_iff.1 (H6.at 8 rfl)).1
            have k10 := (Array.getElem?_eq_some_iff.1 (H6.at 9 rfl)).1
            have k11 := (Array.getElem?_eq_some_iff.1 (H6.at 10 rfl)).1
            have k12 := (Array.getElem?_eq_some_iff.1 (H6.at 11 rfl)).1
            obtain ⟨K, hKe⟩ : ∃ K : Keys, K = ⟨w.heap.size, w.heap.size + 1, w.heap.size + 1 + 1, Rr, Rh, Rh + 1, b4, b4 + 1, b4 + 1 + 1, b4 + 1 + 1 + 1, w5.heap.size, w5.heap.size + 1⟩ := ⟨_, rfl⟩
            have hs1' := hs1.out
            have hs2' := hs2.out
            have hs3' := hs3.out
            have hs5' := hs5.out
            have hs6' := hs6.out
            have hKo : KeysOk K w w6.heap.size := by subst hKe; constructor <;> refine ⟨?_, ?_, ?_, ?_, ?_, ?_, ?_, ?_, ?_, ?_, ?_, ?_⟩ <;> (clear H6 B6 HW6 hs1 hs2 hs3 hs5 hs6 HB5 HH5 q1; simp only; omega)
            have hn0 : w.heap.size ≤ w6.heap.size := B6.size
            have H7 : HC (frame K l A c0 regs (start l.length regs) (.slice none 0 0)) w6 := by subst hKe; exact H6.rev
            have HH7 := Lib.hid H7
            have HB6 := Lib.hid B6
            have HKo := Lib.hid hKo
            have hlbK : w5.heap.size + 1 = K.lb := by subst hKe; rfl
            rw [hlbK]
            clear H6 B6 H7 k1 k2 k3 k4 k5 k6 k7 k8 k9 k10 k11 k12 hKo hs1' hs2' hs3' hs5' hs6' HW6 q1 HB5 HH5 hs1 hs2 hs3 hs5 hs6 HH0 HB HG
            obtain ⟨n0, hn0e⟩ : ∃ n0, n0 = w6.heap.size := ⟨_, rfl⟩
            rw [← hn0e] at HKo hn0
            refine Rng.range_law (γ := Nat × List Nat) (α := Nat) (F := Fence.wide) rfl (by omega) (gf := 23) (lb := #[.pointer (some ⟨K.lb, 0, none⟩)]) rfl trivial (enters_of Try.func23 (by kernel_rfl) rfl)
              (encs := fun x : Nat => #[.int .i64 x, .agg #[.int .i64 (rd_T40 l x).f0, .int .i64 (rd_T40 l x).f1]]) (fun _ => rfl)
              (fun c pre x => (pre ++ [x]) <+: c.2) (fun c xs => xs = c.2) (fun c W => ItOk l A c0 K.lb c W) (fun c W W' => W.heap.size ≤ c.1 ∧ ItOk l A c0 K.lb c W')
              (Fr K l A c0 regs w n0) ?_ ?_ ?_ ?_ ?_ ?_
            · intro c pre W o hF
              rw [← hn0e]
              exact hF.putObj HKo.out hn0 o
            · intro c pre W hF
              exact hF.it HR.out
            · intro W J hb1 hIt hJ0 hJy
              have hh := HH7.out.below hb1
              rw [← hn0e] at hb1
              rw [← hn0e] at hJy ⊢
              have ht := taken1 5 (by omega) l A c0 K.lb (n0 + 1) W J hlen (blk_cell (hh.at 11 rfl) 0) (Kd.C_below HR.out (below_then HB6.out HB6.out.size (by rw [hn0e] at hb1; exact hb1))) hIt (fun c W' hb hle hit => hJ0 c W' hb ⟨hle, hit⟩) (fun c pre x W1 hpre hj => hJy c pre x W1 hpre hj)
              exact ht
            · intro c W W' hb1 hsz hb2 hst
              have hh := (HH7.out.below hb1).below hb2
              have hsz' : n0 + 2 = W.heap.size := by rw [hn0e]; exact hsz
              refine ⟨⟨start l.length regs, .slice none 0 0, Run.nil, hh.cons hst.2.row (fun p hp => ?_), own_nil _ _ _ _, (fun k hk => by simp [Value.ownBlock] at hk)⟩, ?_, List.nil_prefix, hst.2.ord, ?_⟩
              · have h1 := frame_keys HKo.out p hp
                have h2 := hst.1
                omega
              · exact below_then (below_then HB6.out HB6.out.size hb1) (by clear hh; omega) hb2
              · have h2 := hst.1
                omega
            · intro c pre x W hV hF
              subst hKe
              obtain ⟨⟨st, v, r1, r2, r3, r4⟩, r5, r6, r7, r8⟩ := hF
              have hsz : n0 + 2 ≤ W.heap.size := by
                have h1 := blk_lt (r2.at 0 rfl)
                omega
              have R2 := Lib.hid r2
              have R3 := Lib.hid r3
              have R4 := Lib.hid r4
              have R5 := Lib.hid r5
              clear r2 r3 r4 r5
              gi_wp2
              refine ⟨KeepsOthers.alloc _ _, fun o => ?_⟩
              rw [← hn0e]
              have hA := R2.out.alloc (.cells #[.int .i64 (rd_T40 l x).f0, .int .i64 (rd_T40 l x).f1] 40)
              have hne : ∀ p, p ∈ known W.heap.size (rd_T40 l x) c ⟨w.heap.size, w.heap.size + 1, w.heap.size + 1 + 1, Rr, Rh, Rh + 1, b4, b4 + 1, b4 + 1 + 1, b4 + 1 + 1 + 1, w5.heap.size, w5.heap.size + 1⟩ l A c0 regs st v → p.1 ≠ n0 + 1 := fun p hp => by
                rcases List.mem_cons.1 hp with rfl | hp
                · simp only; omega
                · rcases List.mem_cons.1 hp with rfl | hp
                  · simp only; omega
                  · have h1 := (frame_keys HKo.out p hp).2
                    omega
              refine round_body _ _ rfl l A c0 regs n0 (n0 + 1) W.heap.size x c pre _ st v w _ HR.out hc0 (HC.putObj hA hne o) (below_putObj (below_alloc R5.out _) (by omega) o) HKo.out hn0 (own_move (own_alloc R3.out _) (fun k hk => World.putObj_heap_other (by have h1 := R4.out k hk; omega))) R4.out hlen hreg r8 hsz r1 hV r7 _ _ _ _ _ _ _ _ _ _ _ _ _ _ _ _ _ _ _ _ _ _ _ _ _ _ _ _ _ _ _ _ _ _ _ _ _ _ _ _ _ _ _ _ _ _ _ _ _ _ _ _ _ _ _ _ _ _ _ _ _ _ _ _ _ _ _ _ _ _ _ _ _ _ _ _ _ _ _ _ _ _ _ _ _ _ _ _ _ _ _ _ _ _ _ _ _ _ _ _ _ _ _ _ _ _ _ _ _ _ _ _ _ _ _ _ _ _ _ _ _ _ _ _ _ _ _ 
            · intro c xs W hA hF hK
              subst hKe
              obtain ⟨⟨st, v, r1, r2, r3, r4⟩, r5, r6, r7, r8⟩ := hF
              have hinv := r1.inv (r7.perm.nodup_iff.2 List.nodup_range |>.sublist r6.sublist) (fun k hk => List.mem_range.1 (r7.perm.mem_iff.1 (r6.subset hk)))
              have p1 : W.cell? ⟨w.heap.size + 1, 0, none⟩ = some (.slice (some ⟨Rr, 0, none⟩) l.length l.length) := blk_cell (r2.at 2 rfl) 0
              have p2 : W.cell? ⟨w.heap.size + 1 + 1, 0, none⟩ = some (.int .i64 st.slots) := blk_cell (r2.at 3 rfl) 0
              have p3 : W.frozen? ⟨w.heap.size + 1, 0, none⟩ = false := blk_frozen (r2.at 2 rfl) 0
              have p4 : W.frozen? ⟨w.heap.size + 1 + 1, 0, none⟩ = false := blk_frozen (r2.at 3 rfl) 0
              have R1 := Lib.hid r1
              have R2 := Lib.hid r2
              have R5 := Lib.hid r5
              have R6 := Lib.hid r6
              have R7 := Lib.hid r7
              have HINV := Lib.hid hinv
              have HKK := Lib.hid hK
              clear r1 r2 r3 r4 r5 r6 r7 hinv hK
              gi_wp2
              have hdr : W.drew.heap = W.heap := rfl
              have S1 := Lib.hid (HC.set (W := W.drew) ⟨R2.out.get, R2.out.nd⟩ 2 rfl 0 (.slice (some ⟨Rr, 0, none⟩) l.length l.length))
              have S2 := Lib.hid (S1.out.set 3 rfl 0 (.int .i64 st.slots))
              go_upto_region 31 with fail
              go_region_held3 (fun w' => w'.cell? ⟨w.heap.size + 1, 0, none⟩ = some (.slice (some ⟨Rr, 0, none⟩) l.length l.length) ∧ w'.cell? ⟨w.heap.size + 1 + 1, 0, none⟩ = some (.int .i64 st.slots) ∧ w'.frozen? ⟨w.heap.size + 1, 0, none⟩ = false ∧ w'.frozen? ⟨w.heap.size + 1 + 1, 0, none⟩ = false) (first | exact ⟨p1, p2, p3, p4⟩ | exact ⟨blk_cell (S1.out.at 2 rfl) 0, blk_cell (S1.out.at 3 rfl) 0, blk_frozen (S1.out.at 2 rfl) 0, blk_frozen (S1.out.at 3 rfl) 0⟩ | exact ⟨blk_cell (S2.out.at 2 rfl) 0, blk_cell (S2.out.at 3 rfl) 0, blk_frozen (S2.out.at 2 rfl) 0, blk_frozen (S2.out.at 3 rfl) 0⟩) (fail)
              have T2 := Lib.hid (show HC _ ((W.setCell ⟨w.heap.size + 1, 0, none⟩ (.slice (some ⟨Rr, 0, none⟩) l.length l.length)).setCell ⟨w.heap.size + 1 + 1, 0, none⟩ (.int .i64 st.slots)).drew from S2.out)
              have HK2 := Lib.hid (show ((W.setCell ⟨w.heap.size + 1, 0, none⟩ (.slice (some ⟨Rr, 0, none⟩) l.length l.length)).setCell ⟨w.heap.size + 1 + 1, 0, none⟩ (.int .i64 st.slots)).drew.heap[w6.heap.size]? = some (.deferred (some [])) from
                (((KeepsOthers.setCell W ⟨w.heap.size + 1, 0, none⟩ (.slice (some ⟨Rr, 0, none⟩) l.length l.length)).trans (KeepsOthers.setCell _ ⟨w.heap.size + 1 + 1, 0, none⟩ (.int .i64 st.slots))).same _ _ HKK.out rfl))
              have B2 := Lib.hid (show Below w.heap.size w ((W.setCell ⟨w.heap.size + 1, 0, none⟩ (.slice (some ⟨Rr, 0, none⟩) l.length l.length)).setCell ⟨w.heap.size + 1 + 1, 0, none⟩ (.int .i64 st.slots)).drew from
                ((R5.out.setCell (p := ⟨w.heap.size + 1, 0, none⟩) (by simp only; omega) _).setCell (p := ⟨w.heap.size + 1 + 1, 0, none⟩) (by simp only; omega) _).drew)
              generalize ((W.setCell ⟨w.heap.size + 1, 0, none⟩ (.slice (some ⟨Rr, 0, none⟩) l.length l.length)).setCell ⟨w.heap.size + 1 + 1, 0, none⟩ (.int .i64 st.slots)).drew = w9 at *
              clear S1 S2 p1 p2 p3 p4 hdr R2 HKK R5
              go_wp2
              refine ⟨by simp, .inl ⟨_, _, rfl, run_takeDeferred HK2.out, ?_⟩⟩
              have hhi := HKo.out.hi
              have hlo := HKo.out.lo
              simp only at hhi hlo
              rw [← hn0e]
              have f1 : (w9.putObj n0 (.deferred none)).heap[w.heap.size + 1]? = some (.cells #[.slice (some ⟨Rr, 0, none⟩) l.length l.length] 24 (0, 0)) := (World.putObj_heap_other (by omega)).trans (T2.out.at 2 rfl)
              have f2 : (w9.putObj n0 (.deferred none)).heap[w.heap.size + 1 + 1]? = some (.cells #[.int .i64 st.slots] 3 (0, 0)) := (World.putObj_heap_other (by omega)).trans (T2.out.at 3 rfl)
              have f3 : (w9.putObj n0 (.deferred none)).heap[Rr]? = some (.cells (intRow st.rooms) 3 (0, 0)) := (World.putObj_heap_other (by omega)).trans (T2.out.at 4 rfl)
              have f4 : Below w.heap.size w (w9.putObj n0 (.deferred none)) := below_putObj B2.out (by omega) _
              generalize w9.putObj n0 (.deferred none) = w10 at *
              have g1 := blk_cell f1 0
              have g2 := blk_cell f2 0
              simp only [List.getElem?_toArray, List.getElem?_cons_zero] at g1 g2
              have F3 := Lib.hid f3
              have F4 := Lib.hid f4
              clear f1 f2 f3 f4 T2 HK2 B2
              have hA' : xs = c.2 := hA
              subst hA'
              have hown : w10.ownsRow w.heap.size 3 1 (.slice (some ⟨Rr, 0, none⟩) l.length l.length) st.rooms.length (nums .i64 st.rooms) := by
                rw [HINV.out.rl]
                exact ⟨by simp [nums, HINV.out.rl], .inr ⟨Rr, _, intRow st.rooms, rfl, by omega, F3.out, Nat.le_refl _, by simp [maxLen]; omega, by simp [intRow, HINV.out.rl], by simp only [intRow, nums, Nat.mul_one]; exact List.take_of_length_le (by rw [List.length_map, HINV.out.rl]; exact Nat.le_refl _)⟩⟩
              refine ⟨.tuple #[.slice (some ⟨Rr, 0, none⟩) l.length l.length, .int .i64 st.slots], ?_, ⟨c.2, st, _, R7.out, R1.out, rfl, Kd.R_of_own hown (fun _ _ => trivial), F4.out⟩⟩
              simp [results, Try.results8, go_sem, g1, g2]
end Go.Proofs.Ytelheeekbihfcac.Srt
