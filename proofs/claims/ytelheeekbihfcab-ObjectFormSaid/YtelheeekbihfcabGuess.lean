/- A reader's guess (printed; what it imports is mine). -/
import Derived.Test.YtelheeekbihfcabPObjectReadsx0
import Derived.Test.YtelheeekbihfcabPlaced
import Derived.Test.YtelheeekbihfcabNm
namespace Go.Proofs.Ytelheeekbihfcab.PObjectReads
open Go.RowKit Go.Proofs.YtelheeekbihfcabW.PrintWords Go.Proofs.YtelheeekbihfcabW.PrintLast Go.Proofs.YtelheeekbihfcabW.PrintMore
attribute [local go_sem] max2_int min2_int max_two min_two max_three min_three max_four min_four   -- for this text's walks alone
set_option linter.unusedVariables false
set_option linter.unusedSimpArgs false

/-! ### object_reader_guess: function 18 -/
mutual
def object_reader_guess.j0 : Nat → Int → Bool → List Int → Int → Int → Option (Int × Int × List Int × (List (S47)) × Bool)
  | 0, _, _, _, _, _ => none
  | k + 1, x4, x33, x126000, x127000, x127001 => if x33 = true then (some (x127000, x127001, ([] : List Int), ([] : List (S47)), false)) else ((object_reader_number.f k x126000 24 8).bind fun bt129 => ((object_reader_number.f k x126000 104 8).bind fun bt131 => (object_reader_guess.l0 k (wrap64 (Int.tdiv (wrap64 (x4)) 4)) 0 x126000 bt129.1 bt131.1 ([] : List Int) ([] : List (S47)))))
def object_reader_guess.l0 : Nat → Int → Int → List Int → Int → Int → List Int → List (S47) → Option (Int × Int × List Int × (List (S47)) × Bool)
  | 0, _, _, _, _, _, _, _ => none
  | k + 1, x49, x50, x126000, x127000, x127001, x127002, x127003 => if x50 < x49 then ((object_reader_number.f k x126000 (wrap64 (120 + (wrap64 (4 * x50)))) 4).bind fun bt133 => (if bt133.2 = true then (if x127002.length < 35184372088832 then (object_reader_guess.l0 k x49 (wrap64 (x50 + 1)) x126000 x127000 x127001 (x127002 ++ [(bt133.1) % 4294967296]) x127003) else (none)) else (some (x127000, x127001, x127002, x127003, false)))) else ((object_placed.f k x127000 x127001 x127002 x127003).bind fun bt138 => ((object_reader_number.f k x126000 40 8).bind fun bt144 => (if bt144.1 > (IntKind.u64.wrap ((x126000.length : Int))) then (some (x127000, x127001, x127002, x127003, false)) else ((object_reader_number.f k x126000 (wrap64 ((wrap64 ((wrap64 (bt144.1)) + 128)) + 32)) 8).bind fun bt146 => (if bt146.2 = true then (if bt146.1 < 24 then (object_reader_guess.j2 k bt138.2.1 bt146.1 true x126000 x127000 x127001 x127002 x127003) else (if (Int.tmod bt146.1 24) = 0 then (object_reader_guess.j2 k bt138.2.1 bt146.1 (decide (bt146.1 > (IntKind.u64.wrap ((x126000.length : Int))))) x126000 x127000 x127001 x127002 x127003) else (object_reader_guess.j2 k bt138.2.1 bt146.1 true x126000 x127000 x127001 x127002 x127003))) else (object_reader_guess.j2 k bt138.2.1 bt146.1 true x126000 x127000 x127001 x127002 x127003))))))
def object_reader_guess.j2 : Nat → Int → Int → Bool → List Int → Int → Int → List Int → List (S47) → Option (Int × Int × List Int × (List (S47)) × Bool)
  | 0, _, _, _, _, _, _, _, _ => none
  | k + 1, x8, x11, x114, x126000, x127000, x127001, x127002, x127003 => if x114 = true then (some (x127000, x127001, x127002, x127003, false)) else (object_reader_guess.l1 k x8 x11 (wrap64 ((wrap64 (x8 + (wrap64 (x11)))) + 1)) 1 x126000 x127000 x127001 x127002 x127003)
def object_reader_guess.l1 : Nat → Int → Int → Int → Int → List Int → Int → Int → List Int → List (S47) → Option (Int × Int × List Int × (List (S47)) × Bool)
  | 0, _, _, _, _, _, _, _, _, _ => none
  | k + 1, x8, x11, x12, x13, x126000, x127000, x127001, x127002, x127003 => if x13 < (wrap64 (Int.tdiv (wrap64 (x11)) 24)) then ((object_reader_number.f k x126000 (wrap64 ((wrap64 (x8 + (wrap64 (24 * x13)))) + 8)) 8).bind fun bt148 => ((object_reader_name.f k x126000 x12).bind fun bt150 => (if bt148.2 = true then (if bt150.2 = true then (if x127003.length < 5864062014805 then (object_reader_guess.l1 k x8 x11 (wrap64 (x12 + (wrap64 ((bt150.1.size : Int) + 1)))) (wrap64 (x13 + 1)) x126000 x127000 x127001 x127002 (x127003 ++ [(⟨bt150.1, bt148.1⟩ : S47)])) else (none)) else (some (x127000, x127001, x127002, x127003, false))) else (some (x127000, x127001, x127002, x127003, false))))) else (some (x127000, x127001, x127002, x127003, true))
end
def object_reader_guess.f (k : Nat) (l0_0 : List Int) : Option (Int × Int × List Int × (List (S47)) × Bool) := (object_reader_number.f k l0_0 96 8).bind fun bt127 => (if bt127.2 = true then (if (Int.tmod bt127.1 4) = 0 then (object_reader_guess.j0 k bt127.1 (decide (bt127.1 > 262144)) l0_0 0 0) else (object_reader_guess.j0 k bt127.1 true l0_0 0 0)) else (object_reader_guess.j0 k bt127.1 true l0_0 0 0))
theorem object_reader_guess.mono_l : ∀ k, (∀ y0 y1 y2 y3 y4, LeO (object_reader_guess.j0 k y0 y1 y2 y3 y4) (object_reader_guess.j0 (k + 1) y0 y1 y2 y3 y4)) ∧ (∀ y0 y1 y2 y3 y4 y5 y6, LeO (object_reader_guess.l0 k y0 y1 y2 y3 y4 y5 y6) (object_reader_guess.l0 (k + 1) y0 y1 y2 y3 y4 y5 y6)) ∧ (∀ y0 y1 y2 y3 y4 y5 y6 y7, LeO (object_reader_guess.j2 k y0 y1 y2 y3 y4 y5 y6 y7) (object_reader_guess.j2 (k + 1) y0 y1 y2 y3 y4 y5 y6 y7)) ∧ (∀ y0 y1 y2 y3 y4 y5 y6 y7 y8, LeO (object_reader_guess.l1 k y0 y1 y2 y3 y4 y5 y6 y7 y8) (object_reader_guess.l1 (k + 1) y0 y1 y2 y3 y4 y5 y6 y7 y8))
  | 0 => ⟨fun _ _ _ _ _ r h => by simp [object_reader_guess.j0] at h, fun _ _ _ _ _ _ _ r h => by simp [object_reader_guess.l0] at h, fun _ _ _ _ _ _ _ _ r h => by simp [object_reader_guess.j2] at h, fun _ _ _ _ _ _ _ _ _ r h => by simp [object_reader_guess.l1] at h⟩
  | k + 1 => by
    obtain ⟨ih0, ih1, ih2, ih3⟩ := object_reader_guess.mono_l k
    refine ⟨?_, ?_, ?_, ?_⟩
    · intro y0 y1 y2 y3 y4
      unfold object_reader_guess.j0
      repeat' first
      | (with_reducible exact ih0 _ _ _ _ _)
      | (with_reducible exact ih1 _ _ _ _ _ _ _)
      | (with_reducible exact ih2 _ _ _ _ _ _ _ _)
      | (with_reducible exact ih3 _ _ _ _ _ _ _ _ _)
      | (with_reducible exact object_placed.mono _ _ _ _ _)
      | (with_reducible exact object_reader_name.mono _ _ _)
      | (with_reducible exact object_reader_number.mono _ _ _ _)
      | (with_reducible exact LeO.refl _)
      | (with_reducible exact LeO.none _)
      | (with_reducible refine LeO.ite ?_ ?_)
      | (with_reducible refine LeO.bind ?_ (fun _ => ?_))
      | exact ih0 _ _ _ _ _
      | exact ih1 _ _ _ _ _ _ _
      | exact ih2 _ _ _ _ _ _ _ _
      | exact ih3 _ _ _ _ _ _ _ _ _
      | exact object_placed.mono _ _ _ _ _
      | exact object_reader_name.mono _ _ _
      | exact object_reader_number.mono _ _ _ _
      | exact LeO.none _
      | refine LeO.ite ?_ ?_
      | refine LeO.bind ?_ (fun _ => ?_)
    · intro y0 y1 y2 y3 y4 y5 y6
      unfold object_reader_guess.l0
      repeat' first
      | (with_reducible exact ih0 _ _ _ _ _)
      | (with_reducible exact ih1 _ _ _ _ _ _ _)
      | (with_reducible exact ih2 _ _ _ _ _ _ _ _)
      | (with_reducible exact ih3 _ _ _ _ _ _ _ _ _)
      | (with_reducible exact object_placed.mono _ _ _ _ _)
      | (with_reducible exact object_reader_name.mono _ _ _)
      | (with_reducible exact object_reader_number.mono _ _ _ _)
      | (with_reducible exact LeO.refl _)
      | (with_reducible exact LeO.none _)
      | (with_reducible refine LeO.ite ?_ ?_)
      | (with_reducible refine LeO.bind ?_ (fun _ => ?_))
      | exact ih0 _ _ _ _ _
      | exact ih1 _ _ _ _ _ _ _
      | exact ih2 _ _ _ _ _ _ _ _
      | exact ih3 _ _ _ _ _ _ _ _ _
      | exact object_placed.mono _ _ _ _ _
      | exact object_reader_name.mono _ _ _
      | exact object_reader_number.mono _ _ _ _
      | exact LeO.none _
      | refine LeO.ite ?_ ?_
      | refine LeO.bind ?_ (fun _ => ?_)
    · intro y0 y1 y2 y3 y4 y5 y6 y7
      unfold object_reader_guess.j2
      repeat' first
      | (with_reducible exact ih0 _ _ _ _ _)
      | (with_reducible exact ih1 _ _ _ _ _ _ _)
      | (with_reducible exact ih2 _ _ _ _ _ _ _ _)
      | (with_reducible exact ih3 _ _ _ _ _ _ _ _ _)
      | (with_reducible exact object_placed.mono _ _ _ _ _)
      | (with_reducible exact object_reader_name.mono _ _ _)
      | (with_reducible exact object_reader_number.mono _ _ _ _)
      | (with_reducible exact LeO.refl _)
      | (with_reducible exact LeO.none _)
      | (with_reducible refine LeO.ite ?_ ?_)
      | (with_reducible refine LeO.bind ?_ (fun _ => ?_))
      | exact ih0 _ _ _ _ _
      | exact ih1 _ _ _ _ _ _ _
      | exact ih2 _ _ _ _ _ _ _ _
      | exact ih3 _ _ _ _ _ _ _ _ _
      | exact object_placed.mono _ _ _ _ _
      | exact object_reader_name.mono _ _ _
      | exact object_reader_number.mono _ _ _ _
      | exact LeO.none _
      | refine LeO.ite ?_ ?_
      | refine LeO.bind ?_ (fun _ => ?_)
    · intro y0 y1 y2 y3 y4 y5 y6 y7 y8
      unfold object_reader_guess.l1
      repeat' first
      | (with_reducible exact ih0 _ _ _ _ _)
      | (with_reducible exact ih1 _ _ _ _ _ _ _)
      | (with_reducible exact ih2 _ _ _ _ _ _ _ _)
      | (with_reducible exact ih3 _ _ _ _ _ _ _ _ _)
      | (with_reducible exact object_placed.mono _ _ _ _ _)
      | (with_reducible exact object_reader_name.mono _ _ _)
      | (with_reducible exact object_reader_number.mono _ _ _ _)
      | (with_reducible exact LeO.refl _)
      | (with_reducible exact LeO.none _)
      | (with_reducible refine LeO.ite ?_ ?_)
      | (with_reducible refine LeO.bind ?_ (fun _ => ?_))
      | exact ih0 _ _ _ _ _
      | exact ih1 _ _ _ _ _ _ _
      | exact ih2 _ _ _ _ _ _ _ _
      | exact ih3 _ _ _ _ _ _ _ _ _
      | exact object_placed.mono _ _ _ _ _
      | exact object_reader_name.mono _ _ _
      | exact object_reader_number.mono _ _ _ _
      | exact LeO.none _
      | refine LeO.ite ?_ ?_
      | refine LeO.bind ?_ (fun _ => ?_)
theorem object_reader_guess.mono : ∀ a0 k, LeO (object_reader_guess.f k a0) (object_reader_guess.f (k + 1) a0) := by
  intro a0 k
  obtain ⟨ih0, ih1, ih2, ih3⟩ := object_reader_guess.mono_l k
  unfold object_reader_guess.f
  repeat' first
      | (with_reducible exact ih0 _ _ _ _ _)
      | (with_reducible exact ih1 _ _ _ _ _ _ _)
      | (with_reducible exact ih2 _ _ _ _ _ _ _ _)
      | (with_reducible exact ih3 _ _ _ _ _ _ _ _ _)
      | (with_reducible exact object_placed.mono _ _ _ _ _)
      | (with_reducible exact object_reader_name.mono _ _ _)
      | (with_reducible exact object_reader_number.mono _ _ _ _)
      | (with_reducible exact LeO.refl _)
      | (with_reducible exact LeO.none _)
      | (with_reducible refine LeO.ite ?_ ?_)
      | (with_reducible refine LeO.bind ?_ (fun _ => ?_))
      | exact ih0 _ _ _ _ _
      | exact ih1 _ _ _ _ _ _ _
      | exact ih2 _ _ _ _ _ _ _ _
      | exact ih3 _ _ _ _ _ _ _ _ _
      | exact object_placed.mono _ _ _ _ _
      | exact object_reader_name.mono _ _ _
      | exact object_reader_number.mono _ _ _ _
      | exact LeO.none _
      | refine LeO.ite ?_ ?_
      | refine LeO.bind ?_ (fun _ => ?_)
set_option maxHeartbeats 8000000 in
set_option maxRecDepth 100000 in
theorem object_reader_guess.calls (k : Nat) (A0_0 : Option Addr) (c0_0 : Nat) (l0_0 : List Int) (r1 : Int) (r2 : Int) (r3 : List Int) (r4 : List (S47)) (r5 : Bool) (w : World) (hr0_0 : Kd.C (Kd.int .u8) w A0_0 l0_0.length l0_0) (hc0_0 : l0_0.length ≤ c0_0) (h : object_reader_guess.f k l0_0 = some (r1, r2, r3, r4, r5)) :
    Calls Try.prog 18 #[.agg #[.slice A0_0 l0_0.length c0_0]] w fun e w' => ∃ v2_ v3_ : Value, e = .returned (.tuple #[.agg #[.int .u64 r1, .int .u64 r2, v2_, v3_], .bool r5]) ∧ Kd.R (Kd.int .u32) 58 w' w.heap.size (fun _ => True) v2_ r3 ∧ Kd.R k47 47 w' w.heap.size (fun _ => True) v3_ r4 ∧ Below w.heap.size w w' := by
  have hu52 := Try.underlying52
  have hu55 := Try.underlying55
  have hfd := field55
  have hu26 := Try.underlying26
  have hu47 := Try.underlying47
  have HR0_0 := Aside0.mk hr0_0
  have HC0_0 := Aside0.mk hc0_0
  clear hr0_0 hc0_0
  have HB := Aside0.mk (Below.refl w.heap.size w)
  have H : ((object_reader_number.f k l0_0 96 8).bind fun bt127 => (if bt127.2 = true then (if (Int.tmod bt127.1 4) = 0 then (object_reader_guess.j0 k bt127.1 (decide (bt127.1 > 262144)) l0_0 0 0) else (object_reader_guess.j0 k bt127.1 true l0_0 0 0)) else (object_reader_guess.j0 k bt127.1 true l0_0 0 0))) = some (r1, r2, r3, r4, r5) := h
  clear h
  replace H := Option.bind_eq_some_iff.mp H
  obtain ⟨⟨t127, t128⟩, A20, H⟩ := H
  replace H : (if t128 = true then (if (Int.tmod t127 4) = 0 then (object_reader_guess.j0 k t127 (decide (t127 > 262144)) l0_0 0 0) else (object_reader_guess.j0 k t127 true l0_0 0 0)) else (object_reader_guess.j0 k t127 true l0_0 0 0)) = some (r1, r2, r3, r4, r5) := H
  have A2 := Aside0.mk A20
  clear A20
  have HC3 := Aside0.mk H
  clear H
  go_enter Try.func18, Try.ntmps18
  go_upto_region 2 with (first | ((with_reducible refine gate_dst (N := 1) rfl ?_); (try (refine gate_guard (by rfl) ?_; dsimp only)); refine box_event ?hg (N := 1) ?hd (cs := #[.slice A0_0 l0_0.length c0_0]) (t := 52) ?hr ?_; (case hd => rfl); (case hg => rfl); (case hr => first | (go_simp; done) | (go_simp; rfl)); intro gb125 hg w4 hbox hb; have n0_ := Aside0.mk (below_step (by repeat (first | (with_reducible first | exact HB.out | apply below_alloc | apply pw_below_drewN | apply below_drew1) | exact HB.out)) hb); have n1_ := Aside0.mk (hbox); have n2_ := Aside0.mk ((by rw [hg]; exact (below_size (by repeat (first | (with_reducible first | exact HB.out | apply below_alloc | apply pw_below_drewN | apply below_drew1) | exact HB.out))) : w.heap.size ≤ gb125)); have n3_ := Aside0.mk ((by rw [hg]; exact (below_size (by repeat (first | (with_reducible first | exact HB.out | apply below_alloc | apply pw_below_drewN | apply below_drew1) | exact HB.out))) : w.heap.size ≤ gb125)); clear HB; have HB := n0_; have BK125 := n1_; have GW125 := n2_; have GE125 := n3_; clear n0_ n1_ n2_ n3_; clear hb hbox hg) | ((with_reducible refine gate_dst (N := 2) rfl ?_); (try (refine gate_guard (by rfl) ?_; dsimp only)); refine box_event ?hg (N := 2) ?hd (cs := #[.int .u64 0, .int .u64 0, .slice none 0 0, .slice none 0 0]) (t := 26) ?hr ?_; (case hd => rfl); (case hg => rfl); (case hr => first | (go_simp; done) | (go_simp; rfl)); intro gb126 hg w5 hbox hb; have n0_ := Aside0.mk (blk_below (g := gb125) (o := .cells #[.slice A0_0 l0_0.length c0_0] 52 (0, 0)) (by (with_reducible repeat (first | refine blk_drewN ?_ _ | refine blk_drew ?_ | refine blk_alloc ?_ _)); exact BK125.out) hb); have n1_ := Aside0.mk (below_step (by repeat (first | (with_reducible first | exact HB.out | apply below_alloc | apply pw_below_drewN | apply below_drew1 | refine below_set ?_ GE125.out) | exact HB.out)) hb); have n2_ := Aside0.mk (hbox); have n3_ := Aside0.mk ((by rw [hg]; exact (below_size (by repeat (first | (with_reducible first | exact HB.out | apply below_alloc | apply pw_below_drewN | apply below_drew1 | refine below_set ?_ GE125.out) | exact HB.out))) : w.heap.size ≤ gb126)); have n4_ := Aside0.mk ((by rw [hg]; exact (below_size (by repeat (first | (with_reducible first | exact HB.out | apply below_alloc | apply pw_below_drewN | apply below_drew1 | refine below_set ?_ GE125.out) | exact HB.out))) : w.heap.size ≤ gb126)); have n5_ := Aside0.mk ((by rw [hg]; exact Nat.ne_of_lt (blk_lt (g := gb125) (o := .cells #[.slice A0_0 l0_0.length c0_0] 52 (0, 0)) (by (with_reducible repeat (first | refine blk_drewN ?_ _ | refine blk_drew ?_ | refine blk_alloc ?_ _)); exact BK125.out)) : gb125 ≠ gb126)); have n6_ := Aside0.mk ((by rw [hg]; exact Nat.ne_of_gt (blk_lt (g := gb125) (o := .cells #[.slice A0_0 l0_0.length c0_0] 52 (0, 0)) (by (with_reducible repeat (first | refine blk_drewN ?_ _ | refine blk_drew ?_ | refine blk_alloc ?_ _)); exact BK125.out)) : gb126 ≠ gb125)); clear BK125; clear HB; have BK125 := n0_; have HB := n1_; have BK126 := n2_; have GW126 := n3_; have GE126 := n4_; have NB125_126 := n5_; have NB126_125 := n6_; clear n0_ n1_ n2_ n3_ n4_ n5_ n6_; clear hb hbox hg; have hnb6 := NB125_126.out; have hnc6 := NB126_125.out; have hcz7_0 : w5.cell? ⟨gb125, 0, none⟩ = some (.slice A0_0 l0_0.length c0_0) := (blk_cell BK125.out 0).trans rfl; have hfz7_0 := blk_frozen BK125.out 0) | ((with_reducible refine gate_callee (f := 31) rfl ?_); refine goesL_ (some 20) rfl rfl Try.func31 (by kernel_rfl) rfl #[.agg #[.slice A0_0 l0_0.length c0_0], .int .i64 96, .int .i64 8] rfl (by (try simp only [List.map_toArray, List.map_cons, List.map_nil]); first | done | rfl | (simp only [List.length_drop, List.length_take]; rfl)) ?_; (with_reducible refine (object_reader_number.calls k _ _ l0_0 96 8 t127 t128 _ ?side1 ?side2 A2.out).mono ?_); (case side1 => repeat (first | exact (Kd.C_below HR0_0.out HB.out) | (with_reducible refine Kd.C_alloc ?_ _) | (with_reducible refine Kd.C_drewN ?_ _) | (with_reducible refine Kd.C_drew ?_))); (case side2 => exact HC0_0.out); rintro e w8 ⟨rfl, hb⟩; refine ⟨_, rfl, ?_⟩; have n0_ := Aside0.mk (blk_below (g := gb125) (o := .cells #[.slice A0_0 l0_0.length c0_0] 52 (0, 0)) (by (with_reducible repeat (first | refine blk_drewN ?_ _ | refine blk_drew ?_ | refine blk_alloc ?_ _)); exact BK125.out) hb); have n1_ := Aside0.mk (blk_below (g := gb126) (o := .cells #[.int .u64 0, .int .u64 0, .slice none 0 0, .slice none 0 0] 26 (0, 0)) (by (with_reducible repeat (first | refine blk_drewN ?_ _ | refine blk_drew ?_ | refine blk_alloc ?_ _)); exact BK126.out) hb); have n2_ := Aside0.mk (below_step (by repeat (first | (with_reducible first | exact HB.out | apply below_alloc | apply pw_below_drewN | apply below_drew1 | refine below_set ?_ GE125.out | refine below_set ?_ GE126.out) | exact HB.out)) hb); clear BK125; clear BK126; clear HB; have BK125 := n0_; have BK126 := n1_; have HB := n2_; clear n0_ n1_ n2_; (try clear hb); (try clear hb2); (try clear hk); (try clear hi)))
  (try simp only [Act.put, List.setIfInBounds_toArray, List.set_cons_zero, List.set_cons_succ])
  go_cut [33] (fun v33 wc => ∃ (kq : Nat) (x33_2 : Bool), v33 = .bool x33_2 ∧ Aside0 (object_reader_guess.j0 kq t127 x33_2 l0_0 0 0 = some (r1, r2, r3, r4, r5)) ∧ Aside0 (kq ≤ k) ∧ Aside0 (wc.heap[gb125]? = some (.cells #[(.slice A0_0 l0_0.length c0_0)] 52 (0, 0))) ∧ Aside0 (wc.heap[gb126]? = some (.cells #[.int .u64 0, .int .u64 0, (.slice none 0 0), (.slice none 0 0)] 26 (0, 0))) ∧ Aside0 (Below w.heap.size w wc))
  case first =>
    have H := HC3.out
    clear HC3
    by_cases c9 : t128 = true
    · subst c9
      have H1 : (if (Int.tmod t127 4) = 0 then (object_reader_guess.j0 k t127 (decide (t127 > 262144)) l0_0 0 0) else (object_reader_guess.j0 k t127 true l0_0 0 0)) = some (r1, r2, r3, r4, r5) := by rw [if_pos rfl] at H; exact H
      clear H
      have H := H1
      clear H1
      by_cases c10 : (Int.tmod t127 4) = 0
      · rw [if_pos c10] at H
        have c10b0 : ((Int.tmod t127 4) == 0) = true := beq_iff_eq.mpr c10
        have c10b1 : ((Int.tmod t127 4) != 0) = false := bne_eq_false_iff_eq.mpr c10
        clear c10
        (first | rw [c10b0] | (simp only [i64_w, i32_w]; rw [c10b0]) | skip)
        have H' := Aside0.mk H
        clear H
        go_wp2
        go_meet
        case rel => exact ⟨_, (decide (t127 > 262144)), (by first | rfl | (simp; done) | (simp [*]; done)), H', ⟨by first | omega | exact Nat.le_refl _⟩, ⟨by (with_reducible repeat (first | refine blk_drewN ?_ _ | refine blk_drew ?_ | refine blk_alloc ?_ _)); exact BK125.out⟩, ⟨by (with_reducible repeat (first | refine blk_drewN ?_ _ | refine blk_drew ?_ | refine blk_alloc ?_ _)); exact BK126.out⟩, ⟨by repeat (first | (with_reducible first | exact HB.out | apply below_alloc | apply pw_below_drewN | apply below_drew1 | refine below_set ?_ GE125.out | refine below_set ?_ GE126.out) | exact HB.out)⟩⟩
      · rw [if_neg c10] at H
        have c10b0 : ((Int.tmod t127 4) == 0) = false := beq_eq_false_iff_ne.mpr c10
        have c10b1 : ((Int.tmod t127 4) != 0) = true := bne_iff_ne.mpr c10
        (first | rw [c10b0] | (simp only [i64_w, i32_w]; rw [c10b0]) | skip)
        have H' := Aside0.mk H
        clear H
        go_wp2
        go_meet
        case rel => exact ⟨_, (true), (by first | rfl | (simp; done) | (simp [*]; done)), H', ⟨by first | omega | exact Nat.le_refl _⟩, ⟨by (with_reducible repeat (first | refine blk_drewN ?_ _ | refine blk_drew ?_ | refine blk_alloc ?_ _)); exact BK125.out⟩, ⟨by (with_reducible repeat (first | refine blk_drewN ?_ _ | refine blk_drew ?_ | refine blk_alloc ?_ _)); exact BK126.out⟩, ⟨by repeat (first | (with_reducible first | exact HB.out | apply below_alloc | apply pw_below_drewN | apply below_drew1 | refine below_set ?_ GE125.out | refine below_set ?_ GE126.out) | exact HB.out)⟩⟩
    · replace c9 := Bool.eq_false_iff.mpr c9
      subst c9
      have H1 : (object_reader_guess.j0 k t127 true l0_0 0 0) = some (r1, r2, r3, r4, r5) := by rw [if_neg (show ¬ (false = true) by decide)] at H; exact H
      clear H
      have H := H1
      clear H1
      have H' := Aside0.mk H
      clear H
      go_wp2
      go_meet
      case rel => exact ⟨_, (true), (by first | rfl | (simp; done) | (simp [*]; done)), H', ⟨by first | omega | exact Nat.le_refl _⟩, ⟨by (with_reducible repeat (first | refine blk_drewN ?_ _ | refine blk_drew ?_ | refine blk_alloc ?_ _)); exact BK125.out⟩, ⟨by (with_reducible repeat (first | refine blk_drewN ?_ _ | refine blk_drew ?_ | refine blk_alloc ?_ _)); exact BK126.out⟩, ⟨by repeat (first | (with_reducible first | exact HB.out | apply below_alloc | apply pw_below_drewN | apply below_drew1 | refine below_set ?_ GE125.out | refine below_set ?_ GE126.out) | exact HB.out)⟩⟩
  case rest =>
    clear HC3
    try clear c1
    try clear p2
    try clear c3
    try clear c6
    try clear c9
    try clear c10
    try clear c10b0
    try clear c10b1
    try clear hcz7_0
    try clear hfz7_0
    obtain ⟨kq, x33_2, rfl, HA, HJ2, BK125, BK126, HB⟩ := hcut
    cases kq with
    | zero => exact absurd HA.out (by simp [object_reader_guess.j0])
    | succ kj2 =>
      have H := HA.out
      clear HA
      simp only [object_reader_guess.j0] at H
      by_cases c11 : x33_2 = true
      · subst c11
        have H1 : (some (0, 0, ([] : List Int), ([] : List (S47)), false)) = some (r1, r2, r3, r4, r5) := by rw [if_pos rfl] at H; exact H
        clear H
        have H := H1
        clear H1
        simp only [Option.some.injEq, Prod.mk.injEq] at H
        obtain ⟨rfl, rfl, rfl, rfl, rfl⟩ := H
        have hnb12 := NB126_125.out
        have hnc12 := NB125_126.out
        have hcz13_0 : wc.cell? ⟨gb126, 0, none⟩ = some (.int .u64 0) := (blk_cell BK126.out 0).trans rfl
        have hcz13_1 : wc.cell? ⟨gb126, 1, none⟩ = some (.int .u64 0) := (blk_cell BK126.out 1).trans rfl
        have hcz13_2 : wc.cell? ⟨gb126, 2, none⟩ = some (.slice none 0 0) := (blk_cell BK126.out 2).trans rfl
        have hcz13_3 : wc.cell? ⟨gb126, 3, none⟩ = some (.slice none 0 0) := (blk_cell BK126.out 3).trans rfl
        have hfz13_0 := blk_frozen BK126.out 0
        have hfz13_1 := blk_frozen BK126.out 1
        have hfz13_2 := blk_frozen BK126.out 2
        have hfz13_3 := blk_frozen BK126.out 3
        go_wp2
        refine bodyPost_ret (results_ct rfl _ _ gb126 26 #[.int .u64 0, .int .u64 0, .slice none 0 0, .slice none 0 0] (0, 0) _ rfl (by (with_reducible repeat (first | refine blk_drewN ?_ _ | refine blk_drew ?_ | refine blk_alloc ?_ _)); refine blk_put (cs := #[.int .u64 0, .int .u64 0, .slice none 0 0, .slice none 0 0]) ?_ 3 _ rfl; (with_reducible repeat (first | refine blk_drewN ?_ _ | refine blk_drew ?_ | refine blk_alloc ?_ _)); refine blk_put (cs := #[.int .u64 0, .int .u64 0, .slice none 0 0, .slice none 0 0]) ?_ 2 _ rfl; (with_reducible repeat (first | refine blk_drewN ?_ _ | refine blk_drew ?_ | refine blk_alloc ?_ _)); refine blk_put (cs := #[.int .u64 0, .int .u64 0, .slice none 0 0, .slice none 0 0]) ?_ 1 _ rfl; (with_reducible repeat (first | refine blk_drewN ?_ _ | refine blk_drew ?_ | refine blk_alloc ?_ _)); refine blk_put (cs := #[.int .u64 0, .int .u64 0, .slice none 0 0, .slice none 0 0]) ?_ 0 _ rfl; (with_reducible repeat (first | refine blk_drewN ?_ _ | refine blk_drew ?_ | refine blk_alloc ?_ _)); exact BK126.out) Try.underlying26 rfl (by kernel_rfl)) rfl ?_
        exact ⟨_, _, by first | rfl | (simp [errW_none, errW_some] <;> rfl) | (simp [*, errW_none, errW_some] <;> rfl), by first | exact Kd.R_nil _ _ _ _ _ | exact Kd.N_nil _ _ _ _ _ | exact Kd.V_nil _ _ _ _ _ | exact Kd.Q_nil _ _ _ _ _ | exact Kd.S_nil _ _ _ _ _, by first | exact Kd.R_nil _ _ _ _ _ | exact Kd.N_nil _ _ _ _ _ | exact Kd.V_nil _ _ _ _ _ | exact Kd.Q_nil _ _ _ _ _ | exact Kd.S_nil _ _ _ _ _, by repeat (first | (with_reducible first | exact HB.out | apply below_alloc | apply pw_below_drewN | apply below_drew1 | refine below_set ?_ GE125.out | refine below_set ?_ GE126.out) | exact HB.out)⟩
      · replace c11 := Bool.eq_false_iff.mpr c11
        subst c11
        have H1 : ((object_reader_number.f kj2 l0_0 24 8).bind fun bt129 => ((object_reader_number.f kj2 l0_0 104 8).bind fun bt131 => (object_reader_guess.l0 kj2 (wrap64 (Int.tdiv (wrap64 (t127)) 4)) 0 l0_0 bt129.1 bt131.1 ([] : List Int) ([] : List (S47))))) = some (r1, r2, r3, r4, r5) := by rw [if_neg (show ¬ (false = true) by decide)] at H; exact H
        clear H
        have H := H1
        clear H1
        replace H := Option.bind_eq_some_iff.mp H
        obtain ⟨⟨t129, t130⟩, A140, H⟩ := H
        replace H : ((object_reader_number.f kj2 l0_0 104 8).bind fun bt131 => (object_reader_guess.l0 kj2 (wrap64 (Int.tdiv (wrap64 (t127)) 4)) 0 l0_0 t129 bt131.1 ([] : List Int) ([] : List (S47)))) = some (r1, r2, r3, r4, r5) := H
        have A14 := Aside0.mk A140
        clear A140
        replace H := Option.bind_eq_some_iff.mp H
        obtain ⟨⟨t131, t132⟩, A150, H⟩ := H
        replace H : (object_reader_guess.l0 kj2 (wrap64 (Int.tdiv (wrap64 (t127)) 4)) 0 l0_0 t129 t131 ([] : List Int) ([] : List (S47))) = some (r1, r2, r3, r4, r5) := H
        have A15 := Aside0.mk A150
        clear A150
        have H' := Aside0.mk H
        clear H
        have hnb16 := NB125_126.out
        have hnc16 := NB126_125.out
        have hcz17_0 : wc.cell? ⟨gb125, 0, none⟩ = some (.slice A0_0 l0_0.length c0_0) := (blk_cell BK125.out 0).trans rfl
        have hfz17_0 := blk_frozen BK125.out 0
        go_wp2_with (first | ((with_reducible refine gate_callee (f := 31) rfl ?_); refine goesL_ (some 37) rfl rfl Try.func31 (by kernel_rfl) rfl #[.agg #[.slice A0_0 l0_0.length c0_0], .int .i64 24, .int .i64 8] rfl (by (try simp only [List.map_toArray, List.map_cons, List.map_nil]); first | done | rfl | (simp only [List.length_drop, List.length_take]; rfl)) ?_; (with_reducible refine (object_reader_number.calls kj2 _ _ l0_0 24 8 t129 t130 _ ?side1 ?side2 A14.out).mono ?_); (case side1 => repeat (first | exact (Kd.C_below HR0_0.out HB.out) | (with_reducible refine Kd.C_alloc ?_ _) | (with_reducible refine Kd.C_drewN ?_ _) | (with_reducible refine Kd.C_drew ?_))); (case side2 => exact HC0_0.out); rintro e w18 ⟨rfl, hb⟩; refine ⟨_, rfl, ?_⟩; have n0_ := Aside0.mk (blk_below (g := gb125) (o := .cells #[.slice A0_0 l0_0.length c0_0] 52 (0, 0)) (by (with_reducible repeat (first | refine blk_drewN ?_ _ | refine blk_drew ?_ | refine blk_alloc ?_ _)); exact BK125.out) hb); have n1_ := Aside0.mk (blk_below (g := gb126) (o := .cells #[.int .u64 0, .int .u64 0, .slice none 0 0, .slice none 0 0] 26 (0, 0)) (by (with_reducible repeat (first | refine blk_drewN ?_ _ | refine blk_drew ?_ | refine blk_alloc ?_ _)); exact BK126.out) hb); have n2_ := Aside0.mk (below_step (by repeat (first | (with_reducible first | exact HB.out | apply below_alloc | apply pw_below_drewN | apply below_drew1 | refine below_set ?_ GE125.out | refine below_set ?_ GE126.out) | exact HB.out)) hb); clear BK125; clear BK126; clear HB; have BK125 := n0_; have BK126 := n1_; have HB := n2_; clear n0_ n1_ n2_; (try clear hb); (try clear hb2); (try clear hk); (try clear hi); have hcz19_0 : w18.cell? ⟨gb126, 0, none⟩ = some (.int .u64 0) := (blk_cell BK126.out 0).trans rfl; have hcz19_1 : w18.cell? ⟨gb126, 1, none⟩ = some (.int .u64 0) := (blk_cell BK126.out 1).trans rfl; have hcz19_2 : w18.cell? ⟨gb126, 2, none⟩ = some (.slice none 0 0) := (blk_cell BK126.out 2).trans rfl; have hcz19_3 : w18.cell? ⟨gb126, 3, none⟩ = some (.slice none 0 0) := (blk_cell BK126.out 3).trans rfl; have hfz19_0 := blk_frozen BK126.out 0; have hfz19_1 := blk_frozen BK126.out 1; have hfz19_2 := blk_frozen BK126.out 2; have hfz19_3 := blk_frozen BK126.out 3; have hcz20_0 : w18.cell? ⟨gb125, 0, none⟩ = some (.slice A0_0 l0_0.length c0_0) := (blk_cell BK125.out 0).trans rfl; have hfz20_0 := blk_frozen BK125.out 0) | ((with_reducible refine gate_callee (f := 31) rfl ?_); refine goesL_ (some 43) rfl rfl Try.func31 (by kernel_rfl) rfl #[.agg #[.slice A0_0 l0_0.length c0_0], .int .i64 104, .int .i64 8] rfl (by (try simp only [List.map_toArray, List.map_cons, List.map_nil]); first | done | rfl | (simp only [List.length_drop, List.length_take]; rfl)) ?_; (with_reducible refine (object_reader_number.calls kj2 _ _ l0_0 104 8 t131 t132 _ ?side1 ?side2 A15.out).mono ?_); (case side1 => exact Kd.C_below HR0_0.out (by repeat (first | (with_reducible first | exact HB.out | apply below_alloc | apply pw_below_drewN | apply below_drew1 | refine below_set ?_ GE125.out | refine below_set ?_ GE126.out) | exact HB.out))); (case side2 => exact HC0_0.out); rintro e w21 ⟨rfl, hb⟩; refine ⟨_, rfl, ?_⟩; have n0_ := Aside0.mk (blk_below (g := gb125) (o := .cells #[.slice A0_0 l0_0.length c0_0] 52 (0, 0)) (by (with_reducible repeat (first | refine blk_drewN ?_ _ | refine blk_drew ?_ | refine blk_alloc ?_ _)); refine blk_far ?_ NB125_126.out _; (with_reducible repeat (first | refine blk_drewN ?_ _ | refine blk_drew ?_ | refine blk_alloc ?_ _)); exact BK125.out) hb); have n1_ := Aside0.mk (blk_below (g := gb126) (o := .cells #[.int .u64 t129, .int .u64 0, .slice none 0 0, .slice none 0 0] 26 (0, 0)) (by (with_reducible repeat (first | refine blk_drewN ?_ _ | refine blk_drew ?_ | refine blk_alloc ?_ _)); refine blk_put (cs := #[.int .u64 0, .int .u64 0, .slice none 0 0, .slice none 0 0]) ?_ 0 _ rfl; (with_reducible repeat (first | refine blk_drewN ?_ _ | refine blk_drew ?_ | refine blk_alloc ?_ _)); exact BK126.out) hb); have n2_ := Aside0.mk (below_step (by repeat (first | (with_reducible first | exact HB.out | apply below_alloc | apply pw_below_drewN | apply below_drew1 | refine below_set ?_ GE125.out | refine below_set ?_ GE126.out) | exact HB.out)) hb); clear BK125; clear BK126; clear HB; have BK125 := n0_; have BK126 := n1_; have HB := n2_; clear n0_ n1_ n2_; (try clear hb); (try clear hb2); (try clear hk); (try clear hi); have hcz22_0 : w21.cell? ⟨gb126, 0, none⟩ = some (.int .u64 t129) := (blk_cell BK126.out 0).trans rfl; have hcz22_1 : w21.cell? ⟨gb126, 1, none⟩ = some (.int .u64 0) := (blk_cell BK126.out 1).trans rfl; have hcz22_2 : w21.cell? ⟨gb126, 2, none⟩ = some (.slice none 0 0) := (blk_cell BK126.out 2).trans rfl; have hcz22_3 : w21.cell? ⟨gb126, 3, none⟩ = some (.slice none 0 0) := (blk_cell BK126.out 3).trans rfl; have hfz22_0 := blk_frozen BK126.out 0; have hfz22_1 := blk_frozen BK126.out 1; have hfz22_2 := blk_frozen BK126.out 2; have hfz22_3 := blk_frozen BK126.out 3))
        go_loopg [50] kj2 (fun kq v50 w' => ∃ (x50_2 : Int) (x127000_2 : Int) (x127001_2 : Int) (x127002_2 : List Int) (x127003_2 : List (S47)) (u127002 : Value) (u127003 : Value), v50 = .int .i64 x50_2 ∧ Aside0 (object_reader_guess.l0 kq (wrap64 (Int.tdiv (wrap64 (t127)) 4)) x50_2 l0_0 x127000_2 x127001_2 x127002_2 x127003_2 = some (r1, r2, r3, r4, r5)) ∧ Aside0 (kq ≤ kj2) ∧ Aside0 (Kd.R (Kd.int .u32) 58 w' w.heap.size (fun _ => True) u127002 x127002_2) ∧ Aside0 (Kd.R k47 47 w' w.heap.size (fun _ => True) u127003 x127003_2) ∧ Aside0 (w'.heap[gb125]? = some (.cells #[(.slice A0_0 l0_0.length c0_0)] 52 (0, 0))) ∧ Aside0 (w'.heap[gb126]? = some (.cells #[.int .u64 x127000_2, .int .u64 x127001_2, u127002, u127003] 26 (0, 0))) ∧ Aside0 (Below w.heap.size w w'))
        case atStart => exact ⟨(0), (t129), (t131), (([] : List Int)), (([] : List (S47))), (.slice none 0 0), (.slice none 0 0), (by first | rfl | (simp; done) | (simp [*]; done)), H', ⟨Nat.le_refl _⟩, ⟨by first | exact Kd.R_nil _ _ _ _ _ | exact Kd.N_nil _ _ _ _ _ | exact Kd.V_nil _ _ _ _ _ | exact Kd.Q_nil _ _ _ _ _ | exact Kd.S_nil _ _ _ _ _⟩, ⟨by first | exact Kd.R_nil _ _ _ _ _ | exact Kd.N_nil _ _ _ _ _ | exact Kd.V_nil _ _ _ _ _ | exact Kd.Q_nil _ _ _ _ _ | exact Kd.S_nil _ _ _ _ _⟩, ⟨by (with_reducible repeat (first | refine blk_drewN ?_ _ | refine blk_drew ?_ | refine blk_alloc ?_ _)); refine blk_far ?_ NB125_126.out _; (with_reducible repeat (first | refine blk_drewN ?_ _ | refine blk_drew ?_ | refine blk_alloc ?_ _)); exact BK125.out⟩, ⟨by (with_reducible repeat (first | refine blk_drewN ?_ _ | refine blk_drew ?_ | refine blk_alloc ?_ _)); refine blk_put (cs := #[.int .u64 t129, .int .u64 0, .slice none 0 0, .slice none 0 0]) ?_ 1 _ rfl; (with_reducible repeat (first | refine blk_drewN ?_ _ | refine blk_drew ?_ | refine blk_alloc ?_ _)); exact BK126.out⟩, ⟨by repeat (first | (with_reducible first | exact HB.out | apply below_alloc | apply pw_below_drewN | apply below_drew1 | refine below_set ?_ GE125.out | refine below_set ?_ GE126.out) | exact HB.out)⟩⟩
        case round =>
          clear H'
          try clear c1
          try clear p2
          try clear c3
          try clear c6
          try clear p6
          try clear c9
          try clear c10
          try clear c10b0
          try clear c10b1
          try clear c11
          try clear c12
          try clear c16
          try clear c18
          try clear hcz13_0
          try clear hcz13_1
          try clear hcz13_2
          try clear hcz13_3
          try clear hcz17_0
          try clear hcz19_0
          try clear hcz19_1
          try clear hcz19_2
          try clear hcz19_3
          try clear hcz20_0
          try clear hcz22_0
          try clear hcz22_1
          try clear hcz22_2
          try clear hcz22_3
          try clear hcz7_0
          try clear hfz13_0
          try clear hfz13_1
          try clear hfz13_2
          try clear hfz13_3
          try clear hfz17_0
          try clear hfz19_0
          try clear hfz19_1
          try clear hfz19_2
          try clear hfz19_3
          try clear hfz20_0
          try clear hfz22_0
          try clear hfz22_1
          try clear hfz22_2
          try clear hfz22_3
          try clear hfz7_0
          try clear p2
          obtain ⟨x50_2, x127000_2, x127001_2, x127002_2, x127003_2, u127002, u127003, rfl, HA, HK2, HO_127002, HO_127003, BK125, BK126, HB⟩ := hrel
          cases gk with
          | zero => exact absurd HA.out (by simp [object_reader_guess.l0])
          | succ k2 =>
            have H := HA.out
            clear HA
            simp only [object_reader_guess.l0] at H
            by_cases c23 : x50_2 < (wrap64 (Int.tdiv (wrap64 (t127)) 4))
            · rw [if_pos c23] at H
              have c23b0 : decide (x50_2 < (wrap64 (Int.tdiv (wrap64 (t127)) 4))) = true := decide_eq_true c23
              clear c23
              replace H := Option.bind_eq_some_iff.mp H
              obtain ⟨⟨t133, t134⟩, A240, H⟩ := H
              replace H : (if t134 = true then (if x127002_2.length < 35184372088832 then (object_reader_guess.l0 k2 (wrap64 (Int.tdiv (wrap64 (t127)) 4)) (wrap64 (x50_2 + 1)) l0_0 x127000_2 x127001_2 (x127002_2 ++ [(t133) % 4294967296]) x127003_2) else (none)) else (some (x127000_2, x127001_2, x127002_2, x127003_2, false))) = some (r1, r2, r3, r4, r5) := H
              have A24 := Aside0.mk A240
              clear A240
              by_cases c25 : t134 = true
              · subst c25
                have H1 : (if x127002_2.length < 35184372088832 then (object_reader_guess.l0 k2 (wrap64 (Int.tdiv (wrap64 (t127)) 4)) (wrap64 (x50_2 + 1)) l0_0 x127000_2 x127001_2 (x127002_2 ++ [(t133) % 4294967296]) x127003_2) else (none)) = some (r1, r2, r3, r4, r5) := by rw [if_pos rfl] at H; exact H
                clear H
                have H := H1
                clear H1
                by_cases c26 : x127002_2.length < 35184372088832
                · rw [if_pos c26] at H
                  have LMc26 := Aside0.mk c26
                  clear c26
                  obtain ⟨y135, hy135⟩ : ∃ y_ : List Int, y_ = (x127002_2 ++ [(t133) % 4294967296]) := ⟨_, rfl⟩
                  replace H : (object_reader_guess.l0 k2 (wrap64 (Int.tdiv (wrap64 (t127)) 4)) (wrap64 (x50_2 + 1)) l0_0 x127000_2 x127001_2 y135 x127003_2) = some (r1, r2, r3, r4, r5) := by first | (rw [hy135]; with_reducible exact H) | (have H2_ := (Option.bind_some _ _).symm.trans H; rw [hy135]; with_reducible exact H2_) | (have H2_ := (Option.bind_some _ _).symm.trans H; with_reducible exact H2_) | with_reducible exact H | (rw [hy135]; exact H) | exact H
                  have Ny135 := Aside0.mk hy135
                  clear hy135
                  have H' := Aside0.mk H
                  clear H
                  have hnb27 := NB125_126.out
                  have hnc27 := NB126_125.out
                  have hcz28_0 : wr.cell? ⟨gb125, 0, none⟩ = some (.slice A0_0 l0_0.length c0_0) := (blk_cell BK125.out 0).trans rfl
                  have hfz28_0 := blk_frozen BK125.out 0
                  go_wp2_with (first | ((with_reducible refine gate_callee (f := 31) rfl ?_); refine goesL_ (some 58) rfl rfl Try.func31 (by kernel_rfl) rfl #[.agg #[.slice A0_0 l0_0.length c0_0], .int .i64 (wrap64 (120 + (wrap64 (4 * x50_2)))), .int .i64 4] rfl (by (try simp only [List.map_toArray, List.map_cons, List.map_nil]); first | done | rfl | (simp only [List.length_drop, List.length_take]; rfl)) ?_; (with_reducible refine (object_reader_number.calls k2 _ _ l0_0 (wrap64 (120 + (wrap64 (4 * x50_2)))) 4 t133 true _ ?side1 ?side2 A24.out).mono ?_); (case side1 => repeat (first | exact (Kd.C_below HR0_0.out HB.out) | (with_reducible refine Kd.C_alloc ?_ _) | (with_reducible refine Kd.C_drewN ?_ _) | (with_reducible refine Kd.C_drew ?_))); (case side2 => exact HC0_0.out); rintro e w29 ⟨rfl, hb⟩; refine ⟨_, rfl, ?_⟩; have n0_ := Aside0.mk (Kd.R_below (by (with_reducible repeat (first | apply Kd.R_alloc | apply Kd.R_drewN | apply Kd.R_drew)); exact HO_127002.out) hb); have n1_ := Aside0.mk (Kd.R_below (by (with_reducible repeat (first | apply Kd.R_alloc | apply Kd.R_drewN | apply Kd.R_drew)); exact HO_127003.out) hb); have n2_ := Aside0.mk (blk_below (g := gb125) (o := .cells #[.slice A0_0 l0_0.length c0_0] 52 (0, 0)) (by (with_reducible repeat (first | refine blk_drewN ?_ _ | refine blk_drew ?_ | refine blk_alloc ?_ _)); exact BK125.out) hb); have n3_ := Aside0.mk (blk_below (g := gb126) (o := .cells #[.int .u64 x127000_2, .int .u64 x127001_2, u127002, u127003] 26 (0, 0)) (by (with_reducible repeat (first | refine blk_drewN ?_ _ | refine blk_drew ?_ | refine blk_alloc ?_ _)); exact BK126.out) hb); have n4_ := Aside0.mk (below_step (by repeat (first | (with_reducible first | exact HB.out | apply below_alloc | apply pw_below_drewN | apply below_drew1 | refine below_set ?_ GE125.out | refine below_set ?_ GE126.out) | exact HB.out)) hb); clear HO_127002; clear HO_127003; clear BK125; clear BK126; clear HB; have HO_127002 := n0_; have HO_127003 := n1_; have BK125 := n2_; have BK126 := n3_; have HB := n4_; clear n0_ n1_ n2_ n3_ n4_; (try clear hb); (try clear hb2); (try clear hk); (try clear hi); have hcz30_0 : w29.cell? ⟨gb126, 0, none⟩ = some (.int .u64 x127000_2) := (blk_cell BK126.out 0).trans rfl; have hcz30_1 : w29.cell? ⟨gb126, 1, none⟩ = some (.int .u64 x127001_2) := (blk_cell BK126.out 1).trans rfl; have hcz30_2 : w29.cell? ⟨gb126, 2, none⟩ = some (u127002) := (blk_cell BK126.out 2).trans rfl; have hcz30_3 : w29.cell? ⟨gb126, 3, none⟩ = some (u127003) := (blk_cell BK126.out 3).trans rfl; have hfz30_0 := blk_frozen BK126.out 0; have hfz30_1 := blk_frozen BK126.out 1; have hfz30_2 := blk_frozen BK126.out 2; have hfz30_3 := blk_frozen BK126.out 3) | ((with_reducible refine gate_builtin (b := .append) (xs := #[.tmp 65, .tmp 68]) rfl ?_); (try (refine gate_guard (by rfl) ?_; dsimp only)); at_builtin; refine Kd.R_append (Kd.int .u32) (w0 := w) w.heap.size rfl (.tmp 65) (.tmp 68) 23 58 (.int .u32 0) 4 rfl Try.underlying23 info58 rfl (by decide) (by omega) u127002 x127002_2 ((t133) % 4294967296) [.int .u32 ((t133) % 4294967296)] (fun _ => True) (fun _ => False) rfl rfl ?aP (fun _ hk => hk.elim) ?aF ?aO ?aB ?aS ?aL ?_; (case aP => exact rfl); (case aB => exact (by repeat (first | (with_reducible first | exact HB.out | apply below_alloc | apply pw_below_drewN | apply below_drew1 | refine below_set ?_ GE125.out | refine below_set ?_ GE126.out) | exact HB.out))); (case aF => exact (fun _ _ => trivial)); (case aO => exact (by (with_reducible repeat (first | apply Kd.R_alloc | apply Kd.R_drewN | apply Kd.R_drew)); exact HO_127002.out)); (case aS => exact (below_size (by repeat (first | (with_reducible first | exact HB.out | apply below_alloc | apply pw_below_drewN | apply below_drew1 | refine below_set ?_ GE125.out | refine below_set ?_ GE126.out) | exact HB.out)))); (case aL => have := LMc26.out; omega); intro v136 w31 ho hb hg hat; rw [← Ny135.out] at ho; have n0_ := Aside0.mk (Kd.R_over' (by (with_reducible repeat (first | apply Kd.R_alloc | apply Kd.R_drewN | apply Kd.R_drew)); exact HO_127003.out) (Kd.R_typed (by (with_reducible repeat (first | apply Kd.R_alloc | apply Kd.R_drewN | apply Kd.R_drew)); exact HO_127002.out)) (by decide) hg); have n1_ := Aside0.mk (blk_grown (g := gb125) (o := .cells #[.slice A0_0 l0_0.length c0_0] 52 (0, 0)) (by (with_reducible repeat (first | refine blk_drewN ?_ _ | refine blk_drew ?_ | refine blk_alloc ?_ _)); exact BK125.out) hg (Kd.R_ne HO_127002.out BK125.out (by decide))); have n2_ := Aside0.mk (blk_grown (g := gb126) (o := .cells #[.int .u64 x127000_2, .int .u64 x127001_2, u127002, u127003] 26 (0, 0)) (by (with_reducible repeat (first | refine blk_drewN ?_ _ | refine blk_drew ?_ | refine blk_alloc ?_ _)); exact BK126.out) hg (Kd.R_ne HO_127002.out BK126.out (by decide))); have n3_ := Aside0.mk (hb); have n4_ := Aside0.mk (ho); clear HO_127003; clear BK125; clear BK126; clear HB; clear HO_127002; have HO_127003 := n0_; have BK125 := n1_; have BK126 := n2_; have HB := n3_; have HO137 := n4_; clear n0_ n1_ n2_ n3_ n4_; clear ho hb hg hat; obtain ⟨Ao32, co32, eo32⟩ := Kd.R_slice HO137.out; subst eo32; have hcz33_0 : w31.cell? ⟨gb126, 0, none⟩ = some (.int .u64 x127000_2) := (blk_cell BK126.out 0).trans rfl; have hcz33_1 : w31.cell? ⟨gb126, 1, none⟩ = some (.int .u64 x127001_2) := (blk_cell BK126.out 1).trans rfl; have hcz33_2 : w31.cell? ⟨gb126, 2, none⟩ = some (u127002) := (blk_cell BK126.out 2).trans rfl; have hcz33_3 : w31.cell? ⟨gb126, 3, none⟩ = some (u127003) := (blk_cell BK126.out 3).trans rfl; have hfz33_0 := blk_frozen BK126.out 0; have hfz33_1 := blk_frozen BK126.out 1; have hfz33_2 := blk_frozen BK126.out 2; have hfz33_3 := blk_frozen BK126.out 3))
                  go_roundg k2
                  case measure => have := HJ2.out; have := HK2.out; omega
                  case rel => exact ⟨(wrap64 (x50_2 + 1)), (x127000_2), (x127001_2), (y135), (x127003_2), (.slice Ao32 y135.length co32), (u127003), (by first | rfl | (simp; done) | (simp [*]; done)), H', ⟨by have := HJ2.out; have := HK2.out; omega⟩, ⟨by (with_reducible repeat (first | apply Kd.R_alloc | apply Kd.R_drewN | apply Kd.R_drew)); exact Kd.R_mono (Kd.R_far (p := ⟨gb126, 2, none⟩) (Kd.R_types HO137.out BK126.out (by decide)) (fun _ hk => hk.2) (.slice Ao32 y135.length co32)) (fun _ hk => trivial)⟩, ⟨by (with_reducible repeat (first | apply Kd.R_alloc | apply Kd.R_drewN | apply Kd.R_drew)); exact Kd.R_mono (Kd.R_far (p := ⟨gb126, 2, none⟩) (Kd.R_types HO_127003.out BK126.out (by decide)) (fun _ hk => hk.2) (.slice Ao32 y135.length co32)) (fun _ hk => trivial)⟩, ⟨by (with_reducible repeat (first | refine blk_drewN ?_ _ | refine blk_drew ?_ | refine blk_alloc ?_ _)); refine blk_far ?_ NB125_126.out _; (with_reducible repeat (first | refine blk_drewN ?_ _ | refine blk_drew ?_ | refine blk_alloc ?_ _)); exact BK125.out⟩, ⟨by (with_reducible repeat (first | refine blk_drewN ?_ _ | refine blk_drew ?_ | refine blk_alloc ?_ _)); refine blk_put (cs := #[.int .u64 x127000_2, .int .u64 x127001_2, u127002, u127003]) ?_ 2 _ rfl; (with_reducible repeat (first | refine blk_drewN ?_ _ | refine blk_drew ?_ | refine blk_alloc ?_ _)); exact BK126.out⟩, ⟨by repeat (first | (with_reducible first | exact HB.out | apply below_alloc | apply pw_below_drewN | apply below_drew1 | refine below_set ?_ GE125.out | refine below_set ?_ GE126.out) | exact HB.out)⟩⟩
                · rw [if_neg c26] at H
                  exact absurd H (by simp)
              · replace c25 := Bool.eq_false_iff.mpr c25
                subst c25
                have H1 : (some (x127000_2, x127001_2, x127002_2, x127003_2, false)) = some (r1, r2, r3, r4, r5) := by rw [if_neg (show ¬ (false = true) by decide)] at H; exact H
                clear H
                have H := H1
                clear H1
                simp only [Option.some.injEq, Prod.mk.injEq] at H
                obtain ⟨rfl, rfl, rfl, rfl, rfl⟩ := H
                have hnb34 := NB125_126.out
                have hnc34 := NB126_125.out
                have hcz35_0 : wr.cell? ⟨gb125, 0, none⟩ = some (.slice A0_0 l0_0.length c0_0) := (blk_cell BK125.out 0).trans rfl
                have hfz35_0 := blk_frozen BK125.out 0
                go_wp2_with (first | ((with_reducible refine gate_callee (f := 31) rfl ?_); refine goesL_ (some 58) rfl rfl Try.func31 (by kernel_rfl) rfl #[.agg #[.slice A0_0 l0_0.length c0_0], .int .i64 (wrap64 (120 + (wrap64 (4 * x50_2)))), .int .i64 4] rfl (by (try simp only [List.map_toArray, List.map_cons, List.map_nil]); first | done | rfl | (simp only [List.length_drop, List.length_take]; rfl)) ?_; (with_reducible refine (object_reader_number.calls k2 _ _ l0_0 (wrap64 (120 + (wrap64 (4 * x50_2)))) 4 t133 false _ ?side1 ?side2 A24.out).mono ?_); (case side1 => repeat (first | exact (Kd.C_below HR0_0.out HB.out) | (with_reducible refine Kd.C_alloc ?_ _) | (with_reducible refine Kd.C_drewN ?_ _) | (with_reducible refine Kd.C_drew ?_))); (case side2 => exact HC0_0.out); rintro e w36 ⟨rfl, hb⟩; refine ⟨_, rfl, ?_⟩; have n0_ := Aside0.mk (Kd.R_below (by (with_reducible repeat (first | apply Kd.R_alloc | apply Kd.R_drewN | apply Kd.R_drew)); exact HO_127002.out) hb); have n1_ := Aside0.mk (Kd.R_below (by (with_reducible repeat (first | apply Kd.R_alloc | apply Kd.R_drewN | apply Kd.R_drew)); exact HO_127003.out) hb); have n2_ := Aside0.mk (blk_below (g := gb125) (o := .cells #[.slice A0_0 l0_0.length c0_0] 52 (0, 0)) (by (with_reducible repeat (first | refine blk_drewN ?_ _ | refine blk_drew ?_ | refine blk_alloc ?_ _)); exact BK125.out) hb); have n3_ := Aside0.mk (blk_below (g := gb126) (o := .cells #[.int .u64 x127000_2, .int .u64 x127001_2, u127002, u127003] 26 (0, 0)) (by (with_reducible repeat (first | refine blk_drewN ?_ _ | refine blk_drew ?_ | refine blk_alloc ?_ _)); exact BK126.out) hb); have n4_ := Aside0.mk (below_step (by repeat (first | (with_reducible first | exact HB.out | apply below_alloc | apply pw_below_drewN | apply below_drew1 | refine below_set ?_ GE125.out | refine below_set ?_ GE126.out) | exact HB.out)) hb); clear HO_127002; clear HO_127003; clear BK125; clear BK126; clear HB; have HO_127002 := n0_; have HO_127003 := n1_; have BK125 := n2_; have BK126 := n3_; have HB := n4_; clear n0_ n1_ n2_ n3_ n4_; (try clear hb); (try clear hb2); (try clear hk); (try clear hi); have hcz37_0 : w36.cell? ⟨gb126, 0, none⟩ = some (.int .u64 x127000_2) := (blk_cell BK126.out 0).trans rfl; have hcz37_1 : w36.cell? ⟨gb126, 1, none⟩ = some (.int .u64 x127001_2) := (blk_cell BK126.out 1).trans rfl; have hcz37_2 : w36.cell? ⟨gb126, 2, none⟩ = some (u127002) := (blk_cell BK126.out 2).trans rfl; have hcz37_3 : w36.cell? ⟨gb126, 3, none⟩ = some (u127003) := (blk_cell BK126.out 3).trans rfl; have hfz37_0 := blk_frozen BK126.out 0; have hfz37_1 := blk_frozen BK126.out 1; have hfz37_2 := blk_frozen BK126.out 2; have hfz37_3 := blk_frozen BK126.out 3; obtain ⟨Ao38, co38, eo38⟩ := Kd.R_slice HO_127002.out; subst eo38; obtain ⟨Ao39, co39, eo39⟩ := Kd.R_slice HO_127003.out; subst eo39))
                refine bodyPost_ret (results_ct rfl _ _ gb126 26 #[.int .u64 x127000_2, .int .u64 x127001_2, .slice Ao38 x127002_2.length co38, .slice Ao39 x127003_2.length co39] (0, 0) _ rfl (by (with_reducible repeat (first | refine blk_drewN ?_ _ | refine blk_drew ?_ | refine blk_alloc ?_ _)); refine blk_put (cs := #[.int .u64 x127000_2, .int .u64 x127001_2, .slice Ao38 x127002_2.length co38, .slice Ao39 x127003_2.length co39]) ?_ 3 _ rfl; (with_reducible repeat (first | refine blk_drewN ?_ _ | refine blk_drew ?_ | refine blk_alloc ?_ _)); refine blk_put (cs := #[.int .u64 x127000_2, .int .u64 x127001_2, .slice Ao38 x127002_2.length co38, .slice Ao39 x127003_2.length co39]) ?_ 2 _ rfl; (with_reducible repeat (first | refine blk_drewN ?_ _ | refine blk_drew ?_ | refine blk_alloc ?_ _)); refine blk_put (cs := #[.int .u64 x127000_2, .int .u64 x127001_2, .slice Ao38 x127002_2.length co38, .slice Ao39 x127003_2.length co39]) ?_ 1 _ rfl; (with_reducible repeat (first | refine blk_drewN ?_ _ | refine blk_drew ?_ | refine blk_alloc ?_ _)); refine blk_put (cs := #[.int .u64 x127000_2, .int .u64 x127001_2, .slice Ao38 x127002_2.length co38, .slice Ao39 x127003_2.length co39]) ?_ 0 _ rfl; (with_reducible repeat (first | refine blk_drewN ?_ _ | refine blk_drew ?_ | refine blk_alloc ?_ _)); exact BK126.out) Try.underlying26 rfl (by kernel_rfl)) rfl ?_
                exact ⟨_, _, by first | rfl | (simp [errW_none, errW_some] <;> rfl) | (simp [*, errW_none, errW_some] <;> rfl), by (with_reducible repeat (first | apply Kd.R_alloc | apply Kd.R_drewN | apply Kd.R_drew)); exact Kd.R_mono (Kd.R_far (p := ⟨gb126, 3, none⟩) (Kd.R_far (p := ⟨gb126, 2, none⟩) (Kd.R_far (p := ⟨gb126, 1, none⟩) (Kd.R_far (p := ⟨gb126, 0, none⟩) (Kd.R_types HO_127002.out BK126.out (by decide)) (fun _ hk => hk.2) (.int .u64 x127000_2)) (fun _ hk => hk.2) (.int .u64 x127001_2)) (fun _ hk => hk.2) (.slice Ao38 x127002_2.length co38)) (fun _ hk => hk.2) (.slice Ao39 x127003_2.length co39)) (fun _ hk => trivial), by (with_reducible repeat (first | apply Kd.R_alloc | apply Kd.R_drewN | apply Kd.R_drew)); exact Kd.R_mono (Kd.R_far (p := ⟨gb126, 3, none⟩) (Kd.R_far (p := ⟨gb126, 2, none⟩) (Kd.R_far (p := ⟨gb126, 1, none⟩) (Kd.R_far (p := ⟨gb126, 0, none⟩) (Kd.R_types HO_127003.out BK126.out (by decide)) (fun _ hk => hk.2) (.int .u64 x127000_2)) (fun _ hk => hk.2) (.int .u64 x127001_2)) (fun _ hk => hk.2) (.slice Ao38 x127002_2.length co38)) (fun _ hk => hk.2) (.slice Ao39 x127003_2.length co39)) (fun _ hk => trivial), by repeat (first | (with_reducible first | exact HB.out | apply below_alloc | apply pw_below_drewN | apply below_drew1 | refine below_set ?_ GE125.out | refine below_set ?_ GE126.out) | exact HB.out)⟩
            · rw [if_neg c23] at H
              have c23b0 : decide (x50_2 < (wrap64 (Int.tdiv (wrap64 (t127)) 4))) = false := decide_eq_false c23
              clear c23
              replace H := Option.bind_eq_some_iff.mp H
              obtain ⟨⟨t138, t139, t140, t141, t142, t143⟩, A400, H⟩ := H
              replace H : ((object_reader_number.f k2 l0_0 40 8).bind fun bt144 => (if bt144.1 > (IntKind.u64.wrap ((l0_0.length : Int))) then (some (x127000_2, x127001_2, x127002_2, x127003_2, false)) else ((object_reader_number.f k2 l0_0 (wrap64 ((wrap64 ((wrap64 (bt144.1)) + 128)) + 32)) 8).bind fun bt146 => (if bt146.2 = true then (if bt146.1 < 24 then (object_reader_guess.j2 k2 t139 bt146.1 true l0_0 x127000_2 x127001_2 x127002_2 x127003_2) else (if (Int.tmod bt146.1 24) = 0 then (object_reader_guess.j2 k2 t139 bt146.1 (decide (bt146.1 > (IntKind.u64.wrap ((l0_0.length : Int))))) l0_0 x127000_2 x127001_2 x127002_2 x127003_2) else (object_reader_guess.j2 k2 t139 bt146.1 true l0_0 x127000_2 x127001_2 x127002_2 x127003_2))) else (object_reader_guess.j2 k2 t139 bt146.1 true l0_0 x127000_2 x127001_2 x127002_2 x127003_2))))) = some (r1, r2, r3, r4, r5) := H
              have A40 := Aside0.mk A400
              clear A400
              replace H := Option.bind_eq_some_iff.mp H
              obtain ⟨⟨t144, t145⟩, A410, H⟩ := H
              replace H : (if t144 > (IntKind.u64.wrap ((l0_0.length : Int))) then (some (x127000_2, x127001_2, x127002_2, x127003_2, false)) else ((object_reader_number.f k2 l0_0 (wrap64 ((wrap64 ((wrap64 (t144)) + 128)) + 32)) 8).bind fun bt146 => (if bt146.2 = true then (if bt146.1 < 24 then (object_reader_guess.j2 k2 t139 bt146.1 true l0_0 x127000_2 x127001_2 x127002_2 x127003_2) else (if (Int.tmod bt146.1 24) = 0 then (object_reader_guess.j2 k2 t139 bt146.1 (decide (bt146.1 > (IntKind.u64.wrap ((l0_0.length : Int))))) l0_0 x127000_2 x127001_2 x127002_2 x127003_2) else (object_reader_guess.j2 k2 t139 bt146.1 true l0_0 x127000_2 x127001_2 x127002_2 x127003_2))) else (object_reader_guess.j2 k2 t139 bt146.1 true l0_0 x127000_2 x127001_2 x127002_2 x127003_2)))) = some (r1, r2, r3, r4, r5) := H
              have A41 := Aside0.mk A410
              clear A410
              by_cases c42 : t144 > (IntKind.u64.wrap ((l0_0.length : Int)))
              · rw [if_pos c42] at H
                have c42b0 : decide ((IntKind.u64.wrap ((l0_0.length : Int))) < t144) = true := decide_eq_true c42
                clear c42
                simp only [Option.some.injEq, Prod.mk.injEq] at H
                obtain ⟨rfl, rfl, rfl, rfl, rfl⟩ := H
                have hnb43 := NB126_125.out
                have hnc43 := NB125_126.out
                have hcz44_0 : wr.cell? ⟨gb126, 0, none⟩ = some (.int .u64 x127000_2) := (blk_cell BK126.out 0).trans rfl
                have hcz44_1 : wr.cell? ⟨gb126, 1, none⟩ = some (.int .u64 x127001_2) := (blk_cell BK126.out 1).trans rfl
                have hcz44_2 : wr.cell? ⟨gb126, 2, none⟩ = some (u127002) := (blk_cell BK126.out 2).trans rfl
                have hcz44_3 : wr.cell? ⟨gb126, 3, none⟩ = some (u127003) := (blk_cell BK126.out 3).trans rfl
                have hfz44_0 := blk_frozen BK126.out 0
                have hfz44_1 := blk_frozen BK126.out 1
                have hfz44_2 := blk_frozen BK126.out 2
                have hfz44_3 := blk_frozen BK126.out 3
                obtain ⟨Ao45, co45, eo45⟩ := Kd.R_slice HO_127002.out
                subst eo45
                obtain ⟨Ao46, co46, eo46⟩ := Kd.R_slice HO_127003.out
                subst eo46
                go_wp2_with (first | ((with_reducible refine gate_callee (f := 19) rfl ?_); refine goesL_ (some 73) rfl rfl Try.func19 (by kernel_rfl) rfl #[.agg #[.int .u64 x127000_2, .int .u64 x127001_2, .slice Ao45 x127002_2.length co45, .slice Ao46 x127003_2.length co46]] rfl (by (try simp only [List.map_toArray, List.map_cons, List.map_nil]); first | done | rfl | (simp only [List.length_drop, List.length_take]; rfl)) ?_; (with_reducible refine (object_placed.calls k2 x127000_2 x127001_2 _ _ x127002_2 _ _ x127003_2 t138 t139 t140 t141 t142 t143 _ ?side1 ?side2 ?side3 ?side4 A40.out).mono ?_); (case side1 => repeat (first | exact (Kd.R_reads' HO_127002.out).2.2 | (with_reducible refine Kd.C_alloc ?_ _) | (with_reducible refine Kd.C_drewN ?_ _) | (with_reducible refine Kd.C_drew ?_))); (case side2 => exact (Kd.R_reads' HO_127002.out).2.1); (case side3 => repeat (first | exact (Kd.R_reads' HO_127003.out).2.2 | (with_reducible refine Kd.C_alloc ?_ _) | (with_reducible refine Kd.C_drewN ?_ _) | (with_reducible refine Kd.C_drew ?_))); (case side4 => exact (Kd.R_reads' HO_127003.out).2.1); rintro e w47 ⟨rfl, hb⟩; refine ⟨_, rfl, ?_⟩; have n0_ := Aside0.mk (Kd.R_below (by (with_reducible repeat (first | apply Kd.R_alloc | apply Kd.R_drewN | apply Kd.R_drew)); exact HO_127002.out) hb); have n1_ := Aside0.mk (Kd.R_below (by (with_reducible repeat (first | apply Kd.R_alloc | apply Kd.R_drewN | apply Kd.R_drew)); exact HO_127003.out) hb); have n2_ := Aside0.mk (blk_below (g := gb125) (o := .cells #[.slice A0_0 l0_0.length c0_0] 52 (0, 0)) (by (with_reducible repeat (first | refine blk_drewN ?_ _ | refine blk_drew ?_ | refine blk_alloc ?_ _)); exact BK125.out) hb); have n3_ := Aside0.mk (blk_below (g := gb126) (o := .cells #[.int .u64 x127000_2, .int .u64 x127001_2, .slice Ao45 x127002_2.length co45, .slice Ao46 x127003_2.length co46] 26 (0, 0)) (by (with_reducible repeat (first | refine blk_drewN ?_ _ | refine blk_drew ?_ | refine blk_alloc ?_ _)); exact BK126.out) hb); have n4_ := Aside0.mk (below_step (by repeat (first | (with_reducible first | exact HB.out | apply below_alloc | apply pw_below_drewN | apply below_drew1 | refine below_set ?_ GE125.out | refine below_set ?_ GE126.out) | exact HB.out)) hb); clear HO_127002; clear HO_127003; clear BK125; clear BK126; clear HB; have HO_127002 := n0_; have HO_127003 := n1_; have BK125 := n2_; have BK126 := n3_; have HB := n4_; clear n0_ n1_ n2_ n3_ n4_; (try clear hb); (try clear hb2); (try clear hk); (try clear hi); have hcz48_0 : w47.cell? ⟨gb125, 0, none⟩ = some (.slice A0_0 l0_0.length c0_0) := (blk_cell BK125.out 0).trans rfl; have hfz48_0 := blk_frozen BK125.out 0) | ((with_reducible refine gate_callee (f := 31) rfl ?_); refine goesL_ (some 77) rfl rfl Try.func31 (by kernel_rfl) rfl #[.agg #[.slice A0_0 l0_0.length c0_0], .int .i64 40, .int .i64 8] rfl (by (try simp only [List.map_toArray, List.map_cons, List.map_nil]); first | done | rfl | (simp only [List.length_drop, List.length_take]; rfl)) ?_; (with_reducible refine (object_reader_number.calls k2 _ _ l0_0 40 8 t144 t145 _ ?side1 ?side2 A41.out).mono ?_); (case side1 => repeat (first | exact (Kd.C_below HR0_0.out HB.out) | (with_reducible refine Kd.C_alloc ?_ _) | (with_reducible refine Kd.C_drewN ?_ _) | (with_reducible refine Kd.C_drew ?_))); (case side2 => exact HC0_0.out); rintro e w49 ⟨rfl, hb⟩; refine ⟨_, rfl, ?_⟩; have n0_ := Aside0.mk (Kd.R_below (by (with_reducible repeat (first | apply Kd.R_alloc | apply Kd.R_drewN | apply Kd.R_drew)); exact HO_127002.out) hb); have n1_ := Aside0.mk (Kd.R_below (by (with_reducible repeat (first | apply Kd.R_alloc | apply Kd.R_drewN | apply Kd.R_drew)); exact HO_127003.out) hb); have n2_ := Aside0.mk (blk_below (g := gb125) (o := .cells #[.slice A0_0 l0_0.length c0_0] 52 (0, 0)) (by (with_reducible repeat (first | refine blk_drewN ?_ _ | refine blk_drew ?_ | refine blk_alloc ?_ _)); exact BK125.out) hb); have n3_ := Aside0.mk (blk_below (g := gb126) (o := .cells #[.int .u64 x127000_2, .int .u64 x127001_2, .slice Ao45 x127002_2.length co45, .slice Ao46 x127003_2.length co46] 26 (0, 0)) (by (with_reducible repeat (first | refine blk_drewN ?_ _ | refine blk_drew ?_ | refine blk_alloc ?_ _)); exact BK126.out) hb); have n4_ := Aside0.mk (below_step (by repeat (first | (with_reducible first | exact HB.out | apply below_alloc | apply pw_below_drewN | apply below_drew1 | refine below_set ?_ GE125.out | refine below_set ?_ GE126.out) | exact HB.out)) hb); clear HO_127002; clear HO_127003; clear BK125; clear BK126; clear HB; have HO_127002 := n0_; have HO_127003 := n1_; have BK125 := n2_; have BK126 := n3_; have HB := n4_; clear n0_ n1_ n2_ n3_ n4_; (try clear hb); (try clear hb2); (try clear hk); (try clear hi); have hcz50_0 : w49.cell? ⟨gb125, 0, none⟩ = some (.slice A0_0 l0_0.length c0_0) := (blk_cell BK125.out 0).trans rfl; have hfz50_0 := blk_frozen BK125.out 0; have hcz51_0 : w49.cell? ⟨gb126, 0, none⟩ = some (.int .u64 x127000_2) := (blk_cell BK126.out 0).trans rfl; have hcz51_1 : w49.cell? ⟨gb126, 1, none⟩ = some (.int .u64 x127001_2) := (blk_cell BK126.out 1).trans rfl; have hcz51_2 : w49.cell? ⟨gb126, 2, none⟩ = some (.slice Ao45 x127002_2.length co45) := (blk_cell BK126.out 2).trans rfl; have hcz51_3 : w49.cell? ⟨gb126, 3, none⟩ = some (.slice Ao46 x127003_2.length co46) := (blk_cell BK126.out 3).trans rfl; have hfz51_0 := blk_frozen BK126.out 0; have hfz51_1 := blk_frozen BK126.out 1; have hfz51_2 := blk_frozen BK126.out 2; have hfz51_3 := blk_frozen BK126.out 3))
                refine bodyPost_ret (results_ct rfl _ _ gb126 26 #[.int .u64 x127000_2, .int .u64 x127001_2, .slice Ao45 x127002_2.length co45, .slice Ao46 x127003_2.length co46] (0, 0) _ rfl (by (with_reducible repeat (first | refine blk_drewN ?_ _ | refine blk_drew ?_ | refine blk_alloc ?_ _)); refine blk_put (cs := #[.int .u64 x127000_2, .int .u64 x127001_2, .slice Ao45 x127002_2.length co45, .slice Ao46 x127003_2.length co46]) ?_ 3 _ rfl; (with_reducible repeat (first | refine blk_drewN ?_ _ | refine blk_drew ?_ | refine blk_alloc ?_ _)); refine blk_put (cs := #[.int .u64 x127000_2, .int .u64 x127001_2, .slice Ao45 x127002_2.length co45, .slice Ao46 x127003_2.length co46]) ?_ 2 _ rfl; (with_reducible repeat (first | refine blk_drewN ?_ _ | refine blk_drew ?_ | refine blk_alloc ?_ _)); refine blk_put (cs := #[.int .u64 x127000_2, .int .u64 x127001_2, .slice Ao45 x127002_2.length co45, .slice Ao46 x127003_2.length co46]) ?_ 1 _ rfl; (with_reducible repeat (first | refine blk_drewN ?_ _ | refine blk_drew ?_ | refine blk_alloc ?_ _)); refine blk_put (cs := #[.int .u64 x127000_2, .int .u64 x127001_2, .slice Ao45 x127002_2.length co45, .slice Ao46 x127003_2.length co46]) ?_ 0 _ rfl; (with_reducible repeat (first | refine blk_drewN ?_ _ | refine blk_drew ?_ | refine blk_alloc ?_ _)); exact BK126.out) Try.underlying26 rfl (by kernel_rfl)) rfl ?_
                exact ⟨_, _, by first | rfl | (simp [errW_none, errW_some] <;> rfl) | (simp [*, errW_none, errW_some] <;> rfl), by (with_reducible repeat (first | apply Kd.R_alloc | apply Kd.R_drewN | apply Kd.R_drew)); exact Kd.R_mono (Kd.R_far (p := ⟨gb126, 3, none⟩) (Kd.R_far (p := ⟨gb126, 2, none⟩) (Kd.R_far (p := ⟨gb126, 1, none⟩) (Kd.R_far (p := ⟨gb126, 0, none⟩) (Kd.R_types HO_127002.out BK126.out (by decide)) (fun _ hk => hk.2) (.int .u64 x127000_2)) (fun _ hk => hk.2) (.int .u64 x127001_2)) (fun _ hk => hk.2) (.slice Ao45 x127002_2.length co45)) (fun _ hk => hk.2) (.slice Ao46 x127003_2.length co46)) (fun _ hk => trivial), by (with_reducible repeat (first | apply Kd.R_alloc | apply Kd.R_drewN | apply Kd.R_drew)); exact Kd.R_mono (Kd.R_far (p := ⟨gb126, 3, none⟩) (Kd.R_far (p := ⟨gb126, 2, none⟩) (Kd.R_far (p := ⟨gb126, 1, none⟩) (Kd.R_far (p := ⟨gb126, 0, none⟩) (Kd.R_types HO_127003.out BK126.out (by decide)) (fun _ hk => hk.2) (.int .u64 x127000_2)) (fun _ hk => hk.2) (.int .u64 x127001_2)) (fun _ hk => hk.2) (.slice Ao45 x127002_2.length co45)) (fun _ hk => hk.2) (.slice Ao46 x127003_2.length co46)) (fun _ hk => trivial), by repeat (first | (with_reducible first | exact HB.out | apply below_alloc | apply pw_below_drewN | apply below_drew1 | refine below_set ?_ GE125.out | refine below_set ?_ GE126.out) | exact HB.out)⟩
              · rw [if_neg c42] at H
                have c42b0 : decide ((IntKind.u64.wrap ((l0_0.length : Int))) < t144) = false := decide_eq_false c42
                clear c42
                replace H := Option.bind_eq_some_iff.mp H
                obtain ⟨⟨t146, t147⟩, A520, H⟩ := H
                replace H : (if t147 = true then (if t146 < 24 then (object_reader_guess.j2 k2 t139 t146 true l0_0 x127000_2 x127001_2 x127002_2 x127003_2) else (if (Int.tmod t146 24) = 0 then (object_reader_guess.j2 k2 t139 t146 (decide (t146 > (IntKind.u64.wrap ((l0_0.length : Int))))) l0_0 x127000_2 x127001_2 x127002_2 x127003_2) else (object_reader_guess.j2 k2 t139 t146 true l0_0 x127000_2 x127001_2 x127002_2 x127003_2))) else (object_reader_guess.j2 k2 t139 t146 true l0_0 x127000_2 x127001_2 x127002_2 x127003_2)) = some (r1, r2, r3, r4, r5) := H
                have A52 := Aside0.mk A520
                clear A520
                have HC53 := Aside0.mk H
                clear H
                have hnb54 := NB126_125.out
                have hnc54 := NB125_126.out
                have hcz55_0 : wr.cell? ⟨gb126, 0, none⟩ = some (.int .u64 x127000_2) := (blk_cell BK126.out 0).trans rfl
                have hcz55_1 : wr.cell? ⟨gb126, 1, none⟩ = some (.int .u64 x127001_2) := (blk_cell BK126.out 1).trans rfl
                have hcz55_2 : wr.cell? ⟨gb126, 2, none⟩ = some (u127002) := (blk_cell BK126.out 2).trans rfl
                have hcz55_3 : wr.cell? ⟨gb126, 3, none⟩ = some (u127003) := (blk_cell BK126.out 3).trans rfl
                have hfz55_0 := blk_frozen BK126.out 0
                have hfz55_1 := blk_frozen BK126.out 1
                have hfz55_2 := blk_frozen BK126.out 2
                have hfz55_3 := blk_frozen BK126.out 3
                obtain ⟨Ao56, co56, eo56⟩ := Kd.R_slice HO_127002.out
                subst eo56
                obtain ⟨Ao57, co57, eo57⟩ := Kd.R_slice HO_127003.out
                subst eo57
                go_upto_region 19 with (first | ((with_reducible refine gate_callee (f := 19) rfl ?_); refine goesL_ (some 73) rfl rfl Try.func19 (by kernel_rfl) rfl #[.agg #[.int .u64 x127000_2, .int .u64 x127001_2, .slice Ao56 x127002_2.length co56, .slice Ao57 x127003_2.length co57]] rfl (by (try simp only [List.map_toArray, List.map_cons, List.map_nil]); first | done | rfl | (simp only [List.length_drop, List.length_take]; rfl)) ?_; (with_reducible refine (object_placed.calls k2 x127000_2 x127001_2 _ _ x127002_2 _ _ x127003_2 t138 t139 t140 t141 t142 t143 _ ?side1 ?side2 ?side3 ?side4 A40.out).mono ?_); (case side1 => repeat (first | exact (Kd.R_reads' HO_127002.out).2.2 | (with_reducible refine Kd.C_alloc ?_ _) | (with_reducible refine Kd.C_drewN ?_ _) | (with_reducible refine Kd.C_drew ?_))); (case side2 => exact (Kd.R_reads' HO_127002.out).2.1); (case side3 => repeat (first | exact (Kd.R_reads' HO_127003.out).2.2 | (with_reducible refine Kd.C_alloc ?_ _) | (with_reducible refine Kd.C_drewN ?_ _) | (with_reducible refine Kd.C_drew ?_))); (case side4 => exact (Kd.R_reads' HO_127003.out).2.1); rintro e w58 ⟨rfl, hb⟩; refine ⟨_, rfl, ?_⟩; have n0_ := Aside0.mk (Kd.R_below (by (with_reducible repeat (first | apply Kd.R_alloc | apply Kd.R_drewN | apply Kd.R_drew)); exact HO_127002.out) hb); have n1_ := Aside0.mk (Kd.R_below (by (with_reducible repeat (first | apply Kd.R_alloc | apply Kd.R_drewN | apply Kd.R_drew)); exact HO_127003.out) hb); have n2_ := Aside0.mk (blk_below (g := gb125) (o := .cells #[.slice A0_0 l0_0.length c0_0] 52 (0, 0)) (by (with_reducible repeat (first | refine blk_drewN ?_ _ | refine blk_drew ?_ | refine blk_alloc ?_ _)); exact BK125.out) hb); have n3_ := Aside0.mk (blk_below (g := gb126) (o := .cells #[.int .u64 x127000_2, .int .u64 x127001_2, .slice Ao56 x127002_2.length co56, .slice Ao57 x127003_2.length co57] 26 (0, 0)) (by (with_reducible repeat (first | refine blk_drewN ?_ _ | refine blk_drew ?_ | refine blk_alloc ?_ _)); exact BK126.out) hb); have n4_ := Aside0.mk (below_step (by repeat (first | (with_reducible first | exact HB.out | apply below_alloc | apply pw_below_drewN | apply below_drew1 | refine below_set ?_ GE125.out | refine below_set ?_ GE126.out) | exact HB.out)) hb); clear HO_127002; clear HO_127003; clear BK125; clear BK126; clear HB; have HO_127002 := n0_; have HO_127003 := n1_; have BK125 := n2_; have BK126 := n3_; have HB := n4_; clear n0_ n1_ n2_ n3_ n4_; (try clear hb); (try clear hb2); (try clear hk); (try clear hi); have hcz59_0 : w58.cell? ⟨gb125, 0, none⟩ = some (.slice A0_0 l0_0.length c0_0) := (blk_cell BK125.out 0).trans rfl; have hfz59_0 := blk_frozen BK125.out 0) | ((with_reducible refine gate_callee (f := 31) rfl ?_); refine goesL_ (some 77) rfl rfl Try.func31 (by kernel_rfl) rfl #[.agg #[.slice A0_0 l0_0.length c0_0], .int .i64 40, .int .i64 8] rfl (by (try simp only [List.map_toArray, List.map_cons, List.map_nil]); first | done | rfl | (simp only [List.length_drop, List.length_take]; rfl)) ?_; (with_reducible refine (object_reader_number.calls k2 _ _ l0_0 40 8 t144 t145 _ ?side1 ?side2 A41.out).mono ?_); (case side1 => repeat (first | exact (Kd.C_below HR0_0.out HB.out) | (with_reducible refine Kd.C_alloc ?_ _) | (with_reducible refine Kd.C_drewN ?_ _) | (with_reducible refine Kd.C_drew ?_))); (case side2 => exact HC0_0.out); rintro e w60 ⟨rfl, hb⟩; refine ⟨_, rfl, ?_⟩; have n0_ := Aside0.mk (Kd.R_below (by (with_reducible repeat (first | apply Kd.R_alloc | apply Kd.R_drewN | apply Kd.R_drew)); exact HO_127002.out) hb); have n1_ := Aside0.mk (Kd.R_below (by (with_reducible repeat (first | apply Kd.R_alloc | apply Kd.R_drewN | apply Kd.R_drew)); exact HO_127003.out) hb); have n2_ := Aside0.mk (blk_below (g := gb125) (o := .cells #[.slice A0_0 l0_0.length c0_0] 52 (0, 0)) (by (with_reducible repeat (first | refine blk_drewN ?_ _ | refine blk_drew ?_ | refine blk_alloc ?_ _)); exact BK125.out) hb); have n3_ := Aside0.mk (blk_below (g := gb126) (o := .cells #[.int .u64 x127000_2, .int .u64 x127001_2, .slice Ao56 x127002_2.length co56, .slice Ao57 x127003_2.length co57] 26 (0, 0)) (by (with_reducible repeat (first | refine blk_drewN ?_ _ | refine blk_drew ?_ | refine blk_alloc ?_ _)); exact BK126.out) hb); have n4_ := Aside0.mk (below_step (by repeat (first | (with_reducible first | exact HB.out | apply below_alloc | apply pw_below_drewN | apply below_drew1 | refine below_set ?_ GE125.out | refine below_set ?_ GE126.out) | exact HB.out)) hb); clear HO_127002; clear HO_127003; clear BK125; clear BK126; clear HB; have HO_127002 := n0_; have HO_127003 := n1_; have BK125 := n2_; have BK126 := n3_; have HB := n4_; clear n0_ n1_ n2_ n3_ n4_; (try clear hb); (try clear hb2); (try clear hk); (try clear hi); have hcz61_0 : w60.cell? ⟨gb125, 0, none⟩ = some (.slice A0_0 l0_0.length c0_0) := (blk_cell BK125.out 0).trans rfl; have hfz61_0 := blk_frozen BK125.out 0) | ((with_reducible refine gate_callee (f := 31) rfl ?_); refine goesL_ (some 93) rfl rfl Try.func31 (by kernel_rfl) rfl #[.agg #[.slice A0_0 l0_0.length c0_0], .int .i64 (wrap64 ((wrap64 ((wrap64 (t144)) + 128)) + 32)), .int .i64 8] rfl (by (try simp only [List.map_toArray, List.map_cons, List.map_nil]); first | done | rfl | (simp only [List.length_drop, List.length_take]; rfl)) ?_; (with_reducible refine (object_reader_number.calls k2 _ _ l0_0 (wrap64 ((wrap64 ((wrap64 (t144)) + 128)) + 32)) 8 t146 t147 _ ?side1 ?side2 A52.out).mono ?_); (case side1 => repeat (first | exact (Kd.C_below HR0_0.out HB.out) | (with_reducible refine Kd.C_alloc ?_ _) | (with_reducible refine Kd.C_drewN ?_ _) | (with_reducible refine Kd.C_drew ?_))); (case side2 => exact HC0_0.out); rintro e w62 ⟨rfl, hb⟩; refine ⟨_, rfl, ?_⟩; have n0_ := Aside0.mk (Kd.R_below (by (with_reducible repeat (first | apply Kd.R_alloc | apply Kd.R_drewN | apply Kd.R_drew)); exact HO_127002.out) hb); have n1_ := Aside0.mk (Kd.R_below (by (with_reducible repeat (first | apply Kd.R_alloc | apply Kd.R_drewN | apply Kd.R_drew)); exact HO_127003.out) hb); have n2_ := Aside0.mk (blk_below (g := gb125) (o := .cells #[.slice A0_0 l0_0.length c0_0] 52 (0, 0)) (by (with_reducible repeat (first | refine blk_drewN ?_ _ | refine blk_drew ?_ | refine blk_alloc ?_ _)); exact BK125.out) hb); have n3_ := Aside0.mk (blk_below (g := gb126) (o := .cells #[.int .u64 x127000_2, .int .u64 x127001_2, .slice Ao56 x127002_2.length co56, .slice Ao57 x127003_2.length co57] 26 (0, 0)) (by (with_reducible repeat (first | refine blk_drewN ?_ _ | refine blk_drew ?_ | refine blk_alloc ?_ _)); exact BK126.out) hb); have n4_ := Aside0.mk (below_step (by repeat (first | (with_reducible first | exact HB.out | apply below_alloc | apply pw_below_drewN | apply below_drew1 | refine below_set ?_ GE125.out | refine below_set ?_ GE126.out) | exact HB.out)) hb); clear HO_127002; clear HO_127003; clear BK125; clear BK126; clear HB; have HO_127002 := n0_; have HO_127003 := n1_; have BK125 := n2_; have BK126 := n3_; have HB := n4_; clear n0_ n1_ n2_ n3_ n4_; (try clear hb); (try clear hb2); (try clear hk); (try clear hi)))
                (try simp only [Act.put, List.setIfInBounds_toArray, List.set_cons_zero, List.set_cons_succ])
                go_cut [114] (fun v114 wc => ∃ (kq : Nat) (x114_52 : Bool), v114 = .bool x114_52 ∧ Aside0 (object_reader_guess.j2 kq t139 t146 x114_52 l0_0 x127000_2 x127001_2 x127002_2 x127003_2 = some (r1, r2, r3, r4, r5)) ∧ Aside0 (kq ≤ k2) ∧ Aside0 (Kd.R (Kd.int .u32) 58 wc w.heap.size (fun _ => True) (.slice Ao56 x127002_2.length co56) x127002_2) ∧ Aside0 (Kd.R k47 47 wc w.heap.size (fun _ => True) (.slice Ao57 x127003_2.length co57) x127003_2) ∧ Aside0 (wc.heap[gb125]? = some (.cells #[(.slice A0_0 l0_0.length c0_0)] 52 (0, 0))) ∧ Aside0 (wc.heap[gb126]? = some (.cells #[.int .u64 x127000_2, .int .u64 x127001_2, (.slice Ao56 x127002_2.length co56), (.slice Ao57 x127003_2.length co57)] 26 (0, 0))) ∧ Aside0 (Below w.heap.size w wc))
                case first =>
                  have H := HC53.out
                  clear HC53
                  by_cases c63 : t147 = true
                  · subst c63
                    have H1 : (if t146 < 24 then (object_reader_guess.j2 k2 t139 t146 true l0_0 x127000_2 x127001_2 x127002_2 x127003_2) else (if (Int.tmod t146 24) = 0 then (object_reader_guess.j2 k2 t139 t146 (decide (t146 > (IntKind.u64.wrap ((l0_0.length : Int))))) l0_0 x127000_2 x127001_2 x127002_2 x127003_2) else (object_reader_guess.j2 k2 t139 t146 true l0_0 x127000_2 x127001_2 x127002_2 x127003_2))) = some (r1, r2, r3, r4, r5) := by rw [if_pos rfl] at H; exact H
                    clear H
                    have H := H1
                    clear H1
                    by_cases c64 : t146 < 24
                    · rw [if_pos c64] at H
                      have c64b0 : decide (t146 < 24) = true := decide_eq_true c64
                      clear c64
                      (first | rw [c64b0] | (simp only [i64_w, i32_w]; rw [c64b0]) | skip)
                      have H' := Aside0.mk H
                      clear H
                      go_wp2
                      go_meet
                      case rel => exact ⟨_, (true), (by first | rfl | (simp; done) | (simp [*]; done)), H', ⟨by have := HJ2.out; have := HK2.out; first | omega | exact Nat.le_refl _⟩, ⟨by (with_reducible repeat (first | apply Kd.R_alloc | apply Kd.R_drewN | apply Kd.R_drew)); exact HO_127002.out⟩, ⟨by (with_reducible repeat (first | apply Kd.R_alloc | apply Kd.R_drewN | apply Kd.R_drew)); exact HO_127003.out⟩, ⟨by (with_reducible repeat (first | refine blk_drewN ?_ _ | refine blk_drew ?_ | refine blk_alloc ?_ _)); exact BK125.out⟩, ⟨by (with_reducible repeat (first | refine blk_drewN ?_ _ | refine blk_drew ?_ | refine blk_alloc ?_ _)); exact BK126.out⟩, ⟨by repeat (first | (with_reducible first | exact HB.out | apply below_alloc | apply pw_below_drewN | apply below_drew1 | refine below_set ?_ GE125.out | refine below_set ?_ GE126.out) | exact HB.out)⟩⟩
                    · rw [if_neg c64] at H
                      have c64b0 : decide (t146 < 24) = false := decide_eq_false c64
                      clear c64
                      (first | rw [c64b0] | (simp only [i64_w, i32_w]; rw [c64b0]) | skip)
                      by_cases c65 : (Int.tmod t146 24) = 0
                      · rw [if_pos c65] at H
                        have c65b0 : ((Int.tmod t146 24) == 0) = true := beq_iff_eq.mpr c65
                        have c65b1 : ((Int.tmod t146 24) != 0) = false := bne_eq_false_iff_eq.mpr c65
                        clear c65
                        have H' := Aside0.mk H
                        clear H
                        have hnb66 := NB125_126.out
                        have hnc66 := NB126_125.out
                        have hcz67_0 : w62.cell? ⟨gb125, 0, none⟩ = some (.slice A0_0 l0_0.length c0_0) := (blk_cell BK125.out 0).trans rfl
                        have hfz67_0 := blk_frozen BK125.out 0
                        go_wp2
                        go_meet
                        case rel => exact ⟨_, (decide (t146 > (IntKind.u64.wrap ((l0_0.length : Int))))), (by first | rfl | (simp; done) | (simp [*]; done)), H', ⟨by have := HJ2.out; have := HK2.out; first | omega | exact Nat.le_refl _⟩, ⟨by (with_reducible repeat (first | apply Kd.R_alloc | apply Kd.R_drewN | apply Kd.R_drew)); exact HO_127002.out⟩, ⟨by (with_reducible repeat (first | apply Kd.R_alloc | apply Kd.R_drewN | apply Kd.R_drew)); exact HO_127003.out⟩, ⟨by (with_reducible repeat (first | refine blk_drewN ?_ _ | refine blk_drew ?_ | refine blk_alloc ?_ _)); exact BK125.out⟩, ⟨by (with_reducible repeat (first | refine blk_drewN ?_ _ | refine blk_drew ?_ | refine blk_alloc ?_ _)); exact BK126.out⟩, ⟨by repeat (first | (with_reducible first | exact HB.out | apply below_alloc | apply pw_below_drewN | apply below_drew1 | refine below_set ?_ GE125.out | refine below_set ?_ GE126.out) | exact HB.out)⟩⟩
                      · rw [if_neg c65] at H
                        have c65b0 : ((Int.tmod t146 24) == 0) = false := beq_eq_false_iff_ne.mpr c65
                        have c65b1 : ((Int.tmod t146 24) != 0) = true := bne_iff_ne.mpr c65
                        have H' := Aside0.mk H
                        clear H
                        go_wp2
                        go_meet
                        case rel => exact ⟨_, (true), (by first | rfl | (simp; done) | (simp [*]; done)), H', ⟨by have := HJ2.out; have := HK2.out; first | omega | exact Nat.le_refl _⟩, ⟨by (with_reducible repeat (first | apply Kd.R_alloc | apply Kd.R_drewN | apply Kd.R_drew)); exact HO_127002.out⟩, ⟨by (with_reducible repeat (first | apply Kd.R_alloc | apply Kd.R_drewN | apply Kd.R_drew)); exact HO_127003.out⟩, ⟨by (with_reducible repeat (first | refine blk_drewN ?_ _ | refine blk_drew ?_ | refine blk_alloc ?_ _)); exact BK125.out⟩, ⟨by (with_reducible repeat (first | refine blk_drewN ?_ _ | refine blk_drew ?_ | refine blk_alloc ?_ _)); exact BK126.out⟩, ⟨by repeat (first | (with_reducible first | exact HB.out | apply below_alloc | apply pw_below_drewN | apply below_drew1 | refine below_set ?_ GE125.out | refine below_set ?_ GE126.out) | exact HB.out)⟩⟩
                  · replace c63 := Bool.eq_false_iff.mpr c63
                    subst c63
                    have H1 : (object_reader_guess.j2 k2 t139 t146 true l0_0 x127000_2 x127001_2 x127002_2 x127003_2) = some (r1, r2, r3, r4, r5) := by rw [if_neg (show ¬ (false = true) by decide)] at H; exact H
                    clear H
                    have H := H1
                    clear H1
                    have H' := Aside0.mk H
                    clear H
                    go_wp2
                    go_meet
                    case rel => exact ⟨_, (true), (by first | rfl | (simp; done) | (simp [*]; done)), H', ⟨by have := HJ2.out; have := HK2.out; first | omega | exact Nat.le_refl _⟩, ⟨by (with_reducible repeat (first | apply Kd.R_alloc | apply Kd.R_drewN | apply Kd.R_drew)); exact HO_127002.out⟩, ⟨by (with_reducible repeat (first | apply Kd.R_alloc | apply Kd.R_drewN | apply Kd.R_drew)); exact HO_127003.out⟩, ⟨by (with_reducible repeat (first | refine blk_drewN ?_ _ | refine blk_drew ?_ | refine blk_alloc ?_ _)); exact BK125.out⟩, ⟨by (with_reducible repeat (first | refine blk_drewN ?_ _ | refine blk_drew ?_ | refine blk_alloc ?_ _)); exact BK126.out⟩, ⟨by repeat (first | (with_reducible first | exact HB.out | apply below_alloc | apply pw_below_drewN | apply below_drew1 | refine below_set ?_ GE125.out | refine below_set ?_ GE126.out) | exact HB.out)⟩⟩
                case rest =>
                  clear HC53
                  try clear c1
                  try clear c2
                  try clear p2
                  try clear c3
                  try clear c4
                  try clear c5
                  try clear c6
                  try clear p6
                  try clear c9
                  try clear c10
                  try clear c10b0
                  try clear c10b1
                  try clear c11
                  try clear c12
                  try clear c16
                  try clear c18
                  try clear c19
                  try clear c23
                  try clear c23b0
                  try clear c25
                  try clear c26
                  try clear c27
                  try clear c31
                  try clear c34
                  try clear c42
                  try clear c42b0
                  try clear c43
                  try clear c54
                  try clear c63
                  try clear c64
                  try clear c64b0
                  try clear p64
                  try clear c65
                  try clear c65b0
                  try clear c65b1
                  try clear c66
                  try clear hcz13_0
                  try clear hcz13_1
                  try clear hcz13_2
                  try clear hcz13_3
                  try clear hcz17_0
                  try clear hcz19_0
                  try clear hcz19_1
                  try clear hcz19_2
                  try clear hcz19_3
                  try clear hcz20_0
                  try clear hcz22_0
                  try clear hcz22_1
                  try clear hcz22_2
                  try clear hcz22_3
                  try clear hcz28_0
                  try clear hcz30_0
                  try clear hcz30_1
                  try clear hcz30_2
                  try clear hcz30_3
                  try clear hcz33_0
                  try clear hcz33_1
                  try clear hcz33_2
                  try clear hcz33_3
                  try clear hcz35_0
                  try clear hcz37_0
                  try clear hcz37_1
                  try clear hcz37_2
                  try clear hcz37_3
                  try clear hcz44_0
                  try clear hcz44_1
                  try clear hcz44_2
                  try clear hcz44_3
                  try clear hcz48_0
                  try clear hcz50_0
                  try clear hcz51_0
                  try clear hcz51_1
                  try clear hcz51_2
                  try clear hcz51_3
                  try clear hcz55_0
                  try clear hcz55_1
                  try clear hcz55_2
                  try clear hcz55_3
                  try clear hcz59_0
                  try clear hcz61_0
                  try clear hcz67_0
                  try clear hcz7_0
                  try clear hfz13_0
                  try clear hfz13_1
                  try clear hfz13_2
                  try clear hfz13_3
                  try clear hfz17_0
                  try clear hfz19_0
                  try clear hfz19_1
                  try clear hfz19_2
                  try clear hfz19_3
                  try clear hfz20_0
                  try clear hfz22_0
                  try clear hfz22_1
                  try clear hfz22_2
                  try clear hfz22_3
                  try clear hfz28_0
                  try clear hfz30_0
                  try clear hfz30_1
                  try clear hfz30_2
                  try clear hfz30_3
                  try clear hfz33_0
                  try clear hfz33_1
                  try clear hfz33_2
                  try clear hfz33_3
                  try clear hfz35_0
                  try clear hfz37_0
                  try clear hfz37_1
                  try clear hfz37_2
                  try clear hfz37_3
                  try clear hfz44_0
                  try clear hfz44_1
                  try clear hfz44_2
                  try clear hfz44_3
                  try clear hfz48_0
                  try clear hfz50_0
                  try clear hfz51_0
                  try clear hfz51_1
                  try clear hfz51_2
                  try clear hfz51_3
                  try clear hfz55_0
                  try clear hfz55_1
                  try clear hfz55_2
                  try clear hfz55_3
                  try clear hfz59_0
                  try clear hfz61_0
                  try clear hfz67_0
                  try clear hfz7_0
                  try clear p2
                  try clear p6
                  obtain ⟨kq, x114_52, rfl, HA, HJ52, HO_127002, HO_127003, BK125, BK126, HB⟩ := hcut
                  cases kq with
                  | zero => exact absurd HA.out (by simp [object_reader_guess.j2])
                  | succ kj52 =>
                    have H := HA.out
                    clear HA
                    simp only [object_reader_guess.j2] at H
                    by_cases c68 : x114_52 = true
                    · subst c68
                      have H1 : (some (x127000_2, x127001_2, x127002_2, x127003_2, false)) = some (r1, r2, r3, r4, r5) := by rw [if_pos rfl] at H; exact H
                      clear H
                      have H := H1
                      clear H1
                      simp only [Option.some.injEq, Prod.mk.injEq] at H
                      obtain ⟨rfl, rfl, rfl, rfl, rfl⟩ := H
                      have hnb69 := NB126_125.out
                      have hnc69 := NB125_126.out
                      have hcz70_0 : wc.cell? ⟨gb126, 0, none⟩ = some (.int .u64 x127000_2) := (blk_cell BK126.out 0).trans rfl
                      have hcz70_1 : wc.cell? ⟨gb126, 1, none⟩ = some (.int .u64 x127001_2) := (blk_cell BK126.out 1).trans rfl
                      have hcz70_2 : wc.cell? ⟨gb126, 2, none⟩ = some (.slice Ao56 x127002_2.length co56) := (blk_cell BK126.out 2).trans rfl
                      have hcz70_3 : wc.cell? ⟨gb126, 3, none⟩ = some (.slice Ao57 x127003_2.length co57) := (blk_cell BK126.out 3).trans rfl
                      have hfz70_0 := blk_frozen BK126.out 0
                      have hfz70_1 := blk_frozen BK126.out 1
                      have hfz70_2 := blk_frozen BK126.out 2
                      have hfz70_3 := blk_frozen BK126.out 3
                      go_wp2
                      refine bodyPost_ret (results_ct rfl _ _ gb126 26 #[.int .u64 x127000_2, .int .u64 x127001_2, .slice Ao56 x127002_2.length co56, .slice Ao57 x127003_2.length co57] (0, 0) _ rfl (by (with_reducible repeat (first | refine blk_drewN ?_ _ | refine blk_drew ?_ | refine blk_alloc ?_ _)); refine blk_put (cs := #[.int .u64 x127000_2, .int .u64 x127001_2, .slice Ao56 x127002_2.length co56, .slice Ao57 x127003_2.length co57]) ?_ 3 _ rfl; (with_reducible repeat (first | refine blk_drewN ?_ _ | refine blk_drew ?_ | refine blk_alloc ?_ _)); refine blk_put (cs := #[.int .u64 x127000_2, .int .u64 x127001_2, .slice Ao56 x127002_2.length co56, .slice Ao57 x127003_2.length co57]) ?_ 2 _ rfl; (with_reducible repeat (first | refine blk_drewN ?_ _ | refine blk_drew ?_ | refine blk_alloc ?_ _)); refine blk_put (cs := #[.int .u64 x127000_2, .int .u64 x127001_2, .slice Ao56 x127002_2.length co56, .slice Ao57 x127003_2.length co57]) ?_ 1 _ rfl; (with_reducible repeat (first | refine blk_drewN ?_ _ | refine blk_drew ?_ | refine blk_alloc ?_ _)); refine blk_put (cs := #[.int .u64 x127000_2, .int .u64 x127001_2, .slice Ao56 x127002_2.length co56, .slice Ao57 x127003_2.length co57]) ?_ 0 _ rfl; (with_reducible repeat (first | refine blk_drewN ?_ _ | refine blk_drew ?_ | refine blk_alloc ?_ _)); exact BK126.out) Try.underlying26 rfl (by kernel_rfl)) rfl ?_
                      exact ⟨_, _, by first | rfl | (simp [errW_none, errW_some] <;> rfl) | (simp [*, errW_none, errW_some] <;> rfl), by (with_reducible repeat (first | apply Kd.R_alloc | apply Kd.R_drewN | apply Kd.R_drew)); exact Kd.R_mono (Kd.R_far (p := ⟨gb126, 3, none⟩) (Kd.R_far (p := ⟨gb126, 2, none⟩) (Kd.R_far (p := ⟨gb126, 1, none⟩) (Kd.R_far (p := ⟨gb126, 0, none⟩) (Kd.R_types HO_127002.out BK126.out (by decide)) (fun _ hk => hk.2) (.int .u64 x127000_2)) (fun _ hk => hk.2) (.int .u64 x127001_2)) (fun _ hk => hk.2) (.slice Ao56 x127002_2.length co56)) (fun _ hk => hk.2) (.slice Ao57 x127003_2.length co57)) (fun _ hk => trivial), by (with_reducible repeat (first | apply Kd.R_alloc | apply Kd.R_drewN | apply Kd.R_drew)); exact Kd.R_mono (Kd.R_far (p := ⟨gb126, 3, none⟩) (Kd.R_far (p := ⟨gb126, 2, none⟩) (Kd.R_far (p := ⟨gb126, 1, none⟩) (Kd.R_far (p := ⟨gb126, 0, none⟩) (Kd.R_types HO_127003.out BK126.out (by decide)) (fun _ hk => hk.2) (.int .u64 x127000_2)) (fun _ hk => hk.2) (.int .u64 x127001_2)) (fun _ hk => hk.2) (.slice Ao56 x127002_2.length co56)) (fun _ hk => hk.2) (.slice Ao57 x127003_2.length co57)) (fun _ hk => trivial), by repeat (first | (with_reducible first | exact HB.out | apply below_alloc | apply pw_below_drewN | apply below_drew1 | refine below_set ?_ GE125.out | refine below_set ?_ GE126.out) | exact HB.out)⟩
                    · replace c68 := Bool.eq_false_iff.mpr c68
                      subst c68
                      have H1 : (object_reader_guess.l1 kj52 t139 t146 (wrap64 ((wrap64 (t139 + (wrap64 (t146)))) + 1)) 1 l0_0 x127000_2 x127001_2 x127002_2 x127003_2) = some (r1, r2, r3, r4, r5) := by rw [if_neg (show ¬ (false = true) by decide)] at H; exact H
                      clear H
                      have H := H1
                      clear H1
                      have H' := Aside0.mk H
                      clear H
                      go_wp2
                      go_loopg [12, 13] kj52 (fun kq v12 v13 w' => ∃ (x12_4 : Int) (x13_4 : Int) (x127000_4 : Int) (x127001_4 : Int) (x127002_4 : List Int) (x127003_4 : List (S47)) (u127002 : Value) (u127003 : Value), v12 = .int .i64 x12_4 ∧ v13 = .int .i64 x13_4 ∧ Aside0 (object_reader_guess.l1 kq t139 t146 x12_4 x13_4 l0_0 x127000_4 x127001_4 x127002_4 x127003_4 = some (r1, r2, r3, r4, r5)) ∧ Aside0 (kq ≤ kj52) ∧ Aside0 (Kd.R (Kd.int .u32) 58 w' w.heap.size (fun _ => True) u127002 x127002_4) ∧ Aside0 (Kd.R k47 47 w' w.heap.size (fun _ => True) u127003 x127003_4) ∧ Aside0 (w'.heap[gb125]? = some (.cells #[(.slice A0_0 l0_0.length c0_0)] 52 (0, 0))) ∧ Aside0 (w'.heap[gb126]? = some (.cells #[.int .u64 x127000_4, .int .u64 x127001_4, u127002, u127003] 26 (0, 0))) ∧ Aside0 (Below w.heap.size w w'))
                      case atStart => exact ⟨(wrap64 ((wrap64 (t139 + (wrap64 (t146)))) + 1)), (1), (x127000_2), (x127001_2), (x127002_2), (x127003_2), (.slice Ao56 x127002_2.length co56), (.slice Ao57 x127003_2.length co57), (by first | rfl | (simp; done) | (simp [*]; done)), (by first | rfl | (simp; done) | (simp [*]; done)), H', ⟨Nat.le_refl _⟩, ⟨by (with_reducible repeat (first | apply Kd.R_alloc | apply Kd.R_drewN | apply Kd.R_drew)); exact HO_127002.out⟩, ⟨by (with_reducible repeat (first | apply Kd.R_alloc | apply Kd.R_drewN | apply Kd.R_drew)); exact HO_127003.out⟩, ⟨by (with_reducible repeat (first | refine blk_drewN ?_ _ | refine blk_drew ?_ | refine blk_alloc ?_ _)); exact BK125.out⟩, ⟨by (with_reducible repeat (first | refine blk_drewN ?_ _ | refine blk_drew ?_ | refine blk_alloc ?_ _)); exact BK126.out⟩, ⟨by repeat (first | (with_reducible first | exact HB.out | apply below_alloc | apply pw_below_drewN | apply below_drew1 | refine below_set ?_ GE125.out | refine below_set ?_ GE126.out) | exact HB.out)⟩⟩
                      case round =>
                        clear H'
                        try clear c1
                        try clear c2
                        try clear p2
                        try clear c3
                        try clear c4
                        try clear c5
                        try clear c6
                        try clear p6
                        try clear c9
                        try clear c10
                        try clear c10b0
                        try clear c10b1
                        try clear c11
                        try clear c12
                        try clear c16
                        try clear c18
                        try clear c19
                        try clear c23
                        try clear c23b0
                        try clear c25
                        try clear c26
                        try clear c27
                        try clear c31
                        try clear c34
                        try clear c42
                        try clear c42b0
                        try clear c43
                        try clear c54
                        try clear c63
                        try clear c64
                        try clear c64b0
                        try clear p64
                        try clear c65
                        try clear c65b0
                        try clear c65b1
                        try clear c66
                        try clear c68
                        try clear c69
                        try clear hcz13_0
                        try clear hcz13_1
                        try clear hcz13_2
                        try clear hcz13_3
                        try clear hcz17_0
                        try clear hcz19_0
                        try clear hcz19_1
                        try clear hcz19_2
                        try clear hcz19_3
                        try clear hcz20_0
                        try clear hcz22_0
                        try clear hcz22_1
                        try clear hcz22_2
                        try clear hcz22_3
                        try clear hcz28_0
                        try clear hcz30_0
                        try clear hcz30_1
                        try clear hcz30_2
                        try clear hcz30_3
                        try clear hcz33_0
                        try clear hcz33_1
                        try clear hcz33_2
                        try clear hcz33_3
                        try clear hcz35_0
                        try clear hcz37_0
                        try clear hcz37_1
                        try clear hcz37_2
                        try clear hcz37_3
                        try clear hcz44_0
                        try clear hcz44_1
                        try clear hcz44_2
                        try clear hcz44_3
                        try clear hcz48_0
                        try clear hcz50_0
                        try clear hcz51_0
                        try clear hcz51_1
                        try clear hcz51_2
                        try clear hcz51_3
                        try clear hcz55_0
                        try clear hcz55_1
                        try clear hcz55_2
                        try clear hcz55_3
                        try clear hcz59_0
                        try clear hcz61_0
                        try clear hcz67_0
                        try clear hcz70_0
                        try clear hcz70_1
                        try clear hcz70_2
                        try clear hcz70_3
                        try clear hcz7_0
                        try clear hfz13_0
                        try clear hfz13_1
                        try clear hfz13_2
                        try clear hfz13_3
                        try clear hfz17_0
                        try clear hfz19_0
                        try clear hfz19_1
                        try clear hfz19_2
                        try clear hfz19_3
                        try clear hfz20_0
                        try clear hfz22_0
                        try clear hfz22_1
                        try clear hfz22_2
                        try clear hfz22_3
                        try clear hfz28_0
                        try clear hfz30_0
                        try clear hfz30_1
                        try clear hfz30_2
                        try clear hfz30_3
                        try clear hfz33_0
                        try clear hfz33_1
                        try clear hfz33_2
                        try clear hfz33_3
                        try clear hfz35_0
                        try clear hfz37_0
                        try clear hfz37_1
                        try clear hfz37_2
                        try clear hfz37_3
                        try clear hfz44_0
                        try clear hfz44_1
                        try clear hfz44_2
                        try clear hfz44_3
                        try clear hfz48_0
                        try clear hfz50_0
                        try clear hfz51_0
                        try clear hfz51_1
                        try clear hfz51_2
                        try clear hfz51_3
                        try clear hfz55_0
                        try clear hfz55_1
                        try clear hfz55_2
                        try clear hfz55_3
                        try clear hfz59_0
                        try clear hfz61_0
                        try clear hfz67_0
                        try clear hfz70_0
                        try clear hfz70_1
                        try clear hfz70_2
                        try clear hfz70_3
                        try clear hfz7_0
                        try clear p2
                        try clear p6
                        try clear p64
                        obtain ⟨x12_4, x13_4, x127000_4, x127001_4, x127002_4, x127003_4, u127002, u127003, rfl, rfl, HA, HK4, HO_127002, HO_127003, BK125, BK126, HB⟩ := hrel
                        cases gk with
                        | zero => exact absurd HA.out (by simp [object_reader_guess.l1])
                        | succ k4 =>
                          have H := HA.out
                          clear HA
                          simp only [object_reader_guess.l1] at H
                          by_cases c71 : x13_4 < (wrap64 (Int.tdiv (wrap64 (t146)) 24))
                          · rw [if_pos c71] at H
                            have c71b0 : decide (x13_4 < (wrap64 (Int.tdiv (wrap64 (t146)) 24))) = true := decide_eq_true c71
                            clear c71
                            replace H := Option.bind_eq_some_iff.mp H
                            obtain ⟨⟨t148, t149⟩, A720, H⟩ := H
                            replace H : ((object_reader_name.f k4 l0_0 x12_4).bind fun bt150 => (if t149 = true then (if bt150.2 = true then (if x127003_4.length < 5864062014805 then (object_reader_guess.l1 k4 t139 t146 (wrap64 (x12_4 + (wrap64 ((bt150.1.size : Int) + 1)))) (wrap64 (x13_4 + 1)) l0_0 x127000_4 x127001_4 x127002_4 (x127003_4 ++ [(⟨bt150.1, t148⟩ : S47)])) else (none)) else (some (x127000_4, x127001_4, x127002_4, x127003_4, false))) else (some (x127000_4, x127001_4, x127002_4, x127003_4, false)))) = some (r1, r2, r3, r4, r5) := H
                            have A72 := Aside0.mk A720
                            clear A720
                            replace H := Option.bind_eq_some_iff.mp H
                            obtain ⟨⟨t150, t151⟩, A730, H⟩ := H
                            replace H : (if t149 = true then (if t151 = true then (if x127003_4.length < 5864062014805 then (object_reader_guess.l1 k4 t139 t146 (wrap64 (x12_4 + (wrap64 ((t150.size : Int) + 1)))) (wrap64 (x13_4 + 1)) l0_0 x127000_4 x127001_4 x127002_4 (x127003_4 ++ [(⟨t150, t148⟩ : S47)])) else (none)) else (some (x127000_4, x127001_4, x127002_4, x127003_4, false))) else (some (x127000_4, x127001_4, x127002_4, x127003_4, false))) = some (r1, r2, r3, r4, r5) := H
                            have A73 := Aside0.mk A730
                            clear A730
                            by_cases c74 : t149 = true
                            · subst c74
                              have H1 : (if t151 = true then (if x127003_4.length < 5864062014805 then (object_reader_guess.l1 k4 t139 t146 (wrap64 (x12_4 + (wrap64 ((t150.size : Int) + 1)))) (wrap64 (x13_4 + 1)) l0_0 x127000_4 x127001_4 x127002_4 (x127003_4 ++ [(⟨t150, t148⟩ : S47)])) else (none)) else (some (x127000_4, x127001_4, x127002_4, x127003_4, false))) = some (r1, r2, r3, r4, r5) := by rw [if_pos rfl] at H; exact H
                              clear H
                              have H := H1
                              clear H1
                              by_cases c75 : t151 = true
                              · subst c75
                                have H1 : (if x127003_4.length < 5864062014805 then (object_reader_guess.l1 k4 t139 t146 (wrap64 (x12_4 + (wrap64 ((t150.size : Int) + 1)))) (wrap64 (x13_4 + 1)) l0_0 x127000_4 x127001_4 x127002_4 (x127003_4 ++ [(⟨t150, t148⟩ : S47)])) else (none)) = some (r1, r2, r3, r4, r5) := by rw [if_pos rfl] at H; exact H
                                clear H
                                have H := H1
                                clear H1
                                by_cases c76 : x127003_4.length < 5864062014805
                                · rw [if_pos c76] at H
                                  have LMc76 := Aside0.mk c76
                                  clear c76
                                  obtain ⟨y152, hy152⟩ : ∃ y_ : List (S47), y_ = (x127003_4 ++ [(⟨t150, t148⟩ : S47)]) := ⟨_, rfl⟩
                                  replace H : (object_reader_guess.l1 k4 t139 t146 (wrap64 (x12_4 + (wrap64 ((t150.size : Int) + 1)))) (wrap64 (x13_4 + 1)) l0_0 x127000_4 x127001_4 x127002_4 y152) = some (r1, r2, r3, r4, r5) := by first | (rw [hy152]; with_reducible exact H) | (have H2_ := (Option.bind_some _ _).symm.trans H; rw [hy152]; with_reducible exact H2_) | (have H2_ := (Option.bind_some _ _).symm.trans H; with_reducible exact H2_) | with_reducible exact H | (rw [hy152]; exact H) | exact H
                                  have Ny152 := Aside0.mk hy152
                                  clear hy152
                                  have H' := Aside0.mk H
                                  clear H
                                  have hnb77 := NB125_126.out
                                  have hnc77 := NB126_125.out
                                  have hcz78_0 : wr.cell? ⟨gb125, 0, none⟩ = some (.slice A0_0 l0_0.length c0_0) := (blk_cell BK125.out 0).trans rfl
                                  have hfz78_0 := blk_frozen BK125.out 0
                                  go_wp2_with (first | ((with_reducible refine gate_callee (f := 31) rfl ?_); refine goesL_ (some 135) rfl rfl Try.func31 (by kernel_rfl) rfl #[.agg #[.slice A0_0 l0_0.length c0_0], .int .i64 (wrap64 ((wrap64 (t139 + (wrap64 (24 * x13_4)))) + 8)), .int .i64 8] rfl (by (try simp only [List.map_toArray, List.map_cons, List.map_nil]); first | done | rfl | (simp only [List.length_drop, List.length_take]; rfl)) ?_; (with_reducible refine (object_reader_number.calls k4 _ _ l0_0 (wrap64 ((wrap64 (t139 + (wrap64 (24 * x13_4)))) + 8)) 8 t148 true _ ?side1 ?side2 A72.out).mono ?_); (case side1 => repeat (first | exact (Kd.C_below HR0_0.out HB.out) | (with_reducible refine Kd.C_alloc ?_ _) | (with_reducible refine Kd.C_drewN ?_ _) | (with_reducible refine Kd.C_drew ?_))); (case side2 => exact HC0_0.out); rintro e w79 ⟨rfl, hb⟩; refine ⟨_, rfl, ?_⟩; have n0_ := Aside0.mk (Kd.R_below (by (with_reducible repeat (first | apply Kd.R_alloc | apply Kd.R_drewN | apply Kd.R_drew)); exact HO_127002.out) hb); have n1_ := Aside0.mk (Kd.R_below (by (with_reducible repeat (first | apply Kd.R_alloc | apply Kd.R_drewN | apply Kd.R_drew)); exact HO_127003.out) hb); have n2_ := Aside0.mk (blk_below (g := gb125) (o := .cells #[.slice A0_0 l0_0.length c0_0] 52 (0, 0)) (by (with_reducible repeat (first | refine blk_drewN ?_ _ | refine blk_drew ?_ | refine blk_alloc ?_ _)); exact BK125.out) hb); have n3_ := Aside0.mk (blk_below (g := gb126) (o := .cells #[.int .u64 x127000_4, .int .u64 x127001_4, u127002, u127003] 26 (0, 0)) (by (with_reducible repeat (first | refine blk_drewN ?_ _ | refine blk_drew ?_ | refine blk_alloc ?_ _)); exact BK126.out) hb); have n4_ := Aside0.mk (below_step (by repeat (first | (with_reducible first | exact HB.out | apply below_alloc | apply pw_below_drewN | apply below_drew1 | refine below_set ?_ GE125.out | refine below_set ?_ GE126.out) | exact HB.out)) hb); clear HO_127002; clear HO_127003; clear BK125; clear BK126; clear HB; have HO_127002 := n0_; have HO_127003 := n1_; have BK125 := n2_; have BK126 := n3_; have HB := n4_; clear n0_ n1_ n2_ n3_ n4_; (try clear hb); (try clear hb2); (try clear hk); (try clear hi); have hcz80_0 : w79.cell? ⟨gb125, 0, none⟩ = some (.slice A0_0 l0_0.length c0_0) := (blk_cell BK125.out 0).trans rfl; have hfz80_0 := blk_frozen BK125.out 0) | ((with_reducible refine gate_callee (f := 32) rfl ?_); refine goesL_ (some 141) rfl rfl Try.func32 (by kernel_rfl) rfl #[.agg #[.slice A0_0 l0_0.length c0_0], .int .i64 x12_4] rfl (by (try simp only [List.map_toArray, List.map_cons, List.map_nil]); first | done | rfl | (simp only [List.length_drop, List.length_take]; rfl)) ?_; (with_reducible refine (object_reader_name.calls k4 _ _ l0_0 x12_4 t150 true _ ?side1 ?side2 A73.out).mono ?_); (case side1 => repeat (first | exact (Kd.C_below HR0_0.out HB.out) | (with_reducible refine Kd.C_alloc ?_ _) | (with_reducible refine Kd.C_drewN ?_ _) | (with_reducible refine Kd.C_drew ?_))); (case side2 => exact HC0_0.out); rintro e w81 ⟨rfl, hb⟩; refine ⟨_, rfl, ?_⟩; have n0_ := Aside0.mk (Kd.R_below (by (with_reducible repeat (first | apply Kd.R_alloc | apply Kd.R_drewN | apply Kd.R_drew)); exact HO_127002.out) hb); have n1_ := Aside0.mk (Kd.R_below (by (with_reducible repeat (first | apply Kd.R_alloc | apply Kd.R_drewN | apply Kd.R_drew)); exact HO_127003.out) hb); have n2_ := Aside0.mk (blk_below (g := gb125) (o := .cells #[.slice A0_0 l0_0.length c0_0] 52 (0, 0)) (by (with_reducible repeat (first | refine blk_drewN ?_ _ | refine blk_drew ?_ | refine blk_alloc ?_ _)); exact BK125.out) hb); have n3_ := Aside0.mk (blk_below (g := gb126) (o := .cells #[.int .u64 x127000_4, .int .u64 x127001_4, u127002, u127003] 26 (0, 0)) (by (with_reducible repeat (first | refine blk_drewN ?_ _ | refine blk_drew ?_ | refine blk_alloc ?_ _)); exact BK126.out) hb); have n4_ := Aside0.mk (below_step (by repeat (first | (with_reducible first | exact HB.out | apply below_alloc | apply pw_below_drewN | apply below_drew1 | refine below_set ?_ GE125.out | refine below_set ?_ GE126.out) | exact HB.out)) hb); clear HO_127002; clear HO_127003; clear BK125; clear BK126; clear HB; have HO_127002 := n0_; have HO_127003 := n1_; have BK125 := n2_; have BK126 := n3_; have HB := n4_; clear n0_ n1_ n2_ n3_ n4_; (try clear hb); (try clear hb2); (try clear hk); (try clear hi); have hcz82_0 : w81.cell? ⟨gb126, 0, none⟩ = some (.int .u64 x127000_4) := (blk_cell BK126.out 0).trans rfl; have hcz82_1 : w81.cell? ⟨gb126, 1, none⟩ = some (.int .u64 x127001_4) := (blk_cell BK126.out 1).trans rfl; have hcz82_2 : w81.cell? ⟨gb126, 2, none⟩ = some (u127002) := (blk_cell BK126.out 2).trans rfl; have hcz82_3 : w81.cell? ⟨gb126, 3, none⟩ = some (u127003) := (blk_cell BK126.out 3).trans rfl; have hfz82_0 := blk_frozen BK126.out 0; have hfz82_1 := blk_frozen BK126.out 1; have hfz82_2 := blk_frozen BK126.out 2; have hfz82_3 := blk_frozen BK126.out 3) | ((with_reducible refine gate_builtin (b := .append) (xs := #[.tmp 152, .tmp 156]) rfl ?_); (try (refine gate_guard (by rfl) ?_; dsimp only)); at_builtin; refine Kd.R_append k47 (w0 := w) w.heap.size rfl (.tmp 152) (.tmp 156) 24 47 (.agg #[(.string ⟨#[]⟩), (.int .u64 0)]) 24 rfl Try.underlying24 info47 rfl (by decide) (by omega) u127003 x127003_4 (⟨t150, t148⟩ : S47) [.string t150, .int .u64 t148] (fun _ => True) (fun _ => False) rfl rfl ?aP (fun _ hk => hk.elim) ?aF ?aO ?aB ?aS ?aL ?_; (case aP => exact k47_mkM _ _ _ (⟨t150, t148⟩ : S47)); (case aB => exact (by repeat (first | (with_reducible first | exact HB.out | apply below_alloc | apply pw_below_drewN | apply below_drew1 | refine below_set ?_ GE125.out | refine below_set ?_ GE126.out) | exact HB.out))); (case aF => exact (fun _ _ => trivial)); (case aO => exact (by (with_reducible repeat (first | apply Kd.R_alloc | apply Kd.R_drewN | apply Kd.R_drew)); exact HO_127003.out)); (case aS => exact (below_size (by repeat (first | (with_reducible first | exact HB.out | apply below_alloc | apply pw_below_drewN | apply below_drew1 | refine below_set ?_ GE125.out | refine below_set ?_ GE126.out) | exact HB.out)))); (case aL => have := LMc76.out; omega); intro v153 w83 ho hb hg hat; rw [← Ny152.out] at ho; have n0_ := Aside0.mk (Kd.R_over' (by (with_reducible repeat (first | apply Kd.R_alloc | apply Kd.R_drewN | apply Kd.R_drew)); exact HO_127002.out) (Kd.R_typed (by (with_reducible repeat (first | apply Kd.R_alloc | apply Kd.R_drewN | apply Kd.R_drew)); exact HO_127003.out)) (by decide) hg); have n1_ := Aside0.mk (blk_grown (g := gb125) (o := .cells #[.slice A0_0 l0_0.length c0_0] 52 (0, 0)) (by (with_reducible repeat (first | refine blk_drewN ?_ _ | refine blk_drew ?_ | refine blk_alloc ?_ _)); exact BK125.out) hg (Kd.R_ne HO_127003.out BK125.out (by decide))); have n2_ := Aside0.mk (blk_grown (g := gb126) (o := .cells #[.int .u64 x127000_4, .int .u64 x127001_4, u127002, u127003] 26 (0, 0)) (by (with_reducible repeat (first | refine blk_drewN ?_ _ | refine blk_drew ?_ | refine blk_alloc ?_ _)); exact BK126.out) hg (Kd.R_ne HO_127003.out BK126.out (by decide))); have n3_ := Aside0.mk (hb); have n4_ := Aside0.mk (ho); clear HO_127002; clear BK125; clear BK126; clear HB; clear HO_127003; have HO_127002 := n0_; have BK125 := n1_; have BK126 := n2_; have HB := n3_; have HO154 := n4_; clear n0_ n1_ n2_ n3_ n4_; clear ho hb hg hat; obtain ⟨Ao84, co84, eo84⟩ := Kd.R_slice HO154.out; subst eo84; have hcz85_0 : w83.cell? ⟨gb126, 0, none⟩ = some (.int .u64 x127000_4) := (blk_cell BK126.out 0).trans rfl; have hcz85_1 : w83.cell? ⟨gb126, 1, none⟩ = some (.int .u64 x127001_4) := (blk_cell BK126.out 1).trans rfl; have hcz85_2 : w83.cell? ⟨gb126, 2, none⟩ = some (u127002) := (blk_cell BK126.out 2).trans rfl; have hcz85_3 : w83.cell? ⟨gb126, 3, none⟩ = some (u127003) := (blk_cell BK126.out 3).trans rfl; have hfz85_0 := blk_frozen BK126.out 0; have hfz85_1 := blk_frozen BK126.out 1; have hfz85_2 := blk_frozen BK126.out 2; have hfz85_3 := blk_frozen BK126.out 3))
                                  go_roundg k4
                                  case measure => have := HJ2.out; have := HK2.out; have := HJ52.out; have := HK4.out; omega
                                  case rel => exact ⟨(wrap64 (x12_4 + (wrap64 ((t150.size : Int) + 1)))), (wrap64 (x13_4 + 1)), (x127000_4), (x127001_4), (x127002_4), (y152), (u127002), (.slice Ao84 y152.length co84), (by first | rfl | (simp; done) | (simp [*]; done)), (by first | rfl | (simp; done) | (simp [*]; done)), H', ⟨by have := HJ2.out; have := HK2.out; have := HJ52.out; have := HK4.out; omega⟩, ⟨by (with_reducible repeat (first | apply Kd.R_alloc | apply Kd.R_drewN | apply Kd.R_drew)); exact Kd.R_mono (Kd.R_far (p := ⟨gb126, 3, none⟩) (Kd.R_types HO_127002.out BK126.out (by decide)) (fun _ hk => hk.2) (.slice Ao84 y152.length co84)) (fun _ hk => trivial)⟩, ⟨by (with_reducible repeat (first | apply Kd.R_alloc | apply Kd.R_drewN | apply Kd.R_drew)); exact Kd.R_mono (Kd.R_far (p := ⟨gb126, 3, none⟩) (Kd.R_types HO154.out BK126.out (by decide)) (fun _ hk => hk.2) (.slice Ao84 y152.length co84)) (fun _ hk => trivial)⟩, ⟨by (with_reducible repeat (first | refine blk_drewN ?_ _ | refine blk_drew ?_ | refine blk_alloc ?_ _)); refine blk_far ?_ NB125_126.out _; (with_reducible repeat (first | refine blk_drewN ?_ _ | refine blk_drew ?_ | refine blk_alloc ?_ _)); exact BK125.out⟩, ⟨by (with_reducible repeat (first | refine blk_drewN ?_ _ | refine blk_drew ?_ | refine blk_alloc ?_ _)); refine blk_put (cs := #[.int .u64 x127000_4, .int .u64 x127001_4, u127002, u127003]) ?_ 3 _ rfl; (with_reducible repeat (first | refine blk_drewN ?_ _ | refine blk_drew ?_ | refine blk_alloc ?_ _)); exact BK126.out⟩, ⟨by repeat (first | (with_reducible first | exact HB.out | apply below_alloc | apply pw_below_drewN | apply below_drew1 | refine below_set ?_ GE125.out | refine below_set ?_ GE126.out) | exact HB.out)⟩⟩
                                · rw [if_neg c76] at H
                                  exact absurd H (by simp)
                              · replace c75 := Bool.eq_false_iff.mpr c75
                                subst c75
                                have H1 : (some (x127000_4, x127001_4, x127002_4, x127003_4, false)) = some (r1, r2, r3, r4, r5) := by rw [if_neg (show ¬ (false = true) by decide)] at H; exact H
                                clear H
                                have H := H1
                                clear H1
                                simp only [Option.some.injEq, Prod.mk.injEq] at H
                                obtain ⟨rfl, rfl, rfl, rfl, rfl⟩ := H
                                have hnb86 := NB125_126.out
                                have hnc86 := NB126_125.out
                                have hcz87_0 : wr.cell? ⟨gb125, 0, none⟩ = some (.slice A0_0 l0_0.length c0_0) := (blk_cell BK125.out 0).trans rfl
                                have hfz87_0 := blk_frozen BK125.out 0
                                go_wp2_with (first | ((with_reducible refine gate_callee (f := 31) rfl ?_); refine goesL_ (some 135) rfl rfl Try.func31 (by kernel_rfl) rfl #[.agg #[.slice A0_0 l0_0.length c0_0], .int .i64 (wrap64 ((wrap64 (t139 + (wrap64 (24 * x13_4)))) + 8)), .int .i64 8] rfl (by (try simp only [List.map_toArray, List.map_cons, List.map_nil]); first | done | rfl | (simp only [List.length_drop, List.length_take]; rfl)) ?_; (with_reducible refine (object_reader_number.calls k4 _ _ l0_0 (wrap64 ((wrap64 (t139 + (wrap64 (24 * x13_4)))) + 8)) 8 t148 true _ ?side1 ?side2 A72.out).mono ?_); (case side1 => repeat (first | exact (Kd.C_below HR0_0.out HB.out) | (with_reducible refine Kd.C_alloc ?_ _) | (with_reducible refine Kd.C_drewN ?_ _) | (with_reducible refine Kd.C_drew ?_))); (case side2 => exact HC0_0.out); rintro e w88 ⟨rfl, hb⟩; refine ⟨_, rfl, ?_⟩; have n0_ := Aside0.mk (Kd.R_below (by (with_reducible repeat (first | apply Kd.R_alloc | apply Kd.R_drewN | apply Kd.R_drew)); exact HO_127002.out) hb); have n1_ := Aside0.mk (Kd.R_below (by (with_reducible repeat (first | apply Kd.R_alloc | apply Kd.R_drewN | apply Kd.R_drew)); exact HO_127003.out) hb); have n2_ := Aside0.mk (blk_below (g := gb125) (o := .cells #[.slice A0_0 l0_0.length c0_0] 52 (0, 0)) (by (with_reducible repeat (first | refine blk_drewN ?_ _ | refine blk_drew ?_ | refine blk_alloc ?_ _)); exact BK125.out) hb); have n3_ := Aside0.mk (blk_below (g := gb126) (o := .cells #[.int .u64 x127000_4, .int .u64 x127001_4, u127002, u127003] 26 (0, 0)) (by (with_reducible repeat (first | refine blk_drewN ?_ _ | refine blk_drew ?_ | refine blk_alloc ?_ _)); exact BK126.out) hb); have n4_ := Aside0.mk (below_step (by repeat (first | (with_reducible first | exact HB.out | apply below_alloc | apply pw_below_drewN | apply below_drew1 | refine below_set ?_ GE125.out | refine below_set ?_ GE126.out) | exact HB.out)) hb); clear HO_127002; clear HO_127003; clear BK125; clear BK126; clear HB; have HO_127002 := n0_; have HO_127003 := n1_; have BK125 := n2_; have BK126 := n3_; have HB := n4_; clear n0_ n1_ n2_ n3_ n4_; (try clear hb); (try clear hb2); (try clear hk); (try clear hi); have hcz89_0 : w88.cell? ⟨gb125, 0, none⟩ = some (.slice A0_0 l0_0.length c0_0) := (blk_cell BK125.out 0).trans rfl; have hfz89_0 := blk_frozen BK125.out 0) | ((with_reducible refine gate_callee (f := 32) rfl ?_); refine goesL_ (some 141) rfl rfl Try.func32 (by kernel_rfl) rfl #[.agg #[.slice A0_0 l0_0.length c0_0], .int .i64 x12_4] rfl (by (try simp only [List.map_toArray, List.map_cons, List.map_nil]); first | done | rfl | (simp only [List.length_drop, List.length_take]; rfl)) ?_; (with_reducible refine (object_reader_name.calls k4 _ _ l0_0 x12_4 t150 false _ ?side1 ?side2 A73.out).mono ?_); (case side1 => repeat (first | exact (Kd.C_below HR0_0.out HB.out) | (with_reducible refine Kd.C_alloc ?_ _) | (with_reducible refine Kd.C_drewN ?_ _) | (with_reducible refine Kd.C_drew ?_))); (case side2 => exact HC0_0.out); rintro e w90 ⟨rfl, hb⟩; refine ⟨_, rfl, ?_⟩; have n0_ := Aside0.mk (Kd.R_below (by (with_reducible repeat (first | apply Kd.R_alloc | apply Kd.R_drewN | apply Kd.R_drew)); exact HO_127002.out) hb); have n1_ := Aside0.mk (Kd.R_below (by (with_reducible repeat (first | apply Kd.R_alloc | apply Kd.R_drewN | apply Kd.R_drew)); exact HO_127003.out) hb); have n2_ := Aside0.mk (blk_below (g := gb125) (o := .cells #[.slice A0_0 l0_0.length c0_0] 52 (0, 0)) (by (with_reducible repeat (first | refine blk_drewN ?_ _ | refine blk_drew ?_ | refine blk_alloc ?_ _)); exact BK125.out) hb); have n3_ := Aside0.mk (blk_below (g := gb126) (o := .cells #[.int .u64 x127000_4, .int .u64 x127001_4, u127002, u127003] 26 (0, 0)) (by (with_reducible repeat (first | refine blk_drewN ?_ _ | refine blk_drew ?_ | refine blk_alloc ?_ _)); exact BK126.out) hb); have n4_ := Aside0.mk (below_step (by repeat (first | (with_reducible first | exact HB.out | apply below_alloc | apply pw_below_drewN | apply below_drew1 | refine below_set ?_ GE125.out | refine below_set ?_ GE126.out) | exact HB.out)) hb); clear HO_127002; clear HO_127003; clear BK125; clear BK126; clear HB; have HO_127002 := n0_; have HO_127003 := n1_; have BK125 := n2_; have BK126 := n3_; have HB := n4_; clear n0_ n1_ n2_ n3_ n4_; (try clear hb); (try clear hb2); (try clear hk); (try clear hi); have hcz91_0 : w90.cell? ⟨gb126, 0, none⟩ = some (.int .u64 x127000_4) := (blk_cell BK126.out 0).trans rfl; have hcz91_1 : w90.cell? ⟨gb126, 1, none⟩ = some (.int .u64 x127001_4) := (blk_cell BK126.out 1).trans rfl; have hcz91_2 : w90.cell? ⟨gb126, 2, none⟩ = some (u127002) := (blk_cell BK126.out 2).trans rfl; have hcz91_3 : w90.cell? ⟨gb126, 3, none⟩ = some (u127003) := (blk_cell BK126.out 3).trans rfl; have hfz91_0 := blk_frozen BK126.out 0; have hfz91_1 := blk_frozen BK126.out 1; have hfz91_2 := blk_frozen BK126.out 2; have hfz91_3 := blk_frozen BK126.out 3; obtain ⟨Ao92, co92, eo92⟩ := Kd.R_slice HO_127002.out; subst eo92; obtain ⟨Ao93, co93, eo93⟩ := Kd.R_slice HO_127003.out; subst eo93))
                                refine bodyPost_ret (results_ct rfl _ _ gb126 26 #[.int .u64 x127000_4, .int .u64 x127001_4, .slice Ao92 x127002_4.length co92, .slice Ao93 x127003_4.length co93] (0, 0) _ rfl (by (with_reducible repeat (first | refine blk_drewN ?_ _ | refine blk_drew ?_ | refine blk_alloc ?_ _)); refine blk_put (cs := #[.int .u64 x127000_4, .int .u64 x127001_4, .slice Ao92 x127002_4.length co92, .slice Ao93 x127003_4.length co93]) ?_ 3 _ rfl; (with_reducible repeat (first | refine blk_drewN ?_ _ | refine blk_drew ?_ | refine blk_alloc ?_ _)); refine blk_put (cs := #[.int .u64 x127000_4, .int .u64 x127001_4, .slice Ao92 x127002_4.length co92, .slice Ao93 x127003_4.length co93]) ?_ 2 _ rfl; (with_reducible repeat (first | refine blk_drewN ?_ _ | refine blk_drew ?_ | refine blk_alloc ?_ _)); refine blk_put (cs := #[.int .u64 x127000_4, .int .u64 x127001_4, .slice Ao92 x127002_4.length co92, .slice Ao93 x127003_4.length co93]) ?_ 1 _ rfl; (with_reducible repeat (first | refine blk_drewN ?_ _ | refine blk_drew ?_ | refine blk_alloc ?_ _)); refine blk_put (cs := #[.int .u64 x127000_4, .int .u64 x127001_4, .slice Ao92 x127002_4.length co92, .slice Ao93 x127003_4.length co93]) ?_ 0 _ rfl; (with_reducible repeat (first | refine blk_drewN ?_ _ | refine blk_drew ?_ | refine blk_alloc ?_ _)); exact BK126.out) Try.underlying26 rfl (by kernel_rfl)) rfl ?_
                                exact ⟨_, _, by first | rfl | (simp [errW_none, errW_some] <;> rfl) | (simp [*, errW_none, errW_some] <;> rfl), by (with_reducible repeat (first | apply Kd.R_alloc | apply Kd.R_drewN | apply Kd.R_drew)); exact Kd.R_mono (Kd.R_far (p := ⟨gb126, 3, none⟩) (Kd.R_far (p := ⟨gb126, 2, none⟩) (Kd.R_far (p := ⟨gb126, 1, none⟩) (Kd.R_far (p := ⟨gb126, 0, none⟩) (Kd.R_types HO_127002.out BK126.out (by decide)) (fun _ hk => hk.2) (.int .u64 x127000_4)) (fun _ hk => hk.2) (.int .u64 x127001_4)) (fun _ hk => hk.2) (.slice Ao92 x127002_4.length co92)) (fun _ hk => hk.2) (.slice Ao93 x127003_4.length co93)) (fun _ hk => trivial), by (with_reducible repeat (first | apply Kd.R_alloc | apply Kd.R_drewN | apply Kd.R_drew)); exact Kd.R_mono (Kd.R_far (p := ⟨gb126, 3, none⟩) (Kd.R_far (p := ⟨gb126, 2, none⟩) (Kd.R_far (p := ⟨gb126, 1, none⟩) (Kd.R_far (p := ⟨gb126, 0, none⟩) (Kd.R_types HO_127003.out BK126.out (by decide)) (fun _ hk => hk.2) (.int .u64 x127000_4)) (fun _ hk => hk.2) (.int .u64 x127001_4)) (fun _ hk => hk.2) (.slice Ao92 x127002_4.length co92)) (fun _ hk => hk.2) (.slice Ao93 x127003_4.length co93)) (fun _ hk => trivial), by repeat (first | (with_reducible first | exact HB.out | apply below_alloc | apply pw_below_drewN | apply below_drew1 | refine below_set ?_ GE125.out | refine below_set ?_ GE126.out) | exact HB.out)⟩
                            · replace c74 := Bool.eq_false_iff.mpr c74
                              subst c74
                              have H1 : (some (x127000_4, x127001_4, x127002_4, x127003_4, false)) = some (r1, r2, r3, r4, r5) := by rw [if_neg (show ¬ (false = true) by decide)] at H; exact H
                              clear H
                              have H := H1
                              clear H1
                              simp only [Option.some.injEq, Prod.mk.injEq] at H
                              obtain ⟨rfl, rfl, rfl, rfl, rfl⟩ := H
                              have hnb94 := NB125_126.out
                              have hnc94 := NB126_125.out
                              have hcz95_0 : wr.cell? ⟨gb125, 0, none⟩ = some (.slice A0_0 l0_0.length c0_0) := (blk_cell BK125.out 0).trans rfl
                              have hfz95_0 := blk_frozen BK125.out 0
                              go_wp2_with (first | ((with_reducible refine gate_callee (f := 31) rfl ?_); refine goesL_ (some 135) rfl rfl Try.func31 (by kernel_rfl) rfl #[.agg #[.slice A0_0 l0_0.length c0_0], .int .i64 (wrap64 ((wrap64 (t139 + (wrap64 (24 * x13_4)))) + 8)), .int .i64 8] rfl (by (try simp only [List.map_toArray, List.map_cons, List.map_nil]); first | done | rfl | (simp only [List.length_drop, List.length_take]; rfl)) ?_; (with_reducible refine (object_reader_number.calls k4 _ _ l0_0 (wrap64 ((wrap64 (t139 + (wrap64 (24 * x13_4)))) + 8)) 8 t148 false _ ?side1 ?side2 A72.out).mono ?_); (case side1 => repeat (first | exact (Kd.C_below HR0_0.out HB.out) | (with_reducible refine Kd.C_alloc ?_ _) | (with_reducible refine Kd.C_drewN ?_ _) | (with_reducible refine Kd.C_drew ?_))); (case side2 => exact HC0_0.out); rintro e w96 ⟨rfl, hb⟩; refine ⟨_, rfl, ?_⟩; have n0_ := Aside0.mk (Kd.R_below (by (with_reducible repeat (first | apply Kd.R_alloc | apply Kd.R_drewN | apply Kd.R_drew)); exact HO_127002.out) hb); have n1_ := Aside0.mk (Kd.R_below (by (with_reducible repeat (first | apply Kd.R_alloc | apply Kd.R_drewN | apply Kd.R_drew)); exact HO_127003.out) hb); have n2_ := Aside0.mk (blk_below (g := gb125) (o := .cells #[.slice A0_0 l0_0.length c0_0] 52 (0, 0)) (by (with_reducible repeat (first | refine blk_drewN ?_ _ | refine blk_drew ?_ | refine blk_alloc ?_ _)); exact BK125.out) hb); have n3_ := Aside0.mk (blk_below (g := gb126) (o := .cells #[.int .u64 x127000_4, .int .u64 x127001_4, u127002, u127003] 26 (0, 0)) (by (with_reducible repeat (first | refine blk_drewN ?_ _ | refine blk_drew ?_ | refine blk_alloc ?_ _)); exact BK126.out) hb); have n4_ := Aside0.mk (below_step (by repeat (first | (with_reducible first | exact HB.out | apply below_alloc | apply pw_below_drewN | apply below_drew1 | refine below_set ?_ GE125.out | refine below_set ?_ GE126.out) | exact HB.out)) hb); clear HO_127002; clear HO_127003; clear BK125; clear BK126; clear HB; have HO_127002 := n0_; have HO_127003 := n1_; have BK125 := n2_; have BK126 := n3_; have HB := n4_; clear n0_ n1_ n2_ n3_ n4_; (try clear hb); (try clear hb2); (try clear hk); (try clear hi); have hcz97_0 : w96.cell? ⟨gb125, 0, none⟩ = some (.slice A0_0 l0_0.length c0_0) := (blk_cell BK125.out 0).trans rfl; have hfz97_0 := blk_frozen BK125.out 0) | ((with_reducible refine gate_callee (f := 32) rfl ?_); refine goesL_ (some 141) rfl rfl Try.func32 (by kernel_rfl) rfl #[.agg #[.slice A0_0 l0_0.length c0_0], .int .i64 x12_4] rfl (by (try simp only [List.map_toArray, List.map_cons, List.map_nil]); first | done | rfl | (simp only [List.length_drop, List.length_take]; rfl)) ?_; (with_reducible refine (object_reader_name.calls k4 _ _ l0_0 x12_4 t150 t151 _ ?side1 ?side2 A73.out).mono ?_); (case side1 => repeat (first | exact (Kd.C_below HR0_0.out HB.out) | (with_reducible refine Kd.C_alloc ?_ _) | (with_reducible refine Kd.C_drewN ?_ _) | (with_reducible refine Kd.C_drew ?_))); (case side2 => exact HC0_0.out); rintro e w98 ⟨rfl, hb⟩; refine ⟨_, rfl, ?_⟩; have n0_ := Aside0.mk (Kd.R_below (by (with_reducible repeat (first | apply Kd.R_alloc | apply Kd.R_drewN | apply Kd.R_drew)); exact HO_127002.out) hb); have n1_ := Aside0.mk (Kd.R_below (by (with_reducible repeat (first | apply Kd.R_alloc | apply Kd.R_drewN | apply Kd.R_drew)); exact HO_127003.out) hb); have n2_ := Aside0.mk (blk_below (g := gb125) (o := .cells #[.slice A0_0 l0_0.length c0_0] 52 (0, 0)) (by (with_reducible repeat (first | refine blk_drewN ?_ _ | refine blk_drew ?_ | refine blk_alloc ?_ _)); exact BK125.out) hb); have n3_ := Aside0.mk (blk_below (g := gb126) (o := .cells #[.int .u64 x127000_4, .int .u64 x127001_4, u127002, u127003] 26 (0, 0)) (by (with_reducible repeat (first | refine blk_drewN ?_ _ | refine blk_drew ?_ | refine blk_alloc ?_ _)); exact BK126.out) hb); have n4_ := Aside0.mk (below_step (by repeat (first | (with_reducible first | exact HB.out | apply below_alloc | apply pw_below_drewN | apply below_drew1 | refine below_set ?_ GE125.out | refine below_set ?_ GE126.out) | exact HB.out)) hb); clear HO_127002; clear HO_127003; clear BK125; clear BK126; clear HB; have HO_127002 := n0_; have HO_127003 := n1_; have BK125 := n2_; have BK126 := n3_; have HB := n4_; clear n0_ n1_ n2_ n3_ n4_; (try clear hb); (try clear hb2); (try clear hk); (try clear hi); have hcz99_0 : w98.cell? ⟨gb126, 0, none⟩ = some (.int .u64 x127000_4) := (blk_cell BK126.out 0).trans rfl; have hcz99_1 : w98.cell? ⟨gb126, 1, none⟩ = some (.int .u64 x127001_4) := (blk_cell BK126.out 1).trans rfl; have hcz99_2 : w98.cell? ⟨gb126, 2, none⟩ = some (u127002) := (blk_cell BK126.out 2).trans rfl; have hcz99_3 : w98.cell? ⟨gb126, 3, none⟩ = some (u127003) := (blk_cell BK126.out 3).trans rfl; have hfz99_0 := blk_frozen BK126.out 0; have hfz99_1 := blk_frozen BK126.out 1; have hfz99_2 := blk_frozen BK126.out 2; have hfz99_3 := blk_frozen BK126.out 3; obtain ⟨Ao100, co100, eo100⟩ := Kd.R_slice HO_127002.out; subst eo100; obtain ⟨Ao101, co101, eo101⟩ := Kd.R_slice HO_127003.out; subst eo101))
                              refine bodyPost_ret (results_ct rfl _ _ gb126 26 #[.int .u64 x127000_4, .int .u64 x127001_4, .slice Ao100 x127002_4.length co100, .slice Ao101 x127003_4.length co101] (0, 0) _ rfl (by (with_reducible repeat (first | refine blk_drewN ?_ _ | refine blk_drew ?_ | refine blk_alloc ?_ _)); refine blk_put (cs := #[.int .u64 x127000_4, .int .u64 x127001_4, .slice Ao100 x127002_4.length co100, .slice Ao101 x127003_4.length co101]) ?_ 3 _ rfl; (with_reducible repeat (first | refine blk_drewN ?_ _ | refine blk_drew ?_ | refine blk_alloc ?_ _)); refine blk_put (cs := #[.int .u64 x127000_4, .int .u64 x127001_4, .slice Ao100 x127002_4.length co100, .slice Ao101 x127003_4.length co101]) ?_ 2 _ rfl; (with_reducible repeat (first | refine blk_drewN ?_ _ | refine blk_drew ?_ | refine blk_alloc ?_ _)); refine blk_put (cs := #[.int .u64 x127000_4, .int .u64 x127001_4, .slice Ao100 x127002_4.length co100, .slice Ao101 x127003_4.length co101]) ?_ 1 _ rfl; (with_reducible repeat (first | refine blk_drewN ?_ _ | refine blk_drew ?_ | refine blk_alloc ?_ _)); refine blk_put (cs := #[.int .u64 x127000_4, .int .u64 x127001_4, .slice Ao100 x127002_4.length co100, .slice Ao101 x127003_4.length co101]) ?_ 0 _ rfl; (with_reducible repeat (first | refine blk_drewN ?_ _ | refine blk_drew ?_ | refine blk_alloc ?_ _)); exact BK126.out) Try.underlying26 rfl (by kernel_rfl)) rfl ?_
                              exact ⟨_, _, by first | rfl | (simp [errW_none, errW_some] <;> rfl) | (simp [*, errW_none, errW_some] <;> rfl), by (with_reducible repeat (first | apply Kd.R_alloc | apply Kd.R_drewN | apply Kd.R_drew)); exact Kd.R_mono (Kd.R_far (p := ⟨gb126, 3, none⟩) (Kd.R_far (p := ⟨gb126, 2, none⟩) (Kd.R_far (p := ⟨gb126, 1, none⟩) (Kd.R_far (p := ⟨gb126, 0, none⟩) (Kd.R_types HO_127002.out BK126.out (by decide)) (fun _ hk => hk.2) (.int .u64 x127000_4)) (fun _ hk => hk.2) (.int .u64 x127001_4)) (fun _ hk => hk.2) (.slice Ao100 x127002_4.length co100)) (fun _ hk => hk.2) (.slice Ao101 x127003_4.length co101)) (fun _ hk => trivial), by (with_reducible repeat (first | apply Kd.R_alloc | apply Kd.R_drewN | apply Kd.R_drew)); exact Kd.R_mono (Kd.R_far (p := ⟨gb126, 3, none⟩) (Kd.R_far (p := ⟨gb126, 2, none⟩) (Kd.R_far (p := ⟨gb126, 1, none⟩) (Kd.R_far (p := ⟨gb126, 0, none⟩) (Kd.R_types HO_127003.out BK126.out (by decide)) (fun _ hk => hk.2) (.int .u64 x127000_4)) (fun _ hk => hk.2) (.int .u64 x127001_4)) (fun _ hk => hk.2) (.slice Ao100 x127002_4.length co100)) (fun _ hk => hk.2) (.slice Ao101 x127003_4.length co101)) (fun _ hk => trivial), by repeat (first | (with_reducible first | exact HB.out | apply below_alloc | apply pw_below_drewN | apply below_drew1 | refine below_set ?_ GE125.out | refine below_set ?_ GE126.out) | exact HB.out)⟩
                          · rw [if_neg c71] at H
                            have c71b0 : decide (x13_4 < (wrap64 (Int.tdiv (wrap64 (t146)) 24))) = false := decide_eq_false c71
                            clear c71
                            simp only [Option.some.injEq, Prod.mk.injEq] at H
                            obtain ⟨rfl, rfl, rfl, rfl, rfl⟩ := H
                            have hnb102 := NB126_125.out
                            have hnc102 := NB125_126.out
                            have hcz103_0 : wr.cell? ⟨gb126, 0, none⟩ = some (.int .u64 x127000_4) := (blk_cell BK126.out 0).trans rfl
                            have hcz103_1 : wr.cell? ⟨gb126, 1, none⟩ = some (.int .u64 x127001_4) := (blk_cell BK126.out 1).trans rfl
                            have hcz103_2 : wr.cell? ⟨gb126, 2, none⟩ = some (u127002) := (blk_cell BK126.out 2).trans rfl
                            have hcz103_3 : wr.cell? ⟨gb126, 3, none⟩ = some (u127003) := (blk_cell BK126.out 3).trans rfl
                            have hfz103_0 := blk_frozen BK126.out 0
                            have hfz103_1 := blk_frozen BK126.out 1
                            have hfz103_2 := blk_frozen BK126.out 2
                            have hfz103_3 := blk_frozen BK126.out 3
                            obtain ⟨Ao104, co104, eo104⟩ := Kd.R_slice HO_127002.out
                            subst eo104
                            obtain ⟨Ao105, co105, eo105⟩ := Kd.R_slice HO_127003.out
                            subst eo105
                            go_wp2
                            refine bodyPost_ret (results_ct rfl _ _ gb126 26 #[.int .u64 x127000_4, .int .u64 x127001_4, .slice Ao104 x127002_4.length co104, .slice Ao105 x127003_4.length co105] (0, 0) _ rfl (by (with_reducible repeat (first | refine blk_drewN ?_ _ | refine blk_drew ?_ | refine blk_alloc ?_ _)); refine blk_put (cs := #[.int .u64 x127000_4, .int .u64 x127001_4, .slice Ao104 x127002_4.length co104, .slice Ao105 x127003_4.length co105]) ?_ 3 _ rfl; (with_reducible repeat (first | refine blk_drewN ?_ _ | refine blk_drew ?_ | refine blk_alloc ?_ _)); refine blk_put (cs := #[.int .u64 x127000_4, .int .u64 x127001_4, .slice Ao104 x127002_4.length co104, .slice Ao105 x127003_4.length co105]) ?_ 2 _ rfl; (with_reducible repeat (first | refine blk_drewN ?_ _ | refine blk_drew ?_ | refine blk_alloc ?_ _)); refine blk_put (cs := #[.int .u64 x127000_4, .int .u64 x127001_4, .slice Ao104 x127002_4.length co104, .slice Ao105 x127003_4.length co105]) ?_ 1 _ rfl; (with_reducible repeat (first | refine blk_drewN ?_ _ | refine blk_drew ?_ | refine blk_alloc ?_ _)); refine blk_put (cs := #[.int .u64 x127000_4, .int .u64 x127001_4, .slice Ao104 x127002_4.length co104, .slice Ao105 x127003_4.length co105]) ?_ 0 _ rfl; (with_reducible repeat (first | refine blk_drewN ?_ _ | refine blk_drew ?_ | refine blk_alloc ?_ _)); exact BK126.out) Try.underlying26 rfl (by kernel_rfl)) rfl ?_
                            exact ⟨_, _, by first | rfl | (simp [errW_none, errW_some] <;> rfl) | (simp [*, errW_none, errW_some] <;> rfl), by (with_reducible repeat (first | apply Kd.R_alloc | apply Kd.R_drewN | apply Kd.R_drew)); exact Kd.R_mono (Kd.R_far (p := ⟨gb126, 3, none⟩) (Kd.R_far (p := ⟨gb126, 2, none⟩) (Kd.R_far (p := ⟨gb126, 1, none⟩) (Kd.R_far (p := ⟨gb126, 0, none⟩) (Kd.R_types HO_127002.out BK126.out (by decide)) (fun _ hk => hk.2) (.int .u64 x127000_4)) (fun _ hk => hk.2) (.int .u64 x127001_4)) (fun _ hk => hk.2) (.slice Ao104 x127002_4.length co104)) (fun _ hk => hk.2) (.slice Ao105 x127003_4.length co105)) (fun _ hk => trivial), by (with_reducible repeat (first | apply Kd.R_alloc | apply Kd.R_drewN | apply Kd.R_drew)); exact Kd.R_mono (Kd.R_far (p := ⟨gb126, 3, none⟩) (Kd.R_far (p := ⟨gb126, 2, none⟩) (Kd.R_far (p := ⟨gb126, 1, none⟩) (Kd.R_far (p := ⟨gb126, 0, none⟩) (Kd.R_types HO_127003.out BK126.out (by decide)) (fun _ hk => hk.2) (.int .u64 x127000_4)) (fun _ hk => hk.2) (.int .u64 x127001_4)) (fun _ hk => hk.2) (.slice Ao104 x127002_4.length co104)) (fun _ hk => hk.2) (.slice Ao105 x127003_4.length co105)) (fun _ hk => trivial), by repeat (first | (with_reducible first | exact HB.out | apply below_alloc | apply pw_below_drewN | apply below_drew1 | refine below_set ?_ GE125.out | refine below_set ?_ GE126.out) | exact HB.out)⟩

end Go.Proofs.Ytelheeekbihfcab.PObjectReads
