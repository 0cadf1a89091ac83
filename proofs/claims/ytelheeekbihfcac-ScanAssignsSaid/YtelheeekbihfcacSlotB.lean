/- The program's way to give a life the nearest slot: its walk. -/
import Derived.Test.YtelheeekbihfcacSlot
import Derived.Deep.DeepCutAuto
import Derived.Deep.CutBlock
set_option linter.unusedVariables false
set_option linter.unusedSimpArgs false
namespace Go.Proofs.Ytelheeekbihfcac.Srt
open Go.RowKit Go.Proofs Go.Proofs.Ytelheeekbihfcac.PScanAssigns Go.Proofs.YtelheeekbihfcacW.PrintWords Go.Proofs.YtelheeekbihfcacW.PrintMore
attribute [local go_sem] max2_int min2_int max_two min_two

/-- The nearest slot that none of sp that meets life i has. -/
structure SlotIs (l : List S40) (rooms : List Int) (sp : List Nat) (i s : Nat) : Prop where
  one : 1 ≤ s
  top : s ≤ sp.length + 1
  free : ∀ k, k ∈ sp → meetsB (rd_T40 l k) (rd_T40 l i) = true → rd rooms k ≠ -(s : Int)
  least : ∀ t, 1 ≤ t → t < s → ∃ k, k ∈ sp ∧ meetsB (rd_T40 l k) (rd_T40 l i) = true ∧ rd rooms k = -(t : Int)

/-- What is marked when the first m of sp have been looked at. -/
structure Marked (l : List S40) (rooms : List Int) (sp : List Nat) (i m : Nat) (us : List Bool) : Prop where
  len : us.length = sp.length + 2
  mark : ∀ t, us.getD t false = true ↔ ∃ k, k ∈ sp.take m ∧ meetsB (rd_T40 l k) (rd_T40 l i) = true ∧ rd rooms k = -(t : Int)

theorem Marked.zero (l : List S40) (rooms : List Int) (sp : List Nat) (i : Nat) : Marked l rooms sp i 0 (List.replicate (sp.length + 2) false) :=
  ⟨by simp, fun t => by
    constructor
    · intro h
      rcases Nat.lt_or_ge t (sp.length + 2) with h1 | h1
      · simp [List.getD_eq_getElem?_getD, h1] at h
      · simp [List.getD_eq_getElem?_getD, h1] at h
    · rintro ⟨k, hk, _⟩; simp at hk⟩

theorem take_snoc {α : Type} (l : List α) (m : Nat) (h : m < l.length) : l.take (m + 1) = l.take m ++ [l[m]] := List.take_succ_eq_append_getElem h

theorem Marked.yes {l : List S40} {rooms : List Int} {sp : List Nat} {i m : Nat} {us : List Bool} (h : Marked l rooms sp i m us) (hm : m < sp.length) (hx : meetsB (rd_T40 l sp[m]) (rd_T40 l i) = true) (t : Nat) (ht : rd rooms sp[m] = -(t : Int)) (htl : t < sp.length + 2) : Marked l rooms sp i (m + 1) (us.set t true) := by
  refine ⟨by simp [h.len], fun u => ?_⟩
  rw [take_snoc sp m hm]
  have hl := h.len
  by_cases hu : u = t
  · subst hu
    constructor
    · intro _; exact ⟨sp[m], List.mem_append_right _ (List.mem_singleton.2 rfl), hx, ht⟩
    · intro _; simp [List.getD_eq_getElem?_getD, hl, htl]
  · have e : (us.set t true).getD u false = us.getD u false := by
      simp [List.getD_eq_getElem?_getD, List.getElem?_set, Ne.symm hu]
    rw [e, h.mark]
    constructor
    · rintro ⟨k, hk, r⟩; exact ⟨k, List.mem_append_left _ hk, r⟩
    · rintro ⟨k, hk, r1, r2⟩
      rcases List.mem_append.1 hk with hk | hk
      · exact ⟨k, hk, r1, r2⟩
      · obtain rfl := List.mem_singleton.1 hk
        rw [ht] at r2
        omega
theorem Marked.no {l : List S40} {rooms : List Int} {sp : List Nat} {i m : Nat} {us : List Bool} (h : Marked l rooms sp i m us) (hm : m < sp.length) (hx : meetsB (rd_T40 l sp[m]) (rd_T40 l i) = false) : Marked l rooms sp i (m + 1) us := by
  refine ⟨h.len, fun u => ?_⟩
  rw [h.mark, take_snoc sp m hm]
  constructor
  · rintro ⟨k, hk, r⟩; exact ⟨k, List.mem_append_left _ hk, r⟩
  · rintro ⟨k, hk, r1, r2⟩
    rcases List.mem_append.1 hk with hk | hk
    · exact ⟨k, hk, r1, r2⟩
    · obtain rfl := List.mem_singleton.1 hk
      rw [hx] at r1; cases r1

/-- Of as many marks there can't be more than lives: a place is free in time. -/
theorem Marked.top {l : List S40} {rooms : List Int} {sp : List Nat} {i : Nat} {us : List Bool} (h : Marked l rooms sp i sp.length us) {s : Nat} (hs : ∀ t, 1 ≤ t → t < s → us.getD t false = true) : s ≤ sp.length + 1 := by
  have hsub : (List.range' 1 (s - 1)) ⊆ sp.map (fun k : Nat => (-(rd rooms k)).toNat) := by
    intro t ht
    have h1 := List.mem_range'_1.1 ht
    obtain ⟨k, hk, _, hr⟩ := (h.mark t).1 (hs t h1.1 (by omega))
    rw [List.take_of_length_le (Nat.le_refl _)] at hk
    exact List.mem_map.2 ⟨k, hk, by omega⟩
  have := List.Nodup.length_le_of_subset (List.nodup_range' (step := 1)) hsub
  simp at this
  omega

theorem Marked.slot {l : List S40} {rooms : List Int} {sp : List Nat} {i : Nat} {us : List Bool} (h : Marked l rooms sp i sp.length us) {s : Nat} (h1 : 1 ≤ s) (hs : ∀ t, 1 ≤ t → t < s → us.getD t false = true) (hf : us.getD s false = false) : SlotIs l rooms sp i s := by
  have ht : sp.take sp.length = sp := List.take_of_length_le (Nat.le_refl _)
  refine ⟨h1, h.top hs, fun k hk hx hr => ?_, fun t h2 h3 => ?_⟩
  · have := (h.mark s).2 ⟨k, by rw [ht]; exact hk, hx, hr⟩
    rw [hf] at this; cases this
  · obtain ⟨k, hk, r⟩ := (h.mark t).1 (hs t h2 h3)
    rw [ht] at hk
    exact ⟨k, hk, r⟩

def boolRow (us : List Bool) : Array Value := (us.map Value.bool).toArray
def intRow (xs : List Int) : Array Value := (xs.map (Value.int .i64)).toArray
theorem intRow_nums (xs : List Int) : intRow xs = (nums .i64 xs).toArray := rfl
theorem boolRow_set (us : List Bool) (t : Nat) (b : Bool) : (boolRow us).setIfInBounds t (.bool b) = boolRow (us.set t b) := by simp [boolRow, List.map_set]
theorem intRow_set (xs : List Int) (t : Nat) (x : Int) : (intRow xs).setIfInBounds t (.int .i64 x) = intRow (xs.set t x) := by simp [intRow, List.map_set]
theorem boolRow_get (us : List Bool) (t : Nat) (h : t < us.length) : (boolRow us)[t]? = some (.bool (us.getD t false)) := by simp [boolRow, List.getD_eq_getElem?_getD, h]
theorem intRow_get (xs : List Int) (t : Nat) (h : t < xs.length) : (intRow xs)[t]? = some (.int .i64 (rd xs (t : Int))) := by simp [intRow, rd, List.getD_eq_getElem?_getD, h]
theorem boolRow_made (m : Nat) : madeCells #[Value.bool false] m = boolRow (List.replicate m false) := by
  apply Array.ext
  · simp [madeCells, boolRow]
  · intro i h1 h2; simp [madeCells, boolRow, Nat.mod_one]
theorem intRow_made (m : Nat) : madeCells #[Value.int .i64 0] m = intRow (List.replicate m 0) := by
  apply Array.ext
  · simp [madeCells, intRow]
  · intro i h1 h2; simp [madeCells, intRow, Nat.mod_one]

/-- All is as it was but for the blocks in S. -/
structure KeepS (S : Nat → Prop) (W W' : World) : Prop where
  os : W'.os = W.os
  tape : W'.tape = W.tape
  output : W'.output = W.output
  size : W.heap.size ≤ W'.heap.size
  block : ∀ k, k < W.heap.size → ¬ S k → W'.heap[k]? = W.heap[k]?
theorem KeepS.refl (S : Nat → Prop) (W : World) : KeepS S W W := ⟨rfl, rfl, rfl, Nat.le_refl _, fun _ _ _ => rfl⟩
theorem KeepS.trans {S : Nat → Prop} {A B C : World} (h : KeepS S A B) (k : KeepS S B C) : KeepS S A C :=
  ⟨k.os.trans h.os, k.tape.trans h.tape, k.output.trans h.output, Nat.le_trans h.size k.size, fun i hi hs => (k.block i (Nat.lt_of_lt_of_le hi h.size) hs).trans (h.block i hi hs)⟩
theorem KeepS.of_below {S : Nat → Prop} {W W' : World} (h : Below W.heap.size W W') : KeepS S W W' := ⟨h.os, h.tape, h.output, h.size, fun k hk _ => h.block k hk⟩
theorem KeepS.grown {S : Nat → Prop} {W W' : World} {row : Option Nat} (h : W.grownBy W' row) (hr : ∀ k, row = some k → S k) : KeepS S W W' :=
  ⟨h.os, h.tape, h.output, h.size, fun k hk hs => h.block k hk (fun e => hs (hr k e.symm))⟩
theorem KeepS.set {S : Nat → Prop} (W : World) (b j : Nat) (v : Value) (hb : S b) : KeepS S W (W.setCell ⟨b, j, none⟩ v) :=
  ⟨rfl, rfl, rfl, by simp, fun k _ hs => Below.heap_setCell W ⟨b, j, none⟩ v k (fun e => hs (by rw [e]; exact hb))⟩
theorem KeepS.mono {S S' : Nat → Prop} {W W' : World} (h : KeepS S W W') (hs : ∀ k, S k → S' k) : KeepS S' W W' := ⟨h.os, h.tape, h.output, h.size, fun k hk hn => h.block k hk (fun e => hn (hs k e))⟩
theorem KeepS.blk {S : Nat → Prop} {W W' : World} (h : KeepS S W W') {b : Nat} {o : Obj} (hb : W.heap[b]? = some o) (hs : ¬ S b) : W'.heap[b]? = some o := (h.block b (blk_lt hb) hs).trans hb
theorem KeepS.below {S : Nat → Prop} {W W' : World} {B : Nat} (h : KeepS S W W') (hB : B ≤ W.heap.size) (hs : ∀ k, S k → B ≤ k) : Below B W W' := ⟨h.os, h.tape, h.output, h.size, fun k hk => h.block k (by omega) (fun e => by have := hs k e; omega)⟩

def natRow (sp : List Nat) : List Int := sp.map fun k : Nat => (k : Int)
theorem natRow_get (sp : List Nat) (m : Nat) (h : m < sp.length) : rd (natRow sp) (m : Int) = (sp[m] : Int) := by simp [rd, natRow, List.getD_eq_getElem?_getD, h]

set_option maxRecDepth 100000 in
set_option maxHeartbeats 4000000 in
theorem slot_any (l : List S40) (A : Option Addr) (c0 bp bl br bs Rr : Nat) (v : Value) (sp : List Nat) (rooms : List Int) (slots : Int) (i : Nat) (W : World) (base : Nat)
    (hl : W.heap[bl]? = some (.cells #[.slice A l.length c0] 22 (0, 0))) (hr : Kd.C k40 W A l.length l)
    (hp : W.heap[bp]? = some (.cells #[v] 24 (0, 0))) (hv : W.ownsRow base 3 1 v sp.length (nums .i64 (natRow sp)))
    (hb : W.heap[br]? = some (.cells #[.slice (some ⟨Rr, 0, none⟩) l.length l.length] 24 (0, 0))) (hrr : W.heap[Rr]? = some (.cells (intRow rooms) 3 (0, 0))) (hrl : rooms.length = l.length)
    (hs : W.heap[bs]? = some (.cells #[.int .i64 slots] 3 (0, 0))) (hpb : bp ≠ br) (hsr : bs ≠ Rr) (hvr : some Rr ≠ v.ownBlock) (hvs : some bs ≠ v.ownBlock) (hvp : some bp ≠ v.ownBlock) (hbase : base ≤ W.heap.size)
    (hi : i < l.length) (hlen : l.length ≤ 10000) (hsl : sp.length ≤ 10000) (hsp : ∀ k, k ∈ sp → k < l.length ∧ ∃ m : Nat, 1 ≤ m ∧ m ≤ sp.length + 1 ∧ rd rooms k = -(m : Int)) :
    Calls Try.prog 17 #[.int .i64 i, .pointer (some ⟨bp, 0, none⟩), .pointer (some ⟨bl, 0, none⟩), .pointer (some ⟨br, 0, none⟩), .pointer (some ⟨bs, 0, none⟩)] W fun e W' => e = .returned (.tuple #[]) ∧ ∃ s v', SlotIs l rooms sp i s ∧
      W'.heap[bp]? = some (.cells #[v'] 24 (0, 0)) ∧ W'.ownsRow base 3 1 v' (sp ++ [i]).length (nums .i64 (natRow (sp ++ [i]))) ∧ W'.heap[Rr]? = some (.cells (intRow (rooms.set i (-(s : Int)))) 3 (0, 0)) ∧ W'.heap[bs]? = some (.cells #[.int .i64 (mx slots s)] 3 (0, 0)) ∧
      (v'.ownBlock = v.ownBlock ∨ ∃ b, v'.ownBlock = some b ∧ W.heap.size ≤ b) ∧ KeepS (fun k => k = bp ∨ k = Rr ∨ k = bs ∨ some k = v.ownBlock) W W' := by
  have hmk : ∀ W0 : World, (Instr.makeSlice 41 (.int .i64 ((sp.length + 2 : Nat) : Int)) (.int .i64 ((sp.length + 2 : Nat) : Int))).run Try.prog W0 = .ok (.slice (some ⟨W0.heap.size, 0, none⟩) (sp.length + 2) (sp.length + 2)) (W0.alloc (.cells (madeCells #[.bool false] (sp.length + 2)) 4)) :=
    fun W0 => run_make_row' 41 4 (.bool false) 1 Try.underlying41 (by kernel_rfl) rfl .i64 .i64 (sp.length + 2) (by omega) (by omega) W0
  rw [show ((sp.length + 2 : Nat) : Int) = (sp.length : Int) + 2 by omega] at hmk
  obtain ⟨Av, cv, hve, hrd⟩ := own_reads hv
  subst hve
  have HRD := Lib.hid hrd
  have Hl := Lib.hid hl
  have Hr := Lib.hid hr
  have Hp := Lib.hid hp
  have Hv := Lib.hid hv
  have Hb := Lib.hid hb
  have Hrr := Lib.hid hrr
  have Hrl := Lib.hid hrl
  have Hs := Lib.hid hs
  have Hsp := Lib.hid hsp
  have Hvr := Lib.hid hvr
  have Hvs := Lib.hid hvs
  have Hvp := Lib.hid hvp
  have cp : W.cell? ⟨bp, 0, none⟩ = some (.slice Av sp.length cv) := by rw [blk_cell hp 0]; rfl
  have cp1 : ∀ o, (W.alloc o).cell? ⟨bp, 0, none⟩ = some (.slice Av sp.length cv) := fun o => pw_cell_below (below_alloc (Below.refl _ _) o) cp
  clear hrd hl hr hp hv hb hrr hrl hs hsp hvr hvs hvp
  go_enter Try.func17, Try.ntmps17
  go_wp2
  go_loopw [16] (fun vm wr => ∃ (m : Nat) (us : List Bool), vm = .int .i64 m ∧ m ≤ sp.length ∧ Hid (Marked l rooms sp i m us) ∧ Hid (wr.heap[W.heap.size]? = some (.cells (boolRow us) 4 (0, 0))) ∧ Hid (Below W.heap.size W wr)) (fun vm _ => sp.length - (intOf vm).toNat)
  case atStart => exact ⟨0, _, by go_num, Nat.zero_le _, Lib.hid (Marked.zero l rooms sp i), Lib.hid (by rw [← boolRow_made]; exact blk_new _ _), Lib.hid (below_alloc (Below.refl _ _) _)⟩
  case round =>
    obtain ⟨m, us, rfl, hm, M, U, B⟩ := hrel
    by_cases hlt : m < sp.length
    · obtain ⟨ad, hAv, hx0⟩ := HRD.out.at_ (m : Int) (by omega) (by omega)
      subst hAv
      rw [natRow_get sp m hlt, Int.toNat_natCast] at hx0
      obtain ⟨hkn, mm, hm1, hm2, hroom⟩ := Hsp.out sp[m] (List.getElem_mem hlt)
      obtain ⟨k, hk⟩ : ∃ k, sp[m] = k := ⟨_, rfl⟩
      rw [hk] at hx0 hkn hroom
      have HK := Lib.hid hk
      clear hk
      have cl : wr.cell? ⟨bl, 0, none⟩ = some (.slice A l.length c0) := blk_cell (blk_below Hl.out B.out) 0
      have crb : wr.cell? ⟨br, 0, none⟩ = some (.slice (some ⟨Rr, 0, none⟩) l.length l.length) := blk_cell (blk_below Hb.out B.out) 0
      have crr : wr.cell? ⟨Rr, k, none⟩ = some (.int .i64 (-(mm : Int))) := by rw [blk_cell (blk_below Hrr.out B.out) k, intRow_get _ _ (by rw [Hrl.out]; exact hkn), hroom]
      replace hx0 := (B.out.cell (World.block_lt_of_cell? W _ hx0)).trans hx0
      obtain ⟨ak, e1, hk1, hk2⟩ := at_T40 (Kd.C_below Hr.out B.out) (k : Int) (by omega) (by omega)
      subst e1
      obtain ⟨ai, e2, hi1, hi2⟩ := at_T40 (Kd.C_below Hr.out B.out) (i : Int) (by omega) (by omega)
      cases e2
      rw [Int.toNat_natCast] at hk1 hk2 hi1 hi2
      have g1 : (0 : Int) ≤ m := by omega
      have g2 : (m : Int) < sp.length := by omega
      have g3 : (0 : Int) ≤ k := by omega
      have g4 : (k : Int) < l.length := by omega
      have g5 : (0 : Int) ≤ i := by omega
      have g6 : (i : Int) < l.length := by omega
      go_upto_region 4 with fail
      go_cut [28] (fun s wx => s = .bool (meetsB (rd_T40 l k) (rd_T40 l i)) ∧ Hid (Below wr.heap.size wr wx))
      case first =>
        go_still_tail 8, (by kernel_rfl)
        change wpList _ _ _ _ _ wr.drew
        generalize hw2 : wr.drew = w2
        go_wp2_with (go_at_call 18; refine (meets_any (rd_T40 l k) (rd_T40 l i) _).mono ?_; rintro e w3 ⟨rfl, hb3⟩)
        go_meet
        exact ⟨rfl, Lib.hid (by rw [← hw2] at hb3; exact below_then (Below.refl _ _).drew (Nat.le_refl _) hb3)⟩
      case rest =>
        obtain ⟨rfl, B2⟩ := hcut
        have crb2 := pw_cell_below B2.out crb
        have crr2 := pw_cell_below B2.out crr
        have U2 := Lib.hid (blk_below U.out B2.out)
        have B3 := Lib.hid (below_step B.out B2.out)
        have hul := Lib.hid M.out.len
        clear crb crr cl hk1 hk2 hi1 hi2 hx0 B2 B U
        cases hx : meetsB (rd_T40 l k) (rd_T40 l i) with
        | true =>
          have HX := Lib.hid hx
          clear hx
          obtain ⟨v0, hv0⟩ : ∃ v0, wc.cell? ⟨W.heap.size, mm, none⟩ = some v0 := by
            rw [blk_cell U2.out mm, boolRow_get _ _ (by rw [hul.out]; omega)]; exact ⟨_, rfl⟩
          have hf0 : wc.frozen? ⟨W.heap.size, mm, none⟩ = false := blk_frozen U2.out mm
          have q1 : (0 : Int) ≤ mm := by omega
          have q2 : (mm : Int) < sp.length + 2 := by omega
          have U3 := Lib.hid (show (wc.setCell ⟨W.heap.size, mm, none⟩ (.bool true)).heap[W.heap.size]? = some (.cells (boolRow (us.set mm true)) 4 (0, 0)) by rw [← boolRow_set]; exact blk_set U2.out mm _)
          have B4 := Lib.hid (below_set (j := mm) (v := .bool true) B3.out (Nat.le_refl _))
          have M3 := Lib.hid (M.out.yes hlt (by rw [HK.out]; exact HX.out) mm (by rw [HK.out]; exact hroom) (by omega))
          clear U2 B3 M hroom
          go_wp2
          go_roundw
          case rel => exact ⟨m + 1, us.set mm true, by go_num, by omega, M3, U3, B4⟩
          case measure => simp [intOf]; omega
        | false =>
          have HX := Lib.hid hx
          clear hx
          have M3 := Lib.hid (M.out.no hlt (by rw [HK.out]; exact HX.out))
          go_wp2
          go_roundw
          case rel => exact ⟨m + 1, us, by go_num, by omega, M3, U2, B3⟩
          case measure => simp [intOf]; omega
    · obtain rfl : m = sp.length := by omega
      obtain ⟨wo, rfl⟩ : ∃ wo : World, wo = wr := ⟨_, rfl⟩
      have hul := Lib.hid M.out.len
      go_wp2
      go_loop [9] (fun vs => ∃ s : Nat, vs = .int .i64 s ∧ 1 ≤ s ∧ Hid (∀ t, 1 ≤ t → t < s → us.getD t false = true)) (fun vs => sp.length + 2 - (intOf vs).toNat)
      case atStart => exact ⟨1, by go_num, Nat.le_refl _, Lib.hid (fun t h1 h2 => by omega)⟩
      case round =>
        obtain ⟨s, rfl, hs1, HT⟩ := hrel
        have htop := M.out.top HT.out
        have c1 : wo.cell? ⟨W.heap.size, s, none⟩ = some (.bool (us.getD s false)) := by rw [blk_cell U.out s, boolRow_get _ _ (by rw [hul.out]; omega)]
        have q1 : (0 : Int) ≤ s := by omega
        have q2 : (s : Int) < sp.length + 2 := by omega
        cases hx : us.getD s false with
        | true =>
          rw [hx] at c1
          have HX := Lib.hid hx
          clear hx
          go_wp2
          go_round
          case rel => exact ⟨s + 1, by go_num, by omega, Lib.hid (fun t h1 h2 => by
            by_cases h : t = s
            · subst h; exact HX.out
            · exact HT.out t h1 (by omega))⟩
          case measure => simp [intOf]; omega
        | false =>
          rw [hx] at c1
          have SL := Lib.hid (M.out.slot hs1 HT.out hx)
          clear hx
          have crb := blk_cell (blk_below Hb.out B.out) 0
          have crp := blk_cell (blk_below Hp.out B.out) 0
          have crs := blk_cell (blk_below Hs.out B.out) 0
          simp only [List.getElem?_toArray, List.getElem?_cons_zero] at crb crp crs
          obtain ⟨v0, hv0⟩ : ∃ v0, wo.cell? ⟨Rr, i, none⟩ = some v0 := by
            rw [blk_cell (blk_below Hrr.out B.out) i, intRow_get _ _ (by rw [Hrl.out]; exact hi)]; exact ⟨_, rfl⟩
          have hf0 : wo.frozen? ⟨Rr, i, none⟩ = false := blk_frozen (blk_below Hrr.out B.out) i
          have g5 : (0 : Int) ≤ i := by omega
          have g6 : (i : Int) < l.length := by omega
          go_upto_region 10 with fail
          go_cut [] (fun wx => Hid (wo.setCell ⟨Rr, i, none⟩ (.int .i64 (-(s : Int))) = wx))
          case first =>
            go_wp2
            go_meet
            exact Lib.hid rfl
          case rest =>
            have K0 : KeepS (fun k => k = bp ∨ k = Rr ∨ k = bs ∨ some k = (Value.slice Av sp.length cv).ownBlock) W wo := KeepS.of_below B.out
            have K1 : KeepS (fun k => k = bp ∨ k = Rr ∨ k = bs ∨ some k = (Value.slice Av sp.length cv).ownBlock) W wc := K0.trans (by rw [← hcut.out]; exact KeepS.set _ _ _ _ (by simp))
            have r1 : wc.heap[Rr]? = some (.cells (intRow (rooms.set i (-(s : Int)))) 3 (0, 0)) := by rw [← hcut.out, ← intRow_set]; exact blk_set (blk_below Hrr.out B.out) i _
            have s1 : wc.heap[bs]? = some (.cells #[.int .i64 slots] 3 (0, 0)) := by rw [← hcut.out]; exact blk_far (blk_below Hs.out B.out) hsr _
            have p1 : wc.heap[bp]? = some (.cells #[.slice Av sp.length cv] 24 (0, 0)) := by rw [← hcut.out]; exact blk_far (blk_below Hp.out B.out) (blk_ne Hp.out Hrr.out (by decide)) _
            have v1 : wc.ownsRow base 3 1 (.slice Av sp.length cv) sp.length (nums .i64 (natRow sp)) := by
              rw [← hcut.out]
              exact own_move (pw_own_below Hv.out B.out) (fun k hk => Below.heap_setCell wo ⟨Rr, i, none⟩ _ k (fun e => Hvr.out (by rw [hk]; exact congrArg some e.symm)))
            have R1 := Lib.hid r1
            have S1 := Lib.hid s1
            have P1 := Lib.hid p1
            have V1 := Lib.hid v1
            have KK1 := Lib.hid K1
            have cs1 : wc.cell? ⟨bs, 0, none⟩ = some (.int .i64 slots) := blk_cell s1 0
            have fs1 : wc.frozen? ⟨bs, 0, none⟩ = false := blk_frozen s1 0
            clear K0 K1 r1 s1 p1 v1 hcut crb crp crs hv0 hf0
            obtain ⟨w1, rfl⟩ : ∃ w1 : World, w1 = wc := ⟨_, rfl⟩
            go_upto_region 11 with fail
            go_cut [] (fun wx => Hid (w1.setCell ⟨bs, 0, none⟩ (.int .i64 (mx slots s)) = wx))
            case first =>
              by_cases hss : slots < (s : Int)
              · go_wp2
                go_meet
                exact Lib.hid (by unfold mx; rw [if_pos (by omega)])
              · go_wp2
                go_meet
                exact Lib.hid (by unfold mx; rw [if_neg (by omega)])
            case rest =>
              have K2 := Lib.hid (KK1.out.trans (show KeepS (fun k => k = bp ∨ k = Rr ∨ k = bs ∨ some k = (Value.slice Av sp.length cv).ownBlock) w1 wc by rw [← hcut.out]; exact KeepS.set _ _ _ _ (by simp)))
              have R2 := Lib.hid (show wc.heap[Rr]? = some (.cells (intRow (rooms.set i (-(s : Int)))) 3 (0, 0)) by rw [← hcut.out]; exact blk_far R1.out (Ne.symm hsr) _)
              have S2 := Lib.hid (show wc.heap[bs]? = some (.cells #[.int .i64 (mx slots s)] 3 (0, 0)) by rw [← hcut.out]; exact blk_set S1.out 0 _)
              have P2 := Lib.hid (show wc.heap[bp]? = some (.cells #[.slice Av sp.length cv] 24 (0, 0)) by rw [← hcut.out]; exact blk_far P1.out (blk_ne P1.out S1.out (by decide)) _)
              have V2 := Lib.hid (show wc.ownsRow base 3 1 (.slice Av sp.length cv) sp.length (nums .i64 (natRow sp)) by
                rw [← hcut.out]
                exact own_move V1.out (fun k hk => Below.heap_setCell w1 ⟨bs, 0, none⟩ _ k (fun e => Hvs.out (by rw [hk]; exact congrArg some e.symm))))
              clear hcut R1 S1 P1 V1 KK1 cs1 fs1
              have cp2 : wc.cell? ⟨bp, 0, none⟩ = some (.slice Av sp.length cv) := by rw [blk_cell P2.out 0]; rfl
              have hwb := Lib.hid (show base ≤ wc.heap.size from Nat.le_trans hbase K2.out.size)
              go_wp2_with (at_builtin; refine print_append_num (w0 := wc) base rfl (.tmp 51) (.tmp 53) 24 3 .i64 8 rfl Try.underlying24 (by kernel_rfl) (by omega) (.slice Av sp.length cv) (natRow sp) i rfl rfl ?aO ?aB ?aS ?aL ?_; (case aO => have := V2.out; rwa [show (natRow sp).length = sp.length by simp [natRow]]); (case aB => exact Below.refl _ _); (case aS => exact hwb.out); (case aL => simp [natRow]; omega); intro v1 w2 ho1 hb1 hg1 hat1; obtain ⟨A1, c1', rfl⟩ := own_slice ho1; have hbp2 := blk_grown P2.out hg1 Hvp.out; have cbp2 := blk_cell hbp2 0; have fbp2 := blk_frozen hbp2 0; have HO1 := Lib.hid ho1; have HG1 := Lib.hid hg1; have HA1 := Lib.hid hat1; have HP2 := Lib.hid hbp2; clear ho1 hb1 hg1 hat1 hbp2)
              go_end0
              have hN : natRow (sp ++ [i]) = natRow sp ++ [(i : Int)] := by simp [natRow]
              have hL : (natRow sp).length = sp.length := by simp [natRow]
              have O1 := HO1.out
              rw [← hN, show (natRow (sp ++ [i])).length = sp.length + 1 by simp [natRow]] at O1
              rw [hL]
              have hbpA : ∀ k, (Value.slice A1 (sp.length + 1) c1').ownBlock = some k → k ≠ bp := by
                intro k hk e
                subst e
                obtain ⟨cells, hc⟩ := own_typed O1 k hk
                rw [HP2.out] at hc
                injection hc with hc
                injection hc with _ hc
                cases hc
              refine ⟨rfl, s, SL.out, _, ?_, own_move O1 (fun k hk => Below.heap_setCell w2 ⟨bp, 0, none⟩ _ k (hbpA k hk)), ?_, ?_, ?_, ?_⟩
              · exact blk_set HP2.out 0 _
              · exact blk_far (blk_grown R2.out HG1.out Hvr.out) (blk_ne R2.out P2.out (by decide)) _
              · exact blk_far (blk_grown S2.out HG1.out Hvs.out) (blk_ne S2.out P2.out (by decide)) _
              · rcases HA1.out with h | ⟨b, h, hb⟩
                · left; rw [← h]; simp [natRow]
                · right; exact ⟨b, by rw [← h]; simp [natRow], Nat.le_trans K2.out.size hb⟩
              · exact (K2.out.trans (KeepS.grown HG1.out (fun k hk => by right; right; right; exact hk.symm))).trans (KeepS.set _ _ _ _ (by simp))
end Go.Proofs.Ytelheeekbihfcac.Srt
