/- CountE, 1 declarations cut -/
import Derived.Test.YtjboncbmeanlgaaDoorQDeepP
/- The document's count of a tree's parts: expressions, patterns. -/
set_option linter.unusedVariables false
set_option linter.unusedSimpArgs false
namespace Go.Proofs.YtjboncbmeanlgaaDoor.Tr
open Go.RowKit Go.Proofs Go.Proofs.YtjboncbmeanlgaaDoor.PTreePrints Go.Proofs.YtjboncbmeanlgaaDoorW.PrintWords Go.Proofs.YtjboncbmeanlgaaDoorW.PrintMore Go.Proofs.YtjboncbmeanlgaaDoorW.PrintLast
mutual
theorem fixE {st : Int → Int → Int} {c : Int} (h : ∀ lv, st c lv = c) : ∀ (x : S31) (lv : Nat), walkE st x lv c = c
  | ⟨_, _, _, _, args⟩, lv => by rw [walkE]; split; (rw [h, fixEL h args]); rfl
theorem fixEL {st : Int → Int → Int} {c : Int} (h : ∀ lv, st c lv = c) : ∀ (l : List S31) (lv : Nat), walkEL st l lv c = c
  | [], lv => by rw [walkEL]
  | x :: r, lv => by rw [walkEL, fixE h x, fixEL h r]
end
mutual
theorem fixP {st : Int → Int → Int} {c : Int} (h : ∀ lv, st c lv = c) : ∀ (x : S83) (lv : Nat), walkP st x lv c = c
  | ⟨_, _, _, _, args⟩, lv => by rw [walkP]; split; (rw [h, fixPL h args]); rfl
theorem fixPL {st : Int → Int → Int} {c : Int} (h : ∀ lv, st c lv = c) : ∀ (l : List S83) (lv : Nat), walkPL st l lv c = c
  | [], lv => by rw [walkPL]
  | x :: r, lv => by rw [walkPL, fixP h x, fixPL h r]
end
theorem fixSL {st : Int → Int → Int} {c : Int} (h : ∀ lv, st c lv = c) : ∀ (l : List S37) (lv : Nat), walkSL st l lv c = c
  | [], lv => by rw [walkSL]
  | x :: r, lv => by rw [walkSL, h, fixEL h, fixSL h r]
mutual
theorem fixB {st : Int → Int → Int} {c : Int} (h : ∀ lv, st c lv = c) : ∀ (x : S42) (lv : Nat), walkB st x lv c = c
  | ⟨f0, _, _, _, f4, f5, f6, _, _⟩, lv => by rw [walkB]; split; (rw [h, fixEL h, fixSL h, fixBL h f5, fixAL h f6]); rfl
theorem fixBL {st : Int → Int → Int} {c : Int} (h : ∀ lv, st c lv = c) : ∀ (l : List S42) (lv : Nat), walkBL st l lv c = c
  | [], lv => by rw [walkBL]
  | x :: r, lv => by rw [walkBL, fixB h x, fixBL h r]
theorem fixAL {st : Int → Int → Int} {c : Int} (h : ∀ lv, st c lv = c) : ∀ (l : List (S83 × List S31 × S42)) (lv : Nat), walkAL st l lv c = c
  | [], lv => by rw [walkAL]
  | x :: r, lv => by rw [walkAL, fixA h x, fixAL h r]
theorem fixA {st : Int → Int → Int} {c : Int} (h : ∀ lv, st c lv = c) : ∀ (x : S83 × List S31 × S42) (lv : Nat), walkA st x lv c = c
  | (p, q), lv => by rw [walkA, fixPL h, fixG h q]
theorem fixG {st : Int → Int → Int} {c : Int} (h : ∀ lv, st c lv = c) : ∀ (x : List S31 × S42) (lv : Nat), walkG st x lv c = c
  | (g, b), lv => by rw [walkG, fixEL h, fixB h b]
end
theorem stS_full (lv : Int) : stS 4097 lv = 4097 := by unfold stS wrap64; split <;> omega
/-- The count's box. -/
def NC (g : Nat) (W : World) (m : Int) : Prop := W.heap[g]? = some (.cells #[.int .i64 m] 77 (0, 0))
theorem NC.below {g : Nat} {W W' : World} {m : Int} (h : NC g W m) (hb : Below W.heap.size W W') : NC g W' m := blk_below h hb
theorem NC.set {g : Nat} {W : World} {m : Int} (h : NC g W m) (v : Int) : NC g (W.setCell ⟨g, 0, none⟩ (.int .i64 v)) v := by
  have := blk_set h 0 (.int .i64 v)
  unfold NC
  simpa only [List.setIfInBounds_toArray, List.set_cons_zero] using this
theorem NC.cast {g : Nat} {W : World} {m m' : Int} (e : m = m') (h : NC g W m) : NC g W m' := e ▸ h
/-- The state of the count. -/
structure SC (w0 : World) (g : Nat) (W0 W : World) (m : Int) : Prop where
  n : NC g W m
  k : KX g W0 W
  b : Below w0.heap.size w0 W
  lo : 0 ≤ m
  hi : m ≤ 4097
/-- The told count. -/
def ToldC (g : Nat) (m : Int) (W : World) (e : Ending) (W' : World) : Prop := (∃ d : Int, e = .returned (.int .i64 d)) ∧ NC g W' m ∧ KX g W W' ∧ 0 ≤ m ∧ m ≤ 4097
theorem SC.below {w0 : World} {g : Nat} {W0 W W' : World} {m : Int} (h : SC w0 g W0 W m) (hb : Below W.heap.size W W') : SC w0 g W0 W' m := ⟨h.n.below hb, h.k.trans (KX.of_below hb), below_step h.b hb, h.lo, h.hi⟩
theorem SC.told {w0 : World} {g : Nat} {W0 W W' : World} {m m' : Int} (h : SC w0 g W0 W m) (hg : w0.heap.size ≤ g) (hn : NC g W' m') (hk : KX g W W') (h0 : 0 ≤ m') (h1 : m' ≤ 4097) : SC w0 g W0 W' m' := ⟨hn, h.k.trans hk, h.b.trans (hk.below hg h.b.size), h0, h1⟩
theorem SC.cast {w0 : World} {g : Nat} {W0 W : World} {m m' : Int} (e : m = m') (h : SC w0 g W0 W m) : SC w0 g W0 W m' := e ▸ h
theorem SC.tell {w0 : World} {g : Nat} {W0 W : World} {m m' : Int} (h : SC w0 g W0 W m) (e : m = m') (d : Int) : ToldC g m' W0 (.returned (.int .i64 d)) W := by subst e; exact ⟨⟨d, rfl⟩, h.n, h.k, h.lo, h.hi⟩
theorem stS_rng {m : Int} (h0 : 0 ≤ m) (h1 : m ≤ 4097) : 0 ≤ stS m 0 ∧ stS m 0 ≤ 4097 := by unfold stS wrap64; split <;> omega
set_option maxRecDepth 100000 in
/-- One more. -/
theorem add_call (g : Nat) (W : World) (m : Int) (h : NC g W m) (h0 : 0 ≤ m) (h1 : m ≤ 4097) : Calls Tryd.prog 64 #[.pointer (some ⟨g, 0, none⟩)] W fun e W' => e = .returned (.bool (decide (stS m 0 ≤ 4096))) ∧ NC g W' (stS m 0) ∧ KX g W W' := by
  have kc := blk_cell h 0
  have kf := blk_frozen h 0
  have H := Lib.hid h
  clear h
  go_enter Tryd.func64, Tryd.ntmps64
  by_cases hm : m ≤ 4096
  · go_wp2
    go_ret
    have e : m + 1 = stS m 0 := by unfold stS wrap64; split <;> omega
    rw [e]
    exact ⟨rfl, NC.set H.out _, KX.set _ _ _⟩
  · go_wp2
    go_ret
    have e : m = stS m 0 := by unfold stS wrap64; split <;> omega
    refine ⟨?_, NC.cast e H.out, KX.refl _ _⟩
    rw [← e, decide_eq_false (show ¬ m ≤ 4096 by omega)]
    rfl
/-- What is to be shown of an expression. -/
def CE (w0 : World) (g : Nat) (x : S31) : Prop := ∀ (A : Option Addr) (c lv k : Nat) (m : Int) (W : World), lv + k = 66 → SC w0 g W W m → Kd.C k31 w0 A x.f4.length x.f4 → x.f4.length ≤ c →
  Calls Tryd.prog 78 #[.pointer (some ⟨g, 0, none⟩), .agg #[.int .i64 x.f0, .int .i64 x.f1, .int .i64 x.f2, .string x.f3, .slice A x.f4.length c], .int .i64 (k : Int)] W (ToldC g (walkE stS x lv m) W)
set_option maxRecDepth 100000 in
set_option maxHeartbeats 16000000 in
theorem CE_ok (w0 : World) (g : Nat) (hg : w0.heap.size ≤ g) (x : S31) (hI : ∀ y, y ∈ x.f4 → CE w0 g y) : CE w0 g x := by
  obtain ⟨xk, xa, xn, xs, l⟩ := x
  intro A c lv k m W hlk hS hC hc
  simp only at hI hC hc ⊢
  have hlen := C_len hC
  have HI := Lib.hid hI
  have HC := Lib.hid hC
  have SP0 := Lib.hid hS
  clear hI hC hS
  go_enter Tryd.func78, Tryd.ntmps78
  have hal := below_alloc (Below.refl _ W) (.cells #[.int .i64 xk, .int .i64 xa, .int .i64 xn, .string xs, .slice A l.length c] 31)
  have XP := Lib.hid (blk_new W (.cells #[.int .i64 xk, .int .i64 xa, .int .i64 xn, .string xs, .slice A l.length c] 31))
  have SP := Lib.hid (SP0.out.below hal)
  clear hal SP0
  go_upto_region 1 with fail
  generalize W.alloc (.cells #[.int .i64 xk, .int .i64 xa, .int .i64 xn, .string xs, .slice A l.length c] 31) = wp at *
  generalize W.heap.size = gx at *
  cases k with
  | zero =>
    go_wp2
    go_ret
    exact SP.out.tell (by rw [walkE, if_neg (by omega)]) _
  | succ k =>
    have hk0 : ¬ (((k + 1 : Nat) : Int) = 0) := by omega
    have hkw : wrap64 (((k + 1 : Nat) : Int) - 1) = (k : Int) := by unfold wrap64; omega
    have hw : walkE stS ⟨xk, xa, xn, xs, l⟩ lv m = walkEL stS l (lv + 1) (stS m 0) := by rw [walkE, if_pos (by omega)]; rfl
    have HW := Lib.hid hw
    have hkk : lv + 1 + k = 66 := by omega
    generalize hq : ((k + 1 : Nat) : Int) = kq at *
    have HQ := Lib.hid hq
    clear hw hq
    go_upto_region 3 with (go_at_call 64; refine (add_call g _ m SP.out.n SP.out.lo SP.out.hi).mono ?_; rintro e w5 ⟨rfl, hn5, hk5⟩; have S5 := Lib.hid (SP.out.told hg hn5 hk5 (stS_rng SP.out.lo SP.out.hi).1 (stS_rng SP.out.lo SP.out.hi).2); have X5 := Lib.hid (hk5.blk XP.out (ne_blk XP.out SP.out.n (by decide))); clear hn5 hk5; cases hb : decide (stS m 0 ≤ 4096))
    · have e : stS m 0 = 4097 := by have h1 := S5.out.hi; have h2 := of_decide_eq_false hb; omega
      go_ret
      exact S5.out.tell (by rw [HW.out, e, fixEL stS_full]) _
    · clear SP XP
      generalize stS m 0 = mb at *
      have y4 := blk_cell X5.out 4
      go_wp2
      go_loopw [8, 7] (fun v8 v7 wr => ∃ (i : Nat) (d : Int), v8 = .int .i64 i ∧ v7 = .int .i64 d ∧ i ≤ l.length ∧ Hid (SC w0 g W wr (walkEL stS (l.take i) (lv + 1) mb)) ∧ Hid (wr.heap[gx]? = some (.cells #[.int .i64 xk, .int .i64 xa, .int .i64 xn, .string xs, .slice A l.length c] 31 (0, 0)))) (fun v8 _ _ => l.length - (intOf v8).toNat)
      case atStart => exact ⟨0, 0, by go_num, rfl, Nat.zero_le _, Lib.hid S5.out, Lib.hid X5.out⟩
      case round =>
        obtain ⟨i, d, rfl, rfl, hil, HS, HX⟩ := hrel
        clear y4
        have y4 := blk_cell HX.out 4
        obtain ⟨wq, hwq⟩ : ∃ wq, wq = wr := ⟨_, rfl⟩
        subst hwq
        by_cases hlt : i < l.length
        · have q1 : (i : Int) < (l.length : Int) := by omega
          have q0 : (0 : Int) ≤ (i : Int) := by omega
          obtain ⟨ad, A5, c5, hA, u0, u1, u2, u3, u4, hc5, hC5⟩ := at_T31 HC.out (i : Int) q0 q1
          subst hA
          rw [rd31 l i hlt, Int.toNat_natCast] at u0 u1 u2 u3 u4
          rw [rd31 l i hlt] at hc5 hC5
          replace u0 := (HS.out.b.cell (World.block_lt_of_cell? w0 _ u0)).trans u0
          replace u1 := (HS.out.b.cell (World.block_lt_of_cell? w0 _ u1)).trans u1
          replace u2 := (HS.out.b.cell (World.block_lt_of_cell? w0 _ u2)).trans u2
          replace u3 := (HS.out.b.cell (World.block_lt_of_cell? w0 _ u3)).trans u3
          replace u4 := (HS.out.b.cell (World.block_lt_of_cell? w0 _ u4)).trans u4
          have HE := Lib.hid (HI.out l[i] (List.getElem_mem hlt))
          have HT := Lib.hid (show walkE stS l[i] (lv + 1) (walkEL stS (l.take i) (lv + 1) mb) = walkEL stS (l.take (i + 1)) (lv + 1) mb by rw [List.take_succ_eq_append_getElem hlt, walkEL_snoc])
          have HC5 := Lib.hid hC5
          clear hC5
          generalize l[i] = x at *
          generalize walkEL stS (l.take i) (lv + 1) mb = mi at *
          have SR := Lib.hid (show SC w0 g wq wq mi from ⟨HS.out.n, KX.refl _ _, HS.out.b, HS.out.lo, HS.out.hi⟩)
          go_wp2_with (go_at_call 78; refine (HE.out A5 c5 (lv + 1) k mi _ hkk SR.out HC5.out hc5).mono ?_; rintro e w6 ⟨⟨d6, rfl⟩, hn6, hk6, l6, h6⟩; have S6 := Lib.hid (HS.out.told hg hn6 hk6 l6 h6); have X6 := Lib.hid (hk6.blk HX.out (ne_blk HX.out HS.out.n (by decide))); clear hn6 hk6 l6 h6)
          all_goals (go_roundw; (case rel => first | exact ⟨i + 1, by go_num, hlt, Lib.hid (SC.cast HT.out S6.out)⟩ | exact ⟨i + 1, _, by go_num, rfl, hlt, Lib.hid (SC.cast HT.out S6.out), X6⟩ | exact ⟨i + 1, by go_num, ⟨_, rfl⟩, hlt, Lib.hid (SC.cast HT.out S6.out), X6⟩); case measure => simp [intOf]; omega)
        · obtain rfl : i = l.length := by omega
          have hg_ := HS.out
          rw [List.take_length] at hg_
          have HG_ := Lib.hid hg_
          clear hg_
          go_wp2
          go_ret
          exact HG_.out.tell HW.out.symm _
theorem CE_any (w0 : World) (g : Nat) (hg : w0.heap.size ≤ g) : ∀ (n : Nat) (x : S31), SizeOf.sizeOf x ≤ n → CE w0 g x := by
  intro n
  induction n with
  | zero =>
    intro e he
    cases e
    simp at he
  | succ n ih =>
    intro e he
    refine CE_ok w0 g hg e (fun x hx => ih x ?_)
    have h1 := List.sizeOf_lt_of_mem hx
    cases e
    simp at he
    simp only at h1
    omega
theorem CE_call (w0 : World) (g : Nat) (hg : w0.heap.size ≤ g) (x : S31) : CE w0 g x := CE_any w0 g hg _ x (Nat.le_refl _)
/-- What is to be shown of a pattern. -/
def CP (w0 : World) (g : Nat) (x : S83) : Prop := ∀ (A : Option Addr) (c lv k : Nat) (m : Int) (W : World), lv + k = 66 → SC w0 g W W m → Kd.C k83 w0 A x.f4.length x.f4 → x.f4.length ≤ c →
  Calls Tryd.prog 77 #[.pointer (some ⟨g, 0, none⟩), .agg #[.int .i64 x.f0, .int .i64 x.f1, .int .i64 x.f2, .string x.f3, .slice A x.f4.length c], .int .i64 (k : Int)] W (ToldC g (walkP stS x lv m) W)
set_option maxRecDepth 100000 in
set_option maxHeartbeats 16000000 in
theorem CP_ok (w0 : World) (g : Nat) (hg : w0.heap.size ≤ g) (x : S83) (hI : ∀ y, y ∈ x.f4 → CP w0 g y) : CP w0 g x := by
  obtain ⟨xk, xa, xn, xs, l⟩ := x
  intro A c lv k m W hlk hS hC hc
  simp only at hI hC hc ⊢
  have hlen := C_len hC
  have HI := Lib.hid hI
  have HC := Lib.hid hC
  have SP0 := Lib.hid hS
  clear hI hC hS
  go_enter Tryd.func77, Tryd.ntmps77
  have hal := below_alloc (Below.refl _ W) (.cells #[.int .i64 xk, .int .i64 xa, .int .i64 xn, .string xs, .slice A l.length c] 83)
  have XP := Lib.hid (blk_new W (.cells #[.int .i64 xk, .int .i64 xa, .int .i64 xn, .string xs, .slice A l.length c] 83))
  have SP := Lib.hid (SP0.out.below hal)
  clear hal SP0
  go_upto_region 1 with fail
  generalize W.alloc (.cells #[.int .i64 xk, .int .i64 xa, .int .i64 xn, .string xs, .slice A l.length c] 83) = wp at *
  generalize W.heap.size = gx at *
  cases k with
  | zero =>
    go_wp2
    go_ret
    exact SP.out.tell (by rw [walkP, if_neg (by omega)]) _
  | succ k =>
    have hk0 : ¬ (((k + 1 : Nat) : Int) = 0) := by omega
    have hkw : wrap64 (((k + 1 : Nat) : Int) - 1) = (k : Int) := by unfold wrap64; omega
    have hw : walkP stS ⟨xk, xa, xn, xs, l⟩ lv m = walkPL stS l (lv + 1) (stS m 0) := by rw [walkP, if_pos (by omega)]; rfl
    have HW := Lib.hid hw
    have hkk : lv + 1 + k = 66 := by omega
    generalize hq : ((k + 1 : Nat) : Int) = kq at *
    have HQ := Lib.hid hq
    clear hw hq
    go_upto_region 3 with (go_at_call 64; refine (add_call g _ m SP.out.n SP.out.lo SP.out.hi).mono ?_; rintro e w5 ⟨rfl, hn5, hk5⟩; have S5 := Lib.hid (SP.out.told hg hn5 hk5 (stS_rng SP.out.lo SP.out.hi).1 (stS_rng SP.out.lo SP.out.hi).2); have X5 := Lib.hid (hk5.blk XP.out (ne_blk XP.out SP.out.n (by decide))); clear hn5 hk5; cases hb : decide (stS m 0 ≤ 4096))
    · have e : stS m 0 = 4097 := by have h1 := S5.out.hi; have h2 := of_decide_eq_false hb; omega
      go_ret
      exact S5.out.tell (by rw [HW.out, e, fixPL stS_full]) _
    · clear SP XP
      generalize stS m 0 = mb at *
      have y4 := blk_cell X5.out 4
      go_wp2
      go_loopw [8, 7] (fun v8 v7 wr => ∃ (i : Nat) (d : Int), v8 = .int .i64 i ∧ v7 = .int .i64 d ∧ i ≤ l.length ∧ Hid (SC w0 g W wr (walkPL stS (l.take i) (lv + 1) mb)) ∧ Hid (wr.heap[gx]? = some (.cells #[.int .i64 xk, .int .i64 xa, .int .i64 xn, .string xs, .slice A l.length c] 83 (0, 0)))) (fun v8 _ _ => l.length - (intOf v8).toNat)
      case atStart => exact ⟨0, 0, by go_num, rfl, Nat.zero_le _, Lib.hid S5.out, Lib.hid X5.out⟩
      case round =>
        obtain ⟨i, d, rfl, rfl, hil, HS, HX⟩ := hrel
        clear y4
        have y4 := blk_cell HX.out 4
        obtain ⟨wq, hwq⟩ : ∃ wq, wq = wr := ⟨_, rfl⟩
        subst hwq
        by_cases hlt : i < l.length
        · have q1 : (i : Int) < (l.length : Int) := by omega
          have q0 : (0 : Int) ≤ (i : Int) := by omega
          obtain ⟨ad, A5, c5, hA, u0, u1, u2, u3, u4, hc5, hC5⟩ := at_T83 HC.out (i : Int) q0 q1
          subst hA
          rw [rd83 l i hlt, Int.toNat_natCast] at u0 u1 u2 u3 u4
          rw [rd83 l i hlt] at hc5 hC5
          replace u0 := (HS.out.b.cell (World.block_lt_of_cell? w0 _ u0)).trans u0
          replace u1 := (HS.out.b.cell (World.block_lt_of_cell? w0 _ u1)).trans u1
          replace u2 := (HS.out.b.cell (World.block_lt_of_cell? w0 _ u2)).trans u2
          replace u3 := (HS.out.b.cell (World.block_lt_of_cell? w0 _ u3)).trans u3
          replace u4 := (HS.out.b.cell (World.block_lt_of_cell? w0 _ u4)).trans u4
          have HE := Lib.hid (HI.out l[i] (List.getElem_mem hlt))
          have HT := Lib.hid (show walkP stS l[i] (lv + 1) (walkPL stS (l.take i) (lv + 1) mb) = walkPL stS (l.take (i + 1)) (lv + 1) mb by rw [List.take_succ_eq_append_getElem hlt, walkPL_snoc])
          have HC5 := Lib.hid hC5
          clear hC5
          generalize l[i] = x at *
          generalize walkPL stS (l.take i) (lv + 1) mb = mi at *
          have SR := Lib.hid (show SC w0 g wq wq mi from ⟨HS.out.n, KX.refl _ _, HS.out.b, HS.out.lo, HS.out.hi⟩)
          go_wp2_with (go_at_call 77; refine (HE.out A5 c5 (lv + 1) k mi _ hkk SR.out HC5.out hc5).mono ?_; rintro e w6 ⟨⟨d6, rfl⟩, hn6, hk6, l6, h6⟩; have S6 := Lib.hid (HS.out.told hg hn6 hk6 l6 h6); have X6 := Lib.hid (hk6.blk HX.out (ne_blk HX.out HS.out.n (by decide))); clear hn6 hk6 l6 h6)
          all_goals (go_roundw; (case rel => first | exact ⟨i + 1, by go_num, hlt, Lib.hid (SC.cast HT.out S6.out)⟩ | exact ⟨i + 1, _, by go_num, rfl, hlt, Lib.hid (SC.cast HT.out S6.out), X6⟩ | exact ⟨i + 1, by go_num, ⟨_, rfl⟩, hlt, Lib.hid (SC.cast HT.out S6.out), X6⟩); case measure => simp [intOf]; omega)
        · obtain rfl : i = l.length := by omega
          have hg_ := HS.out
          rw [List.take_length] at hg_
          have HG_ := Lib.hid hg_
          clear hg_
          go_wp2
          go_ret
          exact HG_.out.tell HW.out.symm _
theorem CP_any (w0 : World) (g : Nat) (hg : w0.heap.size ≤ g) : ∀ (n : Nat) (x : S83), SizeOf.sizeOf x ≤ n → CP w0 g x := by
  intro n
  induction n with
  | zero =>
    intro e he
    cases e
    simp at he
  | succ n ih =>
    intro e he
    refine CP_ok w0 g hg e (fun x hx => ih x ?_)
    have h1 := List.sizeOf_lt_of_mem hx
    cases e
    simp at he
    simp only at h1
    omega
theorem CP_call (w0 : World) (g : Nat) (hg : w0.heap.size ≤ g) (x : S83) : CP w0 g x := CP_any w0 g hg _ x (Nat.le_refl _)
set_option maxRecDepth 100000 in
set_option maxHeartbeats 16000000 in
/-- Some expressions' count. -/
theorem cexprs_call (w0 : World) (g : Nat) (hg : w0.heap.size ≤ g) (l : List S31) (A : Option Addr) (c lv k : Nat) (m : Int) (W : World) (hlk : lv + k = 66) (hS : SC w0 g W W m) (hC : Kd.C k31 w0 A l.length l) (hc : l.length ≤ c) :
    Calls Tryd.prog 66 #[.pointer (some ⟨g, 0, none⟩), .slice A l.length c, .int .i64 (k : Int)] W (ToldC g (walkEL stS l lv m) W) := by
  have hlen := C_len hC
  have HC := Lib.hid hC
  have SP := Lib.hid hS
  clear hC hS
  go_enter Tryd.func66, Tryd.ntmps66
  go_wp2
  go_loopw [8, 7] (fun v8 v7 wr => ∃ (i : Nat) (d : Int), v8 = .int .i64 i ∧ v7 = .int .i64 d ∧ i ≤ l.length ∧ Hid (SC w0 g W wr (walkEL stS (l.take i) lv m))) (fun v8 _ _ => l.length - (intOf v8).toNat)
  case atStart => exact ⟨0, 0, by go_num, rfl, Nat.zero_le _, Lib.hid SP.out⟩
  case round =>
    obtain ⟨i, d, rfl, rfl, hil, HS⟩ := hrel
    obtain ⟨wq, hwq⟩ : ∃ wq, wq = wr := ⟨_, rfl⟩
    subst hwq
    by_cases hlt : i < l.length
    · have q1 : (i : Int) < (l.length : Int) := by omega
      have q0 : (0 : Int) ≤ (i : Int) := by omega
      obtain ⟨ad, A5, c5, hA, u0, u1, u2, u3, u4, hc5, hC5⟩ := at_T31 HC.out (i : Int) q0 q1
      subst hA
      rw [rd31 l i hlt, Int.toNat_natCast] at u0 u1 u2 u3 u4
      rw [rd31 l i hlt] at hc5 hC5
      replace u0 := (HS.out.b.cell (World.block_lt_of_cell? w0 _ u0)).trans u0
      replace u1 := (HS.out.b.cell (World.block_lt_of_cell? w0 _ u1)).trans u1
      replace u2 := (HS.out.b.cell (World.block_lt_of_cell? w0 _ u2)).trans u2
      replace u3 := (HS.out.b.cell (World.block_lt_of_cell? w0 _ u3)).trans u3
      replace u4 := (HS.out.b.cell (World.block_lt_of_cell? w0 _ u4)).trans u4
      have HT := Lib.hid (show walkE stS l[i] lv (walkEL stS (l.take i) lv m) = walkEL stS (l.take (i + 1)) lv m by rw [List.take_succ_eq_append_getElem hlt, walkEL_snoc])
      have HC5 := Lib.hid hC5
      clear hC5
      generalize l[i] = x at *
      generalize walkEL stS (l.take i) lv m = mi at *
      have SR := Lib.hid (show SC w0 g wq wq mi from ⟨HS.out.n, KX.refl _ _, HS.out.b, HS.out.lo, HS.out.hi⟩)
      go_wp2_with (go_at_call 78; refine (CE_call w0 g hg x A5 c5 lv k mi _ hlk SR.out HC5.out hc5).mono ?_; rintro e w6 ⟨⟨d6, rfl⟩, hn6, hk6, l6, h6⟩; have S6 := Lib.hid (HS.out.told hg hn6 hk6 l6 h6); clear hn6 hk6 l6 h6)
      all_goals (go_roundw; (case rel => first | exact ⟨i + 1, by go_num, hlt, Lib.hid (SC.cast HT.out S6.out)⟩ | exact ⟨i + 1, _, by go_num, rfl, hlt, Lib.hid (SC.cast HT.out S6.out)⟩ | exact ⟨i + 1, by go_num, ⟨_, rfl⟩, hlt, Lib.hid (SC.cast HT.out S6.out)⟩); case measure => simp [intOf]; omega)
    · obtain rfl : i = l.length := by omega
      have hg_ := HS.out
      rw [List.take_length] at hg_
      have HG_ := Lib.hid hg_
      clear hg_
      go_wp2
      go_ret
      exact HG_.out.tell rfl _
end Go.Proofs.YtjboncbmeanlgaaDoor.Tr
