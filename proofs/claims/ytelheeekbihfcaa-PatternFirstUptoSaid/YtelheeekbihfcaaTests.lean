/- The pattern's Tests. -/
import Derived.Test.YtelheeekbihfcaaGoW
import Derived.Laws.EntriesVeiled
set_option linter.unusedVariables false
set_option linter.unusedSimpArgs false
namespace Go.Proofs.Ytelheeekbihfcaa.Pt
open Go.RowKit Go.Proofs Go.Proofs.Ytelheeekbihfcaa.PPatternFirst Go.Proofs.YtelheeekbihfcaaW.PrintWords Go.Proofs.YtelheeekbihfcaaW.PrintMore Go.Proofs.YtelheeekbihfcaaW.PrintLast

theorem go_all (W0 : World) (go ga b2 b3 : Nat) (at_ : List ByteArray) (Aa : Option Addr) (ca : Nat) (hgo : W0.heap.size ≤ go) (hCa : Kd.C Kd.string W0 Aa at_.length at_) (hca : at_.length ≤ ca) (hal : at_.length ≤ 1000000) :
    ∀ (n : Nat) (p : S53), SizeOf.sizeOf p ≤ n → GoOk W0 go ga b2 b3 at_ Aa ca p := by
  intro n
  induction n with
  | zero =>
    intro p hp
    cases p
    simp at hp
  | succ n ih =>
    intro p hp
    obtain ⟨f0, f1, f2, f3, args⟩ := p
    refine go_ok W0 go ga b2 b3 at_ Aa ca hgo hCa hca hal f0 f1 f2 f3 args (fun x hx => ih x ?_)
    have h1 := List.sizeOf_lt_of_mem hx
    simp at hp
    omega

set_option maxRecDepth 100000 in
set_option maxHeartbeats 8000000 in
theorem walk_call (W0 : World) (go ga : Nat) (at_ : List ByteArray) (Aa : Option Addr) (ca : Nat) (hgo : W0.heap.size ≤ go) (hCa : Kd.C Kd.string W0 Aa at_.length at_) (hca : at_.length ≤ ca) (hal : at_.length ≤ 1000000)
    (f0 f1 f2 : Int) (f3 : ByteArray) (args : List S53) (A4 : Option Addr) (c4 : Nat) (l : List S39) (W : World) (hO : OutB W0.heap.size go W l) (hB : Below W0.heap.size W0 W) (ha : W.heap[ga]? = some (.cells #[.slice Aa at_.length ca] 23 (0, 0)))
    (hC : Kd.C k53 W0 A4 args.length args) (hc4 : args.length ≤ c4) (hn : l.length + nodesP ⟨f0, f1, f2, f3, args⟩ ≤ 1000000) :
    Calls Try.prog 25 #[.agg #[.int .i64 f0, .int .i64 f1, .int .i64 f2, .string f3, .slice A4 args.length c4], .func (.func 26) #[] #[.pointer (some ⟨go, 0, none⟩), .pointer (some ⟨ga, 0, none⟩)]] W fun e W' => e = .returned (.tuple #[]) ∧ OutB W0.heap.size go W' (l ++ testsP at_ ⟨f0, f1, f2, f3, args⟩ []) ∧ KT W0.heap.size go W W' := by
  have HG := Lib.hid fun (b2 b3 : Nat) => go_all W0 go ga b2 b3 at_ Aa ca hgo hCa hca hal _ ⟨f0, f1, f2, f3, args⟩ (Nat.le_refl _)
  have HO := Lib.hid hO
  have HB := Lib.hid hB
  have HA := Lib.hid ha
  have HC := Lib.hid hC
  clear hO hB ha hC hCa
  go_enter Try.func25, Try.ntmps25
  go_upto_region 2 with fail
  have s1 : (W.alloc (.cells #[.int .i64 f0, .int .i64 f1, .int .i64 f2, .string f3, .slice A4 args.length c4] 53)).heap.size = W.heap.size + 1 := by simp
  have s2 : ((W.alloc (.cells #[.int .i64 f0, .int .i64 f1, .int .i64 f2, .string f3, .slice A4 args.length c4] 53)).alloc (.cells #[.func (.func 26) #[] #[.pointer (some ⟨go, 0, none⟩), .pointer (some ⟨ga, 0, none⟩)]] 84)).heap.size = W.heap.size + 1 + 1 := by simp
  have X3 := blk_new ((W.alloc (.cells #[.int .i64 f0, .int .i64 f1, .int .i64 f2, .string f3, .slice A4 args.length c4] 53)).alloc (.cells #[.func (.func 26) #[] #[.pointer (some ⟨go, 0, none⟩), .pointer (some ⟨ga, 0, none⟩)]] 84)) (.cells #[.nilFunc] 84)
  have X2 := blk_alloc (blk_new (W.alloc (.cells #[.int .i64 f0, .int .i64 f1, .int .i64 f2, .string f3, .slice A4 args.length c4] 53)) (.cells #[.func (.func 26) #[] #[.pointer (some ⟨go, 0, none⟩), .pointer (some ⟨ga, 0, none⟩)]] 84)) (.cells #[.nilFunc] 84)
  have X1 := blk_alloc (blk_alloc (blk_new W (.cells #[.int .i64 f0, .int .i64 f1, .int .i64 f2, .string f3, .slice A4 args.length c4] 53)) (.cells #[.func (.func 26) #[] #[.pointer (some ⟨go, 0, none⟩), .pointer (some ⟨ga, 0, none⟩)]] 84)) (.cells #[.nilFunc] 84)
  rw [s2] at X3
  rw [s1] at X2
  have hbl := below_alloc (below_alloc (below_alloc (Below.refl _ W) (.cells #[.int .i64 f0, .int .i64 f1, .int .i64 f2, .string f3, .slice A4 args.length c4] 53)) (.cells #[.func (.func 26) #[] #[.pointer (some ⟨go, 0, none⟩), .pointer (some ⟨ga, 0, none⟩)]] 84)) (.cells #[.nilFunc] 84)
  have BL := Lib.hid hbl
  generalize (((W.alloc (.cells #[.int .i64 f0, .int .i64 f1, .int .i64 f2, .string f3, .slice A4 args.length c4] 53)).alloc (.cells #[.func (.func 26) #[] #[.pointer (some ⟨go, 0, none⟩), .pointer (some ⟨ga, 0, none⟩)]] 84)).alloc (.cells #[.nilFunc] 84)) = W3 at *
  have c3 := blk_cell X3 0
  have f3' := blk_frozen X3 0
  clear s1 s2 hbl
  have Y3 := Lib.hid (blk_set X3 0 (.func (.func 34) #[] #[.pointer (some ⟨W.heap.size + 1, 0, none⟩), .pointer (some ⟨W.heap.size + 1 + 1, 0, none⟩)]))
  have hgo3 : W.heap.size + 1 + 1 ≠ go := by have := HO.out.lt; omega
  have n31 : ¬ W.heap.size + 1 = W.heap.size + 1 + 1 := by omega
  have n30 : ¬ W.heap.size = W.heap.size + 1 + 1 := by omega
  have Y2 := Lib.hid ((Below.heap_setCell W3 ⟨W.heap.size + 1 + 1, 0, none⟩ (.func (.func 34) #[] #[.pointer (some ⟨W.heap.size + 1, 0, none⟩), .pointer (some ⟨W.heap.size + 1 + 1, 0, none⟩)]) (W.heap.size + 1) n31).trans X2)
  have Y1 := Lib.hid ((Below.heap_setCell W3 ⟨W.heap.size + 1 + 1, 0, none⟩ (.func (.func 34) #[] #[.pointer (some ⟨W.heap.size + 1, 0, none⟩), .pointer (some ⟨W.heap.size + 1 + 1, 0, none⟩)]) W.heap.size n30).trans X1)
  have X1_ := Lib.hid X1
  have hge : W0.heap.size ≤ W.heap.size + 1 + 1 := by have := HB.out.size; omega
  go_upto_region 3 with fail
  have hbs := BL.out.setCell (p := ⟨W.heap.size + 1 + 1, 0, none⟩) (show W.heap.size ≤ W.heap.size + 1 + 1 by omega) (.func (.func 34) #[] #[.pointer (some ⟨W.heap.size + 1, 0, none⟩), .pointer (some ⟨W.heap.size + 1 + 1, 0, none⟩)])
  have OS := Lib.hid (HO.out.below hbs)
  have BS := Lib.hid (below_step HB.out hbs)
  have KS := Lib.hid (KT.of_below (base := W0.heap.size) (g := go) hbs)
  have XS : Boxes go ga (W.heap.size + 1) (W.heap.size + 1 + 1) Aa at_.length ca (W3.setCell ⟨W.heap.size + 1 + 1, 0, none⟩ (.func (.func 34) #[] #[.pointer (some ⟨W.heap.size + 1, 0, none⟩), .pointer (some ⟨W.heap.size + 1 + 1, 0, none⟩)])) := ⟨blk_below HA.out hbs, Y2.out, by have := Y3.out; simpa using this⟩
  have XS_ := Lib.hid XS
  have kc := blk_cell XS.c 0
  have y0 := blk_cell Y1.out 0
  have y1 := blk_cell Y1.out 1
  have y2 := blk_cell Y1.out 2
  have y3 := blk_cell Y1.out 3
  have y4 := blk_cell Y1.out 4
  have hl0 : ([] : List Int).length + nodesP ⟨f0, f1, f2, f3, args⟩ ≤ 1000000 := by simp only [List.length_nil]; omega
  clear hbs XS c3 f3' X1 X2 X3 BL Y2 Y3
  generalize W3.setCell ⟨W.heap.size + 1 + 1, 0, none⟩ (.func (.func 34) #[] #[.pointer (some ⟨W.heap.size + 1, 0, none⟩), .pointer (some ⟨W.heap.size + 1 + 1, 0, none⟩)]) = WS at *
  go_wp2_with (go_at_call 34; refine (HG.out _ _ W0.heap.size A4 c4 (.slice none 0 0) [] l _ OS.out BS.out XS_.out HC.out hc4 (Kd.R_nil _ _ _ _ _) (Nat.le_refl _) hn hl0).mono ?_; rintro e W5 ⟨rfl, ho, hk⟩; have O5 := Lib.hid ho; have K5 := Lib.hid hk; clear ho hk)
  go_end0
  exact ⟨rfl, O5.out, KS.out.trans K5.out⟩

theorem res14 (tmps : Array Value) (w : World) (g : Nat) (A : Option Addr) (n c : Nat) (hp : tmps.getD 4 undef = .pointer (some ⟨g, 0, none⟩)) (h : w.heap[g]? = some (.cells #[.slice A n c] 50 (0, 0))) : (results Try.f14 tmps).run Try.prog w = .ok (.slice A n c) w := by
  have hp' : tmps[4]?.getD undef = .pointer (some ⟨g, 0, none⟩) := by simpa using hp
  have hc := blk_cell h 0
  simp [results, Try.results14, asAddr, hp']
  go_simp
set_option maxRecDepth 100000 in
set_option maxHeartbeats 8000000 in
/-- Tests: what the document says. -/
theorem tests_call (at_ : List ByteArray) (Aa : Option Addr) (ca : Nat) (f0 f1 f2 : Int) (f3 : ByteArray) (args : List S53) (A4 : Option Addr) (c4 : Nat) (w : World) (hCa : Kd.C Kd.string w Aa at_.length at_) (hca : at_.length ≤ ca) (hal : at_.length ≤ 1000000)
    (hC : Kd.C k53 w A4 args.length args) (hc4 : args.length ≤ c4) (hn : nodesP ⟨f0, f1, f2, f3, args⟩ ≤ 1000000) :
    Calls Try.prog 14 #[.agg #[.int .i64 f0, .int .i64 f1, .int .i64 f2, .string f3, .slice A4 args.length c4], .slice Aa at_.length ca] w fun e w' => ∃ v, e = .returned v ∧ Kd.R k39 39 w' w.heap.size (fun _ => True) v (testsP at_ ⟨f0, f1, f2, f3, args⟩ []) ∧ Below w.heap.size w w' := by
  have HC := Lib.hid hC
  have HCA := Lib.hid hCa
  clear hC hCa
  go_enter Try.func14, Try.ntmps14
  go_upto_region 1 with fail
  have s1 : (w.alloc (.cells #[.int .i64 f0, .int .i64 f1, .int .i64 f2, .string f3, .slice A4 args.length c4] 53)).heap.size = w.heap.size + 1 := by simp
  have s2 : ((w.alloc (.cells #[.int .i64 f0, .int .i64 f1, .int .i64 f2, .string f3, .slice A4 args.length c4] 53)).alloc (.cells #[.slice Aa at_.length ca] 23)).heap.size = w.heap.size + 1 + 1 := by simp
  have X3 := blk_new ((w.alloc (.cells #[.int .i64 f0, .int .i64 f1, .int .i64 f2, .string f3, .slice A4 args.length c4] 53)).alloc (.cells #[.slice Aa at_.length ca] 23)) (.cells #[.slice none 0 0] 50)
  have X2 := blk_alloc (blk_new (w.alloc (.cells #[.int .i64 f0, .int .i64 f1, .int .i64 f2, .string f3, .slice A4 args.length c4] 53)) (.cells #[.slice Aa at_.length ca] 23)) (.cells #[.slice none 0 0] 50)
  have X1 := blk_alloc (blk_alloc (blk_new w (.cells #[.int .i64 f0, .int .i64 f1, .int .i64 f2, .string f3, .slice A4 args.length c4] 53)) (.cells #[.slice Aa at_.length ca] 23)) (.cells #[.slice none 0 0] 50)
  rw [s2] at X3
  rw [s1] at X2
  have hbl := below_alloc (below_alloc (below_alloc (Below.refl _ w) (.cells #[.int .i64 f0, .int .i64 f1, .int .i64 f2, .string f3, .slice A4 args.length c4] 53)) (.cells #[.slice Aa at_.length ca] 23)) (.cells #[.slice none 0 0] 50)
  have BL := Lib.hid hbl
  generalize (((w.alloc (.cells #[.int .i64 f0, .int .i64 f1, .int .i64 f2, .string f3, .slice A4 args.length c4] 53)).alloc (.cells #[.slice Aa at_.length ca] 23)).alloc (.cells #[.slice none 0 0] 50)) = W3 at *
  have y0 := blk_cell X1 0
  have y1 := blk_cell X1 1
  have y2 := blk_cell X1 2
  have y3 := blk_cell X1 3
  have y4 := blk_cell X1 4
  have HO := Lib.hid (show OutB w.heap.size (w.heap.size + 1 + 1) W3 [] from ⟨_, X3, Kd.R_nil _ _ _ _ _⟩)
  have HA := Lib.hid X2
  have hn0 : ([] : List S39).length + nodesP ⟨f0, f1, f2, f3, args⟩ ≤ 1000000 := by simpa using hn
  have hge : w.heap.size ≤ w.heap.size + 1 + 1 := by omega
  clear s1 s2 hbl X1 X2 X3
  go_upto_region 2 with (go_at_call 25; refine (walk_call w (w.heap.size + 1 + 1) (w.heap.size + 1) at_ Aa ca hge HCA.out hca hal f0 f1 f2 f3 args A4 c4 [] _ HO.out BL.out HA.out HC.out hc4 hn0).mono ?_; rintro e W5 ⟨rfl, ho, hk⟩; have O5 := Lib.hid ho; have K5 := Lib.hid hk; clear ho hk)
  obtain ⟨v5, hv5, hr5⟩ := O5.out
  obtain ⟨A5, c5, rfl⟩ := Kd.R_slice hr5
  have kx := blk_cell hv5 0
  have kf := blk_frozen hv5 0
  have h6 := blk_set hv5 0 (.slice A5 (testsP at_ ⟨f0, f1, f2, f3, args⟩ []).length c5)
  have r6 := Kd.R_set hr5 hv5 (by decide) 0 (.slice A5 (testsP at_ ⟨f0, f1, f2, f3, args⟩ []).length c5)
  have hsz := BL.out.size
  have b6 := (BL.out.trans (K5.out.below hsz)).setCell (p := ⟨w.heap.size + 1 + 1, 0, none⟩) hge (.slice A5 (testsP at_ ⟨f0, f1, f2, f3, args⟩ []).length c5)
  simp only [List.setIfInBounds_toArray, List.set_cons_zero] at h6
  rw [List.nil_append] at *
  have H6 := Lib.hid h6
  have R6 := Lib.hid r6
  have B6 := Lib.hid b6
  clear h6 r6 b6 hv5 hr5 y0 y1 y2 y3 y4
  go_wp2
  refine bodyPost_ret (v := .slice A5 (testsP at_ ⟨f0, f1, f2, f3, args⟩ []).length c5) ?_ rfl ⟨_, rfl, R6.out, B6.out⟩
  exact res14 _ _ _ _ _ _ rfl H6.out
end Go.Proofs.Ytelheeekbihfcaa.Pt
