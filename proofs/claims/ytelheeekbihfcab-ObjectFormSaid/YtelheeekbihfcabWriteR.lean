/- The reference's write. -/
import Derived.Test.YtelheeekbihfcabHead
import Derived.Test.YtelheeekbihfcabPObjectReadsx5
set_option linter.unusedVariables false
set_option linter.unusedSimpArgs false
namespace Go.Proofs.Ytelheeekbihfcab.Ob
open Go.RowKit Go.Proofs Go.Proofs.Ytelheeekbihfcab.PObjectReads Go.Proofs.YtelheeekbihfcabW.PrintWords Go.Proofs.YtelheeekbihfcabW.PrintMore

/-- How long the names are, each with its end. -/
def nm : List S47 → Nat
  | [] => 0
  | x :: r => x.f0.size + 1 + nm r
theorem nm_app : ∀ a b, nm (a ++ b) = nm a + nm b
  | [], b => by simp [nm]
  | x :: r, b => by simp [nm, nm_app r b]; omega
def up8 (n : Int) : Int := (n + 7) / 8 * 8
def wordsB : List Int → List Int
  | [] => []
  | x :: r => le 4 x ++ wordsB r
theorem wordsB_app : ∀ a b, wordsB (a ++ b) = wordsB a ++ wordsB b
  | [], b => rfl
  | x :: r, b => by simp [wordsB, wordsB_app r b]
theorem wordsB_len : ∀ a, (wordsB a).length = 4 * a.length
  | [] => rfl
  | x :: r => by simp [wordsB, wordsB_len r, le_length]; omega
def symB (at_ : Int) (x : S47) : List Int := le 4 at_ ++ (le 1 16 ++ (le 1 0 ++ (le 2 1 ++ (le 8 x.f1 ++ le 8 0))))
def symsB : Nat → List S47 → List Int
  | _, [] => []
  | at_, x :: r => symB at_ x ++ symsB (at_ + x.f0.size + 1) r
theorem symsB_snoc : ∀ (a : List S47) (at_ : Nat) (x : S47), symsB at_ (a ++ [x]) = symsB at_ a ++ symB ((at_ + nm a : Nat) : Int) x
  | [], at_, x => by simp [symsB, nm]
  | y :: r, at_, x => by
    simp only [List.cons_append, symsB, symsB_snoc r, nm, List.append_assoc]
    rw [show at_ + y.f0.size + 1 + nm r = at_ + (y.f0.size + 1 + nm r) by omega]
theorem symsB_len : ∀ (a : List S47) (at_ : Nat), (symsB at_ a).length = 24 * a.length
  | [], _ => rfl
  | x :: r, _ => by simp [symsB, symB, symsB_len r, le_length]; omega
def namesB : List S47 → List Int
  | [] => []
  | x :: r => bytesOf x.f0 ++ (le 1 0 ++ namesB r)
theorem namesB_app : ∀ a b, namesB (a ++ b) = namesB a ++ namesB b
  | [], b => rfl
  | x :: r, b => by simp [namesB, namesB_app r b]
theorem namesB_len : ∀ a, (namesB a).length = nm a
  | [] => rfl
  | x :: r => by simp [namesB, nm, namesB_len r, le_length, bytesOf_length]; omega
def sects : ByteArray := ⟨#[0, 46, 116, 101, 120, 116, 0, 46, 115, 121, 109, 116, 97, 98, 0, 46, 115, 116, 114, 116, 97, 98, 0, 46, 115, 104, 115, 116, 114, 116, 97, 98, 0]⟩

/-- Where the parts stand. -/
def sOf (ws : List Int) : Int := up8 (120 + 4 * (ws.length : Int))
def lOf (ls : List S47) : Int := 24 * ((ls.length : Int) + 1)
def zOf (ls : List S47) : Int := 1 + (nm ls : Int)
def hOf (ws : List Int) (ls : List S47) : Int := up8 (sOf ws + lOf ls + zOf ls + 33)

/-- The file. -/
def fileB (e s : Int) (ws : List Int) (ls : List S47) : List Int :=
  pad8 (pad8 (headB e s (4 * (ws.length : Int)) (hOf ws ls) ++ wordsB ws) ++ (le 24 0 ++ (symsB 1 ls ++ (le 1 0 ++ (namesB ls ++ bytesOf sects))))) ++
    (sectB 0 0 0 0 0 0 0 0 0 ++ (sectB 1 1 6 120 (4 * (ws.length : Int)) 0 0 4 0 ++ (sectB 7 2 0 (sOf ws) (lOf ls) 3 1 8 24 ++ (sectB 15 3 0 (sOf ws + lOf ls) (zOf ls) 0 0 1 0 ++ sectB 23 3 0 (sOf ws + lOf ls + zOf ls) 33 0 0 1 0))))

theorem up_f (n : Int) (h0 : 0 ≤ n) (h1 : n ≤ 100000000) : postbagref30_up.f n = some (up8 n) := by
  unfold postbagref30_up.f up8
  rw [Int.tdiv_eq_ediv_of_nonneg (by unfold wrap64; omega)]
  congr 1
  unfold wrap64
  omega
theorem rd47 (ls : List S47) (i : Nat) (h : i < ls.length) : rd_T47 ls (i : Int) = ls[i] := by
  simp [rd_T47, List.getD_eq_getElem?_getD, h]
theorem nm_take (ls : List S47) (i : Nat) (h : i < ls.length) : nm (ls.take (i + 1)) = nm (ls.take i) + (ls[i].f0.size + 1) := by
  rw [List.take_succ_eq_append_getElem h, nm_app]
  simp [nm]
theorem nm_le (ls : List S47) (hs : ∀ x, x ∈ ls → x.f0.size ≤ 1000) : nm ls ≤ 1001 * ls.length := by
  induction ls with
  | nil => simp [nm]
  | cons x r ih =>
    have h1 := hs x (by simp)
    have h2 := ih (fun y hy => hs y (by simp [hy]))
    simp [nm]; omega
theorem names_f (e s : Int) (ws : List Int) (ls : List S47) (hn : ls.length ≤ 5000) (hs : ∀ x, x ∈ ls → x.f0.size ≤ 1000) : ∃ k, postbagref30_names.f k e s ws ls = some (zOf ls) := by
  have h : ∀ (d i : Nat), ls.length - i = d → i ≤ ls.length → postbagref30_names.l0 (d + 1) (1 + (nm (ls.take i) : Int)) i e s ws ls = some (zOf ls) := by
    intro d
    induction d with
    | zero =>
      intro i hd hi
      obtain rfl : i = ls.length := by omega
      rw [postbagref30_names.l0, if_neg (by omega), List.take_length]
      rfl
    | succ d ih =>
      intro i hd hi
      have hlt : i < ls.length := by omega
      have h1 := ih (i + 1) (by omega) (by omega)
      have h2 := nm_take ls i hlt
      have h3 := hs ls[i] (List.getElem_mem hlt)
      have h4 := nm_le (ls.take i) (fun x hx => hs x (List.mem_of_mem_take hx))
      rw [List.length_take] at h4
      rw [postbagref30_names.l0, if_pos (by omega), if_pos (by omega), rd47 ls i hlt, ← h1, h2]
      congr 1
      · unfold wrap64; omega
      · unfold wrap64; omega
  exact ⟨ls.length + 1, h ls.length 0 rfl (Nat.zero_le _)⟩

/-- What may be written here. -/
structure Fits (e s : Int) (ws : List Int) (ls : List S47) : Prop where
  e : 0 ≤ e ∧ e < 18446744073709551616
  s : 0 ≤ s ∧ s < 18446744073709551616
  wn : ws.length ≤ 20000
  ln : ls.length ≤ 5000
  w : ∀ x, x ∈ ws → 0 ≤ x ∧ x < 4294967296
  a : ∀ x, x ∈ ls → 0 ≤ x.f1 ∧ x.f1 < 18446744073709551616
  n : ∀ x, x ∈ ls → x.f0.size ≤ 1000

theorem rdI (ws : List Int) (i : Nat) (h : i < ws.length) : rd ws (i : Int) = ws[i] := by
  simp [rd, List.getD_eq_getElem?_getD, h]

set_option maxRecDepth 100000 in
set_option maxHeartbeats 8000000 in
theorem writeR (e s : Int) (A2 : Option Addr) (c2 : Nat) (ws : List Int) (A3 : Option Addr) (c3 : Nat) (ls : List S47) (w : World) (hr2 : Kd.C (Kd.int .u32) w A2 ws.length ws) (hc2 : ws.length ≤ c2) (hr3 : Kd.C k47 w A3 ls.length ls) (hc3 : ls.length ≤ c3) (hF : Fits e s ws ls) :
    Calls Try.prog 17 #[.agg #[.int .u64 e, .int .u64 s, .slice A2 ws.length c2, .slice A3 ls.length c3]] w fun e' w' => ∃ v, e' = .returned v ∧ w'.ownsRow w.heap.size 5 1 v (fileB e s ws ls).length (nums .u8 (fileB e s ws ls)) ∧ Below w.heap.size w w' := by
  have hwn := hF.wn
  have hln := hF.ln
  have hnm := nm_le ls hF.n
  obtain ⟨kn, hkn⟩ := names_f e s ws ls hF.ln hF.n
  have HN := Lib.hid fun W => fun hW : Below w.heap.size w W => postbagref30_names.calls kn e s A2 c2 ws A3 c3 ls _ W (Kd.C_below hr2 hW) hc2 (Kd.C_below hr3 hW) hc3 hkn
  have HU := Lib.hid fun n W => fun (h0 : 0 ≤ n) => fun (h1 : n ≤ 100000000) => postbagref30_up.calls n _ W (up_f n h0 h1)
  have HR2 := Lib.hid hr2
  have HR3 := Lib.hid hr3
  have HF := Lib.hid hF
  clear hr2 hr3 hF hkn
  have hsz0 : w.heap.size + 2 = ((w.alloc (.cells #[.int .u64 e, .int .u64 s, .slice A2 ws.length c2, .slice A3 ls.length c3] 35)).alloc (.cells #[.slice none 0 0] 70)).heap.size := by simp
  have B0 := below_alloc (below_alloc (Below.refl _ w) (.cells #[.int .u64 e, .int .u64 s, .slice A2 ws.length c2, .slice A3 ls.length c3] 35)) (.cells #[.slice none 0 0] 70)
  have X0 := blk_alloc (blk_new w (.cells #[.int .u64 e, .int .u64 s, .slice A2 ws.length c2, .slice A3 ls.length c3] 35)) (.cells #[.slice none 0 0] 70)
  have X1 := blk_new (w.alloc (.cells #[.int .u64 e, .int .u64 s, .slice A2 ws.length c2, .slice A3 ls.length c3] 35)) (.cells #[.slice none 0 0] 70)
  rw [World.size_alloc] at X1
  go_enter Try.func17, Try.ntmps17
  go_upto_region 2 with fail
  generalize ((w.alloc (.cells #[.int .u64 e, .int .u64 s, .slice A2 ws.length c2, .slice A3 ls.length c3] 35)).alloc (.cells #[.slice none 0 0] 70)) = W0 at *
  have HA : Hid (At w.heap.size (w.heap.size + 1) W0 10 W0 []) := Lib.hid ⟨⟨_, X1, own_nil _ _ _ _⟩, KB.refl _ _ _, by simp⟩
  have HW0 : w.heap.size ≤ W0.heap.size := by omega
  have hg : w.heap.size ≤ w.heap.size + 1 := by omega
  have HC := Lib.hid (fun (W : World) (L : Nat) (bs : List Int) (h : At w.heap.size (w.heap.size + 1) W0 L W bs) => (show W.heap[w.heap.size]? = some (.cells #[.int .u64 e, .int .u64 s, .slice A2 ws.length c2, .slice A3 ls.length c3] 35 (0, 0)) ∧ Below w.heap.size w W from
    ⟨h.kb.blk X0 (by decide) (by omega), B0.trans (h.kb.below HW0)⟩))
  clear B0 X1
  have X2 := Lib.hid X0
  have c0 := blk_cell X0 0
  have c1 := blk_cell X0 1
  have c2' := blk_cell X0 2
  have c3' := blk_cell X0 3
  clear X0
  have s1 : 0 ≤ sOf ws ∧ sOf ws ≤ 100000 := by unfold sOf up8; omega
  have s3 : 0 ≤ zOf ls ∧ zOf ls ≤ 6000000 := by unfold zOf; omega
  have s4 : 0 ≤ hOf ws ls ∧ hOf ws ls ≤ 10000000 := by unfold hOf lOf up8; omega
  have u1 : up8 (120 + 4 * (ws.length : Int)) = sOf ws := rfl
  have u2 : up8 (sOf ws + 24 * ((ls.length : Int) + 1) + zOf ls + 33) = hOf ws ls := rfl
  go_upto_region 8 with (first
    | (go_at_call 21; refine (HU.out _ _ (by omega) (by omega)).mono ?_; rintro e' w' ⟨rfl, hd⟩; have h1 := HA.out.below hd.below; clear HA hd c0 c1 c2' c3'; have HA := Lib.hid h1; have hh := HC.out _ _ _ h1; have c0 := blk_cell hh.1 0; have c1 := blk_cell hh.1 1; have c2' := blk_cell hh.1 2; have c3' := blk_cell hh.1 3; clear h1 hh)
    | (go_at_call 25; refine (HN.out _ (HC.out _ _ _ HA.out).2).mono ?_; rintro e' w' ⟨rfl, hd⟩; have h1 := HA.out.below hd; clear HA hd c0 c1 c2' c3'; have HA := Lib.hid h1; have hh := HC.out _ _ _ h1; have c0 := blk_cell hh.1 0; have c1 := blk_cell hh.1 1; have c2' := blk_cell hh.1 2; have c3' := blk_cell hh.1 3; clear h1 hh)
    | (go_at_call 26; refine (head_at _ _ _ _ _ _ HA.out HW0 hg HF.out.e.1 HF.out.e.2 HF.out.s.1 HF.out.s.2 (by omega) (by omega) (by omega) (by omega) (by omega) (by omega)).mono ?_; rintro e' w' ⟨rfl, h1⟩; clear HA c0 c1 c2' c3'; have HA := Lib.hid h1; have hh := HC.out _ _ _ h1; have c0 := blk_cell hh.1 0; have c1 := blk_cell hh.1 1; have c2' := blk_cell hh.1 2; have c3' := blk_cell hh.1 3; clear h1 hh))
  have HE := Lib.hid (show ([] : List Int) ++ headB e s (4 * (ws.length : Int)) (hOf ws ls) = headB e s (4 * (ws.length : Int)) (hOf ws ls) from rfl)
  rw [HE.out] at HA
  generalize hHd : headB e s (4 * (ws.length : Int)) (hOf ws ls) = Hd at *
  have HHd := Lib.hid hHd
  clear hHd c0 c1 c2' c3' HE HU HN
  go_wp2
  go_loopw [9] (fun v9 wr => ∃ i : Nat, v9 = .int .i64 i ∧ i ≤ ws.length ∧ Hid (At w.heap.size (w.heap.size + 1) W0 (300 + 4 * i) wr (Hd ++ wordsB (ws.take i)))) (fun v9 _ => ws.length - (intOf v9).toNat)
  case atStart => exact ⟨0, by go_num, Nat.zero_le _, Lib.hid (by simpa [wordsB] using HA.out.weak (by omega))⟩
  case round =>
    obtain ⟨i, rfl, hi, HA⟩ := hrel
    have hh := HC.out _ _ _ HA.out
    have c2' := blk_cell hh.1 2
    have c3' := blk_cell hh.1 3
    by_cases hlt : i < ws.length
    · obtain ⟨ad, rfl, hx⟩ := Kd.at_int (Kd.C_below HR2.out hh.2) (i : Int) (by omega) (by omega)
      have hxr := HF.out.w ws[i] (List.getElem_mem hlt)
      rw [rdI ws i hlt, Int.toNat_natCast] at hx
      have HT := Lib.hid (show Hd ++ wordsB (ws.take (i + 1)) = Hd ++ wordsB (ws.take i) ++ le 4 ws[i] by rw [List.take_succ_eq_append_getElem hlt, wordsB_app, List.append_assoc]; simp [wordsB])
      generalize ws[i] = X at *
      have q0 : (0 : Int) ≤ i := by omega
      have q1 : (i : Int) < ws.length := by omega
      have q2 : IntKind.u64.wrap X = X := by simp [IntKind.wrap, IntKind.bits, IntKind.signed]; omega
      clear hh
      go_wp2_with (go_at_call 27; refine (put_at _ _ HA.out HW0 hg (by omega) (by omega) (by omega)).mono ?_; rintro e' w' ⟨rfl, h1⟩; clear HA; have HA := Lib.hid h1; clear h1)
      go_roundw
      case rel => exact ⟨i + 1, by go_num, hlt, Lib.hid (by rw [HT.out]; exact HA.out.weak (by omega))⟩
      case measure => simp [intOf]; omega
    · obtain rfl : i = ws.length := by omega
      rw [List.take_length] at HA
      replace HA := Lib.hid (HA.out.weak (L' := 100000) (by omega))
      clear hh c3'
      go_wp2_with (first
        | (go_at_call 28; refine (round_at HA.out HW0 hg (by omega)).mono ?_; rintro e' w' ⟨rfl, h1⟩; clear HA; have HA := Lib.hid h1; clear h1)
        | (go_at_call 27; refine (put_at _ _ HA.out HW0 hg (by omega) (by omega) (by omega)).mono ?_; rintro e' w' ⟨rfl, h1⟩; clear HA; have HA := Lib.hid h1; clear h1))
      obtain ⟨P1, hP1⟩ : ∃ P1, P1 = pad8 (Hd ++ wordsB ws) ++ le 24 0 := ⟨_, rfl⟩
      have HA1 : Hid (At w.heap.size (w.heap.size + 1) W0 110000 _ P1) := Lib.hid (by rw [hP1]; exact HA.out.weak (by omega))
      have HP1 := Lib.hid hP1
      clear hP1 HA
      go_loopw [10, 11] (fun v10 v11 wr => ∃ i : Nat, v10 = .int .i64 ((1 + nm (ls.take i) : Nat) : Int) ∧ v11 = .int .i64 i ∧ i ≤ ls.length ∧ Hid (At w.heap.size (w.heap.size + 1) W0 (110000 + 24 * i) wr (P1 ++ symsB 1 (ls.take i)))) (fun _ v11 _ => ls.length - (intOf v11).toNat)
      case atStart => exact ⟨0, by simp [nm], by go_num, Nat.zero_le _, Lib.hid (by simpa [symsB] using HA1.out)⟩
      case round =>
        obtain ⟨i, rfl, rfl, hi, HA⟩ := hrel
        have hh := HC.out _ _ _ HA.out
        have c3' := blk_cell hh.1 3
        by_cases hlt : i < ls.length
        · obtain ⟨ad, rfl, hx0, hx1⟩ := at_T47 (Kd.C_below HR3.out hh.2) (i : Int) (by omega) (by omega)
          have HX := Lib.hid (fun (W : World) (L : Nat) (bs : List Int) (h : At w.heap.size (w.heap.size + 1) W0 L W bs) => (show W.cell? ⟨w.heap.size, 3, none⟩ = some (.slice (some ad) ls.length c3) ∧ W.cell? (ad.add (i * 2)) = some (.string ls[i].f0) ∧ W.cell? ⟨(ad.add (i * 2)).block, (ad.add (i * 2)).off + 1, none⟩ = some (.int .u64 ls[i].f1) from by
            have h2 := HC.out _ _ _ h
            obtain ⟨ad', ea, h3, h4⟩ := at_T47 (Kd.C_below HR3.out h2.2) (i : Int) (by omega) (by omega)
            cases ea
            rw [rd47 ls i hlt, Int.toNat_natCast] at h3 h4
            exact ⟨blk_cell h2.1 3, h3, h4⟩))
          rw [rd47 ls i hlt, Int.toNat_natCast] at hx0 hx1
          have hxr := HF.out.a ls[i] (List.getElem_mem hlt)
          have hxs := HF.out.n ls[i] (List.getElem_mem hlt)
          have HT := Lib.hid (show P1 ++ symsB 1 (ls.take (i + 1)) = P1 ++ symsB 1 (ls.take i) ++ symB ((1 + nm (ls.take i) : Nat) : Int) ls[i] by rw [List.take_succ_eq_append_getElem hlt, symsB_snoc, List.append_assoc])
          have hnt := Lib.hid (nm_take ls i hlt)
          have hnl := nm_le (ls.take i) (fun x hx => HF.out.n x (List.mem_of_mem_take hx))
          rw [List.length_take] at hnl
          generalize ls[i] = X at *
          generalize hN : nm (ls.take i) = N at *
          have q0 : (0 : Int) ≤ i := by omega
          have q1 : (i : Int) < ls.length := by omega
          have q2 : IntKind.u64.wrap ((1 + N : Nat) : Int) = ((1 + N : Nat) : Int) := by simp [IntKind.wrap, IntKind.bits, IntKind.signed]; omega
          obtain ⟨M, hM⟩ : ∃ M : Int, M = ((1 + N : Nat) : Int) := ⟨_, rfl⟩
          have hM1 : 0 ≤ M ∧ M ≤ 6000000 := by omega
          rw [← hM] at q2 ⊢
          have HM := Lib.hid hM
          have HN2 := Lib.hid hN
          clear hh hM hN
          go_wp2_with (go_at_call 27; refine (put_at _ _ HA.out HW0 hg (by omega) (by omega) (by omega)).mono ?_; rintro e' w' ⟨rfl, h1⟩; clear HA hx0 hx1 c3'; have HA := Lib.hid h1; have hy := HX.out _ _ _ h1; have c3' := hy.1; have hx0 := hy.2.1; have hx1 := hy.2.2; clear h1 hy)
          have HA2 := Lib.hid (HA.out.weak (L' := 110000 + 24 * (i + 1)) (by omega))
          clear HA c3' hx0 hx1
          go_roundw
          case rel => exact ⟨i + 1, by rw [hnt.out, HM.out]; congr 1; omega, by go_num, hlt, Lib.hid (by
            rw [HT.out, ← HM.out]
            have := HA2.out
            simp only [symB, List.append_assoc] at this ⊢
            exact this)⟩
          case measure => simp [intOf]; omega
        · obtain rfl : i = ls.length := by omega
          rw [List.take_length] at HA
          replace HA := Lib.hid (HA.out.weak (L' := 230000) (by omega))
          clear hh
          go_wp2_with (go_at_call 27; refine (put_at _ _ HA.out HW0 hg (by omega) (by omega) (by omega)).mono ?_; rintro e' w' ⟨rfl, h1⟩; clear HA; have HA := Lib.hid h1; clear h1)
          obtain ⟨P2, hP2⟩ : ∃ P2, P2 = P1 ++ symsB 1 ls ++ le 1 0 := ⟨_, rfl⟩
          have HA2 : Hid (At w.heap.size (w.heap.size + 1) W0 240000 _ P2) := Lib.hid (by rw [hP2]; exact HA.out.weak (by omega))
          have HP2 := Lib.hid hP2
          clear hP2 HA c3'
          go_loopw [12] (fun v12 wr => ∃ i : Nat, v12 = .int .i64 i ∧ i ≤ ls.length ∧ Hid (At w.heap.size (w.heap.size + 1) W0 (240000 + 1001 * i) wr (P2 ++ namesB (ls.take i)))) (fun v12 _ => ls.length - (intOf v12).toNat)
          case atStart => exact ⟨0, by go_num, Nat.zero_le _, Lib.hid (by simpa [namesB] using HA2.out)⟩
          case round =>
            obtain ⟨i, rfl, hi, HA⟩ := hrel
            have hh := HC.out _ _ _ HA.out
            have c3' := blk_cell hh.1 3
            by_cases hlt : i < ls.length
            · obtain ⟨ad, rfl, hx0, hx1⟩ := at_T47 (Kd.C_below HR3.out hh.2) (i : Int) (by omega) (by omega)
              rw [rd47 ls i hlt, Int.toNat_natCast] at hx0
              have hxs := HF.out.n ls[i] (List.getElem_mem hlt)
              have HT := Lib.hid (show P2 ++ namesB (ls.take (i + 1)) = P2 ++ namesB (ls.take i) ++ bytesOf ls[i].f0 ++ le 1 0 by rw [List.take_succ_eq_append_getElem hlt, namesB_app]; simp [namesB])
              generalize ls[i] = X at *
              have q0 : (0 : Int) ≤ i := by omega
              have q1 : (i : Int) < ls.length := by omega
              clear hh hx1
              go_wp2_with (first
                | (go_at_call 29; refine (text_at _ HA.out HW0 hg hxs (by omega)).mono ?_; rintro e' w' ⟨rfl, h1⟩; clear HA hx0 c3'; have HA := Lib.hid h1; clear h1)
                | (go_at_call 27; refine (put_at _ _ HA.out HW0 hg (by omega) (by omega) (by omega)).mono ?_; rintro e' w' ⟨rfl, h1⟩; clear HA; have HA := Lib.hid h1; clear h1))
              go_roundw
              case rel => exact ⟨i + 1, by go_num, hlt, Lib.hid (by rw [HT.out]; exact HA.out.weak (by simp; omega))⟩
              case measure => simp [intOf]; omega
            · obtain rfl : i = ls.length := by omega
              rw [List.take_length] at HA
              replace HA := Lib.hid (HA.out.weak (L' := 6000000) (by omega))
              clear hh
              have t1 : sOf ws + 24 * ((ls.length : Int) + 1) ≤ 10000000 ∧ 0 ≤ sOf ws + 24 * ((ls.length : Int) + 1) := by omega
              go_upto_region 38 with (first
                | (go_at_call 29; refine (text_at _ HA.out HW0 hg (by decide) (by omega)).mono ?_; rintro e' w' ⟨rfl, h1⟩; clear HA; have HA := Lib.hid (h1.weak (Nat.add_le_add_left (by decide : _ ≤ 40) _)); clear h1)
                | (go_at_call 28; refine (round_at HA.out HW0 hg (by omega)).mono ?_; rintro e' w' ⟨rfl, h1⟩; clear HA; have HA := Lib.hid h1; clear h1)
                | (go_at_call 30; refine (sect_at _ _ _ _ _ _ _ _ _ HA.out HW0 hg (by omega) (by omega) (by omega) (by omega) (by omega) (by omega) (by omega) (by omega) (by omega) (by omega)).mono ?_; rintro e' w' ⟨rfl, h1⟩; clear HA; have HA := Lib.hid h1; clear h1))
              have hBel := Lib.hid (HC.out _ _ _ HA.out).2
              have HE := Lib.hid (show fileB e s ws ls = _ from by
                unfold fileB
                rw [HHd.out, ← List.append_assoc _ (le 24 0), ← HP1.out, ← List.append_assoc P1, ← List.append_assoc (P1 ++ symsB 1 ls), ← HP2.out, ← List.append_assoc P2 (namesB ls)])
              obtain ⟨FB, hFB⟩ : ∃ FB, fileB e s ws ls = FB := ⟨_, rfl⟩
              have HB : Hid (Buf w.heap.size (w.heap.size + 1) 70 _ FB) := Lib.hid (by
                have h1 := HA.out.buf
                have h2 := HE.out
                rw [hFB] at h2
                simp only [List.append_assoc, lOf, sects] at h1 h2
                rw [h2]
                exact h1)
              have HFB := Lib.hid hFB
              clear hFB HE
              obtain ⟨v, b1, b2⟩ := HB.out.out
              obtain ⟨Av, cv, rfl⟩ := slice_of b2
              have hfile := Lib.hid b2
              have cg := blk_cell b1 0
              clear b1 b2 HA HC HB
              go_wp2
              go_ret
              exact ⟨_, rfl, by rw [HFB.out]; exact hfile.out, hBel.out⟩
end Go.Proofs.Ytelheeekbihfcab.Ob
