/- The law ObjectForm, walked (given what is proved of the program's write). -/
import Derived.Test.YtelheeekbihfcabFormR
import Derived.Test.YtelheeekbihfcabFilesW
import Derived.Laws.BitsAllLaws
set_option linter.unusedVariables false
set_option linter.unusedSimpArgs false
namespace Go.Proofs.Ytelheeekbihfcab.Ob
open Go.RowKit Go.Proofs Go.Proofs.Ytelheeekbihfcab.PObjectReads Go.Proofs.YtelheeekbihfcabW.PrintWords Go.Proofs.YtelheeekbihfcabW.PrintMore Go.Proofs.YtelheeekbihfcabW.PrintLast

theorem form_len {e s : Int} {ws : List Int} {ls : List S47} (hF : Fits e s ws ls) (h1 : ws.length ≤ 2000) (h2 : ls.length ≤ 200) (h3 : ∀ x, x ∈ ls → x.f0.size ≤ 255) : (fileB e s ws ls).length ≤ 70000 ∧ 0 < (fileB e s ws ls).length := by
  have h := file_len e s ws ls
  have hnm : nm ls ≤ 256 * ls.length := by
    clear h hF h2
    induction ls with
    | nil => simp [nm]
    | cons x l ih =>
      have a := ih (fun y hy => h3 y (List.mem_cons_of_mem _ hy))
      have b := h3 x List.mem_cons_self
      simp only [nm, List.length_cons] at a ⊢
      omega
  unfold hOf sOf lOf zOf up8 at *
  omega

/-- The act with the region's slots filled. -/
def fills (a0 : Act) (v : Nat → Value) : Nat → Act
  | 0 => a0
  | k + 1 => (fills a0 v k).put (some (44 + k)) (v k)
theorem fills_get (a0 : Act) (v : Nat → Value) (hz : 62 < a0.tmps.size) : ∀ k, k ≤ 19 → (fills a0 v k).defers = a0.defers ∧ (fills a0 v k).tmps.size = a0.tmps.size ∧ ∀ n, (fills a0 v k).tmps[n]? = if 44 ≤ n ∧ n < 44 + k then some (v (n - 44)) else a0.tmps[n]?
  | 0, _ => ⟨rfl, rfl, fun n => by rw [if_neg (by omega)]; rfl⟩
  | k + 1, hk => by
    obtain ⟨h1, h2, h3⟩ := fills_get a0 v hz k (by omega)
    refine ⟨h1, by simp [fills, Act.put, h2], fun n => ?_⟩
    simp only [fills, Act.put]
    by_cases hn : n = 44 + k
    · subst hn
      rw [Array.getElem?_setIfInBounds_self_of_lt (by rw [h2]; omega), if_pos (by omega), show 44 + k - 44 = k by omega]
    · rw [Array.getElem?_setIfInBounds_ne (by omega), h3 n]
      by_cases hc : 44 ≤ n ∧ n < 44 + k
      · rw [if_pos hc, if_pos (by omega)]
      · rw [if_neg hc, if_neg (by omega)]
theorem act_eq {a0 a : Act} {v : Nat → Value} (h : ActI a0 (fun _ => true) v a) (hz : 62 < a0.tmps.size) : a = fills a0 v 19 := by
  obtain ⟨h1, h2, h3⟩ := fills_get a0 v hz 19 (Nat.le_refl _)
  have ht : a.tmps = (fills a0 v 19).tmps := by
    apply Array.ext_getElem?
    intro n
    rw [h3 n]
    by_cases hc : 44 ≤ n ∧ n < 44 + 19
    · rw [if_pos hc]
      have := h.f (n - 44) (by omega) rfl
      rw [show 44 + (n - 44) = n by omega] at this
      exact this
    · rw [if_neg hc]
      exact h.o n (by omega)
  have hd : a.defers = (fills a0 v 19).defers := by rw [h1, h.d]
  cases a
  cases hq : fills a0 v 19
  rw [hq] at ht hd
  simp only at ht hd
  rw [ht, hd]
theorem region_named {P : Program} {Q : Exit → Act → World → Prop} {id : Nat} {ops ops' : Array Oper} {a : Act} {w : World} (h : ops = ops') (hh : (Code.region id ops' true).wp P Q a w) : (Code.region id ops true).wp P Q a w := by
  subst h
  exact hh

theorem kk_ok (at_ : Int) (n : Nat) (h0 : 0 < n) (h1 : n ≤ 70000) : ∃ kk : Nat, wrap64 ((IntKind.u64.wrap at_).tmod (n : Int)) = (kk : Int) ∧ kk < n := by
  have hu : 0 ≤ IntKind.u64.wrap at_ := by
    simp [IntKind.wrap, IntKind.bits, IntKind.signed]
    omega
  generalize IntKind.u64.wrap at_ = u at hu
  have h2 : u.tmod (n : Int) = u % (n : Int) := Int.tmod_eq_emod_of_nonneg hu
  have h3 : 0 ≤ u % (n : Int) := Int.emod_nonneg _ (by omega)
  have h4 : u % (n : Int) < n := Int.emod_lt_of_pos _ (by omega)
  rw [h2]
  generalize u % (n : Int) = r at h3 h4
  obtain ⟨kk, rfl⟩ := Int.eq_ofNat_of_zero_le h3
  refine ⟨kk, by rw [w_small _ (by omega) (by omega)], by omega⟩
/-- The three other files. -/
def csF (FB : List Int) (x : Int) : Nat → List Int
  | 0 => FB ++ [x]
  | 1 => FB.take (FB.length - 1)
  | _ => FB

theorem conv_n {w : World} {A : Option Addr} {c n : Nat} {xs : List Int} (hn : xs.length = n) (h : Kd.C (Kd.int .u8) w A xs.length xs) : (convert 29 9 (.slice A n c)).run Try.prog w = .ok (.string (strOfNums xs)) w := by
  subst hn
  exact Kd.C_string (P := Try.prog) (A := A) (c := c) Try.underlying29 Try.underlying5 Try.underlying9 h
theorem xor_byt (a b : Int) (ha : 0 ≤ a ∧ a < 256) (hb : 0 ≤ b ∧ b < 256) : 0 ≤ bits BinOp.xor IntKind.u8 a b ∧ bits BinOp.xor IntKind.u8 a b < 256 := by
  rw [u8_xor a b ha.1 ha.2 hb.1 hb.2]
  have h : a.toNat ^^^ b.toNat < 2 ^ 8 := Nat.xor_lt_two_pow (by omega) (by omega)
  omega
theorem rdOf_get (l : List Int) (k : Nat) (h : k < l.length) : rdOf (0 : Int) l (k : Int) = l[k] := by
  unfold rdOf
  rw [Int.toNat_natCast, List.getD_eq_getElem?_getD, List.getElem?_eq_getElem h]
  rfl
theorem csF_two {FB : List Int} {x : Int} {i : Nat} (h : (csF FB x i).length = FB.length) (h0 : 0 < FB.length) (hi : i < 3) : i = 2 := by
  rcases i with _ | _ | _ | i
  · simp [csF] at h
  · simp [csF] at h; omega
  · rfl
  · omega
theorem csF_len {FB : List Int} {x : Int} {i : Nat} (h : FB.length ≤ 70000) : (csF FB x i).length ≤ 80000 := by
  unfold csF
  split <;> (try simp) <;> omega
theorem csF_byt {FB : List Int} {x : Int} {i : Nat} {e s : Int} {ws : List Int} {ls : List S47} (h : ReadOk FB e s ws ls) (hx : 0 ≤ x ∧ x < 256) : Byt (csF FB x i) := by
  have hb : Byt FB := by rw [← h.2.2]; exact byt_file _ _ _ _
  unfold csF
  split
  · exact byt_app hb (fun y hy => by rw [List.mem_singleton.1 hy]; exact hx)
  · exact fun y hy => hb y (List.mem_of_mem_take hy)
  · exact hb
/-- Unlike files are of unlike objects, and like ones of one. -/
theorem same_bytes {l m : List Int} {e s : Int} {ws : List Int} {ls : List S47} {e' s' : Int} {ws' : List Int} {ls' : List S47} {bs : Bool} (h' : ReadOk l e' s' ws' ls') (h : ReadOk m e s ws ls) (hl : l.length ≤ 80000) (hm : m.length ≤ 80000) (hb : bs = true ↔ e' = e ∧ s' = s ∧ ws' = ws ∧ ls' = ls) : ((strOfNums l).toList == (strOfNums m).toList) = bs := by
  have hbl : Byt l := by rw [← h'.2.2]; exact byt_file _ _ _ _
  have hbm : Byt m := by rw [← h.2.2]; exact byt_file _ _ _ _
  by_cases he : l = m
  · subst he
    have h1 := evn_one (file_guess h'.1 h'.2.1 hl h'.2.2) (file_guess h.1 h.2.1 hm h.2.2)
    simp only [Prod.mk.injEq, and_true] at h1
    rw [hb.2 h1]
    exact beq_self_eq_true _
  · rw [str_ne hbl hbm he]
    rcases bs with _ | _
    · rfl
    · obtain ⟨rfl, rfl, rfl, rfl⟩ := hb.1 rfl
      exact absurd (h'.2.2.symm.trans h.2.2) he
theorem rows_up {w : World} {base i : Nat} {vs : Nat → Value} {cs : Nat → List Int} (h : ∀ j, i ≤ j → j < 3 → RB w base (vs j) (cs j)) : ∀ j, i + 1 ≤ j → j < 3 → RB w base (vs j) (cs j) := fun j h1 h2 => h j (by omega) h2
theorem rows_on {w w' : World} {base i : Nat} {vs : Nat → Value} {cs : Nat → List Int} (h : ∀ j, i + 1 ≤ j → j < 3 → RB w base (vs j) (cs j)) (hb : Below w.heap.size w w') : ∀ j, i + 1 ≤ j → j < 3 → RB w' base (vs j) (cs j) := fun j h1 h2 => Kd.R_below (h j h1 h2) hb

set_option maxRecDepth 100000 in
set_option maxHeartbeats 8000000 in
theorem object_form (HWO' : WritesO) (e s : Int) (A2 : Option Addr) (c2 : Nat) (ws : List Int) (A3 : Option Addr) (c3 : Nat) (ls : List S47) (at_ x : Int) (w : World) (hr2 : Kd.C (Kd.int .u32) w A2 ws.length ws) (hc2 : ws.length ≤ c2) (hr3 : Kd.C k47 w A3 ls.length ls) (hc3 : ls.length ≤ c3) (hI : InR e s ws ls) (hx : 0 ≤ x ∧ x < 256) :
    Calls Try.prog 6 #[.agg #[.int .u64 e, .int .u64 s, .slice A2 ws.length c2, .slice A3 ls.length c3], .int .i64 at_, .int .u8 x] w fun e' w' => e' = .returned (.bool true) ∧ Below w.heap.size w w' := by
  have HWO := Lib.hid HWO'
  clear HWO'
  obtain ⟨b, ⟨kl, hkl⟩, hlt⟩ := light_f e s ws ls
  have HLI := Lib.hid fun W => fun hW : Below w.heap.size w W => postbaglaw30_light.calls kl e s A2 c2 ws A3 c3 ls b W (Kd.C_below hr2 hW) hc2 (Kd.C_below hr3 hW) hc3 hkl
  have X0 := Lib.hid (blk_new w (.cells #[.int .u64 e, .int .u64 s, .slice A2 ws.length c2, .slice A3 ls.length c3] 26))
  have B0 := Lib.hid (below_alloc (Below.refl _ w) (.cells #[.int .u64 e, .int .u64 s, .slice A2 ws.length c2, .slice A3 ls.length c3] 26))
  cases b with
  | false =>
    clear hr2 hr3 hkl hlt
    go_enter Try.func6, Try.ntmps6
    go_wp2_with (first
      | (go_at_call 7; refine (HLI.out _ B0.out).mono ?_; rintro e' w1 ⟨rfl, hd⟩; have B1 := Lib.hid (below_step B0.out hd); clear hd)
      | (go_at_call 8; refine (lives_any HWO.out _).mono ?_; rintro e' w2 ⟨rfl, hd⟩; have B2 := Lib.hid (below_step B1.out hd); clear hd))
    go_ret
    exact ⟨rfl, B2.out⟩
  | true =>
    obtain ⟨hl1, hl2, hl3⟩ := hlt rfl
    have hF : Fits e s ws ls := ⟨hI.e, hI.s, by omega, by omega, hI.w, hI.a, fun x hx => by have := hl3 x hx; omega⟩
    obtain ⟨gb, ⟨k1, hk1⟩, ⟨k2, hk2⟩, _⟩ := goods e s ws ls hF.wn hF.ln hF.n
    have HFO := Lib.hid fun W => fun hW : Below w.heap.size w W => fileO HWO.out gb k1 e s A2 c2 ws A3 c3 ls W (Kd.C_below hr2 hW) hc2 (Kd.C_below hr3 hW) hc3 hF hk1
    cases gb with
    | false =>
      have hFB : fileOr false e s ws ls = [] := rfl
      have hEB : errOf false = 2 := rfl
      rw [hFB, hEB] at HFO
      clear hr2 hr3 hkl hlt hk1 hk2 hF hI hl1 hl2 hl3 hFB hEB
      go_enter Try.func6, Try.ntmps6
      go_wp2_with (first
        | (go_at_call 7; refine (HLI.out _ B0.out).mono ?_; rintro e' w1 ⟨rfl, hd⟩; have B1 := Lib.hid (below_step B0.out hd); have X1 := Lib.hid (blk_below X0.out hd); have k0 := blk_cell X1.out 0; have k1 := blk_cell X1.out 1; have k2 := blk_cell X1.out 2; have k3 := blk_cell X1.out 3; clear hd)
        | (go_at_call 9; refine (HFO.out _ B1.out).mono ?_; rintro e' w2 ⟨v1, rfl, ho1, hd⟩; clear k0 k1 k2 k3; obtain ⟨A4, c4, rfl⟩ := slice_of ho1; have B2 := Lib.hid (below_step B1.out hd); clear hd ho1)
        | (go_at_call 8; refine (lives_any HWO.out _).mono ?_; rintro e' w4 ⟨rfl, hd⟩; have B4 := Lib.hid (below_step B2.out hd); clear hd))
      go_ret
      exact ⟨rfl, B4.out⟩
    | true =>
      obtain ⟨hn1, hn2, hn3, hn4⟩ := good_names hk1
      obtain ⟨hlen, hpos⟩ := form_len hF hl1 hl2 (fun x hx => (hn4 x hx).2)
      have hFB : fileOr true e s ws ls = fileB e s ws ls := rfl
      have hEB : errOf true = 0 := rfl
      rw [hFB, hEB] at HFO
      have hRO : ReadOk (fileB e s ws ls) e s ws ls := ⟨hF, ⟨k1, hk1⟩, rfl⟩
      obtain ⟨FB, hfb⟩ : ∃ FB, fileB e s ws ls = FB := ⟨_, rfl⟩
      rw [hfb] at HFO hRO hlen hpos
      have HR2 := Lib.hid hr2
      have HR3 := Lib.hid hr3
      have HRO := Lib.hid hRO
      have HLEN := Lib.hid hlen
      have HPOS := Lib.hid hpos
      have hq1 : ¬ ((FB.length : Int) = 0) := by omega
      have hq2 : (FB.length : Int) ≤ 70000 := by omega
      clear hr2 hr3 hkl hlt hk1 hk2 hF hI hl1 hl2 hl3 hFB hEB hn1 hn2 hn3 hn4 hfb hRO hlen hpos
      go_enter Try.func6, Try.ntmps6
      go_upto_region 7 with (first
        | (go_at_call 7; refine (HLI.out _ B0.out).mono ?_; rintro e' w1 ⟨rfl, hd⟩; have B1 := Lib.hid (below_step B0.out hd); have X1 := Lib.hid (blk_below X0.out hd); have k0 := blk_cell X1.out 0; have k1 := blk_cell X1.out 1; have k2 := blk_cell X1.out 2; have k3 := blk_cell X1.out 3; clear hd)
        | (go_at_call 9; refine (HFO.out _ B1.out).mono ?_; rintro e' W1 ⟨v1, rfl, ho1, hd⟩; clear k0 k1 k2 k3; have hC := own_reads ho1; obtain ⟨A4, c4, rfl, hC1⟩ := hC; have hcap := own_cap ho1; have HC := Lib.hid (Kd.C_of_reads (h1 := fun _ => rfl) hC1); have B2 := Lib.hid (below_step B1.out hd); have X2 := Lib.hid (blk_below X1.out hd); clear hd ho1 hC1))
      obtain ⟨kk, hkk, hkl⟩ := kk_ok at_ FB.length HPOS.out HLEN.out
      simp only [hkk]
      refine region_named (ops' := opsOf Try.f6 7) (by kernel_rfl) ?_
      refine reg7 _ _ A4 c4 FB x (by simp) rfl rfl HC.out hcap HPOS.out (by have := HLEN.out; omega) ?_
      rintro a w7 ⟨v, hA, hp, hR, h16, _, hB7⟩
      obtain rfl := act_eq hA (by simp)
      clear hA
      obtain ⟨g60, hg1, hg2, hg3⟩ := h16 rfl
      have hv17 := hp 17 _ rfl rfl
      have hv18 := hp 18 _ rfl rfl
      have hr5 := hR.r 5 rfl
      have hr12 := hR.r 12 rfl
      have hr15 := hR.r 15 rfl
      simp only [fills, Act.put, List.setIfInBounds_toArray, List.set_cons_zero, List.set_cons_succ]
      rw [hg1, hv17, hv18]
      clear hp hR h16 hv17 hv18 hg1 hkk
      obtain ⟨vs, hvs0, hvs1, hvs2⟩ : ∃ vs : Nat → Value, vs 0 = v 5 ∧ vs 1 = v 12 ∧ vs 2 = v 15 := ⟨fun j => if j = 0 then v 5 else if j = 1 then v 12 else v 15, rfl, rfl, rfl⟩
      rw [← hvs0, ← hvs1, ← hvs2] at hg3
      rw [← hvs0] at hr5
      rw [← hvs1] at hr12
      rw [← hvs2] at hr15
      have HROWS := Lib.hid (show ∀ j, 0 ≤ j → j < 3 → RB w7 W1.heap.size (vs j) (csF FB x j) from fun j _ hj => by
        rcases j with _ | _ | _ | j
        · exact hr5
        · exact hr12
        · exact hr15
        · omega)
      have HG := Lib.hid hg3
      have HBW := Lib.hid hB7
      clear hr5 hr12 hr15 hg3 hB7
      go_wp2
      go_loopw [62] (fun v62 wr => ∃ i : Nat, v62 = .int .i64 i ∧ i ≤ 3 ∧ Hid (∀ j, i ≤ j → j < 3 → RB wr W1.heap.size (vs j) (csF FB x j)) ∧ Hid (wr.heap[g60]? = some (.cells #[vs 0, vs 1, vs 2] 29 (0, 0))) ∧ Hid (Below W1.heap.size W1 wr)) (fun v62 _ => 3 - (intOf v62).toNat)
      case atStart => exact ⟨0, by go_num, by omega, HROWS, HG, HBW⟩
      case round =>
        obtain ⟨i, rfl, hi, HRW, HGW, HBR⟩ := hrel
        clear HROWS HG HBW
        by_cases hlt : i < 3
        · have q1 : (i : Int) < 3 := by omega
          have q0 : (0 : Int) ≤ i := by omega
          have hRi := HRW.out i (Nat.le_refl _) hlt
          have ki : wr.cell? ⟨g60, i, none⟩ = some (vs i) := by
            have h := HGW.out
            rcases i with _ | _ | _ | i
            · exact blk_cell h 0
            · exact blk_cell h 1
            · exact blk_cell h 2
            · omega
          by_cases hN : (csF FB x i).length = FB.length
          · obtain rfl : i = 2 := csF_two hN HPOS.out hlt
            have hRi2 : RB wr W1.heap.size (vs 2) FB := hRi
            obtain ⟨g, cap, hvi, hgb, hgl, cells, hgc⟩ := Kd.R_form hRi2 HPOS.out
            have hne := Kd.R_ne hRi2 HGW.out (by decide)
            rw [hvi] at ki hRi2 hne
            have hne' : g60 ≠ g := fun h => hne (by rw [h]; rfl)
            obtain ⟨kcell, kfr⟩ := Kd.R_cell (0 : Int) hRi2 (kk : Int) (Int.natCast_nonneg kk) (by omega)
            rw [Int.toNat_natCast] at kcell kfr
            obtain ⟨y0, hy0⟩ : ∃ y0, rdOf (0 : Int) FB (kk : Int) = y0 := ⟨_, rfl⟩
            rw [hy0] at kcell
            have qk : (kk : Int) < (FB.length : Int) := by omega
            have qk0 : (0 : Int) ≤ (kk : Int) := Int.natCast_nonneg kk
            have HR := Lib.hid hRi2
            have HNE := Lib.hid hne'
            have HGB := Lib.hid hgb
            clear hRi hvi hne hne' hgc hgl hN hRi2 hgb
            have hy0r : 0 ≤ y0 ∧ y0 < 256 := by
              rw [← hy0, rdOf_get FB kk hkl]
              have hbF : Byt FB := by rw [← HRO.out.2.2]; exact byt_file _ _ _ _
              exact hbF _ (List.getElem_mem hkl)
            have hYr := xor_byt y0 x hy0r hx
            clear hy0 hy0r
            go_upto_region 12 with fail
            generalize bits BinOp.xor IntKind.u8 y0 x = Y at *
            have hput := (Kd.R_put HR.out (kk : Int) Y).1
            rw [Int.toNat_natCast] at hput
            obtain ⟨hlen0, hci, hCn⟩ := Kd.R_reads' hput
            clear hlen0
            have hBS := HBR.out.setCell (p := ⟨g, kk, none⟩) HGB.out (.int .u8 Y)
            have hGX : (wr.setCell ⟨g, kk, none⟩ (.int .u8 Y)).heap[g60]? = some (.cells #[vs 0, vs 1, vs 2] 29 (0, 0)) := (Below.heap_setCell wr ⟨g, kk, none⟩ (.int .u8 Y) g60 HNE.out).trans HGW.out
            have hbF : Byt FB := by rw [← HRO.out.2.2]; exact byt_file _ _ _ _
            have HBY := Lib.hid (show Byt (FB.set kk Y) from fun q hq => by
              rcases List.mem_or_eq_of_mem_set hq with h | h
              · exact hbF q h
              · rw [h]; exact hYr)
            have HLN := Lib.hid (show (FB.set kk Y).length ≤ 80000 by rw [List.length_set]; have := HLEN.out; omega)
            have hcl := Lib.hid (show (FB.set kk Y).length = FB.length from List.length_set)
            have HCN := Lib.hid hCn
            have BHS := Lib.hid hBS
            have HGX := Lib.hid hGX
            clear hput hCn hBS hGX HBR HGW kcell kfr HNE HGB HR hbF hYr ki HRW
            generalize wr.setCell ⟨g, kk, none⟩ (.int .u8 Y) = wS at *
            have HROWX := Lib.hid (show ∀ j, 2 + 1 ≤ j → j < 3 → RB wS W1.heap.size (vs j) (csF FB x j) from fun j h1 h2 => by omega)
            generalize FB.set kk Y = cN at *
            rw [← hcl.out] at hci
            have hln13 : cN.length ≤ 80000 := HLN.out
            rcases read_any HWO.out hln13 HBY.out with ⟨e', s', ws', ls', hRO', h13⟩ | ⟨hno, h13⟩
            · have h13' := h13 (some ⟨g, 0, none⟩) cap wS HCN.out hci
              rw [hcl.out] at h13'
              have H13 := Lib.hid h13'
              obtain ⟨hF', ⟨kg', hg'⟩, hf'⟩ := hRO'
              have HFO2 := Lib.hid fun (Ax : Option Addr) (cx : Nat) (Ay : Option Addr) (cy : Nat) (W : World) (hx : Kd.C (Kd.int .u32) W Ax ws'.length ws') (hcx : ws'.length ≤ cx) (hy : Kd.C k47 W Ay ls'.length ls') (hcy : ls'.length ≤ cy) => fileO HWO.out true kg' e' s' Ax cx ws' Ay cy ls' W hx hcx hy hcy hF' hg'
              have hFB' : fileOr true e' s' ws' ls' = cN := hf'
              have hEB' : errOf true = 0 := rfl
              rw [hFB', hEB'] at HFO2
              obtain ⟨bs, ⟨ks, hks⟩, hbs⟩ := same_f e' s' ws' ls' e s ws ls hF'.ln hF'.wn
              have hbc : ((strOfNums cN).toList == (strOfNums FB).toList) = bs := same_bytes ⟨hF', ⟨kg', hg'⟩, hf'⟩ HRO.out hln13 (by have := HLEN.out; omega) hbs
              have HSM0 := Lib.hid fun (Ax : Option Addr) (cx : Nat) (Ay : Option Addr) (cy : Nat) (W : World) (hx : Kd.C (Kd.int .u32) W Ax ws'.length ws') (hcx : ws'.length ≤ cx) (hy : Kd.C k47 W Ay ls'.length ls') (hcy : ls'.length ≤ cy) (hW : Below w.heap.size w W) => postbagref30_Same.calls ks e' s' Ax cx ws' Ay cy ls' e s A2 c2 ws A3 c3 ls bs W hx hcx hy hcy (Kd.C_below HR2.out hW) hc2 (Kd.C_below HR3.out hW) hc3 hks
              clear h13 h13' hF' hg' hf' hFB' hEB' hbs hks
              go_upto_region 13 with (go_at_call 13; refine H13.out.mono ?_; clear H13; rintro e2 W3 ⟨v2, v3, rfl, h2, h3, hd⟩; obtain ⟨A5, c5, rfl, hc5, hC5⟩ := Kd.R_reads h2; obtain ⟨A6, c6, rfl, hc6, hC6⟩ := Kd.R_reads h3; have BS3 := Lib.hid hd; have HC5 := Lib.hid hC5; have HC6 := Lib.hid hC6; clear hd h2 h3 hC5 hC6)
              have Y1 := Lib.hid (blk_new W3 (.cells #[.int .u64 e', .int .u64 s', .slice A5 ws'.length c5, .slice A6 ls'.length c6] 26))
              have hbl := below_alloc (Below.refl _ W3) (.cells #[.int .u64 e', .int .u64 s', .slice A5 ws'.length c5, .slice A6 ls'.length c6] 26)
              have BS4 := Lib.hid (below_step BS3.out hbl)
              have D5 := Lib.hid (Kd.C_below HC5.out hbl)
              have D6 := Lib.hid (Kd.C_below HC6.out hbl)
              generalize W3.alloc (.cells #[.int .u64 e', .int .u64 s', .slice A5 ws'.length c5, .slice A6 ls'.length c6] 26) = W4 at *
              generalize W3.heap.size = g12 at *
              clear hbl HC5 HC6 BS3
              have y0 := blk_cell Y1.out 0
              have y1 := blk_cell Y1.out 1
              have y2 := blk_cell Y1.out 2
              have y3 := blk_cell Y1.out 3
              go_upto_region 15 with (go_at_call 9; refine (HFO2.out A5 c5 A6 c6 _ D5.out hc5 D6.out hc6).mono ?_; clear y0 y1 y2 y3; rintro e2 W5 ⟨v1, rfl, ho1, hd⟩; have hC := own_reads ho1; obtain ⟨A7, c7, rfl, hC1⟩ := hC; have HO7 := Lib.hid ho1; have BS5 := Lib.hid (below_step BS4.out hd); have E5 := Lib.hid (Kd.C_below D5.out hd); have E6 := Lib.hid (Kd.C_below D6.out hd); have Y5 := Lib.hid (blk_below Y1.out hd); clear hd ho1 hC1)
              have HC15 := Lib.hid (fun (W : World) (h : Below W5.heap.size W5 W) => (show W.cell? ⟨g12, 0, none⟩ = some (.int .u64 e') ∧ W.cell? ⟨g12, 1, none⟩ = some (.int .u64 s') ∧ W.cell? ⟨g12, 2, none⟩ = some (.slice A5 ws'.length c5) ∧ W.cell? ⟨g12, 3, none⟩ = some (.slice A6 ls'.length c6) ∧ W.cell? ⟨w.heap.size, 0, none⟩ = some (.int .u64 e) ∧ W.cell? ⟨w.heap.size, 1, none⟩ = some (.int .u64 s) ∧ W.cell? ⟨w.heap.size, 2, none⟩ = some (.slice A2 ws.length c2) ∧ W.cell? ⟨w.heap.size, 3, none⟩ = some (.slice A3 ls.length c3) ∧ (convert 29 9 (.slice A7 cN.length c7)).run Try.prog W = .ok (.string (strOfNums cN)) W ∧ (convert 29 9 (.slice (some ⟨g, 0, none⟩) FB.length cap)).run Try.prog W = .ok (.string (strOfNums cN)) W ∧ (convert 29 9 (.slice A4 FB.length c4)).run Try.prog W = .ok (.string (strOfNums FB)) W from
                ⟨blk_cell (blk_below Y5.out h) 0, blk_cell (blk_below Y5.out h) 1, blk_cell (blk_below Y5.out h) 2, blk_cell (blk_below Y5.out h) 3, blk_cell (blk_below X2.out (below_step BHS.out (below_step BS5.out h))) 0, blk_cell (blk_below X2.out (below_step BHS.out (below_step BS5.out h))) 1, blk_cell (blk_below X2.out (below_step BHS.out (below_step BS5.out h))) 2, blk_cell (blk_below X2.out (below_step BHS.out (below_step BS5.out h))) 3, own_string (src := 29) (dst := 9) Try.underlying29 Try.underlying5 Try.underlying9 (own_move HO7.out (fun k hk => h.block k (own_lt HO7.out k hk))), conv_n hcl.out (Kd.C_below HCN.out (below_step BS5.out h)), Kd.C_string (P := Try.prog) (A := A4) (c := c4) Try.underlying29 Try.underlying5 Try.underlying9 (Kd.C_below HC.out (below_step BHS.out (below_step BS5.out h)))⟩))
              have HSM := Lib.hid (fun (W : World) (h : Below W5.heap.size W5 W) => HSM0.out A5 c5 A6 c6 W (Kd.C_below E5.out h) hc5 (Kd.C_below E6.out h) hc6 (below_step B2.out (below_step BHS.out (below_step BS5.out h))))
              have BW0 := Lib.hid (Below.refl W5.heap.size W5).drew
              refine start_ (n := 20) (S := fun w' => w'.cell? ⟨g12, 0, none⟩ = some (.int .u64 e') ∧ w'.cell? ⟨g12, 1, none⟩ = some (.int .u64 s') ∧ w'.cell? ⟨g12, 2, none⟩ = some (.slice A5 ws'.length c5) ∧ w'.cell? ⟨g12, 3, none⟩ = some (.slice A6 ls'.length c6) ∧ w'.cell? ⟨w.heap.size, 0, none⟩ = some (.int .u64 e) ∧ w'.cell? ⟨w.heap.size, 1, none⟩ = some (.int .u64 s) ∧ w'.cell? ⟨w.heap.size, 2, none⟩ = some (.slice A2 ws.length c2) ∧ w'.cell? ⟨w.heap.size, 3, none⟩ = some (.slice A3 ls.length c3) ∧ (convert 29 9 (.slice A7 cN.length c7)).run Try.prog w' = .ok (.string (strOfNums cN)) w' ∧ (convert 29 9 (.slice (some ⟨g, 0, none⟩) FB.length cap)).run Try.prog w' = .ok (.string (strOfNums cN)) w' ∧ (convert 29 9 (.slice A4 FB.length c4)).run Try.prog w' = .ok (.string (strOfNums FB)) w') (ds := []) #[false, false, false, false, false, false, false, false, false, false, false, false, false, false, false, false, false, false, false, false] (by kernel_rfl) rfl rfl ⟨(HC15.out _ BW0.out).1, (HC15.out _ BW0.out).2.1, (HC15.out _ BW0.out).2.2.1, (HC15.out _ BW0.out).2.2.2.1, (HC15.out _ BW0.out).2.2.2.2.1, (HC15.out _ BW0.out).2.2.2.2.2.1, (HC15.out _ BW0.out).2.2.2.2.2.2.1, (HC15.out _ BW0.out).2.2.2.2.2.2.2.1, (HC15.out _ BW0.out).2.2.2.2.2.2.2.2.1, (HC15.out _ BW0.out).2.2.2.2.2.2.2.2.2.1, (HC15.out _ BW0.out).2.2.2.2.2.2.2.2.2.2⟩ (fun hHeld => ?_)
              refine pure_ (i := 0) (N := some 90) (v := ?_) (a' := ?_) #[true, false, false, false, false, false, false, false, false, false, false, false, false, false, false, false, false, false, false, false] rfl rfl (by kernel_rfl) (fun _ _ _ h => h) (Or.inl ⟨by rfl, ?_⟩) ?_ ?_
              rotate_left
              · intro w'
                go_simp
                with_reducible rfl
              rotate_left
              · simp only [Act.put, List.setIfInBounds_toArray, List.set_cons_zero, List.set_cons_succ, i64_w, i32_w]
                rfl
              refine pure_ (i := 1) (N := some 91) (v := ?_) (a' := ?_) #[true, true, false, false, false, false, false, false, false, false, false, false, false, false, false, false, false, false, false, false] rfl rfl (by kernel_rfl) (fun _ _ _ h => h) (Or.inl ⟨by rfl, ?_⟩) ?_ ?_
              rotate_left
              · intro w'
                go_simp
                with_reducible rfl
              rotate_left
              · simp only [Act.put, List.setIfInBounds_toArray, List.set_cons_zero, List.set_cons_succ, i64_w, i32_w]
                rfl
              refine pure_ (i := 2) (N := some 92) (v := ?_) (a' := ?_) #[true, true, true, false, false, false, false, false, false, false, false, false, false, false, false, false, false, false, false, false] rfl rfl (by kernel_rfl) (fun _ _ _ h => h) (Or.inl ⟨by rfl, ?_⟩) ?_ ?_
              rotate_left
              · intro w'
                go_simp
                with_reducible rfl
              rotate_left
              · simp only [Act.put, List.setIfInBounds_toArray, List.set_cons_zero, List.set_cons_succ, i64_w, i32_w]
                rfl
              refine pure_ (i := 3) (N := some 93) (v := ?_) (a' := ?_) #[true, true, true, true, false, false, false, false, false, false, false, false, false, false, false, false, false, false, false, false] rfl rfl (by kernel_rfl) (fun _ _ _ h => h) (Or.inl ⟨by rfl, ?_⟩) ?_ ?_
              rotate_left
              · intro w'
                go_simp
                with_reducible rfl
              rotate_left
              · simp only [Act.put, List.setIfInBounds_toArray, List.set_cons_zero, List.set_cons_succ, i64_w, i32_w]
                rfl
              refine pure_ (i := 5) (N := some 95) (v := ?_) (a' := ?_) #[true, true, true, true, false, true, false, false, false, false, false, false, false, false, false, false, false, false, false, false] rfl rfl (by kernel_rfl) (fun _ _ _ h => h) (Or.inl ⟨by rfl, ?_⟩) ?_ ?_
              rotate_left
              · intro w'
                go_simp
                with_reducible rfl
              rotate_left
              · simp only [Act.put, List.setIfInBounds_toArray, List.set_cons_zero, List.set_cons_succ, i64_w, i32_w]
                rfl
              refine take_ (i := 4) (N := some 94) (v := ?_) (a' := ?_) #[true, true, true, true, true, true, false, false, false, false, false, false, false, false, false, false, false, false, false, false] rfl rfl (by kernel_rfl) (fun _ _ _ h => h) (Or.inl ⟨by rfl, ?_⟩) hHeld ?_ ?_
              rotate_left
              · rintro w' ⟨s0, s1, s2, s3, s4, s5, s6, s7, s8, s9, s10⟩
                go_simp
                with_reducible rfl
              rotate_left
              · simp only [Act.put, List.setIfInBounds_toArray, List.set_cons_zero, List.set_cons_succ, i64_w, i32_w]
                rfl
              refine take_ (i := 6) (N := some 96) (v := ?_) (a' := ?_) #[true, true, true, true, true, true, true, false, false, false, false, false, false, false, false, false, false, false, false, false] rfl rfl (by kernel_rfl) (fun _ _ _ h => h) (Or.inl ⟨by rfl, ?_⟩) hHeld ?_ ?_
              rotate_left
              · rintro w' ⟨s0, s1, s2, s3, s4, s5, s6, s7, s8, s9, s10⟩
                go_simp
                with_reducible rfl
              rotate_left
              · simp only [Act.put, List.setIfInBounds_toArray, List.set_cons_zero, List.set_cons_succ, i64_w, i32_w]
                rfl
              refine pure_ (i := 7) (N := some 97) (v := ?_) (a' := ?_) #[true, true, true, true, true, true, true, true, false, false, false, false, false, false, false, false, false, false, false, false] rfl rfl (by kernel_rfl) (fun _ _ _ h => h) (Or.inl ⟨by rfl, ?_⟩) ?_ ?_
              rotate_left
              · intro w'
                go_simp
                with_reducible rfl
              rotate_left
              · simp only [Act.put, List.setIfInBounds_toArray, List.set_cons_zero, List.set_cons_succ, i64_w, i32_w]
                rfl
              refine pure_ (i := 8) (N := some 98) (v := ?_) (a' := ?_) #[true, true, true, true, true, true, true, true, true, false, false, false, false, false, false, false, false, false, false, false] rfl rfl (by kernel_rfl) (fun _ _ _ h => h) (Or.inl ⟨by rfl, ?_⟩) ?_ ?_
              rotate_left
              · intro w'
                go_simp
                with_reducible rfl
              rotate_left
              · simp only [Act.put, List.setIfInBounds_toArray, List.set_cons_zero, List.set_cons_succ, i64_w, i32_w]
                rfl
              refine pure_ (i := 9) (N := some 99) (v := ?_) (a' := ?_) #[true, true, true, true, true, true, true, true, true, true, false, false, false, false, false, false, false, false, false, false] rfl rfl (by kernel_rfl) (fun _ _ _ h => h) (Or.inl ⟨by rfl, ?_⟩) ?_ ?_
              rotate_left
              · intro w'
                go_simp
                with_reducible rfl
              rotate_left
              · simp only [Act.put, List.setIfInBounds_toArray, List.set_cons_zero, List.set_cons_succ, i64_w, i32_w]
                rfl
              refine pure_ (i := 13) (N := some 103) (v := ?_) (a' := ?_) #[true, true, true, true, true, true, true, true, true, true, false, false, false, true, false, false, false, false, false, false] rfl rfl (by kernel_rfl) (fun _ _ _ h => h) (Or.inl ⟨by rfl, ?_⟩) ?_ ?_
              rotate_left
              · intro w'
                go_simp
                with_reducible rfl
              rotate_left
              · simp only [Act.put, List.setIfInBounds_toArray, List.set_cons_zero, List.set_cons_succ, i64_w, i32_w]
                rfl
              refine pure_ (i := 15) (N := some 105) (v := ?_) (a' := ?_) #[true, true, true, true, true, true, true, true, true, true, false, false, false, true, false, true, false, false, false, false] rfl rfl (by kernel_rfl) (fun _ _ _ h => h) (Or.inl ⟨by rfl, ?_⟩) ?_ ?_
              rotate_left
              · intro w'
                go_simp
                with_reducible rfl
              rotate_left
              · simp only [Act.put, List.setIfInBounds_toArray, List.set_cons_zero, List.set_cons_succ, i64_w, i32_w]
                rfl
              refine take_ (i := 10) (N := some 100) (v := ?_) (a' := ?_) #[true, true, true, true, true, true, true, true, true, true, true, false, false, true, false, true, false, false, false, false] rfl rfl (by kernel_rfl) (fun _ _ _ h => h) (Or.inl ⟨by rfl, ?_⟩) hHeld ?_ ?_
              rotate_left
              · rintro w' ⟨s0, s1, s2, s3, s4, s5, s6, s7, s8, s9, s10⟩
                go_simp
                with_reducible rfl
              rotate_left
              · simp only [Act.put, List.setIfInBounds_toArray, List.set_cons_zero, List.set_cons_succ, i64_w, i32_w]
                rfl
              refine take_ (i := 11) (N := some 101) (v := ?_) (a' := ?_) #[true, true, true, true, true, true, true, true, true, true, true, true, false, true, false, true, false, false, false, false] rfl rfl (by kernel_rfl) (fun _ _ _ h => h) (Or.inl ⟨by rfl, ?_⟩) hHeld ?_ ?_
              rotate_left
              · rintro w' ⟨s0, s1, s2, s3, s4, s5, s6, s7, s8, s9, s10⟩
                go_simp
                with_reducible rfl
              rotate_left
              · simp only [Act.put, List.setIfInBounds_toArray, List.set_cons_zero, List.set_cons_succ, i64_w, i32_w]
                rfl
              refine take_ (i := 14) (N := some 104) (v := ?_) (a' := ?_) #[true, true, true, true, true, true, true, true, true, true, true, true, false, true, true, true, false, false, false, false] rfl rfl (by kernel_rfl) (fun _ _ _ h => h) (Or.inl ⟨by rfl, ?_⟩) hHeld ?_ ?_
              rotate_left
              · rintro w' ⟨s0, s1, s2, s3, s4, s5, s6, s7, s8, s9, s10⟩
                go_simp
                with_reducible rfl
              rotate_left
              · simp only [Act.put, List.setIfInBounds_toArray, List.set_cons_zero, List.set_cons_succ, i64_w, i32_w]
                rfl
              refine take_ (i := 16) (N := some 106) (v := ?_) (a' := ?_) #[true, true, true, true, true, true, true, true, true, true, true, true, false, true, true, true, true, false, false, false] rfl rfl (by kernel_rfl) (fun _ _ _ h => h) (Or.inl ⟨by rfl, ?_⟩) hHeld ?_ ?_
              rotate_left
              · rintro w' ⟨s0, s1, s2, s3, s4, s5, s6, s7, s8, s9, s10⟩
                go_simp
                with_reducible rfl
              rotate_left
              · simp only [Act.put, List.setIfInBounds_toArray, List.set_cons_zero, List.set_cons_succ, i64_w, i32_w]
                rfl
              refine pure_ (i := 17) (N := some 107) (v := ?_) (a' := ?_) #[true, true, true, true, true, true, true, true, true, true, true, true, false, true, true, true, true, true, false, false] rfl rfl (by kernel_rfl) (fun _ _ _ h => h) (Or.inl ⟨by rfl, ?_⟩) ?_ ?_
              rotate_left
              · intro w'
                go_simp
                with_reducible rfl
              rotate_left
              · simp only [Act.put, List.setIfInBounds_toArray, List.set_cons_zero, List.set_cons_succ, i64_w, i32_w]
                rfl
              refine one_ (i := 12) (N := some 102) #[true, true, true, true, true, true, true, true, true, true, true, true, true, true, true, true, true, true, false, false] rfl rfl (by kernel_rfl) (by decide) (fun K hK => ?_)
              refine goes_ Try.func15 (by kernel_rfl) rfl #[.agg #[.int .u64 e', .int .u64 s', .slice A5 ws'.length c5, .slice A6 ls'.length c6], .agg #[.int .u64 e, .int .u64 s, .slice A2 ws.length c2, .slice A3 ls.length c3]] (by rfl) rfl rfl (by simp only [List.map_toArray, List.map_cons, List.map_nil]; rfl) ?_
              with_reducible refine (HSM.out _ BW0.out).mono ?_
              rintro e2 w9 ⟨rfl, hb9⟩
              refine ⟨_, rfl, ?_⟩
              have BW1 := Lib.hid (below_step BW0.out hb9)
              refine hK.out _ _ ⟨(HC15.out _ BW1.out).1, (HC15.out _ BW1.out).2.1, (HC15.out _ BW1.out).2.2.1, (HC15.out _ BW1.out).2.2.2.1, (HC15.out _ BW1.out).2.2.2.2.1, (HC15.out _ BW1.out).2.2.2.2.2.1, (HC15.out _ BW1.out).2.2.2.2.2.2.1, (HC15.out _ BW1.out).2.2.2.2.2.2.2.1, (HC15.out _ BW1.out).2.2.2.2.2.2.2.2.1, (HC15.out _ BW1.out).2.2.2.2.2.2.2.2.2.1, (HC15.out _ BW1.out).2.2.2.2.2.2.2.2.2.2⟩ (fun hHeld => ?_)
              clear hK K
              refine norm_ (a' := ?_) ?_ ?_
              rotate_left
              · show Act.put _ (some 102) _ = _
                simp only [Act.put, List.setIfInBounds_toArray, List.set_cons_zero, List.set_cons_succ, i64_w, i32_w]
                rfl
              refine pure_ (i := 18) (N := some 108) (v := ?_) (a' := ?_) #[true, true, true, true, true, true, true, true, true, true, true, true, true, true, true, true, true, true, true, false] rfl rfl (by kernel_rfl) (fun _ _ _ h => h) (Or.inl ⟨by rfl, ?_⟩) ?_ ?_
              rotate_left
              · intro w'
                go_simp
                with_reducible rfl
              rotate_left
              · simp only [Act.put, List.setIfInBounds_toArray, List.set_cons_zero, List.set_cons_succ, i64_w, i32_w]
                rfl
              refine pure_ (i := 19) (N := some 109) (v := ?_) (a' := ?_) #[true, true, true, true, true, true, true, true, true, true, true, true, true, true, true, true, true, true, true, true] rfl rfl (by kernel_rfl) (fun _ _ _ h => h) (Or.inl ⟨by rfl, ?_⟩) ?_ ?_
              rotate_left
              · intro w'
                go_simp
                with_reducible rfl
              rotate_left
              · simp only [Act.put, List.setIfInBounds_toArray, List.set_cons_zero, List.set_cons_succ, i64_w, i32_w]
                rfl
              refine done_ (by kernel_rfl) ?_
              clear hHeld
              have BE' := below_step BS5.out BW1.out
              have HROWE := Lib.hid (rows_on HROWX.out BE')
              have HGE := Lib.hid (blk_below HGX.out BE')
              have BE := Lib.hid (below_step BHS.out BE')
              clear BE'
              go_wp2
              go_roundw
              case rel => exact ⟨3, by go_num, by omega, HROWE, HGE, BE⟩
              case measure => first | (simp [intOf]; done) | (simp [intOf]; omega)
            · have h13' := h13 (some ⟨g, 0, none⟩) cap wS HCN.out hci
              rw [hcl.out] at h13'
              have H13 := Lib.hid h13'
              simp only [noObj] at H13
              clear h13 h13' hno
              go_wp2_with (go_at_call 13; refine H13.out.mono ?_; clear H13; rintro e2 W3 ⟨rfl, hd⟩; have BS3 := Lib.hid hd; clear hd)
              have BE' := below_step BS3.out (below_alloc (Below.refl _ W3) (.cells #[.int .u64 0, .int .u64 0, .slice none 0 0, .slice none 0 0] 26))
              have HROWE := Lib.hid (rows_on HROWX.out BE')
              have HGE := Lib.hid (blk_below HGX.out BE')
              have BE := Lib.hid (below_step BHS.out BE')
              clear BE'
              go_roundw
              case rel => exact ⟨3, by go_num, by omega, HROWE, HGE, BE⟩
              case measure => first | (simp [intOf]; done) | (simp [intOf]; omega)
          · have hNi : ((((csF FB x i).length : Nat) : Int) == (FB.length : Int)) = false := by
              rw [beq_eq_false_iff_ne]; intro h; exact hN (Int.ofNat.inj h)
            obtain ⟨Ai, ci, hvi, hci, hCi⟩ := Kd.R_reads hRi
            rw [hvi] at ki
            have HLN := Lib.hid (csF_len (FB := FB) (x := x) (i := i) HLEN.out)
            have HBY := Lib.hid (csF_byt (i := i) HRO.out hx)
            have HCN := Lib.hid hCi
            have BHS := HBR
            have HGX := HGW
            have HROWX := Lib.hid (rows_up HRW.out)
            clear hRi hCi hvi HRW HBR HGW hN
            generalize csF FB x i = cN at *
            obtain ⟨wS, hwS⟩ : ∃ wS, wS = wr := ⟨_, rfl⟩
            subst hwS
            have hln13 : cN.length ≤ 80000 := HLN.out
            rcases read_any HWO.out hln13 HBY.out with ⟨e', s', ws', ls', hRO', h13⟩ | ⟨hno, h13⟩
            · have h13' := h13 Ai ci wS HCN.out hci
              have H13 := Lib.hid h13'
              obtain ⟨hF', ⟨kg', hg'⟩, hf'⟩ := hRO'
              have HFO2 := Lib.hid fun (Ax : Option Addr) (cx : Nat) (Ay : Option Addr) (cy : Nat) (W : World) (hx : Kd.C (Kd.int .u32) W Ax ws'.length ws') (hcx : ws'.length ≤ cx) (hy : Kd.C k47 W Ay ls'.length ls') (hcy : ls'.length ≤ cy) => fileO HWO.out true kg' e' s' Ax cx ws' Ay cy ls' W hx hcx hy hcy hF' hg'
              have hFB' : fileOr true e' s' ws' ls' = cN := hf'
              have hEB' : errOf true = 0 := rfl
              rw [hFB', hEB'] at HFO2
              obtain ⟨bs, ⟨ks, hks⟩, hbs⟩ := same_f e' s' ws' ls' e s ws ls hF'.ln hF'.wn
              have hbc : ((strOfNums cN).toList == (strOfNums FB).toList) = bs := same_bytes ⟨hF', ⟨kg', hg'⟩, hf'⟩ HRO.out hln13 (by have := HLEN.out; omega) hbs
              have HSM0 := Lib.hid fun (Ax : Option Addr) (cx : Nat) (Ay : Option Addr) (cy : Nat) (W : World) (hx : Kd.C (Kd.int .u32) W Ax ws'.length ws') (hcx : ws'.length ≤ cx) (hy : Kd.C k47 W Ay ls'.length ls') (hcy : ls'.length ≤ cy) (hW : Below w.heap.size w W) => postbagref30_Same.calls ks e' s' Ax cx ws' Ay cy ls' e s A2 c2 ws A3 c3 ls bs W hx hcx hy hcy (Kd.C_below HR2.out hW) hc2 (Kd.C_below HR3.out hW) hc3 hks
              clear h13 h13' hF' hg' hf' hFB' hEB' hbs hks
              go_upto_region 13 with (go_at_call 13; refine H13.out.mono ?_; clear H13; rintro e2 W3 ⟨v2, v3, rfl, h2, h3, hd⟩; obtain ⟨A5, c5, rfl, hc5, hC5⟩ := Kd.R_reads h2; obtain ⟨A6, c6, rfl, hc6, hC6⟩ := Kd.R_reads h3; have BS3 := Lib.hid hd; have HC5 := Lib.hid hC5; have HC6 := Lib.hid hC6; clear hd h2 h3 hC5 hC6)
              have Y1 := Lib.hid (blk_new W3 (.cells #[.int .u64 e', .int .u64 s', .slice A5 ws'.length c5, .slice A6 ls'.length c6] 26))
              have hbl := below_alloc (Below.refl _ W3) (.cells #[.int .u64 e', .int .u64 s', .slice A5 ws'.length c5, .slice A6 ls'.length c6] 26)
              have BS4 := Lib.hid (below_step BS3.out hbl)
              have D5 := Lib.hid (Kd.C_below HC5.out hbl)
              have D6 := Lib.hid (Kd.C_below HC6.out hbl)
              generalize W3.alloc (.cells #[.int .u64 e', .int .u64 s', .slice A5 ws'.length c5, .slice A6 ls'.length c6] 26) = W4 at *
              generalize W3.heap.size = g12 at *
              clear hbl HC5 HC6 BS3
              have y0 := blk_cell Y1.out 0
              have y1 := blk_cell Y1.out 1
              have y2 := blk_cell Y1.out 2
              have y3 := blk_cell Y1.out 3
              go_upto_region 15 with (go_at_call 9; refine (HFO2.out A5 c5 A6 c6 _ D5.out hc5 D6.out hc6).mono ?_; clear y0 y1 y2 y3; rintro e2 W5 ⟨v1, rfl, ho1, hd⟩; have hC := own_reads ho1; obtain ⟨A7, c7, rfl, hC1⟩ := hC; have HO7 := Lib.hid ho1; have BS5 := Lib.hid (below_step BS4.out hd); have E5 := Lib.hid (Kd.C_below D5.out hd); have E6 := Lib.hid (Kd.C_below D6.out hd); have Y5 := Lib.hid (blk_below Y1.out hd); clear hd ho1 hC1)
              have HC15 := Lib.hid (fun (W : World) (h : Below W5.heap.size W5 W) => (show W.cell? ⟨g12, 0, none⟩ = some (.int .u64 e') ∧ W.cell? ⟨g12, 1, none⟩ = some (.int .u64 s') ∧ W.cell? ⟨g12, 2, none⟩ = some (.slice A5 ws'.length c5) ∧ W.cell? ⟨g12, 3, none⟩ = some (.slice A6 ls'.length c6) ∧ W.cell? ⟨w.heap.size, 0, none⟩ = some (.int .u64 e) ∧ W.cell? ⟨w.heap.size, 1, none⟩ = some (.int .u64 s) ∧ W.cell? ⟨w.heap.size, 2, none⟩ = some (.slice A2 ws.length c2) ∧ W.cell? ⟨w.heap.size, 3, none⟩ = some (.slice A3 ls.length c3) ∧ (convert 29 9 (.slice A7 cN.length c7)).run Try.prog W = .ok (.string (strOfNums cN)) W ∧ (convert 29 9 (.slice Ai cN.length ci)).run Try.prog W = .ok (.string (strOfNums cN)) W ∧ (convert 29 9 (.slice A4 FB.length c4)).run Try.prog W = .ok (.string (strOfNums FB)) W from
                ⟨blk_cell (blk_below Y5.out h) 0, blk_cell (blk_below Y5.out h) 1, blk_cell (blk_below Y5.out h) 2, blk_cell (blk_below Y5.out h) 3, blk_cell (blk_below X2.out (below_step BHS.out (below_step BS5.out h))) 0, blk_cell (blk_below X2.out (below_step BHS.out (below_step BS5.out h))) 1, blk_cell (blk_below X2.out (below_step BHS.out (below_step BS5.out h))) 2, blk_cell (blk_below X2.out (below_step BHS.out (below_step BS5.out h))) 3, own_string (src := 29) (dst := 9) Try.underlying29 Try.underlying5 Try.underlying9 (own_move HO7.out (fun k hk => h.block k (own_lt HO7.out k hk))), conv_n rfl (Kd.C_below HCN.out (below_step BS5.out h)), Kd.C_string (P := Try.prog) (A := A4) (c := c4) Try.underlying29 Try.underlying5 Try.underlying9 (Kd.C_below HC.out (below_step BHS.out (below_step BS5.out h)))⟩))
              have HSM := Lib.hid (fun (W : World) (h : Below W5.heap.size W5 W) => HSM0.out A5 c5 A6 c6 W (Kd.C_below E5.out h) hc5 (Kd.C_below E6.out h) hc6 (below_step B2.out (below_step BHS.out (below_step BS5.out h))))
              have BW0 := Lib.hid (Below.refl W5.heap.size W5).drew
              refine start_ (n := 20) (S := fun w' => w'.cell? ⟨g12, 0, none⟩ = some (.int .u64 e') ∧ w'.cell? ⟨g12, 1, none⟩ = some (.int .u64 s') ∧ w'.cell? ⟨g12, 2, none⟩ = some (.slice A5 ws'.length c5) ∧ w'.cell? ⟨g12, 3, none⟩ = some (.slice A6 ls'.length c6) ∧ w'.cell? ⟨w.heap.size, 0, none⟩ = some (.int .u64 e) ∧ w'.cell? ⟨w.heap.size, 1, none⟩ = some (.int .u64 s) ∧ w'.cell? ⟨w.heap.size, 2, none⟩ = some (.slice A2 ws.length c2) ∧ w'.cell? ⟨w.heap.size, 3, none⟩ = some (.slice A3 ls.length c3) ∧ (convert 29 9 (.slice A7 cN.length c7)).run Try.prog w' = .ok (.string (strOfNums cN)) w' ∧ (convert 29 9 (.slice Ai cN.length ci)).run Try.prog w' = .ok (.string (strOfNums cN)) w' ∧ (convert 29 9 (.slice A4 FB.length c4)).run Try.prog w' = .ok (.string (strOfNums FB)) w') (ds := []) #[false, false, false, false, false, false, false, false, false, false, false, false, false, false, false, false, false, false, false, false] (by kernel_rfl) rfl rfl ⟨(HC15.out _ BW0.out).1, (HC15.out _ BW0.out).2.1, (HC15.out _ BW0.out).2.2.1, (HC15.out _ BW0.out).2.2.2.1, (HC15.out _ BW0.out).2.2.2.2.1, (HC15.out _ BW0.out).2.2.2.2.2.1, (HC15.out _ BW0.out).2.2.2.2.2.2.1, (HC15.out _ BW0.out).2.2.2.2.2.2.2.1, (HC15.out _ BW0.out).2.2.2.2.2.2.2.2.1, (HC15.out _ BW0.out).2.2.2.2.2.2.2.2.2.1, (HC15.out _ BW0.out).2.2.2.2.2.2.2.2.2.2⟩ (fun hHeld => ?_)
              refine pure_ (i := 0) (N := some 90) (v := ?_) (a' := ?_) #[true, false, false, false, false, false, false, false, false, false, false, false, false, false, false, false, false, false, false, false] rfl rfl (by kernel_rfl) (fun _ _ _ h => h) (Or.inl ⟨by rfl, ?_⟩) ?_ ?_
              rotate_left
              · intro w'
                go_simp
                with_reducible rfl
              rotate_left
              · simp only [Act.put, List.setIfInBounds_toArray, List.set_cons_zero, List.set_cons_succ, i64_w, i32_w]
                rfl
              refine pure_ (i := 1) (N := some 91) (v := ?_) (a' := ?_) #[true, true, false, false, false, false, false, false, false, false, false, false, false, false, false, false, false, false, false, false] rfl rfl (by kernel_rfl) (fun _ _ _ h => h) (Or.inl ⟨by rfl, ?_⟩) ?_ ?_
              rotate_left
              · intro w'
                go_simp
                with_reducible rfl
              rotate_left
              · simp only [Act.put, List.setIfInBounds_toArray, List.set_cons_zero, List.set_cons_succ, i64_w, i32_w]
                rfl
              refine pure_ (i := 2) (N := some 92) (v := ?_) (a' := ?_) #[true, true, true, false, false, false, false, false, false, false, false, false, false, false, false, false, false, false, false, false] rfl rfl (by kernel_rfl) (fun _ _ _ h => h) (Or.inl ⟨by rfl, ?_⟩) ?_ ?_
              rotate_left
              · intro w'
                go_simp
                with_reducible rfl
              rotate_left
              · simp only [Act.put, List.setIfInBounds_toArray, List.set_cons_zero, List.set_cons_succ, i64_w, i32_w]
                rfl
              refine pure_ (i := 3) (N := some 93) (v := ?_) (a' := ?_) #[true, true, true, true, false, false, false, false, false, false, false, false, false, false, false, false, false, false, false, false] rfl rfl (by kernel_rfl) (fun _ _ _ h => h) (Or.inl ⟨by rfl, ?_⟩) ?_ ?_
              rotate_left
              · intro w'
                go_simp
                with_reducible rfl
              rotate_left
              · simp only [Act.put, List.setIfInBounds_toArray, List.set_cons_zero, List.set_cons_succ, i64_w, i32_w]
                rfl
              refine pure_ (i := 5) (N := some 95) (v := ?_) (a' := ?_) #[true, true, true, true, false, true, false, false, false, false, false, false, false, false, false, false, false, false, false, false] rfl rfl (by kernel_rfl) (fun _ _ _ h => h) (Or.inl ⟨by rfl, ?_⟩) ?_ ?_
              rotate_left
              · intro w'
                go_simp
                with_reducible rfl
              rotate_left
              · simp only [Act.put, List.setIfInBounds_toArray, List.set_cons_zero, List.set_cons_succ, i64_w, i32_w]
                rfl
              refine take_ (i := 4) (N := some 94) (v := ?_) (a' := ?_) #[true, true, true, true, true, true, false, false, false, false, false, false, false, false, false, false, false, false, false, false] rfl rfl (by kernel_rfl) (fun _ _ _ h => h) (Or.inl ⟨by rfl, ?_⟩) hHeld ?_ ?_
              rotate_left
              · rintro w' ⟨s0, s1, s2, s3, s4, s5, s6, s7, s8, s9, s10⟩
                go_simp
                with_reducible rfl
              rotate_left
              · simp only [Act.put, List.setIfInBounds_toArray, List.set_cons_zero, List.set_cons_succ, i64_w, i32_w]
                rfl
              refine take_ (i := 6) (N := some 96) (v := ?_) (a' := ?_) #[true, true, true, true, true, true, true, false, false, false, false, false, false, false, false, false, false, false, false, false] rfl rfl (by kernel_rfl) (fun _ _ _ h => h) (Or.inl ⟨by rfl, ?_⟩) hHeld ?_ ?_
              rotate_left
              · rintro w' ⟨s0, s1, s2, s3, s4, s5, s6, s7, s8, s9, s10⟩
                go_simp
                with_reducible rfl
              rotate_left
              · simp only [Act.put, List.setIfInBounds_toArray, List.set_cons_zero, List.set_cons_succ, i64_w, i32_w]
                rfl
              refine pure_ (i := 7) (N := some 97) (v := ?_) (a' := ?_) #[true, true, true, true, true, true, true, true, false, false, false, false, false, false, false, false, false, false, false, false] rfl rfl (by kernel_rfl) (fun _ _ _ h => h) (Or.inl ⟨by rfl, ?_⟩) ?_ ?_
              rotate_left
              · intro w'
                go_simp
                with_reducible rfl
              rotate_left
              · simp only [Act.put, List.setIfInBounds_toArray, List.set_cons_zero, List.set_cons_succ, i64_w, i32_w]
                rfl
              refine pure_ (i := 8) (N := some 98) (v := ?_) (a' := ?_) #[true, true, true, true, true, true, true, true, true, false, false, false, false, false, false, false, false, false, false, false] rfl rfl (by kernel_rfl) (fun _ _ _ h => h) (Or.inl ⟨by rfl, ?_⟩) ?_ ?_
              rotate_left
              · intro w'
                go_simp
                with_reducible rfl
              rotate_left
              · simp only [Act.put, List.setIfInBounds_toArray, List.set_cons_zero, List.set_cons_succ, i64_w, i32_w]
                rfl
              refine pure_ (i := 9) (N := some 99) (v := ?_) (a' := ?_) #[true, true, true, true, true, true, true, true, true, true, false, false, false, false, false, false, false, false, false, false] rfl rfl (by kernel_rfl) (fun _ _ _ h => h) (Or.inl ⟨by rfl, ?_⟩) ?_ ?_
              rotate_left
              · intro w'
                go_simp
                with_reducible rfl
              rotate_left
              · simp only [Act.put, List.setIfInBounds_toArray, List.set_cons_zero, List.set_cons_succ, i64_w, i32_w]
                rfl
              refine pure_ (i := 13) (N := some 103) (v := ?_) (a' := ?_) #[true, true, true, true, true, true, true, true, true, true, false, false, false, true, false, false, false, false, false, false] rfl rfl (by kernel_rfl) (fun _ _ _ h => h) (Or.inl ⟨by rfl, ?_⟩) ?_ ?_
              rotate_left
              · intro w'
                go_simp
                with_reducible rfl
              rotate_left
              · simp only [Act.put, List.setIfInBounds_toArray, List.set_cons_zero, List.set_cons_succ, i64_w, i32_w]
                rfl
              refine pure_ (i := 15) (N := some 105) (v := ?_) (a' := ?_) #[true, true, true, true, true, true, true, true, true, true, false, false, false, true, false, true, false, false, false, false] rfl rfl (by kernel_rfl) (fun _ _ _ h => h) (Or.inl ⟨by rfl, ?_⟩) ?_ ?_
              rotate_left
              · intro w'
                go_simp
                with_reducible rfl
              rotate_left
              · simp only [Act.put, List.setIfInBounds_toArray, List.set_cons_zero, List.set_cons_succ, i64_w, i32_w]
                rfl
              refine take_ (i := 10) (N := some 100) (v := ?_) (a' := ?_) #[true, true, true, true, true, true, true, true, true, true, true, false, false, true, false, true, false, false, false, false] rfl rfl (by kernel_rfl) (fun _ _ _ h => h) (Or.inl ⟨by rfl, ?_⟩) hHeld ?_ ?_
              rotate_left
              · rintro w' ⟨s0, s1, s2, s3, s4, s5, s6, s7, s8, s9, s10⟩
                go_simp
                with_reducible rfl
              rotate_left
              · simp only [Act.put, List.setIfInBounds_toArray, List.set_cons_zero, List.set_cons_succ, i64_w, i32_w]
                rfl
              refine take_ (i := 11) (N := some 101) (v := ?_) (a' := ?_) #[true, true, true, true, true, true, true, true, true, true, true, true, false, true, false, true, false, false, false, false] rfl rfl (by kernel_rfl) (fun _ _ _ h => h) (Or.inl ⟨by rfl, ?_⟩) hHeld ?_ ?_
              rotate_left
              · rintro w' ⟨s0, s1, s2, s3, s4, s5, s6, s7, s8, s9, s10⟩
                go_simp
                with_reducible rfl
              rotate_left
              · simp only [Act.put, List.setIfInBounds_toArray, List.set_cons_zero, List.set_cons_succ, i64_w, i32_w]
                rfl
              refine take_ (i := 14) (N := some 104) (v := ?_) (a' := ?_) #[true, true, true, true, true, true, true, true, true, true, true, true, false, true, true, true, false, false, false, false] rfl rfl (by kernel_rfl) (fun _ _ _ h => h) (Or.inl ⟨by rfl, ?_⟩) hHeld ?_ ?_
              rotate_left
              · rintro w' ⟨s0, s1, s2, s3, s4, s5, s6, s7, s8, s9, s10⟩
                go_simp
                with_reducible rfl
              rotate_left
              · simp only [Act.put, List.setIfInBounds_toArray, List.set_cons_zero, List.set_cons_succ, i64_w, i32_w]
                rfl
              refine take_ (i := 16) (N := some 106) (v := ?_) (a' := ?_) #[true, true, true, true, true, true, true, true, true, true, true, true, false, true, true, true, true, false, false, false] rfl rfl (by kernel_rfl) (fun _ _ _ h => h) (Or.inl ⟨by rfl, ?_⟩) hHeld ?_ ?_
              rotate_left
              · rintro w' ⟨s0, s1, s2, s3, s4, s5, s6, s7, s8, s9, s10⟩
                go_simp
                with_reducible rfl
              rotate_left
              · simp only [Act.put, List.setIfInBounds_toArray, List.set_cons_zero, List.set_cons_succ, i64_w, i32_w]
                rfl
              refine pure_ (i := 17) (N := some 107) (v := ?_) (a' := ?_) #[true, true, true, true, true, true, true, true, true, true, true, true, false, true, true, true, true, true, false, false] rfl rfl (by kernel_rfl) (fun _ _ _ h => h) (Or.inl ⟨by rfl, ?_⟩) ?_ ?_
              rotate_left
              · intro w'
                go_simp
                with_reducible rfl
              rotate_left
              · simp only [Act.put, List.setIfInBounds_toArray, List.set_cons_zero, List.set_cons_succ, i64_w, i32_w]
                rfl
              refine one_ (i := 12) (N := some 102) #[true, true, true, true, true, true, true, true, true, true, true, true, true, true, true, true, true, true, false, false] rfl rfl (by kernel_rfl) (by decide) (fun K hK => ?_)
              refine goes_ Try.func15 (by kernel_rfl) rfl #[.agg #[.int .u64 e', .int .u64 s', .slice A5 ws'.length c5, .slice A6 ls'.length c6], .agg #[.int .u64 e, .int .u64 s, .slice A2 ws.length c2, .slice A3 ls.length c3]] (by rfl) rfl rfl (by simp only [List.map_toArray, List.map_cons, List.map_nil]; rfl) ?_
              with_reducible refine (HSM.out _ BW0.out).mono ?_
              rintro e2 w9 ⟨rfl, hb9⟩
              refine ⟨_, rfl, ?_⟩
              have BW1 := Lib.hid (below_step BW0.out hb9)
              refine hK.out _ _ ⟨(HC15.out _ BW1.out).1, (HC15.out _ BW1.out).2.1, (HC15.out _ BW1.out).2.2.1, (HC15.out _ BW1.out).2.2.2.1, (HC15.out _ BW1.out).2.2.2.2.1, (HC15.out _ BW1.out).2.2.2.2.2.1, (HC15.out _ BW1.out).2.2.2.2.2.2.1, (HC15.out _ BW1.out).2.2.2.2.2.2.2.1, (HC15.out _ BW1.out).2.2.2.2.2.2.2.2.1, (HC15.out _ BW1.out).2.2.2.2.2.2.2.2.2.1, (HC15.out _ BW1.out).2.2.2.2.2.2.2.2.2.2⟩ (fun hHeld => ?_)
              clear hK K
              refine norm_ (a' := ?_) ?_ ?_
              rotate_left
              · show Act.put _ (some 102) _ = _
                simp only [Act.put, List.setIfInBounds_toArray, List.set_cons_zero, List.set_cons_succ, i64_w, i32_w]
                rfl
              refine pure_ (i := 18) (N := some 108) (v := ?_) (a' := ?_) #[true, true, true, true, true, true, true, true, true, true, true, true, true, true, true, true, true, true, true, false] rfl rfl (by kernel_rfl) (fun _ _ _ h => h) (Or.inl ⟨by rfl, ?_⟩) ?_ ?_
              rotate_left
              · intro w'
                go_simp
                with_reducible rfl
              rotate_left
              · simp only [Act.put, List.setIfInBounds_toArray, List.set_cons_zero, List.set_cons_succ, i64_w, i32_w]
                rfl
              refine pure_ (i := 19) (N := some 109) (v := ?_) (a' := ?_) #[true, true, true, true, true, true, true, true, true, true, true, true, true, true, true, true, true, true, true, true] rfl rfl (by kernel_rfl) (fun _ _ _ h => h) (Or.inl ⟨by rfl, ?_⟩) ?_ ?_
              rotate_left
              · intro w'
                go_simp
                with_reducible rfl
              rotate_left
              · simp only [Act.put, List.setIfInBounds_toArray, List.set_cons_zero, List.set_cons_succ, i64_w, i32_w]
                rfl
              refine done_ (by kernel_rfl) ?_
              clear hHeld
              have BE' := below_step BS5.out BW1.out
              have HROWE := Lib.hid (rows_on HROWX.out BE')
              have HGE := Lib.hid (blk_below HGX.out BE')
              have BE := Lib.hid (below_step BHS.out BE')
              clear BE'
              go_wp2
              go_roundw
              case rel => exact ⟨i + 1, by go_num, by omega, HROWE, HGE, BE⟩
              case measure => first | (simp [intOf]; done) | (simp [intOf]; omega)
            · have h13' := h13 Ai ci wS HCN.out hci
              have H13 := Lib.hid h13'
              simp only [noObj] at H13
              clear h13 h13' hno
              go_wp2_with (go_at_call 13; refine H13.out.mono ?_; clear H13; rintro e2 W3 ⟨rfl, hd⟩; have BS3 := Lib.hid hd; clear hd)
              have BE' := below_step BS3.out (below_alloc (Below.refl _ W3) (.cells #[.int .u64 0, .int .u64 0, .slice none 0 0, .slice none 0 0] 26))
              have HROWE := Lib.hid (rows_on HROWX.out BE')
              have HGE := Lib.hid (blk_below HGX.out BE')
              have BE := Lib.hid (below_step BHS.out BE')
              clear BE'
              go_roundw
              case rel => exact ⟨i + 1, by go_num, by omega, HROWE, HGE, BE⟩
              case measure => first | (simp [intOf]; done) | (simp [intOf]; omega)
        · obtain rfl : i = 3 := by omega
          go_wp2_with (go_at_call 8; refine (lives_any HWO.out _).mono ?_; rintro e2 w8 ⟨rfl, hd⟩; have B8 := Lib.hid (below_step HBR.out hd); clear hd)
          go_ret
          exact ⟨rfl, below_step B2.out B8.out⟩
end Go.Proofs.Ytelheeekbihfcab.Ob
