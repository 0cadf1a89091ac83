/- The law ObjectBack, walked (given what is proved of the program's write). -/
import Derived.Test.YtelheeekbihfcabFilesW
import Derived.Test.YtelheeekbihfcabGuessO
import Derived.Test.YtelheeekbihfcabSame
set_option linter.unusedVariables false
set_option linter.unusedSimpArgs false
namespace Go.Proofs.Ytelheeekbihfcab.Ob
open Go.RowKit Go.Proofs Go.Proofs.Ytelheeekbihfcab.PObjectReads Go.Proofs.YtelheeekbihfcabW.PrintWords Go.Proofs.YtelheeekbihfcabW.PrintMore Go.Proofs.YtelheeekbihfcabW.PrintLast

theorem light_len {e s : Int} {ws : List Int} {ls : List S47} (hF : Fits e s ws ls) (h1 : ws.length ≤ 2000) (h2 : ls.length ≤ 200) (h3 : ∀ x, x ∈ ls → x.f0.size ≤ 255) : (fileB e s ws ls).length ≤ 70000 := by
  have h := file_len e s ws ls
  have hnm : nm ls ≤ 256 * ls.length := by
    clear h hF h2
    induction ls with
    | nil => simp [nm]
    | cons x l ih =>
      have a := ih (fun y hy => h3 y (List.mem_cons_of_mem _ hy))
      have b := h3 x List.mem_cons_self
      simp only [nm, List.length_cons] at a ⊢
      omega
  unfold hOf sOf lOf zOf up8 at *
  omega

set_option maxRecDepth 100000 in
set_option maxHeartbeats 8000000 in
theorem object_back (HWO' : WritesO) (e s : Int) (A2 : Option Addr) (c2 : Nat) (ws : List Int) (A3 : Option Addr) (c3 : Nat) (ls : List S47) (w : World) (hr2 : Kd.C (Kd.int .u32) w A2 ws.length ws) (hc2 : ws.length ≤ c2) (hr3 : Kd.C k47 w A3 ls.length ls) (hc3 : ls.length ≤ c3) (hI : InR e s ws ls) :
    Calls Try.prog 5 #[.agg #[.int .u64 e, .int .u64 s, .slice A2 ws.length c2, .slice A3 ls.length c3]] w fun e' w' => e' = .returned (.bool true) ∧ Below w.heap.size w w' := by
  have HWO := Lib.hid HWO'
  clear HWO'
  obtain ⟨b, ⟨kl, hkl⟩, hlt⟩ := light_f e s ws ls
  have HLI := Lib.hid fun W => fun hW : Below w.heap.size w W => postbaglaw30_light.calls kl e s A2 c2 ws A3 c3 ls b W (Kd.C_below hr2 hW) hc2 (Kd.C_below hr3 hW) hc3 hkl
  have X0 := Lib.hid (blk_new w (.cells #[.int .u64 e, .int .u64 s, .slice A2 ws.length c2, .slice A3 ls.length c3] 26))
  have B0 := Lib.hid (below_alloc (Below.refl _ w) (.cells #[.int .u64 e, .int .u64 s, .slice A2 ws.length c2, .slice A3 ls.length c3] 26))
  cases b with
  | false =>
    clear hr2 hr3 hkl hlt
    go_enter Try.func5, Try.ntmps5
    go_wp2_with (first
      | (go_at_call 7; refine (HLI.out _ B0.out).mono ?_; rintro e' w1 ⟨rfl, hd⟩; have B1 := Lib.hid (below_step B0.out hd); clear hd)
      | (go_at_call 8; refine (lives_any HWO.out _).mono ?_; rintro e' w2 ⟨rfl, hd⟩; have B2 := Lib.hid (below_step B1.out hd); clear hd))
    go_ret
    exact ⟨rfl, B2.out⟩
  | true =>
    obtain ⟨hl1, hl2, hl3⟩ := hlt rfl
    have hF : Fits e s ws ls := ⟨hI.e, hI.s, by omega, by omega, hI.w, hI.a, fun x hx => by have := hl3 x hx; omega⟩
    obtain ⟨gb, ⟨k1, hk1⟩, ⟨k2, hk2⟩, _⟩ := goods e s ws ls hF.wn hF.ln hF.n
    have HFO := Lib.hid fun W => fun hW : Below w.heap.size w W => fileO HWO.out gb k1 e s A2 c2 ws A3 c3 ls W (Kd.C_below hr2 hW) hc2 (Kd.C_below hr3 hW) hc3 hF hk1
    have HGO := Lib.hid fun W => fun hW : Below w.heap.size w W => object_Good.calls k1 e s A2 c2 ws A3 c3 ls gb W (Kd.C_below hr2 hW) hc2 (Kd.C_below hr3 hW) hc3 hk1
    cases gb with
    | false =>
      have hFB : fileOr false e s ws ls = [] := rfl
      have hEB : errOf false = 2 := rfl
      rw [hFB, hEB] at HFO
      clear hr2 hr3 hkl hlt hk1 hk2 hF hI hl1 hl2 hl3 hFB hEB
      go_enter Try.func5, Try.ntmps5
      go_wp2_with (first
        | (go_at_call 7; refine (HLI.out _ B0.out).mono ?_; rintro e' w1 ⟨rfl, hd⟩; have B1 := Lib.hid (below_step B0.out hd); have X1 := Lib.hid (blk_below X0.out hd); have k0 := blk_cell X1.out 0; have k1 := blk_cell X1.out 1; have k2 := blk_cell X1.out 2; have k3 := blk_cell X1.out 3; clear hd)
        | (go_at_call 9; refine (HFO.out _ B1.out).mono ?_; rintro e' w2 ⟨v1, rfl, ho1, hd⟩; clear k0 k1 k2 k3; obtain ⟨A4, c4, rfl⟩ := slice_of ho1; have B2 := Lib.hid (below_step B1.out hd); have X2 := Lib.hid (blk_below X1.out hd); have k0 := blk_cell X2.out 0; have k1 := blk_cell X2.out 1; have k2 := blk_cell X2.out 2; have k3 := blk_cell X2.out 3; clear hd ho1)
        | (go_at_call 11; refine (HGO.out _ B2.out).mono ?_; rintro e' w3 ⟨rfl, hd⟩; have B3 := Lib.hid (below_step B2.out hd); clear hd k0 k1 k2 k3)
        | (go_at_call 8; refine (lives_any HWO.out _).mono ?_; rintro e' w4 ⟨rfl, hd⟩; have B4 := Lib.hid (below_step B3.out hd); clear hd))
      go_ret
      exact ⟨rfl, B4.out⟩
    | true =>
      obtain ⟨hn1, hn2, hn3, hn4⟩ := good_names hk1
      have hlen : (fileB e s ws ls).length ≤ 70000 := light_len hF hl1 hl2 (fun x hx => (hn4 x hx).2)
      obtain ⟨kg, hkg⟩ := guess_file hF (fun x hx => (hn4 x hx).1) (by omega)
      have hg := hkg kg (Nat.le_refl _)
      obtain ⟨bs, ⟨ks, hks⟩, hbs⟩ := same_f e s ws ls e s ws ls hF.ln hF.wn
      obtain rfl : bs = true := hbs.2 ⟨rfl, rfl, rfl, rfl⟩
      have hFB : fileOr true e s ws ls = fileB e s ws ls := rfl
      have hEB : errOf true = 0 := rfl
      rw [hFB, hEB] at HFO
      obtain ⟨FB, hfb⟩ : ∃ FB, fileB e s ws ls = FB := ⟨_, rfl⟩
      rw [hfb] at HFO hg
      have HRE := Lib.hid fun (A : Option Addr) (c : Nat) (W : World) (hr : Kd.C (Kd.int .u8) W A FB.length FB) (hc : FB.length ≤ c) => readO kg k1 e s ws ls FB A c W hr hc hg hk1 hF hfb.symm (fun A2 c2 A3 c3 W h1 h2 h3 h4 => HWO.out e s A2 c2 ws A3 c3 ls W h1 h2 h3 h4 hF)
      have HSM := Lib.hid fun (Ax : Option Addr) (cx : Nat) (Ay : Option Addr) (cy : Nat) W => fun (hx : Kd.C (Kd.int .u32) W Ax ws.length ws) (hcx : ws.length ≤ cx) (hy : Kd.C k47 W Ay ls.length ls) (hcy : ls.length ≤ cy) (hW : Below w.heap.size w W) => postbagref30_Same.calls ks e s Ax cx ws Ay cy ls e s A2 c2 ws A3 c3 ls true W hx hcx hy hcy (Kd.C_below hr2 hW) hc2 (Kd.C_below hr3 hW) hc3 hks
      clear hr2 hr3 hkl hlt hk1 hk2 hF hI hl1 hl2 hl3 hFB hEB HGO hn1 hn2 hn3 hn4 hlen hkg hg hks hbs hfb
      go_enter Try.func5, Try.ntmps5
      go_upto_region 7 with (first
        | (go_at_call 7; refine (HLI.out _ B0.out).mono ?_; rintro e' w1 ⟨rfl, hd⟩; have B1 := Lib.hid (below_step B0.out hd); have X1 := Lib.hid (blk_below X0.out hd); have k0 := blk_cell X1.out 0; have k1 := blk_cell X1.out 1; have k2 := blk_cell X1.out 2; have k3 := blk_cell X1.out 3; clear hd)
        | (go_at_call 9; refine (HFO.out _ B1.out).mono ?_; rintro e' w2 ⟨v1, rfl, ho1, hd⟩; clear k0 k1 k2 k3; have hC := own_reads ho1; obtain ⟨A4, c4, rfl, hC1⟩ := hC; have hcap := own_cap ho1; have HC := Lib.hid hC1; have B2 := Lib.hid (below_step B1.out hd); have X2 := Lib.hid (blk_below X1.out hd); clear hd ho1 hC1)
        | (go_at_call 13; refine (HRE.out A4 c4 _ (Kd.C_of_reads (h1 := fun _ => rfl) HC.out) hcap).mono ?_; rintro e' W1 ⟨v2, v3, rfl, h2, h3, hd⟩; obtain ⟨A5, c5, rfl, hc5, hC5⟩ := Kd.R_reads h2; obtain ⟨A6, c6, rfl, hc6, hC6⟩ := Kd.R_reads h3; have B3 := Lib.hid (below_step B2.out hd); have X3 := Lib.hid (blk_below X2.out hd); have HC5 := Lib.hid hC5; have HC6 := Lib.hid hC6; clear hd h2 h3 hC5 hC6))
      have Y1 := blk_new W1 (.cells #[.int .u64 e, .int .u64 s, .slice A5 ws.length c5, .slice A6 ls.length c6] 26)
      have hbl := below_alloc (Below.refl _ W1) (.cells #[.int .u64 e, .int .u64 s, .slice A5 ws.length c5, .slice A6 ls.length c6] 26)
      have BW := Lib.hid (below_step B3.out hbl)
      have D5 := Lib.hid (Kd.C_below HC5.out hbl)
      have D6 := Lib.hid (Kd.C_below HC6.out hbl)
      have XX := blk_below X3.out hbl
      generalize W1.alloc (.cells #[.int .u64 e, .int .u64 s, .slice A5 ws.length c5, .slice A6 ls.length c6] 26) = W2 at *
      generalize W1.heap.size = g5 at *
      have k0 := blk_cell XX 0
      have k1 := blk_cell XX 1
      have k2 := blk_cell XX 2
      have k3 := blk_cell XX 3
      have y0 := blk_cell Y1 0
      have y1 := blk_cell Y1 1
      have y2 := blk_cell Y1 2
      have y3 := blk_cell Y1 3
      clear XX Y1 hbl HRE HFO HLI HC X1 X2 X3 B1 B2 B3 HC5 HC6
      go_wp2_with (first
        | (go_at_call 15; refine (HSM.out A5 c5 A6 c6 _ D5.out hc5 D6.out hc6 BW.out).mono ?_; rintro e' w5 ⟨rfl, hd⟩; clear k0 k1 k2 k3 y0 y1 y2 y3; have B5 := Lib.hid (below_step BW.out hd); clear hd)
        | (go_at_call 8; refine (lives_any HWO.out _).mono ?_; rintro e' w6 ⟨rfl, hd⟩; have B6 := Lib.hid (below_step B5.out hd); clear hd))
      go_ret
      exact ⟨rfl, B6.out⟩
end Go.Proofs.Ytelheeekbihfcab.Ob
