/- The program's File. -/
import Derived.Test.YtelheeekbihfcabFileR
import Derived.Test.YtelheeekbihfcabReadO
import Derived.Test.YtelheeekbihfcabGuess0
set_option linter.unusedVariables false
set_option linter.unusedSimpArgs false
namespace Go.Proofs.Ytelheeekbihfcab.Ob
open Go.RowKit Go.Proofs Go.Proofs.Ytelheeekbihfcab.PObjectReads Go.Proofs.YtelheeekbihfcabW.PrintWords Go.Proofs.YtelheeekbihfcabW.PrintMore

/-- What is proved of the program's write. -/
def WritesO : Prop := ∀ (e s : Int) (A2 : Option Addr) (c2 : Nat) (ws : List Int) (A3 : Option Addr) (c3 : Nat) (ls : List S47) (w : World), Kd.C (Kd.int .u32) w A2 ws.length ws → ws.length ≤ c2 → Kd.C k47 w A3 ls.length ls → ls.length ≤ c3 → Fits e s ws ls →
    Calls Try.prog 16 #[.agg #[.int .u64 e, .int .u64 s, .slice A2 ws.length c2, .slice A3 ls.length c3]] w fun e' w' => ∃ v, e' = .returned v ∧ w'.ownsRow w.heap.size 5 1 v (fileB e s ws ls).length (nums .u8 (fileB e s ws ls)) ∧ Below w.heap.size w w'

set_option maxRecDepth 100000 in
set_option maxHeartbeats 4000000 in
theorem fileO (HWO : WritesO) (b : Bool) (kb : Nat) (e s : Int) (A2 : Option Addr) (c2 : Nat) (ws : List Int) (A3 : Option Addr) (c3 : Nat) (ls : List S47) (w : World) (hr2 : Kd.C (Kd.int .u32) w A2 ws.length ws) (hc2 : ws.length ≤ c2) (hr3 : Kd.C k47 w A3 ls.length ls) (hc3 : ls.length ≤ c3) (hF : Fits e s ws ls) (hb : object_Good.f kb e s ws ls = some b) :
    Calls Try.prog 9 #[.agg #[.int .u64 e, .int .u64 s, .slice A2 ws.length c2, .slice A3 ls.length c3]] w fun e' w' => ∃ v, e' = .returned (.tuple #[v, .int .i64 (errOf b)]) ∧ w'.ownsRow w.heap.size 5 1 v (fileOr b e s ws ls).length (nums .u8 (fileOr b e s ws ls)) ∧ Below w.heap.size w w' := by
  have HG := Lib.hid fun W => fun hW : Below w.heap.size w W => object_Good.calls kb e s A2 c2 ws A3 c3 ls b W (Kd.C_below hr2 hW) hc2 (Kd.C_below hr3 hW) hc3 hb
  have HW := Lib.hid fun W => fun hW : Below w.heap.size w W => HWO e s A2 c2 ws A3 c3 ls W (Kd.C_below hr2 hW) hc2 (Kd.C_below hr3 hW) hc3 hF
  have X0 := Lib.hid (blk_new w (.cells #[.int .u64 e, .int .u64 s, .slice A2 ws.length c2, .slice A3 ls.length c3] 26))
  have B0 := Lib.hid (below_alloc (Below.refl _ w) (.cells #[.int .u64 e, .int .u64 s, .slice A2 ws.length c2, .slice A3 ls.length c3] 26))
  clear hr2 hr3 hF hb HWO
  cases b with
  | false =>
    go_enter Try.func9, Try.ntmps9
    go_wp2_with (go_at_call 11; refine (HG.out _ B0.out).mono ?_; rintro e' w1 ⟨rfl, hd⟩; have B1 := Lib.hid (below_step B0.out hd); clear hd)
    go_ret2
    exact ⟨_, rfl, own_nil _ _ _ _, B1.out⟩
  | true =>
    go_enter Try.func9, Try.ntmps9
    go_wp2_with (first
      | (go_at_call 11; refine (HG.out _ B0.out).mono ?_; rintro e' w1 ⟨rfl, hd⟩; have B1 := Lib.hid (below_step B0.out hd); have hx := blk_below X0.out hd; have k0 := blk_cell hx 0; have k1 := blk_cell hx 1; have k2 := blk_cell hx 2; have k3 := blk_cell hx 3; clear hd hx)
      | (go_at_call 16; refine (HW.out _ B1.out).mono ?_; rintro e' w2 ⟨v, rfl, ho, hd⟩; obtain ⟨Av, cv, rfl⟩ := slice_of ho; have HO := Lib.hid (own_less ho B1.out.size); have B2 := Lib.hid (below_step B1.out hd); clear ho hd))
    go_ret2
    exact ⟨_, rfl, HO.out, B2.out⟩

theorem fits0 : Fits 0 0 [] [] := ⟨⟨by decide, by decide⟩, ⟨by decide, by decide⟩, by simp, by simp, (fun x h => by cases h), (fun x h => by cases h), (fun x h => by cases h)⟩
theorem good0 : object_Good.f 5 0 0 [] [] = some true := by kernel_rfl
theorem c32nil (w : World) : Kd.C (Kd.int .u32) w none ([] : List Int).length [] := by
  refine ⟨rfl, by simp, fun h => absurd h (by simp)⟩
theorem c47nil (w : World) : Kd.C k47 w none ([] : List S47).length [] := by
  refine ⟨rfl, by simp, fun h => absurd h (by simp)⟩

set_option maxRecDepth 100000 in
set_option maxHeartbeats 4000000 in
/-- The chapter's example. -/
theorem lives_any (HWO : WritesO) (w : World) : Calls Try.prog 8 #[] w fun e w' => e = .returned (.bool true) ∧ Below w.heap.size w w' := by
  have HFI := Lib.hid fun (W : World) => fileO HWO true 5 0 0 none 0 [] none 0 [] W (c32nil W) (Nat.le_refl _) (c47nil W) (Nat.le_refl _) fits0 good0
  obtain ⟨FB, hFB⟩ : ∃ FB, fileB 0 0 [] [] = FB := ⟨_, rfl⟩
  have hlen : FB.length = 504 := by rw [← hFB]; exact len0
  have hbyte : rd FB 1 = 69 := by rw [← hFB]; exact byte1
  have hgs := guess0
  rw [hFB] at hgs
  have HRE := Lib.hid fun (A : Option Addr) (c : Nat) (W : World) (hr : Kd.C (Kd.int .u8) W A FB.length FB) (hc : FB.length ≤ c) => readO 30 5 0 0 [] [] FB A c W hr hc hgs good0 fits0 hFB.symm (fun A2 c2 A3 c3 W h1 h2 h3 h4 => HWO 0 0 A2 c2 [] A3 c3 [] W h1 h2 h3 h4 fits0)
  have HL := Lib.hid hlen
  have HY := Lib.hid hbyte
  have hfo : fileOr true 0 0 [] [] = FB := hFB
  rw [hfo] at HFI
  clear hgs hFB hfo hlen hbyte HWO
  go_enter Try.func8, Try.ntmps8
  go_upto_region 3 with (first
    | (go_at_call 9; refine (HFI.out _).mono ?_; clear HFI; rintro e w1 ⟨v, rfl, ho, hb⟩; have hC := own_reads ho; obtain ⟨A1, c1, rfl, hC1⟩ := hC; have hcap := own_cap ho; have HO := Lib.hid ho; have HC := Lib.hid hC1; have B1 := Lib.hid hb; clear ho hC1 hb)
    | (go_at_call 13; refine (HRE.out A1 c1 _ (Kd.C_of_reads (h1 := fun _ => rfl) HC.out) hcap).mono ?_; rintro e w2 ⟨v2, v3, rfl, h2, h3, hb⟩; obtain ⟨A2, c2, rfl, hc2, hC2⟩ := Kd.R_reads h2; obtain ⟨A3, c3, rfl, hc3, hC3⟩ := Kd.R_reads h3; have B2 := Lib.hid hb; clear h2 h3 hC2 hC3 hb))
  have hl : (FB.length : Int) = 504 := by have := HL.out; omega
  have X := blk_new w2 (.cells #[.int .u64 0, .int .u64 0, .slice A2 0 c2, .slice A3 0 c3] 26)
  have hb3 := below_step B2.out (below_alloc (Below.refl _ w2) (.cells #[.int .u64 0, .int .u64 0, .slice A2 0 c2, .slice A3 0 c3] 26))
  obtain ⟨ad, hA1, hx⟩ := Kd.at_int (Kd.C_below (Kd.C_of_reads (h1 := fun _ => rfl) HC.out) hb3) 1 (by decide) (by have := HL.out; omega)
  subst hA1
  rw [HY.out] at hx
  have hx2 : (w2.alloc (.cells #[.int .u64 0, .int .u64 0, .slice A2 0 c2, .slice A3 0 c3] 26)).cell? ⟨ad.block, ad.off + 1, none⟩ = some (.int .u8 69) := by simpa [Addr.add] using hx
  have B3 := Lib.hid (below_step B1.out hb3)
  have k2 := blk_cell X 2
  have k3 := blk_cell X 3
  clear X hb3
  go_wp2
  go_ret
  exact ⟨rfl, B3.out⟩
end Go.Proofs.Ytelheeekbihfcab.Ob
