/- The reference's File. -/
import Derived.Test.YtelheeekbihfcabGoodEq
set_option linter.unusedVariables false
set_option linter.unusedSimpArgs false
namespace Go.Proofs.Ytelheeekbihfcab.Ob
open Go.RowKit Go.Proofs Go.Proofs.Ytelheeekbihfcab.PObjectReads Go.Proofs.YtelheeekbihfcabW.PrintWords Go.Proofs.YtelheeekbihfcabW.PrintMore

/-- What File answers: the file, or none. -/
def fileOr (b : Bool) (e s : Int) (ws : List Int) (ls : List S47) : List Int := if b then fileB e s ws ls else []
def errOf (b : Bool) : Int := if b then 0 else 2

set_option maxRecDepth 100000 in
set_option maxHeartbeats 4000000 in
theorem fileR (b : Bool) (kb : Nat) (e s : Int) (A2 : Option Addr) (c2 : Nat) (ws : List Int) (A3 : Option Addr) (c3 : Nat) (ls : List S47) (w : World) (hr2 : Kd.C (Kd.int .u32) w A2 ws.length ws) (hc2 : ws.length ≤ c2) (hr3 : Kd.C k47 w A3 ls.length ls) (hc3 : ls.length ≤ c3) (hF : Fits e s ws ls) (hb : postbagref30_Good.f kb e s ws ls = some b) :
    Calls Try.prog 10 #[.agg #[.int .u64 e, .int .u64 s, .slice A2 ws.length c2, .slice A3 ls.length c3]] w fun e' w' => ∃ v, e' = .returned (.tuple #[v, .int .i64 (errOf b)]) ∧ w'.ownsRow w.heap.size 5 1 v (fileOr b e s ws ls).length (nums .u8 (fileOr b e s ws ls)) ∧ Below w.heap.size w w' := by
  have HG := Lib.hid fun W => fun hW : Below w.heap.size w W => postbagref30_Good.calls kb e s A2 c2 ws A3 c3 ls b W (Kd.C_below hr2 hW) hc2 (Kd.C_below hr3 hW) hc3 hb
  have HW := Lib.hid fun W => fun hW : Below w.heap.size w W => writeR e s A2 c2 ws A3 c3 ls W (Kd.C_below hr2 hW) hc2 (Kd.C_below hr3 hW) hc3 hF
  have X0 := Lib.hid (blk_new w (.cells #[.int .u64 e, .int .u64 s, .slice A2 ws.length c2, .slice A3 ls.length c3] 35))
  have B0 := Lib.hid (below_alloc (Below.refl _ w) (.cells #[.int .u64 e, .int .u64 s, .slice A2 ws.length c2, .slice A3 ls.length c3] 35))
  clear hr2 hr3 hF hb
  cases b with
  | false =>
    go_enter Try.func10, Try.ntmps10
    go_wp2_with (go_at_call 12; refine (HG.out _ B0.out).mono ?_; rintro e' w1 ⟨rfl, hd⟩; have B1 := Lib.hid (below_step B0.out hd); clear hd)
    go_ret2
    exact ⟨_, rfl, own_nil _ _ _ _, B1.out⟩
  | true =>
    go_enter Try.func10, Try.ntmps10
    go_wp2_with (first
      | (go_at_call 12; refine (HG.out _ B0.out).mono ?_; rintro e' w1 ⟨rfl, hd⟩; have B1 := Lib.hid (below_step B0.out hd); have hx := blk_below X0.out hd; have k0 := blk_cell hx 0; have k1 := blk_cell hx 1; have k2 := blk_cell hx 2; have k3 := blk_cell hx 3; clear hd hx)
      | (go_at_call 17; refine (HW.out _ B1.out).mono ?_; rintro e' w2 ⟨v, rfl, ho, hd⟩; obtain ⟨Av, cv, rfl⟩ := slice_of ho; have HO := Lib.hid (own_less ho B1.out.size); have B2 := Lib.hid (below_step B1.out hd); clear ho hd))
    go_ret2
    exact ⟨_, rfl, HO.out, B2.out⟩
end Go.Proofs.Ytelheeekbihfcab.Ob
