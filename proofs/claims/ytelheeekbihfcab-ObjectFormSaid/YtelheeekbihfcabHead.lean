/- The reference's head and section. -/
import Derived.Test.YtelheeekbihfcabText
set_option linter.unusedVariables false
set_option linter.unusedSimpArgs false
namespace Go.Proofs.Ytelheeekbihfcab.Ob
open Go.RowKit Go.Proofs Go.Proofs.Ytelheeekbihfcab.PObjectReads Go.Proofs.YtelheeekbihfcabW.PrintWords Go.Proofs.YtelheeekbihfcabW.PrintMore

/-- Where the reference's file stands: its bytes; all else is as it was in W0. -/
structure At (base g : Nat) (W0 : World) (L : Nat) (W : World) (bs : List Int) : Prop where
  buf : Buf base g 70 W bs
  kb : KB base g W0 W
  len : bs.length ≤ L
theorem At.weak {base g L L' : Nat} {W0 W : World} {bs : List Int} (h : At base g W0 L W bs) (hl : L ≤ L') : At base g W0 L' W bs := ⟨h.buf, h.kb, Nat.le_trans h.len hl⟩
theorem At.alloc {base g L : Nat} {W0 W : World} {bs : List Int} (h : At base g W0 L W bs) (o : Obj) : At base g W0 L (W.alloc o) bs := ⟨h.buf.alloc o, h.kb.alloc o, h.len⟩
theorem At.below {base g L : Nat} {W0 W W' : World} {bs : List Int} (h : At base g W0 L W bs) (hb : Below W.heap.size W W') : At base g W0 L W' bs := ⟨h.buf.below hb, h.kb.trans (KB.of_below hb), h.len⟩

theorem put_at {base g L : Nat} {W0 W : World} {bs : List Int} (ni : Int) (x : Int) (h : At base g W0 L W bs) (hbase : base ≤ W0.heap.size) (hg : base ≤ g) (hx : 0 ≤ x ∧ x < 18446744073709551616) (hn : 0 ≤ ni ∧ ni ≤ 100) (hl : L ≤ 1000000000) :
    Calls Try.prog 27 #[.pointer (some ⟨g, 0, none⟩), .int .i64 ni, .int .u64 x] W fun e W' => e = .returned (.tuple #[]) ∧ At base g W0 (L + ni.toNat) W' (bs ++ le ni.toNat x) := by
  obtain ⟨n, rfl⟩ : ∃ n : Nat, ni = n := ⟨ni.toNat, by omega⟩
  obtain ⟨hx0, hx1⟩ := hx
  rw [Int.toNat_natCast]
  have h1 := h.kb.size
  have h2 := h.len
  refine (put_call base g n x W bs h.buf (by omega) hg hx0 hx1 (by omega) (by omega)).mono ?_
  rintro e W' ⟨rfl, h3, h4⟩
  exact ⟨rfl, h3, h.kb.trans h4, by simp [le_length]; omega⟩
theorem text_at {base g L : Nat} {W0 W : World} {bs : List Int} (y : ByteArray) (h : At base g W0 L W bs) (hbase : base ≤ W0.heap.size) (hg : base ≤ g) (hy : y.size ≤ 1000) (hl : L ≤ 1000000000) :
    Calls Try.prog 29 #[.pointer (some ⟨g, 0, none⟩), .string y] W fun e W' => e = .returned (.tuple #[]) ∧ At base g W0 (L + y.size) W' (bs ++ bytesOf y) := by
  have h1 := h.kb.size
  have h2 := h.len
  refine (text_call base g y W bs h.buf (by omega) hg (by omega) (by omega)).mono ?_
  rintro e W' ⟨rfl, h3, h4⟩
  exact ⟨rfl, h3, h.kb.trans h4, by simp [bytesOf_length]; omega⟩
theorem round_at {base g L : Nat} {W0 W : World} {bs : List Int} (h : At base g W0 L W bs) (hbase : base ≤ W0.heap.size) (hg : base ≤ g) (hl : L ≤ 1000000000) :
    Calls Try.prog 28 #[.pointer (some ⟨g, 0, none⟩)] W fun e W' => e = .returned (.tuple #[]) ∧ At base g W0 (L + 8) W' (pad8 bs) := by
  have h1 := h.kb.size
  have h2 := h.len
  refine (round_call base g W bs h.buf (by omega) hg (by omega)).mono ?_
  rintro e W' ⟨rfl, h3, h4⟩
  exact ⟨rfl, h3, h.kb.trans h4, by simp [pad8]; omega⟩

def elf : ByteArray := ⟨#[127, 69, 76, 70, 2, 1, 1]⟩
def headB (e s w h : Int) : List Int := bytesOf elf ++ (le 9 0 ++ (le 2 2 ++ (le 2 243 ++ (le 4 1 ++ (le 8 e ++ (le 8 64 ++ (le 8 h ++ (le 4 0 ++ (le 2 64 ++ (le 2 56 ++ (le 2 1 ++ (le 2 64 ++ (le 2 5 ++ (le 2 4 ++ (le 4 1 ++ (le 4 7 ++ (le 8 120 ++ (le 16 0 ++ (le 8 w ++ (le 8 s ++ le 8 4))))))))))))))))))))

set_option maxRecDepth 100000 in
set_option maxHeartbeats 4000000 in
theorem head_at {base g L : Nat} {W0 W : World} {bs : List Int} (e s w h : Int) (ws ls : Value) (H : At base g W0 L W bs) (hbase : base ≤ W0.heap.size) (hg : base ≤ g) (he0 : 0 ≤ e) (he1 : e < 18446744073709551616) (hs0 : 0 ≤ s) (hs1 : s < 18446744073709551616) (hw0 : 0 ≤ w) (hw1 : w < 1000000000) (hh0 : 0 ≤ h) (hh1 : h < 1000000000) (hl : L ≤ 1000) (hg0 : g < W0.heap.size) :
    Calls Try.prog 26 #[.pointer (some ⟨g, 0, none⟩), .agg #[.int .u64 e, .int .u64 s, ws, ls], .int .i64 w, .int .i64 h] W fun e' W' => e' = .returned (.tuple #[]) ∧ At base g W0 (L + 200) W' (bs ++ headB e s w h) := by
  have HA0 := Lib.hid (H.alloc (.cells #[.int .u64 e, .int .u64 s, ws, ls] 35))
  have H0 := Lib.hid (blk_new W (.cells #[.int .u64 e, .int .u64 s, ws, ls] 35))
  have hsz := H.kb.size
  have hbg : W.heap.size ≠ g := by omega
  have q1 : IntKind.u64.wrap h = h := by simp [IntKind.wrap, IntKind.bits, IntKind.signed]; omega
  have q2 : IntKind.u64.wrap w = w := by simp [IntKind.wrap, IntKind.bits, IntKind.signed]; omega
  have HA : Hid (At base g (W.alloc (.cells #[.int .u64 e, .int .u64 s, ws, ls] 35)) L (W.alloc (.cells #[.int .u64 e, .int .u64 s, ws, ls] 35)) bs) := Lib.hid ⟨HA0.out.buf, KB.refl _ _ _, H.len⟩
  have hb2 : base ≤ (W.alloc (.cells #[.int .u64 e, .int .u64 s, ws, ls] 35)).heap.size := by rw [World.size_alloc]; omega
  have HF := Lib.hid (fun (W' : World) (L' : Nat) (bs' : List Int) (h : At base g (W.alloc (.cells #[.int .u64 e, .int .u64 s, ws, ls] 35)) L' W' bs') => (show At base g W0 L' W' bs' from ⟨h.buf, HA0.out.kb.trans h.kb, h.len⟩))
  clear H HA0
  go_enter Try.func26, Try.ntmps26
  go_wp2_with (first
    | (go_at_call 29; refine (text_at _ HA.out hb2 hg (by decide) (by omega)).mono ?_; rintro e' w' ⟨rfl, h1⟩; clear HA; have HA := Lib.hid (h1.weak (Nat.add_le_add_left (by decide : _ ≤ 40) _)); have c1 := blk_cell (h1.kb.blk H0.out (by decide) hbg) 0; have c2 := blk_cell (h1.kb.blk H0.out (by decide) hbg) 1; clear h1)
    | (go_at_call 27; refine (put_at _ _ HA.out hb2 hg (by omega) (by omega) (by omega)).mono ?_; rintro e' w' ⟨rfl, h1⟩; clear HA; try clear c1 c2; have HA := Lib.hid h1; have c1 := blk_cell (h1.kb.blk H0.out (by decide) hbg) 0; have c2 := blk_cell (h1.kb.blk H0.out (by decide) hbg) 1; clear h1))
  go_end0
  refine ⟨rfl, ?_⟩
  have := HF.out _ _ _ HA.out
  simp only [headB, List.append_assoc] at this ⊢
  exact this.weak (by omega)

def sectB (a b c d e f i h k : Int) : List Int := le 4 a ++ (le 4 b ++ (le 8 c ++ (le 8 0 ++ (le 8 d ++ (le 8 e ++ (le 4 f ++ (le 4 i ++ (le 8 h ++ le 8 k))))))))
theorem u64_small (x : Int) (h0 : 0 ≤ x) (h1 : x < 1000000000) : IntKind.u64.wrap x = x := by simp [IntKind.wrap, IntKind.bits, IntKind.signed]; omega

set_option maxRecDepth 100000 in
set_option maxHeartbeats 4000000 in
theorem sect_at {base g L : Nat} {W0 W : World} {bs : List Int} (a b c d e f i h k : Int) (H : At base g W0 L W bs) (hbase : base ≤ W0.heap.size) (hg : base ≤ g) (ha : 0 ≤ a ∧ a < 1000000000) (hb : 0 ≤ b ∧ b < 1000000000) (hc : 0 ≤ c ∧ c < 1000000000) (hd : 0 ≤ d ∧ d < 1000000000)
    (he : 0 ≤ e ∧ e < 1000000000) (hf : 0 ≤ f ∧ f < 1000000000) (hi : 0 ≤ i ∧ i < 1000000000) (hh : 0 ≤ h ∧ h < 1000000000) (hk : 0 ≤ k ∧ k < 1000000000) (hl : L ≤ 900000000) :
    Calls Try.prog 30 #[.pointer (some ⟨g, 0, none⟩), .int .i64 a, .int .i64 b, .int .i64 c, .int .i64 d, .int .i64 e, .int .i64 f, .int .i64 i, .int .i64 h, .int .i64 k] W fun e' W' => e' = .returned (.tuple #[]) ∧ At base g W0 (L + 64) W' (bs ++ sectB a b c d e f i h k) := by
  have HA := Lib.hid H
  clear H
  have q1 := u64_small a ha.1 ha.2
  have q2 := u64_small b hb.1 hb.2
  have q3 := u64_small c hc.1 hc.2
  have q4 := u64_small d hd.1 hd.2
  have q5 := u64_small e he.1 he.2
  have q6 := u64_small f hf.1 hf.2
  have q7 := u64_small i hi.1 hi.2
  have q8 := u64_small h hh.1 hh.2
  have q9 := u64_small k hk.1 hk.2
  go_enter Try.func30, Try.ntmps30
  go_wp2_with (go_at_call 27; refine (put_at _ _ HA.out hbase hg (by omega) (by omega) (by omega)).mono ?_; rintro e' w' ⟨rfl, h1⟩; clear HA; have HA := Lib.hid h1; clear h1)
  go_end0
  refine ⟨rfl, ?_⟩
  have := HA.out
  simp only [sectB, List.append_assoc] at this ⊢
  exact this.weak (by omega)
end Go.Proofs.Ytelheeekbihfcab.Ob
