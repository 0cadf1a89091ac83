/- What a number reads back. What a name reads back. What is guessed of an object's file is the object. What is guessed of an object's file is the object: the walk of guess's own function. What is guessed of an object's file is the object: words, and the whole. What is guessed of an object's file is the object. -/
import Derived.Test.YtelheeekbihfcabNm
import Derived.Test.YtelheeekbihfcabWriteP
import Derived.Laws.BitsAllLaws
import Derived.Test.YtelheeekbihfcabPlaced
import Derived.Test.YtelheeekbihfcabGuess
section
set_option linter.unusedVariables false
set_option linter.unusedSimpArgs false
namespace Go.Proofs.Ytelheeekbihfcab.Ob
open Go.RowKit Go.Proofs Go.Proofs.Ytelheeekbihfcab.PObjectReads Go.Proofs.YtelheeekbihfcabW.PrintWords Go.Proofs.YtelheeekbihfcabW.PrintMore

theorem or_sum (a b i : Nat) (ha : a < 2 ^ i) : a ||| (b * 2 ^ i) = a + b * 2 ^ i := by
  have := Nat.two_pow_add_eq_or_of_lt ha b
  rw [Nat.or_comm, Nat.mul_comm, ← this]
  omega

theorem le_get : ∀ (n : Nat) (x : Int) (i : Nat), i < n → (le n x).getD i 0 = byteAt x i
  | 0, _, _, h => absurd h (Nat.not_lt_zero _)
  | n + 1, x, 0, _ => by simp [le, byteAt]
  | n + 1, x, i + 1, h => by
    have := le_get n (x / 256) i (by omega)
    simp only [le, List.getD_cons_succ, this]
    unfold byteAt
    rw [Int.ediv_ediv_of_nonneg (by decide), Int.pow_succ, Int.mul_comm]

theorem rd_mid (A B C : List Int) (at_ i : Nat) (hA : A.length = at_) (hi : i < B.length) : rd (A ++ (B ++ C)) ((at_ : Int) + (i : Int)) = B.getD i 0 := by
  unfold rd
  rw [show ((at_ : Int) + (i : Int)).toNat = at_ + i by omega]
  simp only [List.getD_eq_getElem?_getD]
  rw [List.getElem?_append_right (by omega), show at_ + i - A.length = i by omega, List.getElem?_append_left hi]

theorem num_step (v b : Int) (i : Nat) (hi : i < 8) (hv0 : 0 ≤ v) (hv : v < 256 ^ i) (hb0 : 0 ≤ b) (hb : b < 256) : Go.bits .or .u64 v (shl .u64 (IntKind.u64.wrap b) (8 * (i : Int))) = v + b * 256 ^ i := by
  obtain ⟨V, rfl⟩ := Int.eq_ofNat_of_zero_le hv0
  obtain ⟨B, rfl⟩ := Int.eq_ofNat_of_zero_le hb0
  have hp : (2 : Int) ^ (8 * i) = 256 ^ i := p256 i
  have hpn : (2 : Nat) ^ (8 * i) = 256 ^ i := by rw [Nat.pow_mul]
  have hc : ((256 ^ i : Nat) : Int) = (256 : Int) ^ i := Int.natCast_pow 256 i
  have hle : (256 : Nat) ^ i ≤ 256 ^ 7 := Nat.pow_le_pow_right (by decide) (by omega)
  rw [← hc] at hv hp ⊢
  generalize hQ : 256 ^ i = Q at *
  have hV : V < Q := by omega
  have hB : B < 256 := by omega
  have hBp : B * Q ≤ 255 * 256 ^ 7 := Nat.mul_le_mul (by omega) hle
  have hBq : B * Q < 18446744073709551616 := Nat.lt_of_le_of_lt hBp (by decide)
  have hVq : V < 18446744073709551616 := Nat.lt_of_lt_of_le hV (Nat.le_trans hle (by decide))
  have hw : IntKind.u64.wrap (B : Int) = B := u64_small _ (by omega) (by omega)
  have hs : shl .u64 (B : Int) (8 * (i : Int)) = ((B * Q : Nat) : Int) := by
    unfold shl
    rw [show min (8 * (i : Int)).toNat IntKind.u64.bits = 8 * i by rw [show IntKind.u64.bits = 64 from rfl]; omega, hp, ← Int.natCast_mul]
    generalize B * Q = Z at *
    simp [IntKind.wrap, IntKind.bits, IntKind.signed]
    omega
  rw [hw, hs, u64_or _ _ (by omega) (by omega) (by omega) (by omega)]
  simp only [Int.toNat_natCast]
  have hos := or_sum V B (8 * i) (by rw [hpn]; exact hV)
  rw [hpn] at hos
  rw [hos, Int.natCast_add, Int.natCast_mul]

theorem byteAt_nat (X i : Nat) : byteAt (X : Int) i = ((X / 256 ^ i % 256 : Nat) : Int) := by
  unfold byteAt
  rw [Int.natCast_emod, Int.natCast_ediv, Int.natCast_pow]
  rfl
theorem mod_step (X i : Nat) : X % 256 ^ (i + 1) = X % 256 ^ i + X / 256 ^ i % 256 * 256 ^ i := by
  rw [Nat.pow_succ, Nat.mod_mul, Nat.mul_comm (256 ^ i)]

theorem number_go (l : List Int) (at_ n X : Nat) (hn : n ≤ 8) (hlen : at_ + n ≤ l.length) (hl : l.length ≤ 1000000) (hrd : ∀ i : Nat, i < n → rd l ((at_ : Int) + (i : Int)) = byteAt (X : Int) i) : ∀ (d i : Nat), n - i = d → i ≤ n →
    object_reader_number.l0 (d + 1) at_ ((X % 256 ^ i : Nat) : Int) n i l = some (((X % 256 ^ n : Nat) : Int), true) := by
  intro d
  induction d with
  | zero =>
    intro i hd hi
    obtain rfl : i = n := by omega
    rw [object_reader_number.l0, if_neg (by omega)]
  | succ d ih =>
    intro i hd hi
    have h1 := ih (i + 1) (by omega) (by omega)
    have e1 : wrap64 ((at_ : Int) + (i : Int)) = (at_ : Int) + (i : Int) := by unfold wrap64; omega
    have e2 : wrap64 (8 * (i : Int)) = 8 * (i : Int) := by unfold wrap64; omega
    have e3 : wrap64 ((i : Int) + 1) = ((i + 1 : Nat) : Int) := by unfold wrap64; omega
    have hb : X / 256 ^ i % 256 < 256 := Nat.mod_lt _ (by decide)
    have hpos : X % 256 ^ i < 256 ^ i := Nat.mod_lt _ (Nat.pow_pos (by decide))
    have hm := mod_step X i
    have hst := num_step ((X % 256 ^ i : Nat) : Int) ((X / 256 ^ i % 256 : Nat) : Int) i (by omega) (Int.natCast_nonneg _) (by rw [show (256 : Int) ^ i = ((256 ^ i : Nat) : Int) from (Int.natCast_pow 256 i).symm]; exact Int.ofNat_lt.2 hpos) (Int.natCast_nonneg _) (Int.ofNat_lt.2 hb)
    rw [show (256 : Int) ^ i = ((256 ^ i : Nat) : Int) from (Int.natCast_pow 256 i).symm, ← Int.natCast_mul, ← Int.natCast_add, ← hm] at hst
    rw [object_reader_number.l0, if_pos (by omega), e1, if_pos (by omega), if_pos (by omega), e2, if_pos (by omega), hrd i (by omega), byteAt_nat, hst, e3]
    exact h1

/-- The number that stands there. -/
theorem number_at (A C : List Int) (n X at_ : Nat) (hA : A.length = at_) (hn : n ≤ 8) (hx : X < 256 ^ n) (hl : (A ++ (le n (X : Int) ++ C)).length ≤ 1000000) : ∃ k, object_reader_number.f k (A ++ (le n (X : Int) ++ C)) at_ n = some ((X : Int), true) := by
  obtain ⟨l, hL⟩ : ∃ l, l = A ++ (le n (X : Int) ++ C) := ⟨_, rfl⟩
  have hlen : l.length = at_ + n + C.length := by rw [hL]; simp [hA, le_length]; omega
  have hrd : ∀ i : Nat, i < n → rd l ((at_ : Int) + (i : Int)) = byteAt (X : Int) i := fun i hi => by rw [hL, rd_mid A (le n (X : Int)) C at_ i hA (by rw [le_length]; exact hi), le_get n _ i hi]
  rw [← hL] at hl ⊢
  clear hL
  have h0 := number_go l at_ n X hn (by omega) hl hrd n 0 rfl (Nat.zero_le _)
  rw [Nat.mod_eq_of_lt hx, Nat.pow_zero, Nat.mod_one] at h0
  clear hx hrd
  have hc : ¬ ((at_ : Int) > wrap64 ((l.length : Int) - (n : Int))) := by unfold wrap64; omega
  refine ⟨n + 2, ?_⟩
  rw [object_reader_number.f, if_neg (by omega), object_reader_number.j0, if_neg (fun h => hc (of_decide_eq_true h))]
  exact h0
end Go.Proofs.Ytelheeekbihfcab.Ob
end

section
set_option linter.unusedVariables false
set_option linter.unusedSimpArgs false
namespace Go.Proofs.Ytelheeekbihfcab.Ob
open Go.RowKit Go.Proofs Go.Proofs.Ytelheeekbihfcab.PObjectReads Go.Proofs.YtelheeekbihfcabW.PrintWords Go.Proofs.YtelheeekbihfcabW.PrintMore

theorem str_bytes (y : ByteArray) : strOfNums (bytesOf y) = y := by
  obtain ⟨⟨l⟩⟩ := y
  simp [strOfNums, bytesOf]
  have h : ((fun n : Int => UInt8.ofNat n.toNat) ∘ fun b : UInt8 => (b.toNat : Int)) = id := by funext b; simp
  rw [h, List.map_id]

theorem name_go (l : List Int) (at_ m : Nat) (hlen : at_ + m < l.length) (hl : l.length ≤ 1000000) (hnz : ∀ i : Nat, i < m → rd l ((at_ + i : Nat) : Int) ≠ 0) (hz : rd l ((at_ + m : Nat) : Int) = 0) : ∀ (d i : Nat), m - i = d → i ≤ m →
    object_reader_name.l0 (d + 1) at_ ((at_ + i : Nat) : Int) l = some (strOfNums ((l.take (at_ + m)).drop at_), true) := by
  intro d
  induction d with
  | zero =>
    intro i hd hi
    obtain rfl : i = m := by omega
    rw [object_reader_name.l0, if_pos (by omega), if_pos (by omega), if_pos hz, if_pos (by omega), if_pos (by omega), if_pos (by omega), Int.toNat_natCast, Int.toNat_natCast]
  | succ d ih =>
    intro i hd hi
    have h1 := ih (i + 1) (by omega) (by omega)
    have e3 : wrap64 (((at_ + i : Nat) : Int) + 1) = ((at_ + (i + 1) : Nat) : Int) := by unfold wrap64; omega
    rw [object_reader_name.l0, if_pos (by omega), if_pos (by omega), if_neg (hnz i (by omega)), e3]
    exact h1

theorem name_at (A C : List Int) (y : ByteArray) (at_ : Nat) (hA : A.length = at_) (hy : ∀ i : Nat, i < y.size → bt y (i : Int) ≠ 0) (hl : (A ++ (bytesOf y ++ (0 :: C))).length ≤ 1000000) : ∃ k, object_reader_name.f k (A ++ (bytesOf y ++ (0 :: C))) at_ = some (y, true) := by
  obtain ⟨l, hL⟩ : ∃ l, l = A ++ (bytesOf y ++ (0 :: C)) := ⟨_, rfl⟩
  have hlen : l.length = at_ + y.size + C.length + 1 := by rw [hL]; simp [hA, bytesOf_length]; omega
  have hnz : ∀ i : Nat, i < y.size → rd l ((at_ + i : Nat) : Int) ≠ 0 := fun i hi => by
    rw [hL, Int.natCast_add, rd_mid A (bytesOf y) (0 :: C) at_ i hA (by rw [bytesOf_length]; exact hi)]
    have := rd_bytesOf y (i : Int)
    unfold rd at this
    rw [Int.toNat_natCast] at this
    rw [this]
    exact hy i hi
  have hz : rd l ((at_ + y.size : Nat) : Int) = 0 := by
    rw [hL, ← List.append_assoc]
    have h1 := rd_mid (A ++ bytesOf y) (0 :: C) [] (at_ + y.size) 0 (by rw [List.length_append, hA, bytesOf_length]) (by simp)
    simpa using h1
  have hcut : (l.take (at_ + y.size)).drop at_ = bytesOf y := by
    rw [hL, ← List.append_assoc, List.take_left' (by rw [List.length_append, hA, bytesOf_length]), List.drop_left' hA]
  rw [← hL] at hl ⊢
  clear hL
  have h0 := name_go l at_ y.size (by omega) hl hnz hz y.size 0 rfl (Nat.zero_le _)
  rw [hcut, str_bytes] at h0
  refine ⟨y.size + 1, ?_⟩
  rw [object_reader_name.f, if_neg (by omega)]
  exact h0

/-- Where the parts stand, with no label. -/
theorem placed0 (e s : Int) (ws : List Int) (hw : ws.length ≤ 20000) : ∃ k a b c d, object_placed.f k e s ws [] = some (120, sOf ws, a, b, c, d) := by
  unfold object_placed.f
  have h1 : wrap64 (120 + wrap64 (4 * (ws.length : Int))) = 120 + 4 * (ws.length : Int) := by unfold wrap64; omega
  rw [h1, upO _ (by omega) (by omega)]
  simp only [Option.bind]
  have hs : up8 (120 + 4 * (ws.length : Int)) = sOf ws := rfl
  have hb : 0 ≤ sOf ws ∧ sOf ws ≤ 100000 := by unfold sOf up8; omega
  rw [hs]
  have e2 : wrap64 (24 * wrap64 (1 + (([] : List S47).length : Int))) = 24 := by unfold wrap64; simp
  have e3 : wrap64 (wrap64 (wrap64 (sOf ws + 24) + 1) + 33) = sOf ws + 58 := by unfold wrap64; omega
  refine ⟨1, wrap64 (sOf ws + 24), wrap64 (wrap64 (sOf ws + 24) + 1), up8 (sOf ws + 58), wrap64 (up8 (sOf ws + 58) + 320), ?_⟩
  rw [e2, object_placed.l0, if_neg (by simp), e3, upO _ (by omega) (by omega)]
  rfl
end Go.Proofs.Ytelheeekbihfcab.Ob
end

section
set_option linter.unusedVariables false
set_option linter.unusedSimpArgs false
namespace Go.Proofs.Ytelheeekbihfcab.Ob
open Go.RowKit Go.Proofs Go.Proofs.Ytelheeekbihfcab.PObjectReads Go.Proofs.YtelheeekbihfcabW.PrintWords Go.Proofs.YtelheeekbihfcabW.PrintMore

def Evn {α : Type} (f : Nat → Option α) (r : α) : Prop := ∃ K, ∀ k, K ≤ k → f k = some r
theorem evn {α : Type} {f : Nat → Option α} {r : α} (hm : ∀ k, LeO (f k) (f (k + 1))) (h : ∃ k, f k = some r) : Evn f r := by
  obtain ⟨K, hK⟩ := h
  refine ⟨K, fun k hk => ?_⟩
  obtain ⟨m, rfl⟩ : ∃ m, k = K + m := ⟨k - K, by omega⟩
  clear hk
  induction m with
  | zero => exact hK
  | succ m ih => exact hm _ _ ih

theorem pad8_len (bs : List Int) : ((pad8 bs).length : Int) = up8 bs.length := by
  simp [pad8, up8]; omega

theorem words_split (ws : List Int) (i : Nat) (h : i < ws.length) : wordsB ws = wordsB (ws.take i) ++ (le 4 ws[i] ++ wordsB (ws.drop (i + 1))) := by
  conv => lhs; rw [← List.take_append_drop i ws, List.drop_eq_getElem_cons h]
  rw [wordsB_app]
  rfl
theorem syms_split : ∀ (ls : List S47) (a i : Nat) (h : i < ls.length), ∃ C, symsB a ls = symsB a (ls.take i) ++ (symB ((a + nm (ls.take i) : Nat) : Int) ls[i] ++ C)
  | x :: r, a, 0, _ => ⟨symsB (a + x.f0.size + 1) r, by simp [symsB, nm]⟩
  | x :: r, a, i + 1, h => by
    obtain ⟨C, hC⟩ := syms_split r (a + x.f0.size + 1) i (by simpa using h)
    refine ⟨C, ?_⟩
    simp only [symsB, List.take_succ_cons, List.getElem_cons_succ, nm, hC, List.append_assoc]
    rw [show a + x.f0.size + 1 + nm (List.take i r) = a + (x.f0.size + 1 + nm (List.take i r)) by omega]
theorem names_split : ∀ (ls : List S47) (i : Nat) (h : i < ls.length), ∃ C, namesB ls = namesB (ls.take i) ++ (bytesOf ls[i].f0 ++ (0 :: C))
  | x :: r, 0, _ => ⟨namesB r, by simp [namesB, le]⟩
  | x :: r, i + 1, h => by
    obtain ⟨C, hC⟩ := names_split r i (by simpa using h)
    exact ⟨C, by simp only [namesB, List.take_succ_cons, List.getElem_cons_succ, hC, List.append_assoc]⟩

section
variable (e s : Int) (ws : List Int) (ls : List S47)
/-- The first part, padded. -/
def part1 : List Int := pad8 (headB e s (4 * (ws.length : Int)) (hOf ws ls) ++ wordsB ws)
theorem part1_len : ((part1 e s ws ls).length : Int) = sOf ws := by
  rw [part1, pad8_len, List.length_append, headB_len, wordsB_len]
  rfl
def body : List Int := part1 e s ws ls ++ (le 24 0 ++ (symsB 1 ls ++ (le 1 0 ++ (namesB ls ++ bytesOf sects))))
theorem body_l : ((pad8 (body e s ws ls)).length : Int) = hOf ws ls := by
  have h := body_len e s ws ls
  rw [pad8_len]
  have hb : ((body e s ws ls).length : Int) = ((sOf ws + lOf ls + zOf ls + 33).toNat : Nat) := by
    rw [← h]
    simp only [body, part1, List.append_assoc]
  rw [hb]
  unfold hOf
  have h1 : 0 ≤ sOf ws + lOf ls + zOf ls + 33 := by unfold sOf lOf zOf up8; omega
  rw [Int.toNat_of_nonneg h1]
theorem file_body : fileB e s ws ls = pad8 (body e s ws ls) ++ (sectB 0 0 0 0 0 0 0 0 0 ++ (sectB 1 1 6 120 (4 * (ws.length : Int)) 0 0 4 0 ++ (sectB 7 2 0 (sOf ws) (lOf ls) 3 1 8 24 ++ (sectB 15 3 0 (sOf ws + lOf ls) (zOf ls) 0 0 1 0 ++ sectB 23 3 0 (sOf ws + lOf ls + zOf ls) 33 0 0 1 0)))) := rfl
theorem sect_len (a b c d f g i h k : Int) : (sectB a b c d f g i h k).length = 64 := by simp [sectB, le_length]
theorem file_len : ((fileB e s ws ls).length : Int) = hOf ws ls + 320 := by
  have h := body_l e s ws ls
  rw [file_body]
  simp only [List.length_append, sect_len]
  omega

theorem at24 : ∃ C, fileB e s ws ls = (bytesOf elf ++ (le 9 0 ++ (le 2 2 ++ (le 2 243 ++ le 4 1)))) ++ (le 8 e ++ C) := ⟨_, by simp only [fileB, pad8, headB, List.append_assoc]; rfl⟩
theorem at40 : ∃ C, fileB e s ws ls = (bytesOf elf ++ (le 9 0 ++ (le 2 2 ++ (le 2 243 ++ (le 4 1 ++ (le 8 e ++ le 8 64)))))) ++ (le 8 (hOf ws ls) ++ C) := ⟨_, by simp only [fileB, pad8, headB, List.append_assoc]; rfl⟩
theorem at96 : ∃ C, fileB e s ws ls = (bytesOf elf ++ (le 9 0 ++ (le 2 2 ++ (le 2 243 ++ (le 4 1 ++ (le 8 e ++ (le 8 64 ++ (le 8 (hOf ws ls) ++ (le 4 0 ++ (le 2 64 ++ (le 2 56 ++ (le 2 1 ++ (le 2 64 ++ (le 2 5 ++ (le 2 4 ++ (le 4 1 ++ (le 4 7 ++ (le 8 120 ++ le 16 0)))))))))))))))))) ++ (le 8 (4 * (ws.length : Int)) ++ C) := ⟨_, by simp only [fileB, pad8, headB, List.append_assoc]; rfl⟩
theorem at104 : ∃ C, fileB e s ws ls = (bytesOf elf ++ (le 9 0 ++ (le 2 2 ++ (le 2 243 ++ (le 4 1 ++ (le 8 e ++ (le 8 64 ++ (le 8 (hOf ws ls) ++ (le 4 0 ++ (le 2 64 ++ (le 2 56 ++ (le 2 1 ++ (le 2 64 ++ (le 2 5 ++ (le 2 4 ++ (le 4 1 ++ (le 4 7 ++ (le 8 120 ++ (le 16 0 ++ le 8 (4 * (ws.length : Int))))))))))))))))))))) ++ (le 8 s ++ C) := ⟨_, by simp only [fileB, pad8, headB, List.append_assoc]; rfl⟩
theorem atWord (i : Nat) (h : i < ws.length) : ∃ C, fileB e s ws ls = (headB e s (4 * (ws.length : Int)) (hOf ws ls) ++ wordsB (ws.take i)) ++ (le 4 ws[i] ++ C) := by
  obtain ⟨R, hR⟩ : ∃ R, fileB e s ws ls = headB e s (4 * (ws.length : Int)) (hOf ws ls) ++ (wordsB ws ++ R) := ⟨_, by simp only [fileB, pad8, List.append_assoc]; rfl⟩
  rw [words_split ws i h] at hR
  exact ⟨_, by rw [hR]; simp only [List.append_assoc]; rfl⟩
theorem atSize : ∃ C, fileB e s ws ls = (pad8 (body e s ws ls) ++ (sectB 0 0 0 0 0 0 0 0 0 ++ (sectB 1 1 6 120 (4 * (ws.length : Int)) 0 0 4 0 ++ (le 4 7 ++ (le 4 2 ++ (le 8 0 ++ (le 8 0 ++ le 8 (sOf ws)))))))) ++ (le 8 (lOf ls) ++ C) := by
  refine ⟨le 4 3 ++ (le 4 1 ++ (le 8 8 ++ (le 8 24 ++ (sectB 15 3 0 (sOf ws + lOf ls) (zOf ls) 0 0 1 0 ++ sectB 23 3 0 (sOf ws + lOf ls + zOf ls) 33 0 0 1 0)))), ?_⟩
  rw [file_body, show sectB 7 2 0 (sOf ws) (lOf ls) 3 1 8 24 = le 4 7 ++ (le 4 2 ++ (le 8 0 ++ (le 8 0 ++ (le 8 (sOf ws) ++ (le 8 (lOf ls) ++ (le 4 3 ++ (le 4 1 ++ (le 8 8 ++ le 8 24)))))))) from rfl]
  simp only [List.append_assoc]
theorem fileP : ∃ R, fileB e s ws ls = part1 e s ws ls ++ (le 24 0 ++ (symsB 1 ls ++ (le 1 0 ++ (namesB ls ++ R)))) := by
  refine ⟨bytesOf sects ++ (List.replicate ((8 - (body e s ws ls).length % 8) % 8) 0 ++ (sectB 0 0 0 0 0 0 0 0 0 ++ (sectB 1 1 6 120 (4 * (ws.length : Int)) 0 0 4 0 ++ (sectB 7 2 0 (sOf ws) (lOf ls) 3 1 8 24 ++ (sectB 15 3 0 (sOf ws + lOf ls) (zOf ls) 0 0 1 0 ++ sectB 23 3 0 (sOf ws + lOf ls + zOf ls) 33 0 0 1 0))))), ?_⟩
  rw [file_body]
  show (body e s ws ls ++ List.replicate ((8 - (body e s ws ls).length % 8) % 8) 0) ++ _ = _
  generalize List.replicate ((8 - (body e s ws ls).length % 8) % 8) (0 : Int) = Z
  unfold body
  simp only [List.append_assoc]
theorem atLabel (i : Nat) (h : i < ls.length) : ∃ C, fileB e s ws ls = (part1 e s ws ls ++ (le 24 0 ++ (symsB 1 (ls.take i) ++ (le 4 ((1 + nm (ls.take i) : Nat) : Int) ++ (le 1 16 ++ (le 1 0 ++ le 2 1)))))) ++ (le 8 ls[i].f1 ++ C) := by
  obtain ⟨R, hR⟩ := fileP e s ws ls
  obtain ⟨C, hC⟩ := syms_split ls 1 i h
  rw [hC] at hR
  exact ⟨_, by rw [hR, symB]; simp only [List.append_assoc]; rfl⟩
theorem atName (i : Nat) (h : i < ls.length) : ∃ C, fileB e s ws ls = (part1 e s ws ls ++ (le 24 0 ++ (symsB 1 ls ++ (le 1 0 ++ namesB (ls.take i))))) ++ (bytesOf ls[i].f0 ++ (0 :: C)) := by
  obtain ⟨R, hR⟩ := fileP e s ws ls
  obtain ⟨C, hC⟩ := names_split ls i h
  rw [hC] at hR
  exact ⟨_, by rw [hR]; simp only [List.append_assoc, List.cons_append]; rfl⟩
end
end Go.Proofs.Ytelheeekbihfcab.Ob
end

section
set_option linter.unusedVariables false
set_option linter.unusedSimpArgs false
namespace Go.Proofs.Ytelheeekbihfcab.Ob
open Go.RowKit Go.Proofs Go.Proofs.Ytelheeekbihfcab.PObjectReads Go.Proofs.YtelheeekbihfcabW.PrintWords Go.Proofs.YtelheeekbihfcabW.PrintMore

theorem num_ev (F A C : List Int) (n : Nat) (ni ai x : Int) (hni : ni = n) (hF : F = A ++ (le n x ++ C)) (hA : (A.length : Int) = ai) (hn : n ≤ 8) (hx0 : 0 ≤ x) (hx : x < ((256 ^ n : Nat) : Int)) (hl : F.length ≤ 1000000) : Evn (fun k => object_reader_number.f k F ai ni) (x, true) := by
  subst hni hA
  obtain ⟨X, rfl⟩ := Int.eq_ofNat_of_zero_le hx0
  subst hF
  exact evn (fun k => object_reader_number.mono _ _ _ k) (number_at A C n X A.length rfl hn (by omega) hl)
theorem name_ev (F A C : List Int) (y : ByteArray) (ai : Int) (hF : F = A ++ (bytesOf y ++ (0 :: C))) (hA : (A.length : Int) = ai) (hy : ∀ i : Nat, i < y.size → bt y (i : Int) ≠ 0) (hl : F.length ≤ 1000000) : Evn (fun k => object_reader_name.f k F ai) (y, true) := by
  subst hA hF
  exact evn (fun k => object_reader_name.mono _ _ k) (name_at A C y A.length rfl hy hl)

theorem w_small (x : Int) (h0 : 0 ≤ x) (h1 : x ≤ 1000000000) : wrap64 x = x := by unfold wrap64; omega
theorem w_e1 (S i : Int) (h0 : 0 ≤ S) (h1 : S ≤ 100000) (h2 : 0 ≤ i) (h3 : i ≤ 10000) : wrap64 (wrap64 (S + wrap64 (24 * i)) + 8) = S + 24 * i + 8 := by
  rw [w_small (24 * i) (by omega) (by omega), w_small (S + 24 * i) (by omega) (by omega), w_small _ (by omega) (by omega)]
theorem w_e2 (T z : Int) (h0 : 0 ≤ T) (h1 : T ≤ 100000000) (h2 : 0 ≤ z) (h3 : z ≤ 10000) : wrap64 (T + wrap64 (z + 1)) = T + (z + 1) := by
  rw [w_small (z + 1) (by omega) (by omega), w_small _ (by omega) (by omega)]

theorem small_lt {m : Nat} (x : Nat) (h : x ≤ m) (hm : m ≤ 5000) : x < 5864062014805 := Nat.lt_of_le_of_lt h (Nat.lt_of_le_of_lt hm (by decide))
theorem evn_step {α β γ : Type} {f : Nat → Option α} {g : Nat → Option α} {a : Nat → Option β} {b : Nat → Option γ} {va : β} {vb : γ} {r : α} {K0 K1 K2 : Nat} (h : ∀ k, a k = some va → b k = some vb → f (k + 1) = g k) (h0 : ∀ k, K0 ≤ k → g k = some r) (h1 : ∀ k, K1 ≤ k → a k = some va) (h2 : ∀ k, K2 ≤ k → b k = some vb) : Evn f r := by
  refine ⟨K0 + K1 + K2 + 1, fun k hk => ?_⟩
  obtain ⟨k, rfl⟩ : ∃ k', k = k' + 1 := ⟨k - 1, by omega⟩
  exact (h k (h1 k (by omega)) (h2 k (by omega))).trans (h0 k (by omega))
/-- One round of the labels' loop. -/
theorem l1_step (k : Nat) (S L pos i : Int) (l : List Int) (e s : Int) (ws : List Int) (ls : List S47) (v : Int) (y : ByteArray) (at_ pos' i' : Int)
    (hc : i < wrap64 (Int.tdiv (wrap64 L) 24)) (ha : wrap64 (wrap64 (S + wrap64 (24 * i)) + 8) = at_) (h1 : object_reader_number.f k l at_ 8 = some (v, true)) (h2 : object_reader_name.f k l pos = some (y, true)) (hl : ls.length < 5864062014805)
    (hp : wrap64 (pos + wrap64 ((y.size : Int) + 1)) = pos') (hi : wrap64 (i + 1) = i') :
    object_reader_guess.l1 (k + 1) S L pos i l e s ws ls = object_reader_guess.l1 k S L pos' i' l e s ws (ls ++ [(⟨y, v⟩ : S47)]) := by
  subst ha hp hi
  rw [object_reader_guess.l1, if_pos hc, h1]
  simp only [Option.bind]
  rw [h2]
  simp only
  rw [if_pos trivial, if_pos trivial, if_pos hl]
theorem l1_end (k : Nat) (S L pos i : Int) (l : List Int) (e s : Int) (ws : List Int) (ls : List S47) (hc : ¬ i < wrap64 (Int.tdiv (wrap64 L) 24)) :
    object_reader_guess.l1 (k + 1) S L pos i l e s ws ls = some (e, s, ws, ls, true) := by
  rw [object_reader_guess.l1, if_neg hc]

theorem labels_ev (l : List Int) (S : Int) (e s : Int) (ws : List Int) (ls : List S47) (hS : 0 ≤ S ∧ S ≤ 100000) (hn : ls.length ≤ 5000) (hsz : ∀ x, x ∈ ls → x.f0.size ≤ 1000)
    (hN : ∀ (i : Nat) (h : i < ls.length), Evn (fun k => object_reader_number.f k l (S + 24 * ((i : Int) + 1) + 8) 8) (ls[i].f1, true))
    (hY : ∀ (i : Nat) (h : i < ls.length), Evn (fun k => object_reader_name.f k l (S + lOf ls + 1 + (nm (ls.take i) : Int))) (ls[i].f0, true)) : ∀ (d i : Nat), ls.length - i = d → i ≤ ls.length →
    Evn (fun k => object_reader_guess.l1 k S (lOf ls) (S + lOf ls + 1 + (nm (ls.take i) : Int)) ((i : Int) + 1) l e s ws (ls.take i)) (e, s, ws, ls, true) := by
  have hdiv : wrap64 (Int.tdiv (wrap64 (lOf ls)) 24) = (ls.length : Int) + 1 := by
    have e1 : wrap64 (lOf ls) = lOf ls := by unfold wrap64 lOf; omega
    rw [e1, Int.tdiv_eq_ediv_of_nonneg (by unfold lOf; omega)]
    unfold wrap64 lOf
    omega
  have hlo : lOf ls = 24 * ((ls.length : Int) + 1) := rfl
  intro d
  induction d with
  | zero =>
    intro i hd hi
    obtain rfl : i = ls.length := by omega
    refine ⟨1, fun k hk => ?_⟩
    obtain ⟨k, rfl⟩ : ∃ k', k = k' + 1 := ⟨k - 1, by omega⟩
    have := l1_end k S (lOf ls) (S + lOf ls + 1 + (nm (ls.take ls.length) : Int)) ((ls.length : Int) + 1) l e s ws (ls.take ls.length) (by rw [hdiv]; omega)
    rw [List.take_length] at this ⊢
    exact this
  | succ d ih =>
    intro i hd hi
    have hlt : i < ls.length := by omega
    obtain ⟨K0, hK0⟩ := ih (i + 1) (by omega) hlt
    clear ih
    have hnl := nm_le (ls.take i) (fun x hx => hsz x (List.mem_of_mem_take hx))
    rw [List.length_take] at hnl
    have hnt := nm_take ls i hlt
    have hz := hsz ls[i] (List.getElem_mem hlt)
    have hcc : (i : Int) + 1 < wrap64 (Int.tdiv (wrap64 (lOf ls)) 24) := by rw [hdiv]; omega
    have ha1 := w_e1 S ((i : Int) + 1) hS.1 hS.2 (by omega) (by omega)
    have hp1 : wrap64 (S + lOf ls + 1 + (nm (ls.take i) : Int) + wrap64 ((ls[i].f0.size : Int) + 1)) = S + lOf ls + 1 + (nm (ls.take (i + 1)) : Int) := by rw [w_e2 _ _ (by omega) (by omega) (by omega) (by omega), hnt]; omega
    have hi1 : wrap64 ((i : Int) + 1 + 1) = ((i + 1 : Nat) : Int) + 1 := by rw [w_small _ (by omega) (by omega)]; omega
    have hstep := fun (k : Nat) (h1 : object_reader_number.f k l (S + 24 * ((i : Int) + 1) + 8) 8 = some (ls[i].f1, true)) (h2 : object_reader_name.f k l (S + lOf ls + 1 + (nm (ls.take i) : Int)) = some (ls[i].f0, true)) => l1_step k S (lOf ls) (S + lOf ls + 1 + (nm (ls.take i) : Int)) ((i : Int) + 1) l e s ws (ls.take i) ls[i].f1 ls[i].f0 (S + 24 * ((i : Int) + 1) + 8) (S + lOf ls + 1 + (nm (ls.take (i + 1)) : Int)) (((i + 1 : Nat) : Int) + 1) hcc ha1 h1 h2 (small_lt _ (Nat.le_trans (List.length_take_le i ls) (Nat.le_of_lt hlt)) hn) hp1 hi1
    have e4 : ls.take i ++ [(⟨ls[i].f0, ls[i].f1⟩ : S47)] = ls.take (i + 1) := by rw [List.take_succ_eq_append_getElem hlt]
    rw [e4] at hstep
    obtain ⟨K1, hK1⟩ := hN i hlt
    obtain ⟨K2, hK2⟩ := hY i hlt
    exact evn_step hstep hK0 hK1 hK2
end Go.Proofs.Ytelheeekbihfcab.Ob
end

section
set_option linter.unusedVariables false
set_option linter.unusedSimpArgs false
namespace Go.Proofs.Ytelheeekbihfcab.Ob
open Go.RowKit Go.Proofs Go.Proofs.Ytelheeekbihfcab.PObjectReads Go.Proofs.YtelheeekbihfcabW.PrintWords Go.Proofs.YtelheeekbihfcabW.PrintMore

theorem small_ltw {m : Nat} (x : Nat) (h : x ≤ m) (hm : m ≤ 20000) : x < 35184372088832 := Nat.lt_of_le_of_lt h (Nat.lt_of_le_of_lt hm (by decide))
theorem l0_step (k : Nat) (n i : Int) (l : List Int) (e s : Int) (ws : List Int) (v at_ i' : Int)
    (hc : i < n) (ha : wrap64 (120 + wrap64 (4 * i)) = at_) (h1 : object_reader_number.f k l at_ 4 = some (v, true)) (hl : ws.length < 35184372088832)
    (hi : wrap64 (i + 1) = i') :
    object_reader_guess.l0 (k + 1) n i l e s ws [] = object_reader_guess.l0 k n i' l e s (ws ++ [v % 4294967296]) [] := by
  subst ha hi
  rw [object_reader_guess.l0, if_pos hc, h1]
  simp only [Option.bind]
  rw [if_pos trivial, if_pos hl]
theorem l0_end (k : Nat) (n i : Int) (l : List Int) (e s : Int) (ws : List Int) (S a b c d h L at_ T : Int) (hc : ¬ i < n) (hp : object_placed.f (k + 1) e s ws [] = some (120, S, a, b, c, d))
    (h1 : object_reader_number.f (k + 1) l 40 8 = some (h, true)) (hh : ¬ h > IntKind.u64.wrap (l.length : Int)) (ha : wrap64 (wrap64 (wrap64 h + 128) + 32) = at_)
    (h2 : object_reader_number.f (k + 1) l at_ 8 = some (L, true)) (hL : ¬ L < 24) (hm : Int.tmod L 24 = 0) (hle : ¬ L > IntKind.u64.wrap (l.length : Int)) (hT : wrap64 (wrap64 (S + wrap64 L) + 1) = T) :
    object_reader_guess.l0 (k + 2) n i l e s ws [] = object_reader_guess.l1 k S L T 1 l e s ws [] := by
  subst ha hT
  rw [object_reader_guess.l0, if_neg hc, hp]
  simp only [Option.bind]
  rw [h1]
  simp only
  rw [if_neg hh, h2]
  simp only
  rw [if_pos trivial, if_neg hL, if_pos hm, object_reader_guess.j2, if_neg (by rw [decide_eq_true_eq]; exact hle)]
theorem f_step (k : Nat) (l : List Int) (n e s : Int) (n4 : Int) (h0 : object_reader_number.f (k + 1) l 96 8 = some (n4, true)) (hm : Int.tmod n4 4 = 0) (hle : ¬ n4 > 262144)
    (h1 : object_reader_number.f k l 24 8 = some (e, true)) (h2 : object_reader_number.f k l 104 8 = some (s, true)) (hn : wrap64 (Int.tdiv (wrap64 n4) 4) = n) :
    object_reader_guess.f (k + 1) l = object_reader_guess.l0 k n 0 l e s [] [] := by
  subst hn
  rw [object_reader_guess.f, h0]
  simp only [Option.bind]
  rw [if_pos trivial, if_pos hm, object_reader_guess.j0, if_neg (by rw [decide_eq_true_eq]; exact hle), h1]
  simp only [Option.bind]
  rw [h2]

theorem evn_step1 {α β : Type} {f : Nat → Option α} {g : Nat → Option α} {a : Nat → Option β} {va : β} {r : α} {K0 K1 : Nat} (h : ∀ k, a k = some va → f (k + 1) = g k) (h0 : ∀ k, K0 ≤ k → g k = some r) (h1 : ∀ k, K1 ≤ k → a k = some va) : Evn f r := by
  refine ⟨K0 + K1 + 1, fun k hk => ?_⟩
  obtain ⟨k, rfl⟩ : ∃ k', k = k' + 1 := ⟨k - 1, by omega⟩
  exact (h k (h1 k (by omega))).trans (h0 k (by omega))
theorem evn_step2 {α β γ δ : Type} {f : Nat → Option α} {g : Nat → Option α} {a : Nat → Option β} {b : Nat → Option γ} {c : Nat → Option δ} {va : β} {vb : γ} {vc : δ} {r : α} (h : ∀ k, a (k + 1) = some va → b (k + 1) = some vb → c (k + 1) = some vc → f (k + 2) = g k) (h0 : Evn g r) (h1 : Evn a va) (h2 : Evn b vb) (h3 : Evn c vc) : Evn f r := by
  obtain ⟨K0, h0⟩ := h0
  obtain ⟨K1, h1⟩ := h1
  obtain ⟨K2, h2⟩ := h2
  obtain ⟨K3, h3⟩ := h3
  refine ⟨K0 + K1 + K2 + K3 + 2, fun k hk => ?_⟩
  obtain ⟨k, rfl⟩ : ∃ k', k = k' + 2 := ⟨k - 2, by omega⟩
  exact (h k (h1 (k + 1) (by omega)) (h2 (k + 1) (by omega)) (h3 (k + 1) (by omega))).trans (h0 k (by omega))
theorem evn_step3 {α β γ δ : Type} {f : Nat → Option α} {g : Nat → Option α} {a : Nat → Option β} {b : Nat → Option γ} {c : Nat → Option δ} {va : β} {vb : γ} {vc : δ} {r : α} (h : ∀ k, a (k + 1) = some va → b k = some vb → c k = some vc → f (k + 1) = g k) (h0 : Evn g r) (h1 : Evn a va) (h2 : Evn b vb) (h3 : Evn c vc) : Evn f r := by
  obtain ⟨K0, h0⟩ := h0
  obtain ⟨K1, h1⟩ := h1
  obtain ⟨K2, h2⟩ := h2
  obtain ⟨K3, h3⟩ := h3
  refine ⟨K0 + K1 + K2 + K3 + 2, fun k hk => ?_⟩
  obtain ⟨k, rfl⟩ : ∃ k', k = k' + 1 := ⟨k - 1, by omega⟩
  exact (h k (h1 (k + 1) (by omega)) (h2 k (by omega)) (h3 k (by omega))).trans (h0 k (by omega))

theorem words_ev (l : List Int) (e s : Int) (ws : List Int) (r : Int × Int × List Int × List S47 × Bool) (hn : ws.length ≤ 20000) (hw : ∀ x, x ∈ ws → 0 ≤ x ∧ x < 4294967296)
    (hN : ∀ (i : Nat) (h : i < ws.length), Evn (fun k => object_reader_number.f k l (120 + 4 * (i : Int)) 4) (ws[i], true))
    (hE : Evn (fun k => object_reader_guess.l0 k (ws.length : Int) (ws.length : Int) l e s ws []) r) : ∀ (d i : Nat), ws.length - i = d → i ≤ ws.length →
    Evn (fun k => object_reader_guess.l0 k (ws.length : Int) (i : Int) l e s (ws.take i) []) r := by
  intro d
  induction d with
  | zero =>
    intro i hd hi
    obtain rfl : i = ws.length := by omega
    rw [List.take_length]
    exact hE
  | succ d ih =>
    intro i hd hi
    have hlt : i < ws.length := by omega
    obtain ⟨K0, hK0⟩ := ih (i + 1) (by omega) hlt
    clear ih
    have hz := hw ws[i] (List.getElem_mem hlt)
    have e4 : ws.take i ++ [ws[i] % 4294967296] = ws.take (i + 1) := by rw [List.take_succ_eq_append_getElem hlt, Int.emod_eq_of_lt hz.1 hz.2]
    clear hz
    have hi1 : wrap64 ((i : Int) + 1) = ((i + 1 : Nat) : Int) := by rw [w_small _ (by omega) (by omega)]; omega
    have ha1 : wrap64 (120 + wrap64 (4 * (i : Int))) = 120 + 4 * (i : Int) := by clear hi1; rw [w_small (4 * (i : Int)) (by omega) (by omega), w_small _ (by omega) (by omega)]
    have hstep := fun (k : Nat) (h1 : object_reader_number.f k l (120 + 4 * (i : Int)) 4 = some (ws[i], true)) => l0_step k (ws.length : Int) (i : Int) l e s (ws.take i) ws[i] (120 + 4 * (i : Int)) ((i + 1 : Nat) : Int) (Int.ofNat_lt.2 hlt) ha1 h1 (small_ltw _ (Nat.le_trans (List.length_take_le i ws) (Nat.le_of_lt hlt)) hn) hi1
    rw [e4] at hstep
    obtain ⟨K1, hK1⟩ := hN i hlt
    exact evn_step1 hstep hK0 hK1
end Go.Proofs.Ytelheeekbihfcab.Ob
end

section
set_option linter.unusedVariables false
set_option linter.unusedSimpArgs false
namespace Go.Proofs.Ytelheeekbihfcab.Ob
open Go.RowKit Go.Proofs Go.Proofs.Ytelheeekbihfcab.PObjectReads Go.Proofs.YtelheeekbihfcabW.PrintWords Go.Proofs.YtelheeekbihfcabW.PrintMore
section
variable {e s : Int} {ws : List Int} {ls : List S47}
theorem placed_ev (hw : ws.length ≤ 20000) : ∃ a b c d, Evn (fun k => object_placed.f k e s ws []) (120, sOf ws, a, b, c, d) := by
  obtain ⟨k, a, b, c, d, h⟩ := placed0 e s ws hw
  exact ⟨a, b, c, d, evn (fun k => object_placed.mono _ _ _ _ k) ⟨k, h⟩⟩
theorem file_big (hF : Fits e s ws ls) : ((fileB e s ws ls).length : Int) = hOf ws ls + 320 ∧ lOf ls ≤ hOf ws ls ∧ 0 ≤ sOf ws ∧ sOf ws ≤ 100000 ∧ 0 ≤ hOf ws ls ∧ lOf ls ≤ 200000 ∧ hOf ws ls ≤ 10000000 := by
  have h := file_len e s ws ls
  have hw := hF.wn
  have hl := hF.ln
  have hnm := nm_le ls hF.n
  unfold hOf sOf lOf zOf up8 at *
  omega

theorem w_t1 (h : Int) (h0 : 0 ≤ h) (h1 : h ≤ 10000000) : wrap64 (wrap64 (wrap64 h + 128) + 32) = h + 160 := by
  rw [w_small h (by omega) (by omega), w_small (h + 128) (by omega) (by omega), w_small _ (by omega) (by omega)]; omega
theorem w_t2 (a b : Int) (h0 : 0 ≤ a) (h1 : a ≤ 10000000) (h2 : 0 ≤ b) (h3 : b ≤ 10000000) : wrap64 (wrap64 (a + wrap64 b) + 1) = a + b + 1 := by
  rw [w_small b (by omega) (by omega), w_small (a + b) (by omega) (by omega), w_small _ (by omega) (by omega)]
theorem tm4 (n : Nat) : Int.tmod (4 * (n : Int)) 4 = 0 := by rw [Int.tmod_eq_emod_of_nonneg (by omega)]; omega
theorem td4 (n : Nat) (h : n ≤ 20000) : wrap64 (Int.tdiv (wrap64 (4 * (n : Int))) 4) = (n : Int) := by
  rw [w_small (4 * (n : Int)) (by omega) (by omega), Int.tdiv_eq_ediv_of_nonneg (by omega), w_small _ (by omega) (by omega)]; omega
theorem guess_file (hF : Fits e s ws ls) (hz : ∀ x, x ∈ ls → ∀ i : Nat, i < x.f0.size → bt x.f0 (i : Int) ≠ 0) (hlen : (fileB e s ws ls).length ≤ 1000000) : Evn (fun k => object_reader_guess.f k (fileB e s ws ls)) (e, s, ws, ls, true) := by
  obtain ⟨hl1, hl2, hS0, hS1, hH0, hL1, hH1⟩ := file_big hF
  have hwn := hF.wn
  have hlo : 24 ≤ lOf ls := by unfold lOf; omega
  have hlm : lOf ls % 24 = 0 := by unfold lOf; omega
  obtain ⟨C24, h24⟩ := at24 e s ws ls
  obtain ⟨C40, h40⟩ := at40 e s ws ls
  obtain ⟨C96, h96⟩ := at96 e s ws ls
  obtain ⟨C104, h104⟩ := at104 e s ws ls
  obtain ⟨CS, hCS⟩ := atSize e s ws ls
  have n24 := num_ev _ _ C24 8 8 24 e rfl h24 (by simp [le_length, bytesOf_length]; rfl) (by omega) hF.e.1 (by have := hF.e.2; omega) hlen
  have n40 := num_ev _ _ C40 8 8 40 (hOf ws ls) rfl h40 (by simp [le_length, bytesOf_length]; rfl) (by omega) hH0 (by omega) hlen
  have n96 := num_ev _ _ C96 8 8 96 (4 * (ws.length : Int)) rfl h96 (by simp [le_length, bytesOf_length]; rfl) (by omega) (by omega) (by omega) hlen
  have n104 := num_ev _ _ C104 8 8 104 s rfl h104 (by simp [le_length, bytesOf_length]; rfl) (by omega) hF.s.1 (by have := hF.s.2; omega) hlen
  have nS := num_ev _ _ CS 8 8 (hOf ws ls + 160) (lOf ls) rfl hCS (by
    have := body_l e s ws ls
    simp only [List.length_append, le_length, sect_len]
    omega) (by omega) (by omega) (by omega) hlen
  have hN : ∀ (i : Nat) (h : i < ls.length), Evn (fun k => object_reader_number.f k (fileB e s ws ls) (sOf ws + 24 * ((i : Int) + 1) + 8) 8) (ls[i].f1, true) := fun i h => by
    obtain ⟨C1, hC1⟩ := atLabel e s ws ls i h
    have hra := hF.a ls[i] (List.getElem_mem h)
    have hp1 := part1_len e s ws ls
    exact num_ev _ _ C1 8 8 (sOf ws + 24 * ((i : Int) + 1) + 8) ls[i].f1 rfl hC1 (by
      simp only [List.length_append, le_length, symsB_len, List.length_take]
      omega) (by omega) hra.1 (by have := hra.2; omega) hlen
  have hY : ∀ (i : Nat) (h : i < ls.length), Evn (fun k => object_reader_name.f k (fileB e s ws ls) (sOf ws + lOf ls + 1 + (nm (ls.take i) : Int))) (ls[i].f0, true) := fun i h => by
    obtain ⟨C2, hC2⟩ := atName e s ws ls i h
    have hp1 := part1_len e s ws ls
    have hlo : lOf ls = 24 * ((ls.length : Int) + 1) := rfl
    exact name_ev _ _ C2 ls[i].f0 (sOf ws + lOf ls + 1 + (nm (ls.take i) : Int)) hC2 (by
      simp only [List.length_append, le_length, symsB_len, namesB_len]
      omega) (hz ls[i] (List.getElem_mem h)) hlen
  have hW : ∀ (i : Nat) (h : i < ws.length), Evn (fun k => object_reader_number.f k (fileB e s ws ls) (120 + 4 * (i : Int)) 4) (ws[i], true) := fun i h => by
    obtain ⟨C2, hC2⟩ := atWord e s ws ls i h
    have hw := hF.w ws[i] (List.getElem_mem h)
    exact num_ev _ _ C2 4 4 (120 + 4 * (i : Int)) ws[i] rfl hC2 (by
      simp only [List.length_append, headB_len, wordsB_len, List.length_take]
      omega) (by omega) hw.1 (by have := hw.2; omega) hlen
  have EL := labels_ev (fileB e s ws ls) (sOf ws) e s ws ls ⟨hS0, hS1⟩ hF.ln hF.n hN hY ls.length 0 rfl (Nat.zero_le _)
  simp only [List.take_zero, nm, Int.natCast_zero, Int.add_zero, Int.zero_add, Int.ofNat_zero] at EL
  obtain ⟨a, b, c, d, EP⟩ := placed_ev (e := e) (s := s) hwn
  have hul : IntKind.u64.wrap ((fileB e s ws ls).length : Int) = hOf ws ls + 320 := by rw [hl1, u64_small _ (by omega) (by omega)]
  have ht1 := w_t1 (hOf ws ls) hH0 hH1
  have ht2 := w_t2 (sOf ws) (lOf ls) hS0 (Int.le_trans hS1 (by decide)) (Int.le_trans (by decide) hlo) (Int.le_trans hL1 (by decide))
  have c1 : ¬ hOf ws ls > IntKind.u64.wrap ((fileB e s ws ls).length : Int) := by rw [hul]; clear ht1 ht2 hul; omega
  have c2 : ¬ lOf ls > IntKind.u64.wrap ((fileB e s ws ls).length : Int) := by rw [hul]; clear ht1 ht2 hul c1; omega
  have c3 : Int.tmod (lOf ls) 24 = 0 := by rw [Int.tmod_eq_emod_of_nonneg (Int.le_trans (by decide) hlo)]; exact hlm
  have c4 := tm4 ws.length
  have c5 := td4 ws.length hwn
  have c6 : ¬ lOf ls < 24 := Int.not_lt.2 hlo
  have c7 : ¬ 4 * (ws.length : Int) > 262144 := by clear ht1 ht2 hul c1 c2 c3 c4 c5; omega
  have EE : Evn (fun k => object_reader_guess.l0 k (ws.length : Int) (ws.length : Int) (fileB e s ws ls) e s ws []) (e, s, ws, ls, true) :=
    evn_step2 (fun k h1 h2 h3 => l0_end k _ _ _ e s ws (sOf ws) a b c d (hOf ws ls) (lOf ls) (hOf ws ls + 160) (sOf ws + lOf ls + 1) (Int.lt_irrefl _) h1 h2 c1 ht1 h3 c6 c3 c2 ht2) EL EP n40 nS
  have EW := words_ev (fileB e s ws ls) e s ws _ hwn hF.w hW EE ws.length 0 rfl (Nat.zero_le _)
  simp only [List.take_zero, Int.natCast_zero, Int.ofNat_zero] at EW
  exact evn_step3 (fun k h1 h2 h3 => f_step k _ (ws.length : Int) e s _ h1 c4 c7 h2 h3 c5) EW n96 n24 n104
end
end Go.Proofs.Ytelheeekbihfcab.Ob
end
