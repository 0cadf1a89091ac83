/- The program's file is the reference's: what both write. -/
import Derived.Test.YtelheeekbihfcabAtO
set_option linter.unusedVariables false
set_option linter.unusedSimpArgs false
namespace Go.Proofs.Ytelheeekbihfcab.Ob
open Go.RowKit Go.Proofs Go.Proofs.Ytelheeekbihfcab.PObjectReads Go.Proofs.YtelheeekbihfcabW.PrintWords Go.Proofs.YtelheeekbihfcabW.PrintMore

theorem head_eq (e s w h : Int) : upTo (Int.toNat 16) ([] ++ bytesOf elf) ++ lesB (Int.toNat 2) (ints #[.int .u64 2, .int .u64 243]) ++ lesB (Int.toNat 4) (ints #[.int .u64 1]) ++ lesB (Int.toNat 8) (ints #[.int .u64 e, .int .u64 64, .int .u64 h]) ++ lesB (Int.toNat 4) (ints #[.int .u64 0]) ++
    lesB (Int.toNat 2) (ints #[.int .u64 64, .int .u64 56, .int .u64 1, .int .u64 64, .int .u64 5, .int .u64 4]) ++ lesB (Int.toNat 4) (ints #[.int .u64 1, .int .u64 7]) ++ lesB (Int.toNat 8) (ints #[.int .u64 120, .int .u64 0, .int .u64 0, .int .u64 w, .int .u64 s, .int .u64 4]) = headB e s w h := by
  have h1 : upTo (Int.toNat 16) ([] ++ bytesOf elf) = bytesOf elf ++ le 9 0 := by decide
  have h2 : le 16 0 = le 8 0 ++ le 8 0 := by decide
  rw [h1]
  simp only [headB, h2, ints, intOf', List.map_cons, List.map_nil, lesB, List.append_assoc, List.append_nil]
  rfl
theorem headB_len (e s w h : Int) : (headB e s w h).length = 120 := by
  simp only [headB, List.length_append, le_length, bytesOf_length]
  rfl
theorem words_step (ws : List Int) (i : Nat) (h : i < ws.length) (Hd : List Int) : Hd ++ wordsB (ws.take (i + 1)) = Hd ++ wordsB (ws.take i) ++ lesB (Int.toNat 4) (ints #[.int .u64 ws[i]]) := by
  rw [List.take_succ_eq_append_getElem h, wordsB_app, List.append_assoc]
  simp [wordsB, lesB, ints, intOf']
theorem pad1 (e s w h : Int) (ws : List Int) : upTo (sOf ws + 24).toNat (headB e s w h ++ wordsB ws) = pad8 (headB e s w h ++ wordsB ws) ++ le 24 0 := by
  have hl : (headB e s w h ++ wordsB ws).length = 120 + 4 * ws.length := by rw [List.length_append, headB_len, wordsB_len]
  have h2 : le 24 0 = List.replicate 24 0 := by decide
  generalize headB e s w h ++ wordsB ws = B at *
  rw [upTo, pad8, h2, List.append_assoc, List.replicate_append_replicate, hl]
  congr 2
  unfold sOf up8
  omega
def symsI (pre : List (Nat × S47)) : List Int := pre.flatMap (fun p => symB (p.1 : Int) p.2)
theorem symsI_snoc (pre : List (Nat × S47)) (x : Nat × S47) : symsI (pre ++ [x]) = symsI pre ++ symB (x.1 : Int) x.2 := by simp [symsI]
theorem symsI_items : ∀ (ls : List S47) (a : Nat), symsI (items a ls) = symsB a ls
  | [], a => rfl
  | x :: r, a => by
    have ih := symsI_items r (a + x.f0.size + 1)
    unfold symsI at ih ⊢
    simp [items, symsB, ih]
theorem symI_puts (a : Int) (x : S47) : lesB (Int.toNat 4) (ints #[.int .u64 a]) ++ (lesB (Int.toNat 1) (ints #[.int .u64 16, .int .u64 0]) ++ (lesB (Int.toNat 2) (ints #[.int .u64 1]) ++ lesB (Int.toNat 8) (ints #[.int .u64 x.f1, .int .u64 0]))) = symB a x := by
  simp only [symB, ints, intOf', List.map_cons, List.map_nil, lesB, List.append_assoc, List.append_nil]
  rfl
def namesI (pre : List (Nat × S47)) : List Int := pre.flatMap (fun p => bytesOf p.2.f0 ++ le 1 0)
theorem namesI_snoc (pre : List (Nat × S47)) (x : Nat × S47) : namesI (pre ++ [x]) = namesI pre ++ (bytesOf x.2.f0 ++ le 1 0) := by simp [namesI]
theorem namesI_items : ∀ (ls : List S47) (a : Nat), namesI (items a ls) = namesB ls
  | [], a => rfl
  | x :: r, a => by
    have ih := namesI_items r (a + x.f0.size + 1)
    unfold namesI at ih ⊢
    simp [items, namesB, ih]
theorem put1 : lesB (Int.toNat 1) (ints #[.int .u64 0]) = le 1 0 := by simp [ints, intOf', lesB]
def sectI (a b c d e f i h k : Int) : List Int := lesB (Int.toNat 4) (ints #[.int .u64 a, .int .u64 b]) ++ (lesB (Int.toNat 8) (ints #[.int .u64 c, .int .u64 0, .int .u64 d, .int .u64 e]) ++ (lesB (Int.toNat 4) (ints #[.int .u64 f, .int .u64 i]) ++ lesB (Int.toNat 8) (ints #[.int .u64 h, .int .u64 k])))
theorem sectI_eq (a b c d e f i h k : Int) : sectI a b c d e f i h k = sectB a b c d e f i h k := by
  simp only [sectI, sectB, ints, intOf', List.map_cons, List.map_nil, lesB, List.append_assoc, List.append_nil]
  rfl
theorem pad2 (B : List Int) (n : Nat) (h : (B.length : Int) = n) (H : Int) (hH : H = up8 n) : upTo (H + 64).toNat B = pad8 B ++ sectB 0 0 0 0 0 0 0 0 0 := by
  have h2 : sectB 0 0 0 0 0 0 0 0 0 = List.replicate 64 0 := by decide
  rw [upTo, pad8, h2, List.append_assoc, List.replicate_append_replicate]
  congr 2
  subst hH
  unfold up8
  omega
/-- How long the file is ahead of its last padding. -/
theorem body_len (e s : Int) (ws : List Int) (ls : List S47) : ((pad8 (headB e s (4 * (ws.length : Int)) (hOf ws ls) ++ wordsB ws) ++ le 24 0 ++ symsB 1 ls ++ le 1 0 ++ namesB ls ++ bytesOf sects).length : Int) = ((sOf ws + lOf ls + zOf ls + 33).toNat : Nat) := by
  have hl : (headB e s (4 * (ws.length : Int)) (hOf ws ls) ++ wordsB ws).length = 120 + 4 * ws.length := by rw [List.length_append, headB_len, wordsB_len]
  have h3 : (bytesOf sects).length = 33 := by decide
  simp only [List.length_append, pad8, List.length_replicate, hl, le_length, symsB_len, namesB_len, h3, headB_len, wordsB_len]
  unfold sOf lOf zOf up8
  omega
end Go.Proofs.Ytelheeekbihfcab.Ob
