/- TextA, 1 declarations cut -/
import Derived.Test.YtjboncbmeanlgaaDoorQLaid
/- A tree's text, plain; the state of what writes it. -/
set_option linter.unusedVariables false
set_option linter.unusedSimpArgs false
namespace Go.Proofs.YtjboncbmeanlgaaDoor.Tr
open Go.RowKit Go.Proofs Go.Proofs.YtjboncbmeanlgaaDoor.PTreePrints Go.Proofs.YtjboncbmeanlgaaDoorW.PrintWords Go.Proofs.YtjboncbmeanlgaaDoorW.PrintMore Go.Proofs.YtjboncbmeanlgaaDoorW.PrintLast
/-- A string's bytes. -/
abbrev bl (s : ByteArray) : List UInt8 := s.data.toList
theorem bl_app (a b : ByteArray) : bl (a ++ b) = bl a ++ bl b := by simp [bl]
mutual
/-- An expression's text. -/
def prE : S31 → List UInt8
  | ⟨k, _, n, s, args⟩ => if k = 1 then Lib.itoa n else if k = 2 then 39 :: bl s else if k = 3 then bl s else if k = 4 then [115, 101, 108, 102] else if k = 5 then 123 :: (prEL args ++ [125]) else 40 :: prA (32 :: (bl s ++ [32])) args
/-- Texts of some expressions, commas between. -/
def prEL : List S31 → List UInt8
  | [] => []
  | x :: r => prE x ++ prET r
def prET : List S31 → List UInt8
  | [] => []
  | x :: r => 44 :: 32 :: (prE x ++ prET r)
def prA (s : List UInt8) : List S31 → List UInt8
  | [] => []
  | x :: r => prE x ++ (s ++ prC r)
def prC : List S31 → List UInt8
  | [] => []
  | x :: _ => prE x ++ [41]
end
theorem prET_app : ∀ (a b : List S31), prET (a ++ b) = prET a ++ prET b
  | [], b => by simp [prET]
  | x :: a, b => by simp [prET, prET_app a b]
theorem prEL_snoc (l : List S31) (x : S31) : prEL (l ++ [x]) = prEL l ++ ((if l = [] then [] else [44, 32]) ++ prE x) := by
  cases l with
  | nil => simp [prEL, prET]
  | cons y r => simp [prEL, prET, prET_app]
mutual
/-- A pattern's text. -/
def prP : S83 → List UInt8
  | ⟨k, _, n, s, args⟩ => if k = 1 then [95] else if k = 2 then Lib.itoa n else if k = 3 then 39 :: bl s else if k = 4 then bl s else 123 :: (prPL args ++ [125])
def prPL : List S83 → List UInt8
  | [] => []
  | x :: r => prP x ++ prPT r
def prPT : List S83 → List UInt8
  | [] => []
  | x :: r => 44 :: 32 :: (prP x ++ prPT r)
end
theorem prPT_app : ∀ (a b : List S83), prPT (a ++ b) = prPT a ++ prPT b
  | [], b => by simp [prPT]
  | x :: a, b => by simp [prPT, prPT_app a b]
theorem prPL_snoc (l : List S83) (x : S83) : prPL (l ++ [x]) = prPL l ++ ((if l = [] then [] else [44, 32]) ++ prP x) := by
  cases l with
  | nil => simp [prPL, prPT]
  | cons y r => simp [prPL, prPT, prPT_app]
/-- The state of what writes. -/
structure TS (w0 : World) (B b : Nat) (W0 W : World) (l : List UInt8) : Prop where
  t : Lib.IsBuilderF 55 5 B b (Lib.byteCells l) W
  f : Below B W0 W
  k : Lib.OthersKept 5 (some b) W0 W
  o : Below w0.heap.size w0 W
  le : w0.heap.size ≤ B
  lt : B ≤ W.heap.size
  ne : b < W.heap.size
  tab : Tab w0
/-- What was written, told. -/
def Wrote (B b : Nat) (l : List UInt8) (W : World) (e : Ending) (W' : World) : Prop := e = .returned (.tuple #[]) ∧ Lib.IsBuilderF 55 5 B b (Lib.byteCells l) W' ∧ Below B W W' ∧ Lib.OthersKept 5 (some b) W W'
theorem TS.self {w0 : World} {B b : Nat} {W0 W : World} {l : List UInt8} (h : TS w0 B b W0 W l) : TS w0 B b W W l := ⟨h.t, Below.refl _ _, Lib.OthersKept.refl _ _ _, h.o, h.le, h.lt, h.ne, h.tab⟩
theorem TS.wrote {w0 : World} {B b : Nat} {W0 W W' : World} {l l' : List UInt8} (h : TS w0 B b W0 W l) (ht : Lib.IsBuilderF 55 5 B b (Lib.byteCells l') W') (hf : Below B W W') (hk : Lib.OthersKept 5 (some b) W W') : TS w0 B b W0 W' l' :=
  ⟨ht, h.f.trans hf, h.k.trans hk, h.o.trans ⟨hf.os, hf.tape, hf.output, hf.size, fun k hk => hf.block k (Nat.lt_of_lt_of_le hk h.le)⟩, h.le, Nat.le_trans h.lt hf.size, Nat.lt_of_lt_of_le h.ne hf.size, h.tab⟩
/-- A block of another kind stays. -/
theorem TS.blk {W W' : World} {b k : Nat} {cs : Array Value} {t : TypeId} (hk : Lib.OthersKept 5 (some b) W W') (h : W.heap[k]? = some (.cells cs t (0, 0))) (hne : k ≠ b) (ht : t ≠ 5) : W'.heap[k]? = some (.cells cs t (0, 0)) :=
  hk k _ h (fun e => hne (by injection e)) (fun c fz e => ht (by injection e))
theorem isB_below {B b : Nat} {bs : List Value} {W W' : World} (h : Lib.IsBuilderF 55 5 B b bs W) (hb : Below W.heap.size W W') : Lib.IsBuilderF 55 5 B b bs W' := by
  have one : ∀ p, Lib.BuilderAtF 55 5 B b p bs W → Lib.BuilderAtF 55 5 B b p bs W' := fun p hp => by
    obtain ⟨hB, v, hbk, hown, hne⟩ := hp
    refine ⟨hB, v, blk_below hbk hb, ?_, hne⟩
    refine hown.kept (row := none) ⟨hb.os, hb.tape, hb.output, hb.size, fun k hk _ => hb.block k hk⟩ ?_
    cases hv : v.ownBlock <;> simp
  rcases h with h | h
  · exact .inl (one _ h)
  · exact .inr (one _ h)
theorem ok_below {b : Nat} {W W' : World} (hb : Below W.heap.size W W') : Lib.OthersKept 5 (some b) W W' := fun k o h _ _ => blk_below h hb
/-- Over a step that only lays new blocks. -/
theorem TS.below {w0 : World} {B b : Nat} {W0 W W' : World} {l : List UInt8} (h : TS w0 B b W0 W l) (hb : Below W.heap.size W W') : TS w0 B b W0 W' l :=
  h.wrote (isB_below h.t hb) ⟨hb.os, hb.tape, hb.output, hb.size, fun k hk => hb.block k (Nat.lt_of_lt_of_le hk h.lt)⟩ (ok_below hb)
theorem TS.cast {w0 : World} {B b : Nat} {W0 W : World} {l l' : List UInt8} (e : l = l') (h : TS w0 B b W0 W l) : TS w0 B b W0 W l' := e ▸ h
theorem TS.tell {w0 : World} {B b : Nat} {W0 W : World} {l l' : List UInt8} (h : TS w0 B b W0 W l) (e : l = l') : Wrote B b l' W0 (.returned (.tuple #[])) W := by subst e; exact ⟨rfl, h.t, h.f, h.k⟩
/-- A string is written. -/
theorem write_call {w0 : World} {B b : Nat} {W0 W : World} {l : List UInt8} (h : TS w0 B b W0 W l) (s : ByteArray) (hl : l.length + s.size ≤ 140737488355328) :
    Calls Tryd.prog 24 #[.pointer (some ⟨b, 0, none⟩), .string s] W fun e W' => e = .returned (.tuple #[.int .i64 s.size, .nilIface]) ∧ TS w0 B b W0 W' (l ++ bl s) ∧ Lib.OthersKept 5 (some b) W W' := by
  refine (writes_call B b _ s W h.t (by rw [Lib.byteCells_length]; exact hl) h.lt).mono ?_
  rintro e W' ⟨rfl, ht, hf, hk⟩
  refine ⟨rfl, h.wrote ?_ hf hk, hk⟩
  have e2 : Lib.byteCells (l ++ bl s) = Lib.byteCells l ++ Lib.strCells s := by rw [Lib.byteCells_append]; rfl
  rw [e2]
  exact .inr ht
end Go.Proofs.YtjboncbmeanlgaaDoor.Tr
