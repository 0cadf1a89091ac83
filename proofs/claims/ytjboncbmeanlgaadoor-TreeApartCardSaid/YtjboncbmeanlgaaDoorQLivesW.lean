/- LivesW -/
import Derived.Test.YtjboncbmeanlgaaDoorQPrintW
import Derived.Test.YtjboncbmeanlgaaDoorQCountP
import Derived.Test.YtjboncbmeanlgaaDoorQDepthP
/- The law's lives: it is true. The law's look at what is light. -/
set_option linter.unusedVariables false
set_option linter.unusedSimpArgs false
namespace Go.Proofs.YtjboncbmeanlgaaDoor.Tr
open Go.RowKit Go.Proofs Go.Proofs.YtjboncbmeanlgaaDoor.PTreePrints Go.Proofs.YtjboncbmeanlgaaDoorW.PrintWords Go.Proofs.YtjboncbmeanlgaaDoorW.PrintMore Go.Proofs.YtjboncbmeanlgaaDoorW.PrintLast
theorem blk_add {w : World} {g t : Nat} {cs : Array Value} (hg : w.heap[g]? = some (.cells cs t (0, 0))) (k : Nat) : w.cell? ((⟨g, 0, none⟩ : Addr).add k) = cs[k]? := by
  have h := blk_cell hg k
  by_cases h0 : k = 0
  · subst h0
    simpa [Addr.add] using h
  · simpa [Addr.add, h0] using h
/-- A row that fills a block. -/
theorem C_blk {α : Type} {d : Kd α} {w : World} {g t n : Nat} {cs : List Value} {xs : List α} (hg : w.heap[g]? = some (.cells cs.toArray t (0, 0))) (hR : Reps (fun x cs => d.K w x cs) d.sz xs cs) (hn : xs.length = n) (hb : n ≤ 1000000) : d.C w (some ⟨g, 0, none⟩) n xs := by
  refine ⟨hn, by omega, fun _ => ⟨⟨g, 0, none⟩, rfl, fun j p hj => ⟨(cs.drop (j * d.sz)).take d.sz, ?_, hR.2 j p hj, fun i u hi => ?_⟩⟩⟩
  · exact d.K_len (hR.2 j p hj)
  · rw [blk_add hg]
    have hi1 : i < d.sz := by
      have := (List.getElem?_eq_some_iff.1 hi).1
      rw [List.length_take] at this
      omega
    rw [List.getElem?_take_of_lt hi1, List.getElem?_drop] at hi
    simpa using hi
/-- A row of one. -/
theorem C_one {α : Type} {d : Kd α} {w : World} {g t : Nat} {cs : List Value} {x : α} (hg : w.heap[g]? = some (.cells cs.toArray t (0, 0))) (hK : d.K w x cs) : d.C w (some ⟨g, 0, none⟩) 1 [x] := by
  have hl := d.K_len hK
  refine ⟨rfl, by decide, fun _ => ⟨⟨g, 0, none⟩, rfl, fun j p hj => ?_⟩⟩
  cases j with
  | succ j => simp at hj
  | zero =>
    simp at hj
    subst hj
    refine ⟨cs, hl, hK, fun i u hi => ?_⟩
    rw [Nat.zero_mul, Nat.zero_add, blk_add hg]
    simpa using hi
theorem allocs_keep : ∀ (os : List Obj) (w : World) (k : Nat) (o : Obj), w.heap[k]? = some o → (os.foldl World.alloc w).heap[k]? = some o
  | [], w, k, o, h => h
  | x :: r, w, k, o, h => allocs_keep r (w.alloc x) k o (blk_alloc h x)
theorem allocs_at : ∀ (os : List Obj) (w : World) (i : Nat) (o : Obj), os[i]? = some o → (os.foldl World.alloc w).heap[w.heap.size + i]? = some o
  | [], w, i, o, h => by simp at h
  | x :: r, w, 0, o, h => by
    simp at h
    subst h
    exact allocs_keep r (w.alloc x) _ _ (blk_new w x)
  | x :: r, w, i + 1, o, h => by
    have h1 := allocs_at r (w.alloc x) i o (by simpa using h)
    have s : (w.alloc x).heap.size = w.heap.size + 1 := by simp
    rw [s] at h1
    have e : w.heap.size + (i + 1) = w.heap.size + 1 + i := by omega
    rw [e]
    exact h1
theorem allocs_below : ∀ (os : List Obj) (w w1 : World), Below w.heap.size w w1 → Below w.heap.size w (os.foldl World.alloc w1)
  | [], w, w1, h => h
  | x :: r, w, w1, h => allocs_below r w (w1.alloc x) (below_alloc h x)
def exX : S31 := ⟨3, 0, 0, ⟨#[120]⟩, []⟩
def exI : S31 := ⟨1, 0, 1, ⟨#[]⟩, []⟩
def exE : S31 := ⟨6, 0, 0, ⟨#[43]⟩, [exX, exI]⟩
def exS : S37 := ⟨4, 0, ⟨#[]⟩, ⟨#[]⟩, [exE]⟩
def exB : S42 := ⟨[exS], 2, 0, ⟨#[]⟩, [], [], [], false, 0⟩
def exD : S44 := ⟨0, ⟨#[65]⟩, [⟨#[120]⟩], exB⟩
def exA : S31 := ⟨1, 0, 2, ⟨#[]⟩, []⟩
def exP : S25 := ⟨[exD], 0, ⟨#[65]⟩, [exA]⟩
theorem exGood : goodPr exP = true := by decide +kernel
theorem itoa1 : Lib.itoa 1 = [49] := by rw [Lib.itoa, if_neg (by decide), show (1 : Int).toNat = 1 from rfl, Lib.decDigits, dif_pos (by decide)]; rfl
theorem itoa2 : Lib.itoa 2 = [50] := by rw [Lib.itoa, if_neg (by decide), show (2 : Int).toNat = 2 from rfl, Lib.decDigits, dif_pos (by decide)]; rfl
theorem exText : prPr exP = [97, 99, 116, 111, 114, 32, 65, 40, 120, 41, 32, 123, 32, 111, 117, 116, 32, 40, 120, 32, 43, 32, 49, 41, 59, 32, 115, 116, 111, 112, 32, 125, 10, 109, 97, 105, 110, 32, 65, 40, 50, 41, 10] := by
  simp [prPr, prDL, prD, exP, exD, exB, exS, exE, exX, exI, exA, prB, prSL, prS, prH, prE, prEL, prET, prA, prC, itoa1, itoa2, bl, Lib.join_one]
theorem exPrinted : printed exP = [97, 99, 116, 111, 114, 32, 65, 40, 120, 41, 32, 123, 32, 111, 117, 116, 32, 40, 120, 32, 43, 32, 49, 41, 59, 32, 115, 116, 111, 112, 32, 125, 10, 109, 97, 105, 110, 32, 65, 40, 50, 41, 10] := by rw [printed, if_pos exGood, exText]
set_option maxRecDepth 100000 in
set_option maxHeartbeats 8000000 in
/-- The law's lives. -/
theorem lives_true (w : World) (hT : Tab w) : Calls Tryd.prog 7 #[] w fun e w' => e = .returned (.bool true) ∧ Below w.heap.size w w' := by
  have HT := Lib.hid hT
  clear hT
  go_enter Tryd.func7, Tryd.ntmps7
  go_upto_region 3 with fail
  have a0 := allocs_at [.cells #[.int .i64 3, .int .i64 0, .int .i64 0, .string ⟨#[120]⟩, .slice none 0 0, .int .i64 1, .int .i64 0, .int .i64 1, .string ⟨#[]⟩, .slice none 0 0] 31, .cells #[.int .i64 6, .int .i64 0, .int .i64 0, .string ⟨#[43]⟩, .slice (some ⟨w.heap.size, 0, none⟩) 2 2] 31, .cells #[.string ⟨#[120]⟩] 9, .cells #[.int .i64 6, .int .i64 0, .int .i64 0, .string ⟨#[43]⟩, .slice (some ⟨w.heap.size, 0, none⟩) 2 2] 31, .cells #[.int .i64 4, .int .i64 0, .string ⟨#[]⟩, .string ⟨#[]⟩, .slice (some ⟨w.heap.size + 1 + 1 + 1, 0, none⟩) 1 1] 37, .cells #[.int .i64 0, .string ⟨#[65]⟩, .slice (some ⟨w.heap.size + 1 + 1, 0, none⟩) 1 1, .slice (some ⟨w.heap.size + 1 + 1 + 1 + 1, 0, none⟩) 1 1, .int .i64 2, .int .i64 0, .string ⟨#[]⟩, .slice none 0 0, .slice none 0 0, .slice none 0 0, .bool false, .int .i64 0] 44, .cells #[.int .i64 1, .int .i64 0, .int .i64 2, .string ⟨#[]⟩, .slice none 0 0] 31, .cells #[.slice (some ⟨w.heap.size + 1 + 1 + 1 + 1 + 1, 0, none⟩) 1 1, .int .i64 0, .string ⟨#[65]⟩, .slice (some ⟨w.heap.size + 1 + 1 + 1 + 1 + 1 + 1, 0, none⟩) 1 1] 25] w 0 _ rfl
  have a2 := allocs_at [.cells #[.int .i64 3, .int .i64 0, .int .i64 0, .string ⟨#[120]⟩, .slice none 0 0, .int .i64 1, .int .i64 0, .int .i64 1, .string ⟨#[]⟩, .slice none 0 0] 31, .cells #[.int .i64 6, .int .i64 0, .int .i64 0, .string ⟨#[43]⟩, .slice (some ⟨w.heap.size, 0, none⟩) 2 2] 31, .cells #[.string ⟨#[120]⟩] 9, .cells #[.int .i64 6, .int .i64 0, .int .i64 0, .string ⟨#[43]⟩, .slice (some ⟨w.heap.size, 0, none⟩) 2 2] 31, .cells #[.int .i64 4, .int .i64 0, .string ⟨#[]⟩, .string ⟨#[]⟩, .slice (some ⟨w.heap.size + 1 + 1 + 1, 0, none⟩) 1 1] 37, .cells #[.int .i64 0, .string ⟨#[65]⟩, .slice (some ⟨w.heap.size + 1 + 1, 0, none⟩) 1 1, .slice (some ⟨w.heap.size + 1 + 1 + 1 + 1, 0, none⟩) 1 1, .int .i64 2, .int .i64 0, .string ⟨#[]⟩, .slice none 0 0, .slice none 0 0, .slice none 0 0, .bool false, .int .i64 0] 44, .cells #[.int .i64 1, .int .i64 0, .int .i64 2, .string ⟨#[]⟩, .slice none 0 0] 31, .cells #[.slice (some ⟨w.heap.size + 1 + 1 + 1 + 1 + 1, 0, none⟩) 1 1, .int .i64 0, .string ⟨#[65]⟩, .slice (some ⟨w.heap.size + 1 + 1 + 1 + 1 + 1 + 1, 0, none⟩) 1 1] 25] w 2 _ rfl
  have a3 := allocs_at [.cells #[.int .i64 3, .int .i64 0, .int .i64 0, .string ⟨#[120]⟩, .slice none 0 0, .int .i64 1, .int .i64 0, .int .i64 1, .string ⟨#[]⟩, .slice none 0 0] 31, .cells #[.int .i64 6, .int .i64 0, .int .i64 0, .string ⟨#[43]⟩, .slice (some ⟨w.heap.size, 0, none⟩) 2 2] 31, .cells #[.string ⟨#[120]⟩] 9, .cells #[.int .i64 6, .int .i64 0, .int .i64 0, .string ⟨#[43]⟩, .slice (some ⟨w.heap.size, 0, none⟩) 2 2] 31, .cells #[.int .i64 4, .int .i64 0, .string ⟨#[]⟩, .string ⟨#[]⟩, .slice (some ⟨w.heap.size + 1 + 1 + 1, 0, none⟩) 1 1] 37, .cells #[.int .i64 0, .string ⟨#[65]⟩, .slice (some ⟨w.heap.size + 1 + 1, 0, none⟩) 1 1, .slice (some ⟨w.heap.size + 1 + 1 + 1 + 1, 0, none⟩) 1 1, .int .i64 2, .int .i64 0, .string ⟨#[]⟩, .slice none 0 0, .slice none 0 0, .slice none 0 0, .bool false, .int .i64 0] 44, .cells #[.int .i64 1, .int .i64 0, .int .i64 2, .string ⟨#[]⟩, .slice none 0 0] 31, .cells #[.slice (some ⟨w.heap.size + 1 + 1 + 1 + 1 + 1, 0, none⟩) 1 1, .int .i64 0, .string ⟨#[65]⟩, .slice (some ⟨w.heap.size + 1 + 1 + 1 + 1 + 1 + 1, 0, none⟩) 1 1] 25] w 3 _ rfl
  have a4 := allocs_at [.cells #[.int .i64 3, .int .i64 0, .int .i64 0, .string ⟨#[120]⟩, .slice none 0 0, .int .i64 1, .int .i64 0, .int .i64 1, .string ⟨#[]⟩, .slice none 0 0] 31, .cells #[.int .i64 6, .int .i64 0, .int .i64 0, .string ⟨#[43]⟩, .slice (some ⟨w.heap.size, 0, none⟩) 2 2] 31, .cells #[.string ⟨#[120]⟩] 9, .cells #[.int .i64 6, .int .i64 0, .int .i64 0, .string ⟨#[43]⟩, .slice (some ⟨w.heap.size, 0, none⟩) 2 2] 31, .cells #[.int .i64 4, .int .i64 0, .string ⟨#[]⟩, .string ⟨#[]⟩, .slice (some ⟨w.heap.size + 1 + 1 + 1, 0, none⟩) 1 1] 37, .cells #[.int .i64 0, .string ⟨#[65]⟩, .slice (some ⟨w.heap.size + 1 + 1, 0, none⟩) 1 1, .slice (some ⟨w.heap.size + 1 + 1 + 1 + 1, 0, none⟩) 1 1, .int .i64 2, .int .i64 0, .string ⟨#[]⟩, .slice none 0 0, .slice none 0 0, .slice none 0 0, .bool false, .int .i64 0] 44, .cells #[.int .i64 1, .int .i64 0, .int .i64 2, .string ⟨#[]⟩, .slice none 0 0] 31, .cells #[.slice (some ⟨w.heap.size + 1 + 1 + 1 + 1 + 1, 0, none⟩) 1 1, .int .i64 0, .string ⟨#[65]⟩, .slice (some ⟨w.heap.size + 1 + 1 + 1 + 1 + 1 + 1, 0, none⟩) 1 1] 25] w 4 _ rfl
  have a5 := allocs_at [.cells #[.int .i64 3, .int .i64 0, .int .i64 0, .string ⟨#[120]⟩, .slice none 0 0, .int .i64 1, .int .i64 0, .int .i64 1, .string ⟨#[]⟩, .slice none 0 0] 31, .cells #[.int .i64 6, .int .i64 0, .int .i64 0, .string ⟨#[43]⟩, .slice (some ⟨w.heap.size, 0, none⟩) 2 2] 31, .cells #[.string ⟨#[120]⟩] 9, .cells #[.int .i64 6, .int .i64 0, .int .i64 0, .string ⟨#[43]⟩, .slice (some ⟨w.heap.size, 0, none⟩) 2 2] 31, .cells #[.int .i64 4, .int .i64 0, .string ⟨#[]⟩, .string ⟨#[]⟩, .slice (some ⟨w.heap.size + 1 + 1 + 1, 0, none⟩) 1 1] 37, .cells #[.int .i64 0, .string ⟨#[65]⟩, .slice (some ⟨w.heap.size + 1 + 1, 0, none⟩) 1 1, .slice (some ⟨w.heap.size + 1 + 1 + 1 + 1, 0, none⟩) 1 1, .int .i64 2, .int .i64 0, .string ⟨#[]⟩, .slice none 0 0, .slice none 0 0, .slice none 0 0, .bool false, .int .i64 0] 44, .cells #[.int .i64 1, .int .i64 0, .int .i64 2, .string ⟨#[]⟩, .slice none 0 0] 31, .cells #[.slice (some ⟨w.heap.size + 1 + 1 + 1 + 1 + 1, 0, none⟩) 1 1, .int .i64 0, .string ⟨#[65]⟩, .slice (some ⟨w.heap.size + 1 + 1 + 1 + 1 + 1 + 1, 0, none⟩) 1 1] 25] w 5 _ rfl
  have a6 := allocs_at [.cells #[.int .i64 3, .int .i64 0, .int .i64 0, .string ⟨#[120]⟩, .slice none 0 0, .int .i64 1, .int .i64 0, .int .i64 1, .string ⟨#[]⟩, .slice none 0 0] 31, .cells #[.int .i64 6, .int .i64 0, .int .i64 0, .string ⟨#[43]⟩, .slice (some ⟨w.heap.size, 0, none⟩) 2 2] 31, .cells #[.string ⟨#[120]⟩] 9, .cells #[.int .i64 6, .int .i64 0, .int .i64 0, .string ⟨#[43]⟩, .slice (some ⟨w.heap.size, 0, none⟩) 2 2] 31, .cells #[.int .i64 4, .int .i64 0, .string ⟨#[]⟩, .string ⟨#[]⟩, .slice (some ⟨w.heap.size + 1 + 1 + 1, 0, none⟩) 1 1] 37, .cells #[.int .i64 0, .string ⟨#[65]⟩, .slice (some ⟨w.heap.size + 1 + 1, 0, none⟩) 1 1, .slice (some ⟨w.heap.size + 1 + 1 + 1 + 1, 0, none⟩) 1 1, .int .i64 2, .int .i64 0, .string ⟨#[]⟩, .slice none 0 0, .slice none 0 0, .slice none 0 0, .bool false, .int .i64 0] 44, .cells #[.int .i64 1, .int .i64 0, .int .i64 2, .string ⟨#[]⟩, .slice none 0 0] 31, .cells #[.slice (some ⟨w.heap.size + 1 + 1 + 1 + 1 + 1, 0, none⟩) 1 1, .int .i64 0, .string ⟨#[65]⟩, .slice (some ⟨w.heap.size + 1 + 1 + 1 + 1 + 1 + 1, 0, none⟩) 1 1] 25] w 6 _ rfl
  have a7 := allocs_at [.cells #[.int .i64 3, .int .i64 0, .int .i64 0, .string ⟨#[120]⟩, .slice none 0 0, .int .i64 1, .int .i64 0, .int .i64 1, .string ⟨#[]⟩, .slice none 0 0] 31, .cells #[.int .i64 6, .int .i64 0, .int .i64 0, .string ⟨#[43]⟩, .slice (some ⟨w.heap.size, 0, none⟩) 2 2] 31, .cells #[.string ⟨#[120]⟩] 9, .cells #[.int .i64 6, .int .i64 0, .int .i64 0, .string ⟨#[43]⟩, .slice (some ⟨w.heap.size, 0, none⟩) 2 2] 31, .cells #[.int .i64 4, .int .i64 0, .string ⟨#[]⟩, .string ⟨#[]⟩, .slice (some ⟨w.heap.size + 1 + 1 + 1, 0, none⟩) 1 1] 37, .cells #[.int .i64 0, .string ⟨#[65]⟩, .slice (some ⟨w.heap.size + 1 + 1, 0, none⟩) 1 1, .slice (some ⟨w.heap.size + 1 + 1 + 1 + 1, 0, none⟩) 1 1, .int .i64 2, .int .i64 0, .string ⟨#[]⟩, .slice none 0 0, .slice none 0 0, .slice none 0 0, .bool false, .int .i64 0] 44, .cells #[.int .i64 1, .int .i64 0, .int .i64 2, .string ⟨#[]⟩, .slice none 0 0] 31, .cells #[.slice (some ⟨w.heap.size + 1 + 1 + 1 + 1 + 1, 0, none⟩) 1 1, .int .i64 0, .string ⟨#[65]⟩, .slice (some ⟨w.heap.size + 1 + 1 + 1 + 1 + 1 + 1, 0, none⟩) 1 1] 25] w 7 _ rfl
  have hB := allocs_below [.cells #[.int .i64 3, .int .i64 0, .int .i64 0, .string ⟨#[120]⟩, .slice none 0 0, .int .i64 1, .int .i64 0, .int .i64 1, .string ⟨#[]⟩, .slice none 0 0] 31, .cells #[.int .i64 6, .int .i64 0, .int .i64 0, .string ⟨#[43]⟩, .slice (some ⟨w.heap.size, 0, none⟩) 2 2] 31, .cells #[.string ⟨#[120]⟩] 9, .cells #[.int .i64 6, .int .i64 0, .int .i64 0, .string ⟨#[43]⟩, .slice (some ⟨w.heap.size, 0, none⟩) 2 2] 31, .cells #[.int .i64 4, .int .i64 0, .string ⟨#[]⟩, .string ⟨#[]⟩, .slice (some ⟨w.heap.size + 1 + 1 + 1, 0, none⟩) 1 1] 37, .cells #[.int .i64 0, .string ⟨#[65]⟩, .slice (some ⟨w.heap.size + 1 + 1, 0, none⟩) 1 1, .slice (some ⟨w.heap.size + 1 + 1 + 1 + 1, 0, none⟩) 1 1, .int .i64 2, .int .i64 0, .string ⟨#[]⟩, .slice none 0 0, .slice none 0 0, .slice none 0 0, .bool false, .int .i64 0] 44, .cells #[.int .i64 1, .int .i64 0, .int .i64 2, .string ⟨#[]⟩, .slice none 0 0] 31, .cells #[.slice (some ⟨w.heap.size + 1 + 1 + 1 + 1 + 1, 0, none⟩) 1 1, .int .i64 0, .string ⟨#[65]⟩, .slice (some ⟨w.heap.size + 1 + 1 + 1 + 1 + 1 + 1, 0, none⟩) 1 1] 25] w w (Below.refl _ w)
  have hW : ([.cells #[.int .i64 3, .int .i64 0, .int .i64 0, .string ⟨#[120]⟩, .slice none 0 0, .int .i64 1, .int .i64 0, .int .i64 1, .string ⟨#[]⟩, .slice none 0 0] 31, .cells #[.int .i64 6, .int .i64 0, .int .i64 0, .string ⟨#[43]⟩, .slice (some ⟨w.heap.size, 0, none⟩) 2 2] 31, .cells #[.string ⟨#[120]⟩] 9, .cells #[.int .i64 6, .int .i64 0, .int .i64 0, .string ⟨#[43]⟩, .slice (some ⟨w.heap.size, 0, none⟩) 2 2] 31, .cells #[.int .i64 4, .int .i64 0, .string ⟨#[]⟩, .string ⟨#[]⟩, .slice (some ⟨w.heap.size + 1 + 1 + 1, 0, none⟩) 1 1] 37, .cells #[.int .i64 0, .string ⟨#[65]⟩, .slice (some ⟨w.heap.size + 1 + 1, 0, none⟩) 1 1, .slice (some ⟨w.heap.size + 1 + 1 + 1 + 1, 0, none⟩) 1 1, .int .i64 2, .int .i64 0, .string ⟨#[]⟩, .slice none 0 0, .slice none 0 0, .slice none 0 0, .bool false, .int .i64 0] 44, .cells #[.int .i64 1, .int .i64 0, .int .i64 2, .string ⟨#[]⟩, .slice none 0 0] 31, .cells #[.slice (some ⟨w.heap.size + 1 + 1 + 1 + 1 + 1, 0, none⟩) 1 1, .int .i64 0, .string ⟨#[65]⟩, .slice (some ⟨w.heap.size + 1 + 1 + 1 + 1 + 1 + 1, 0, none⟩) 1 1] 25] : List Obj).foldl World.alloc w = ((((((((w.alloc (.cells #[.int .i64 3, .int .i64 0, .int .i64 0, .string ⟨#[120]⟩, .slice none 0 0, .int .i64 1, .int .i64 0, .int .i64 1, .string ⟨#[]⟩, .slice none 0 0] 31)).alloc (.cells #[.int .i64 6, .int .i64 0, .int .i64 0, .string ⟨#[43]⟩, .slice (some ⟨w.heap.size, 0, none⟩) 2 2] 31)).alloc (.cells #[.string ⟨#[120]⟩] 9)).alloc (.cells #[.int .i64 6, .int .i64 0, .int .i64 0, .string ⟨#[43]⟩, .slice (some ⟨w.heap.size, 0, none⟩) 2 2] 31)).alloc (.cells #[.int .i64 4, .int .i64 0, .string ⟨#[]⟩, .string ⟨#[]⟩, .slice (some ⟨w.heap.size + 1 + 1 + 1, 0, none⟩) 1 1] 37)).alloc (.cells #[.int .i64 0, .string ⟨#[65]⟩, .slice (some ⟨w.heap.size + 1 + 1, 0, none⟩) 1 1, .slice (some ⟨w.heap.size + 1 + 1 + 1 + 1, 0, none⟩) 1 1, .int .i64 2, .int .i64 0, .string ⟨#[]⟩, .slice none 0 0, .slice none 0 0, .slice none 0 0, .bool false, .int .i64 0] 44)).alloc (.cells #[.int .i64 1, .int .i64 0, .int .i64 2, .string ⟨#[]⟩, .slice none 0 0] 31)).alloc (.cells #[.slice (some ⟨w.heap.size + 1 + 1 + 1 + 1 + 1, 0, none⟩) 1 1, .int .i64 0, .string ⟨#[65]⟩, .slice (some ⟨w.heap.size + 1 + 1 + 1 + 1 + 1 + 1, 0, none⟩) 1 1] 25)) := rfl
  rw [hW] at a0 a2 a3 a4 a5 a6 a7 hB
  clear hW
  generalize ((((((((w.alloc (.cells #[.int .i64 3, .int .i64 0, .int .i64 0, .string ⟨#[120]⟩, .slice none 0 0, .int .i64 1, .int .i64 0, .int .i64 1, .string ⟨#[]⟩, .slice none 0 0] 31)).alloc (.cells #[.int .i64 6, .int .i64 0, .int .i64 0, .string ⟨#[43]⟩, .slice (some ⟨w.heap.size, 0, none⟩) 2 2] 31)).alloc (.cells #[.string ⟨#[120]⟩] 9)).alloc (.cells #[.int .i64 6, .int .i64 0, .int .i64 0, .string ⟨#[43]⟩, .slice (some ⟨w.heap.size, 0, none⟩) 2 2] 31)).alloc (.cells #[.int .i64 4, .int .i64 0, .string ⟨#[]⟩, .string ⟨#[]⟩, .slice (some ⟨w.heap.size + 1 + 1 + 1, 0, none⟩) 1 1] 37)).alloc (.cells #[.int .i64 0, .string ⟨#[65]⟩, .slice (some ⟨w.heap.size + 1 + 1, 0, none⟩) 1 1, .slice (some ⟨w.heap.size + 1 + 1 + 1 + 1, 0, none⟩) 1 1, .int .i64 2, .int .i64 0, .string ⟨#[]⟩, .slice none 0 0, .slice none 0 0, .slice none 0 0, .bool false, .int .i64 0] 44)).alloc (.cells #[.int .i64 1, .int .i64 0, .int .i64 2, .string ⟨#[]⟩, .slice none 0 0] 31)).alloc (.cells #[.slice (some ⟨w.heap.size + 1 + 1 + 1 + 1 + 1, 0, none⟩) 1 1, .int .i64 0, .string ⟨#[65]⟩, .slice (some ⟨w.heap.size + 1 + 1 + 1 + 1 + 1 + 1, 0, none⟩) 1 1] 25)) = W at *
  have c0 : k31.C W (some ⟨w.heap.size, 0, none⟩) 2 [exX, exI] := C_blk a0 (Reps.c5 (k31_mk W exX (Nat.le_refl 0) (Kd.C_nil _ _)) (Reps.c5 (k31_mk W exI (Nat.le_refl 0) (Kd.C_nil _ _)) (Reps.none _ _))) rfl (by decide)
  have c2 : Kd.string.C W (some ⟨w.heap.size + 1 + 1, 0, none⟩) 1 [⟨#[120]⟩] := C_one (cs := [.string ⟨#[120]⟩]) a2 rfl
  have c3 : k31.C W (some ⟨w.heap.size + 1 + 1 + 1, 0, none⟩) 1 [exE] := C_one a3 (k31_mk W exE (Nat.le_refl 2) c0)
  have c4 : k37.C W (some ⟨w.heap.size + 1 + 1 + 1 + 1, 0, none⟩) 1 [exS] := C_one a4 (k37_mk W exS (Nat.le_refl 1) c3)
  have hb : BodyC W exB (some ⟨w.heap.size + 1 + 1 + 1 + 1, 0, none⟩) 1 none 0 none 0 none 0 := ⟨Nat.le_refl 1, c4, Nat.le_refl 0, Kd.C_nil _ _, Nat.le_refl 0, Kd.C_nil _ _, Nat.le_refl 0, Kd.C_nil _ _⟩
  have c5 : k44.C W (some ⟨w.heap.size + 1 + 1 + 1 + 1 + 1, 0, none⟩) 1 [exD] := C_one a5 (k44_mk W exD (Nat.le_refl 1) c2 hb)
  have c6 : k31.C W (some ⟨w.heap.size + 1 + 1 + 1 + 1 + 1 + 1, 0, none⟩) 1 [exA] := C_one a6 (k31_mk W exA (Nat.le_refl 0) (Kd.C_nil _ _))
  have HP := Lib.hid (show ProgC W exP (some ⟨w.heap.size + 1 + 1 + 1 + 1 + 1, 0, none⟩) 1 (some ⟨w.heap.size + 1 + 1 + 1 + 1 + 1 + 1, 0, none⟩) 1 from ⟨Nat.le_refl 1, c5, Nat.le_refl 1, c6⟩)
  have XB := Lib.hid a7
  have BW := Lib.hid hB
  clear a0 a2 a3 a4 a5 a6 a7 hB c0 c2 c3 c4 c5 c6 hb
  have y0 := blk_cell XB.out 0
  have y1 := blk_cell XB.out 1
  have y2 := blk_cell XB.out 2
  have y3 := blk_cell XB.out 3
  go_wp2_with (first
    | (go_at_call 8; refine (good_call exP _ 1 _ 1 _ HP.out).mono ?_; rintro e w3 ⟨rfl, hd⟩; rw [exGood]; have B3 := Lib.hid (below_step BW.out hd); have X3 := Lib.hid (blk_below XB.out hd); have P3 := Lib.hid (progC_below HP.out hd); clear hd y0 y1 y2 y3; have y0 := blk_cell X3.out 0; have y1 := blk_cell X3.out 1; have y2 := blk_cell X3.out 2; have y3 := blk_cell X3.out 3)
    | (go_at_call 10; refine (print_call exP _ 1 _ 1 _ P3.out (HT.out.below B3.out) (fun _ => by rw [exText]; decide)).mono ?_; rintro e w4 ⟨rfl, hd⟩; rw [exPrinted]; have B4 := Lib.hid (below_step B3.out hd); clear hd))
  go_ret
  exact ⟨rfl, B4.out⟩
/-- Is a program light? -/
def lightB (x : S25) : Bool := decide ((x.f0.length : Int) ≤ 70) && (decide (walkPr stS x 0 ≤ 800) && decide (dpPr x ≤ 40))
set_option maxRecDepth 100000 in
set_option maxHeartbeats 8000000 in
theorem light_call (x : S25) (AD : Option Addr) (cD : Nat) (AX : Option Addr) (cX : Nat) (w : World) (hP : ProgC w x AD cD AX cX) :
    Calls Tryd.prog 6 #[.agg #[.slice AD x.f0.length cD, .int .i64 x.f1, .string x.f2, .slice AX x.f3.length cX]] w (Says (lightB x) w) := by
  have hlnD := C_len hP.gd
  have HP := Lib.hid hP
  clear hP
  go_enter Tryd.func6, Tryd.ntmps6
  have hal := below_alloc (Below.refl _ w) (.cells #[.slice AD x.f0.length cD, .int .i64 x.f1, .string x.f2, .slice AX x.f3.length cX] 25)
  have XB := Lib.hid (blk_new w (.cells #[.slice AD x.f0.length cD, .int .i64 x.f1, .string x.f2, .slice AX x.f3.length cX] 25))
  have CP := Lib.hid (progC_below HP.out hal)
  have B2 := Lib.hid hal
  clear hal
  go_upto_region 1 with fail
  generalize w.alloc (.cells #[.slice AD x.f0.length cD, .int .i64 x.f1, .string x.f2, .slice AX x.f3.length cX] 25) = w2 at *
  generalize hgx : w.heap.size = gx at *
  have BW := Lib.hid (show Below w.heap.size w w2 by rw [hgx]; exact B2.out)
  clear B2 hgx
  have y0 := blk_cell XB.out 0
  have y1 := blk_cell XB.out 1
  have y2 := blk_cell XB.out 2
  have y3 := blk_cell XB.out 3
  go_wp2_with (first
    | (go_at_call 15; refine (ref_size_call x AD cD AX cX _ CP.out).mono ?_; rintro e w3 ⟨rfl, hd⟩; have BN := Lib.hid (below_step BW.out hd); have XN := Lib.hid (blk_below XB.out hd); have CN := Lib.hid (progC_below CP.out hd); clear hd BW XB CP y0 y1 y2 y3; have BW := Lib.hid BN.out; have XB := Lib.hid XN.out; have CP := Lib.hid CN.out; clear BN XN CN; have y0 := blk_cell XB.out 0; have y1 := blk_cell XB.out 1; have y2 := blk_cell XB.out 2; have y3 := blk_cell XB.out 3)
    | (go_at_call 12; refine (ref_depth_call x AD cD AX cX _ CP.out).mono ?_; rintro e w3 ⟨rfl, hd⟩; have BN := Lib.hid (below_step BW.out hd); clear hd BW XB CP y0 y1 y2 y3; have BW := Lib.hid BN.out; clear BN))
  all_goals (go_ret; refine ⟨?_, BW.out⟩; congr 2; first | (simp_all [lightB]; done) | (simp_all [lightB]; omega))
end Go.Proofs.YtjboncbmeanlgaaDoor.Tr
