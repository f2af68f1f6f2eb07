/- The table by which trailing zeros of 64 bits are counted, told of a world's cells. Conditions: as each lemma says. -/
import Derived.Test.YtnmhfcfojbfikaaDoorGlob
namespace Go.Proofs.YtnmhfcfojbfikaaDoor.Glob
open Go.RowKit Go.Proofs.YtnmhfcfojbfikaaDoorW.PrintWords
def debruijn64 : List Int := [0, 1, 56, 2, 57, 49, 28, 3, 61, 58, 42, 50, 38, 29, 17, 4, 62, 47, 59, 36, 45, 43, 51, 22, 53, 39, 33, 30, 24, 18, 12, 5, 63, 55, 48, 27, 60, 41, 37, 16, 46, 35, 44, 21, 52, 32, 23, 11, 54, 26, 40, 15, 34, 20, 31, 10, 25, 14, 19, 9, 13, 8, 7, 6]
def GQ (w : World) : Prop := TabAt 4 .u8 debruijn64 w
theorem GQ.drewN {w : World} (h : GQ w) (n : Nat) : GQ (w.drewN n) := h
theorem GQ.drew {w : World} (h : GQ w) : GQ w.drew := h
theorem GQ.below {w w' : World} (h : GQ w) (hb : Below w.heap.size w w') : GQ w' := TabAt.below h hb
theorem GQ.alloc {w : World} (h : GQ w) (o : Obj) : GQ (w.alloc o) := TabAt.alloc h o
theorem GQ.cell {w : World} (h : GQ w) (i : Nat) (h1 : i < 64) : w.cell? ⟨4, i, none⟩ = some (.int .u8 (debruijn64.getD i 0)) := h.2 i (by show i < 64; exact h1)
end Go.Proofs.YtnmhfcfojbfikaaDoor.Glob
