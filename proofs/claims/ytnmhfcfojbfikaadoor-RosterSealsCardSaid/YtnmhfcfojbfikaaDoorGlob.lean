/- What the listed package-level tables hold, told of a world's cells, and that no making of memory turns it. Conditions: as each lemma says. -/
import Derived.Test.YtnmhfcfojbfikaaDoorProg
import Derived.Below
import Derived.Deep.Draws
import Derived.Test.YtnmhfcfojbfikaaDoorWWords
namespace Go.Proofs.YtnmhfcfojbfikaaDoor.Glob
open Go.RowKit Go.Proofs.YtnmhfcfojbfikaaDoorW.PrintWords
/-- A table of whole numbers in block b. -/
def TabAt (b : Nat) (k : IntKind) (l : List Int) (w : World) : Prop := b < w.heap.size ∧ ∀ i, i < l.length → w.cell? ⟨b, i, none⟩ = some (.int k (l.getD i 0))
theorem TabAt.drewN {b : Nat} {k : IntKind} {l : List Int} {w : World} (h : TabAt b k l w) (n : Nat) : TabAt b k l (w.drewN n) := h
theorem TabAt.drew {b : Nat} {k : IntKind} {l : List Int} {w : World} (h : TabAt b k l w) : TabAt b k l w.drew := h
theorem TabAt.below {b : Nat} {k : IntKind} {l : List Int} {w w' : World} (h : TabAt b k l w) (hb : Below w.heap.size w w') : TabAt b k l w' :=
  ⟨Nat.lt_of_lt_of_le h.1 hb.size, fun i hi => (hb.cell (p := ⟨b, i, none⟩) h.1).trans (h.2 i hi)⟩
theorem TabAt.alloc {b : Nat} {k : IntKind} {l : List Int} {w : World} (h : TabAt b k l w) (o : Obj) : TabAt b k l (w.alloc o) :=
  h.below ((Below.refl _ _).alloc (Nat.le_refl _) o)
def steps : List Int := [0, 498536548, 997073096, 651767980, 1994146192, 1802195444, 1303535960, 1342533948, 3988292384, 4027552580, 3604390888, 3412177804, 2607071920, 2262029012, 2685067896, 3183342108]
def debruijn : List Int := [0, 1, 28, 2, 29, 14, 24, 3, 30, 22, 20, 15, 25, 17, 4, 8, 31, 27, 13, 23, 21, 19, 16, 7, 26, 12, 18, 6, 11, 5, 10, 9]
/-- grain's table of four steps; the table by which trailing zeros are counted. -/
def GS (w : World) : Prop := TabAt 0 .u32 steps w
def GD (w : World) : Prop := TabAt 3 .u8 debruijn w
theorem GS.drewN {w : World} (h : GS w) (n : Nat) : GS (w.drewN n) := h
theorem GS.drew {w : World} (h : GS w) : GS w.drew := h
theorem GS.below {w w' : World} (h : GS w) (hb : Below w.heap.size w w') : GS w' := TabAt.below h hb
theorem GS.alloc {w : World} (h : GS w) (o : Obj) : GS (w.alloc o) := TabAt.alloc h o
theorem GD.drewN {w : World} (h : GD w) (n : Nat) : GD (w.drewN n) := h
theorem GD.drew {w : World} (h : GD w) : GD w.drew := h
theorem GD.below {w w' : World} (h : GD w) (hb : Below w.heap.size w w') : GD w' := TabAt.below h hb
theorem GD.alloc {w : World} (h : GD w) (o : Obj) : GD (w.alloc o) := TabAt.alloc h o
theorem GS.cell {w : World} (h : GS w) (i : Int) (h0 : 0 ≤ i) (h1 : i < 16) : w.cell? ⟨0, i.toNat, none⟩ = some (.int .u32 (steps.getD i.toNat 0)) := h.2 i.toNat (by show i.toNat < 16; omega)
theorem GD.cell {w : World} (h : GD w) (i : Int) (h0 : 0 ≤ i) (h1 : i < 32) : w.cell? ⟨3, i.toNat, none⟩ = some (.int .u8 (debruijn.getD i.toNat 0)) := h.2 i.toNat (by show i.toNat < 32; omega)
end Go.Proofs.YtnmhfcfojbfikaaDoor.Glob
