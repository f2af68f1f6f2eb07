/-
  DERIVED. GIVEN WITH THE SEED: THE CARDS: each row of YthlookemccoikaaGreatDoorRows.lean that lists a variable, with what it lists TIED to the program's text (the seventh form; the later family's looks); each row that meets fmt, with fmt's text TOLD by the authors' own Lean function (tested against real Go, not proved from fmt's source: count such statements apart). THE CARD IS WHAT COUNTS. Prove the row's statement (the work); the ties are given (YthlookemccoikaaGreatDoorTie.lean); close each card by the builder's one call (the guide's Derived/Test/ToyasCard.lean, 'card_holds'). Laid BY PROGRAM, IN A SANDBOX (cutbox-door.mjs). By AI agents, Wed Nov 11 2026. No macro, syntax, notation, axiom, sorry.
-/
import Derived.Test.YthlookemccoikaaGreatDoorRows
import GoSem.ClaimSeven
namespace Go.Proofs.YthlookemccoikaaGreatDoor
namespace Rows

/-- THE TIED CARD OF 'sluicelaw08.QuayNames'. -/
def quayNamesCard : Claim7 := { stood := { row := quayNamesRow, standIns := [], harness := (true, "9f2b4d802cd2c422788d4ffe41bdfaa361d6e882bc1c5b2c43ec701f3828da9f"), looks := true }, kinds := [], alts := [], laidByText := true, laidKinds := [.data, .data, .widerDeep, .widerDeep, .data, .data, .data, .data, .data, .data, .sentinel, .sentinel, .data, .pinned, .pinned, .pinned], laidTests := true, laidLooks := .later }
def QuayNamesCardSaid : Prop := Claim7.holds Tryz.pinned (.plain (OpenSpec.ofChange quayNamesSpec)) quayNamesCard

/-- THE SECOND FORM's CARD OF 'sluicelaw08.QuayNames'. -/
def quayNamesUptoCard : Claim7 := { stood := { row := quayNamesUptoRow, standIns := [], harness := (true, "9f2b4d802cd2c422788d4ffe41bdfaa361d6e882bc1c5b2c43ec701f3828da9f"), looks := true }, kinds := [], alts := [], laidByText := true, laidKinds := [.data, .data, .widerDeep, .widerDeep, .data, .data, .data, .data, .data, .data, .sentinel, .sentinel, .data, .pinned, .pinned, .pinned], laidTests := true, laidLooks := .later }
def QuayNamesUptoCardSaid : Prop := Claim7.holds Tryz.pinned (.plain (OpenSpec.upto quayNamesSpec)) quayNamesUptoCard
end Rows
end Go.Proofs.YthlookemccoikaaGreatDoor
