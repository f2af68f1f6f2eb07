/-
  DERIVED. GIVEN WITH THE SEED: THE CARDS: each row of YtnmhfcfojbfikaaDoorRows.lean that lists a variable, with what it lists TIED to the program's text (the seventh form; the later family's looks); each row that meets fmt, with fmt's text TOLD by the authors' own Lean function (tested against real Go, not proved from fmt's source: count such statements apart). THE CARD IS WHAT COUNTS. Prove the row's statement (the work); the ties are given (YtnmhfcfojbfikaaDoorTie.lean); close each card by the builder's one call (the guide's Derived/Test/ToyasCard.lean, 'card_holds'). Laid BY PROGRAM, IN A SANDBOX (cutbox-door.mjs). By AI agents, Wed Nov 11 2026. No macro, syntax, notation, axiom, sorry.
-/
import Derived.Test.YtnmhfcfojbfikaaDoorRows
import GoSem.ClaimSeven
namespace Go.Proofs.YtnmhfcfojbfikaaDoor
namespace Rows

/-- THE TIED CARD OF 'sluicelaw07.RosterSeals'. -/
def rosterSealsCard : Claim7 := { stood := { row := rosterSealsRow, standIns := [], harness := (true, "e6013f9c5466a18a3370b0626943b9b315743d5cedaa743d099ac2ba113032ef"), looks := false }, kinds := [], alts := [], laidByText := true, laidKinds := [.data, .data, .data, .data], laidTests := true, laidLooks := .later }
def RosterSealsCardSaid : Prop := Claim7.holds Tryd.pinned (.plain (OpenSpec.ofChange rosterSealsSpec)) rosterSealsCard

/-- THE SECOND FORM's CARD OF 'sluicelaw07.RosterSeals'. -/
def rosterSealsUptoCard : Claim7 := { stood := { row := rosterSealsUptoRow, standIns := [], harness := (true, "e6013f9c5466a18a3370b0626943b9b315743d5cedaa743d099ac2ba113032ef"), looks := false }, kinds := [], alts := [], laidByText := true, laidKinds := [.data, .data, .data, .data], laidTests := true, laidLooks := .later }
def RosterSealsUptoCardSaid : Prop := Claim7.holds Tryd.pinned (.plain (OpenSpec.upto rosterSealsSpec)) rosterSealsUptoCard
end Rows
end Go.Proofs.YtnmhfcfojbfikaaDoor
