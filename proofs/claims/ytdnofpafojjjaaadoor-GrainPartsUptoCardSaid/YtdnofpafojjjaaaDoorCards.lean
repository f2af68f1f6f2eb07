/-
  DERIVED. GIVEN WITH THE SEED: THE CARDS: each row of YtdnofpafojjjaaaDoorRows.lean that lists a variable, with what it lists TIED to the program's text (the seventh form; the later family's looks); each row that meets fmt, with fmt's text TOLD by the authors' own Lean function (tested against real Go, not proved from fmt's source: count such statements apart). THE CARD IS WHAT COUNTS. Prove the row's statement (the work); the ties are given (YtdnofpafojjjaaaDoorTie.lean); close each card by the builder's one call (the guide's Derived/Test/ToyasCard.lean, 'card_holds'). Laid BY PROGRAM, IN A SANDBOX (cutbox-door.mjs). By AI agents, Wed Nov 11 2026. No macro, syntax, notation, axiom, sorry.
-/
import Derived.Test.YtdnofpafojjjaaaDoorRows
import GoSem.ClaimSeven
namespace Go.Proofs.YtdnofpafojjjaaaDoor
namespace Rows

/-- THE TIED CARD OF 'sluicelaw01.GrainSums'. -/
def grainSumsCard : Claim7 := { stood := { row := grainSumsRow, standIns := [], harness := (true, "463d365512517a0016ba0779c03a039e03f115068f1982bb59122938761ced2f"), looks := false }, kinds := [], alts := [], laidByText := true, laidKinds := [.data], laidTests := true, laidLooks := .later }
def GrainSumsCardSaid : Prop := Claim7.holds Tryd.pinned (.plain (OpenSpec.ofChange grainSumsSpec)) grainSumsCard

/-- THE TIED CARD OF 'sluicelaw01.GrainBursts'. -/
def grainBurstsCard : Claim7 := { stood := { row := grainBurstsRow, standIns := [], harness := (true, "463d365512517a0016ba0779c03a039e03f115068f1982bb59122938761ced2f"), looks := false }, kinds := [], alts := [], laidByText := true, laidKinds := [.data], laidTests := true, laidLooks := .later }
def GrainBurstsCardSaid : Prop := Claim7.holds Tryd.pinned (.plain (OpenSpec.ofChange grainBurstsSpec)) grainBurstsCard

/-- THE TIED CARD OF 'sluicelaw01.GrainJoins'. -/
def grainJoinsCard : Claim7 := { stood := { row := grainJoinsRow, standIns := [], harness := (true, "463d365512517a0016ba0779c03a039e03f115068f1982bb59122938761ced2f"), looks := false }, kinds := [], alts := [], laidByText := true, laidKinds := [.data, .data], laidTests := true, laidLooks := .later }
def GrainJoinsCardSaid : Prop := Claim7.holds Tryd.pinned (.plain (OpenSpec.ofChange grainJoinsSpec)) grainJoinsCard

/-- THE TIED CARD OF 'sluicelaw01.GrainClasses'. -/
def grainClassesCard : Claim7 := { stood := { row := grainClassesRow, standIns := [], harness := (true, "463d365512517a0016ba0779c03a039e03f115068f1982bb59122938761ced2f"), looks := false }, kinds := [], alts := [], laidByText := true, laidKinds := [.data], laidTests := true, laidLooks := .later }
def GrainClassesCardSaid : Prop := Claim7.holds Tryd.pinned (.plain (OpenSpec.ofChange grainClassesSpec)) grainClassesCard

/-- THE TIED CARD OF 'sluicelaw01.GrainParts'. -/
def grainPartsCard : Claim7 := { stood := { row := grainPartsRow, standIns := [], harness := (true, "463d365512517a0016ba0779c03a039e03f115068f1982bb59122938761ced2f"), looks := false }, kinds := [], alts := [], laidByText := true, laidKinds := [.data, .data], laidTests := true, laidLooks := .later }
def GrainPartsCardSaid : Prop := Claim7.holds Tryd.pinned (.plain (OpenSpec.ofChange grainPartsSpec)) grainPartsCard

/-- THE TIED CARD OF 'sluicelaw01.GrainPlaced'. -/
def grainPlacedCard : Claim7 := { stood := { row := grainPlacedRow, standIns := [], harness := (true, "463d365512517a0016ba0779c03a039e03f115068f1982bb59122938761ced2f"), looks := false }, kinds := [], alts := [], laidByText := true, laidKinds := [.data], laidTests := true, laidLooks := .later }
def GrainPlacedCardSaid : Prop := Claim7.holds Tryd.pinned (.plain (OpenSpec.ofChange grainPlacedSpec)) grainPlacedCard

/-- THE SECOND FORM's CARD OF 'sluicelaw01.GrainSums'. -/
def grainSumsUptoCard : Claim7 := { stood := { row := grainSumsUptoRow, standIns := [], harness := (true, "463d365512517a0016ba0779c03a039e03f115068f1982bb59122938761ced2f"), looks := false }, kinds := [], alts := [], laidByText := true, laidKinds := [.data], laidTests := true, laidLooks := .later }
def GrainSumsUptoCardSaid : Prop := Claim7.holds Tryd.pinned (.plain (OpenSpec.upto grainSumsSpec)) grainSumsUptoCard

/-- THE SECOND FORM's CARD OF 'sluicelaw01.GrainBursts'. -/
def grainBurstsUptoCard : Claim7 := { stood := { row := grainBurstsUptoRow, standIns := [], harness := (true, "463d365512517a0016ba0779c03a039e03f115068f1982bb59122938761ced2f"), looks := false }, kinds := [], alts := [], laidByText := true, laidKinds := [.data], laidTests := true, laidLooks := .later }
def GrainBurstsUptoCardSaid : Prop := Claim7.holds Tryd.pinned (.plain (OpenSpec.upto grainBurstsSpec)) grainBurstsUptoCard

/-- THE SECOND FORM's CARD OF 'sluicelaw01.GrainJoins'. -/
def grainJoinsUptoCard : Claim7 := { stood := { row := grainJoinsUptoRow, standIns := [], harness := (true, "463d365512517a0016ba0779c03a039e03f115068f1982bb59122938761ced2f"), looks := false }, kinds := [], alts := [], laidByText := true, laidKinds := [.data, .data], laidTests := true, laidLooks := .later }
def GrainJoinsUptoCardSaid : Prop := Claim7.holds Tryd.pinned (.plain (OpenSpec.upto grainJoinsSpec)) grainJoinsUptoCard

/-- THE SECOND FORM's CARD OF 'sluicelaw01.GrainClasses'. -/
def grainClassesUptoCard : Claim7 := { stood := { row := grainClassesUptoRow, standIns := [], harness := (true, "463d365512517a0016ba0779c03a039e03f115068f1982bb59122938761ced2f"), looks := false }, kinds := [], alts := [], laidByText := true, laidKinds := [.data], laidTests := true, laidLooks := .later }
def GrainClassesUptoCardSaid : Prop := Claim7.holds Tryd.pinned (.plain (OpenSpec.upto grainClassesSpec)) grainClassesUptoCard

/-- THE SECOND FORM's CARD OF 'sluicelaw01.GrainParts'. -/
def grainPartsUptoCard : Claim7 := { stood := { row := grainPartsUptoRow, standIns := [], harness := (true, "463d365512517a0016ba0779c03a039e03f115068f1982bb59122938761ced2f"), looks := false }, kinds := [], alts := [], laidByText := true, laidKinds := [.data, .data], laidTests := true, laidLooks := .later }
def GrainPartsUptoCardSaid : Prop := Claim7.holds Tryd.pinned (.plain (OpenSpec.upto grainPartsSpec)) grainPartsUptoCard

/-- THE SECOND FORM's CARD OF 'sluicelaw01.GrainPlaced'. -/
def grainPlacedUptoCard : Claim7 := { stood := { row := grainPlacedUptoRow, standIns := [], harness := (true, "463d365512517a0016ba0779c03a039e03f115068f1982bb59122938761ced2f"), looks := false }, kinds := [], alts := [], laidByText := true, laidKinds := [.data], laidTests := true, laidLooks := .later }
def GrainPlacedUptoCardSaid : Prop := Claim7.holds Tryd.pinned (.plain (OpenSpec.upto grainPlacedSpec)) grainPlacedUptoCard
end Rows
end Go.Proofs.YtdnofpafojjjaaaDoor
