/- LoomNames, the pure part: the closed sentence that layer 11's errors, limits, instructions, handlers and kinds have their numbers answers true. Conditions: none. -/
import Derived.Test.YtnmhfcfojbfikaaPLoomNamesx1
namespace Go.Proofs.Ytnmhfcfojbfikaa.Pure
open Go.RowKit Go.Proofs.Ytnmhfcfojbfikaa.PLoomNames Go.Proofs.YtnmhfcfojbfikaaW.PrintWords Go.Proofs.YtnmhfcfojbfikaaW.PrintLast

/-- YOURS: sluicelaw11_LoomNames.f  = some true
What it reaches (each with k first where it has rounds; `.mono`: more rounds tell the same; `.l0`, ..: its loops, with `.mono_l`): sluicelaw11_LoomNames.f -/
theorem LoomNames : sluicelaw11_LoomNames.Pure := by
  exact rfl

end Go.Proofs.Ytnmhfcfojbfikaa.Pure
