/- LoreNames, the pure part: the closed sentence that layer 17's errors, limits, declarations, nodes and statements have their numbers answers true. Conditions: none. -/
import Derived.Test.YtnmhfcfojbfikaaPLoreNamesx1
namespace Go.Proofs.Ytnmhfcfojbfikaa.Pure
open Go.RowKit Go.Proofs.Ytnmhfcfojbfikaa.PLoreNames Go.Proofs.YtnmhfcfojbfikaaW.PrintWords Go.Proofs.YtnmhfcfojbfikaaW.PrintLast

/-- YOURS: sluicelaw17_LoreNames.f  = some true
What it reaches (each with k first where it has rounds; `.mono`: more rounds tell the same; `.l0`, ..: its loops, with `.mono_l`): sluicelaw17_LoreNames.f -/
theorem LoreNames : sluicelaw17_LoreNames.Pure := by
  exact rfl

end Go.Proofs.Ytnmhfcfojbfikaa.Pure
