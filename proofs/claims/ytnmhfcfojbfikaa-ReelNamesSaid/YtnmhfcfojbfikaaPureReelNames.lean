/- ReelNames, the pure part: the closed sentence that layer 6's errors, limits and families have their numbers answers true. Conditions: none. -/
import Derived.Test.YtnmhfcfojbfikaaPReelNamesx1
namespace Go.Proofs.Ytnmhfcfojbfikaa.Pure
open Go.RowKit Go.Proofs.Ytnmhfcfojbfikaa.PReelNames Go.Proofs.YtnmhfcfojbfikaaW.PrintWords Go.Proofs.YtnmhfcfojbfikaaW.PrintLast

/-- YOURS: sluicelaw06_ReelNames.f  = some true
What it reaches (each with k first where it has rounds; `.mono`: more rounds tell the same; `.l0`, ..: its loops, with `.mono_l`): sluicelaw06_num.f, sluicelaw06_ReelNames.f -/
theorem ReelNames : sluicelaw06_ReelNames.Pure := by
  exact rfl

end Go.Proofs.Ytnmhfcfojbfikaa.Pure
