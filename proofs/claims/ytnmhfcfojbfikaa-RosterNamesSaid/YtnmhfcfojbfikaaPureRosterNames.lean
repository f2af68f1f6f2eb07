/- RosterNames, the pure part: the closed sentence that layer 7's errors and limits have their numbers answers true. Conditions: none. -/
import Derived.Test.YtnmhfcfojbfikaaPRosterNamesx1
namespace Go.Proofs.Ytnmhfcfojbfikaa.Pure
open Go.RowKit Go.Proofs.Ytnmhfcfojbfikaa.PRosterNames Go.Proofs.YtnmhfcfojbfikaaW.PrintWords Go.Proofs.YtnmhfcfojbfikaaW.PrintLast

/-- YOURS: sluicelaw07_RosterNames.f  = some true
What it reaches (each with k first where it has rounds; `.mono`: more rounds tell the same; `.l0`, ..: its loops, with `.mono_l`): sluicelaw07_RosterNames.f -/
theorem RosterNames : sluicelaw07_RosterNames.Pure := by
  exact rfl

end Go.Proofs.Ytnmhfcfojbfikaa.Pure
