/- WheelNames, the pure part: the closed sentence that layer 12's errors, kinds, monoids and limits have their numbers answers true. Conditions: none. -/
import Derived.Test.YtnmhfcfojbfikaaPWheelNamesx1
namespace Go.Proofs.Ytnmhfcfojbfikaa.Pure
open Go.RowKit Go.Proofs.Ytnmhfcfojbfikaa.PWheelNames Go.Proofs.YtnmhfcfojbfikaaW.PrintWords Go.Proofs.YtnmhfcfojbfikaaW.PrintLast

/-- YOURS: sluicelaw12_WheelNames.f  = some true
What it reaches (each with k first where it has rounds; `.mono`: more rounds tell the same; `.l0`, ..: its loops, with `.mono_l`): sluicelaw12_num.f, sluicelaw12_WheelNames.f -/
theorem WheelNames : sluicelaw12_WheelNames.Pure := by
  exact rfl

end Go.Proofs.Ytnmhfcfojbfikaa.Pure
