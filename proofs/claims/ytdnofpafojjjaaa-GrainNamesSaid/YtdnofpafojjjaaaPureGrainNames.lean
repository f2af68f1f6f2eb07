/- GrainNames, the pure part: the closed sentence about the numbers of errors, classes and limits of layer 1 answers true. Conditions: none. -/
import Derived.Test.YtdnofpafojjjaaaPGrainNamesx1
namespace Go.Proofs.Ytdnofpafojjjaaa.Pure
open Go.RowKit Go.Proofs.Ytdnofpafojjjaaa.PGrainNames Go.Proofs.YtdnofpafojjjaaaW.PrintWords Go.Proofs.YtdnofpafojjjaaaW.PrintLast

/-- YOURS: ∃ k, sluicelaw01_GrainNames.f k  = some true
What it reaches (each with k first where it has rounds; `.mono`: more rounds tell the same; `.l0`, ..: its loops, with `.mono_l`): sluicelaw01_num.f, sluicelaw01_GrainNames.f -/
theorem GrainNames : sluicelaw01_GrainNames.Pure := by
  exact ⟨1, rfl⟩

end Go.Proofs.Ytdnofpafojjjaaa.Pure
