/- GrainJoins, the pure part: both joins come to the same. Conditions: none but the row's own. -/
import Derived.Test.YtdnofpafojjjaaaDoorQGrainJoinsx10
namespace Go.Proofs.YtdnofpafojjjaaaDoor.Pure
open Go.RowKit Go.Proofs.YtdnofpafojjjaaaDoor.QGrainJoins Go.Proofs.YtdnofpafojjjaaaDoorW.PrintWords Go.Proofs.YtdnofpafojjjaaaDoorW.PrintLast Go.Proofs.YtdnofpafojjjaaaDoorW.PrintMore
open Go.Proofs.YtdnofpafojjjaaaDoor.Num
theorem joins_true (a0 a1 a2 : Int) (h0 : 0 ≤ a0 ∧ a0 < 4294967296) (h1 : 0 ≤ a1 ∧ a1 < 4294967296) : sluicelaw01_GrainJoins.f a0 a1 a2 = some true := by
  unfold sluicelaw01_GrainJoins.f
  have e : sluiceref01_Join.f a0 a1 a2 = grain_Join.f a0 a1 a2 := rfl
  have e2 : ∃ r, grain_Join.f a0 a1 a2 = some r := by
    unfold grain_Join.f
    rw [if_pos ⟨h0, h1⟩]
    split
    · exact ⟨_, rfl⟩
    · exact ⟨_, rfl⟩
  obtain ⟨r, hr⟩ := e2
  rw [e, hr, Option.bind_some, Option.bind_some, if_pos rfl]
  show some (r.2 == r.2) = _
  rw [beq_self_eq_true]
/-- The law. -/
theorem GrainJoins : sluicelaw01_GrainJoins.Pure := fun a0 a1 a2 h0 h1 _ => joins_true a0 a1 a2 (wf_u32 h0) (wf_u32 h1)
end Go.Proofs.YtdnofpafojjjaaaDoor.Pure
