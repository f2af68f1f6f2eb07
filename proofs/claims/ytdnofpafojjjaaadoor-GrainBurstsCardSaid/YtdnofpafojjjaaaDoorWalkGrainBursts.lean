/- GrainBursts: the law's function, for a row as the reading hands it. Conditions: as the theorem says. -/
import Derived.Test.YtdnofpafojjjaaaDoorQGrainBurstsx5
namespace Go.Proofs.YtdnofpafojjjaaaDoor.QGrainBursts
open Go.RowKit Go.Proofs.YtdnofpafojjjaaaDoorW.PrintWords Go.Proofs.YtdnofpafojjjaaaDoorW.PrintLast Go.Proofs.YtdnofpafojjjaaaDoorW.PrintMore
def sluicelaw01_GrainBursts.Pure : Prop := ∀ (l0 : List Int) (a1 a2 : Int), l0.length * 1 ≤ 140737488351232 → (∀ x ∈ l0, (Lit.int .u8 x).wf = true) → (Lit.int .i64 a1).wf = true → (Lit.int .u32 a2).wf = true → ∃ k, sluicelaw01_GrainBursts.f k l0 a1 a2 = some true
theorem sluicelaw01_GrainBursts.walk (P : sluicelaw01_GrainBursts.Pure) (a0 : Option Addr) (len0 cap0 : Nat) (z0 : List Int) (a1 a2 : Int) (w : World) (w0 : (a0 = none ∧ len0 = 0 ∧ cap0 = 0 ∧ z0 = []) ∨ ∃ x, a0 = some x ∧ len0 ≤ cap0 ∧ cap0 ≤ maxLen ∧ z0.length = cap0 ∧ (∀ i, i < z0.length → w.cell? (x.add i) = some (.int .u8 (z0.getD i 0))) ∧ ∀ n ∈ z0, (Lit.int .u8 n).wf = true) (w1 : (Lit.int .i64 a1).wf = true) (w2 : (Lit.int .u32 a2).wf = true) (y0 : len0 * 1 ≤ 140737488351232) (hGS : Glob.GS w) :
    Calls Tryd.prog 4 #[.slice a0 len0 cap0, .int .i64 a1, .int .u32 a2] w fun e w' => e = .returned (.bool true) ∧ Below w.heap.size w w' := by
  obtain ⟨l0, rfl, hr0, hm0, hw0, hc0⟩ := ReadsInt.ofRowC w0
  obtain ⟨k, h⟩ := P l0 a1 a2 y0 hw0 w1 w2
  exact sluicelaw01_GrainBursts.calls k (fun k_ => k_ < w.heap.size) a0 cap0 l0 a1 a2 true w (Kd.V_mk hc0 (Kd.C_F (Kd.heap_int .u8) (Kd.C_of_reads (d := (0 : Int)) (h1 := fun _ => rfl) hr0))) h hGS
end Go.Proofs.YtdnofpafojjjaaaDoor.QGrainBursts
