/- GrainPlaced: the law's function, for rows as the reading hands them. Conditions: as the theorem says. -/
import Derived.Test.YtdnofpafojjjaaaDoorQGrainPlacedx15
namespace Go.Proofs.YtdnofpafojjjaaaDoor.QGrainPlaced
open Go.RowKit Go.Proofs.YtdnofpafojjjaaaDoorW.PrintWords Go.Proofs.YtdnofpafojjjaaaDoorW.PrintLast Go.Proofs.YtdnofpafojjjaaaDoorW.PrintMore
def sluicelaw01_GrainPlaced.Pure : Prop := ∀ (l0 l1 l2 : List Int) (a3 a4 : Int), l0.length * 1 ≤ 140737488351232 → (∀ x ∈ l0, (Lit.int .u8 x).wf = true) → (∀ x ∈ l1, (Lit.int .u8 x).wf = true) → (∀ x ∈ l2, (Lit.int .i64 x).wf = true) → (Lit.int .i64 a3).wf = true → (Lit.int .i64 a4).wf = true → l2.length ≤ 1048576 → ∃ k, sluicelaw01_GrainPlaced.f k l0 l1 l2 a3 a4 = some true
theorem sluicelaw01_GrainPlaced.walk (P : sluicelaw01_GrainPlaced.Pure) (a0 : Option Addr) (len0 cap0 : Nat) (z0 : List Int) (a1 : Option Addr) (len1 cap1 : Nat) (z1 : List Int) (a2 : Option Addr) (len2 cap2 : Nat) (z2 : List Int) (a3 a4 : Int) (w : World)
    (w0 : (a0 = none ∧ len0 = 0 ∧ cap0 = 0 ∧ z0 = []) ∨ ∃ x, a0 = some x ∧ len0 ≤ cap0 ∧ cap0 ≤ maxLen ∧ z0.length = cap0 ∧ (∀ i, i < z0.length → w.cell? (x.add i) = some (.int .u8 (z0.getD i 0))) ∧ ∀ n ∈ z0, (Lit.int .u8 n).wf = true)
    (w1 : (a1 = none ∧ len1 = 0 ∧ cap1 = 0 ∧ z1 = []) ∨ ∃ x, a1 = some x ∧ len1 ≤ cap1 ∧ cap1 ≤ maxLen ∧ z1.length = cap1 ∧ (∀ i, i < z1.length → w.cell? (x.add i) = some (.int .u8 (z1.getD i 0))) ∧ ∀ n ∈ z1, (Lit.int .u8 n).wf = true)
    (w2 : (a2 = none ∧ len2 = 0 ∧ cap2 = 0 ∧ z2 = []) ∨ ∃ x, a2 = some x ∧ len2 ≤ cap2 ∧ cap2 ≤ maxLen ∧ z2.length = cap2 ∧ (∀ i, i < z2.length → w.cell? (x.add i) = some (.int .i64 (z2.getD i 0))) ∧ ∀ n ∈ z2, (Lit.int .i64 n).wf = true)
    (w3 : (Lit.int .i64 a3).wf = true) (w4 : (Lit.int .i64 a4).wf = true) (y0 : len0 * 1 ≤ 140737488351232) (yb2 : len2 ≤ 1048576) (hGS : Glob.GS w) :
    Calls Tryd.prog 8 #[.slice a0 len0 cap0, .slice a1 len1 cap1, .slice a2 len2 cap2, .int .i64 a3, .int .i64 a4] w fun e w' => e = .returned (.bool true) ∧ Below w.heap.size w w' := by
  obtain ⟨l0, rfl, hr0, hm0, hw0, hc0⟩ := ReadsInt.ofRowC w0
  obtain ⟨l1, rfl, hr1, hm1, hw1, hc1⟩ := ReadsInt.ofRowC w1
  obtain ⟨l2, rfl, hr2, hm2, hw2, hc2⟩ := ReadsInt.ofRowC w2
  obtain ⟨k, h⟩ := P l0 l1 l2 a3 a4 y0 hw0 hw1 hw2 w3 w4 yb2
  exact sluicelaw01_GrainPlaced.calls k (fun k_ => k_ < w.heap.size) a0 cap0 l0 a1 cap1 l1 a2 cap2 l2 a3 a4 true w (Kd.V_mk hc0 (Kd.C_F (Kd.heap_int .u8) (Kd.C_of_reads (d := (0 : Int)) (h1 := fun _ => rfl) hr0))) (Kd.C_of_reads (d := (0 : Int)) (h1 := fun _ => rfl) hr1) hc1 (Kd.C_of_reads (d := (0 : Int)) (h1 := fun _ => rfl) hr2) hc2 h hGS
end Go.Proofs.YtdnofpafojjjaaaDoor.QGrainPlaced
