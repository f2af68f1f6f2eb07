/- GrainSums: the law's function, for a list of rows as the reading hands it. Conditions: as the theorem says. -/
import Derived.Test.YtdnofpafojjjaaaDoorQGrainSumsx9
import Derived.Deep.Matrix
namespace Go.Proofs.YtdnofpafojjjaaaDoor.QGrainSums
open Go.RowKit Go.Proofs.YtdnofpafojjjaaaDoorW.PrintWords Go.Proofs.YtdnofpafojjjaaaDoorW.PrintLast Go.Proofs.YtdnofpafojjjaaaDoorW.PrintMore
def sluicelaw01_GrainSums.Pure : Prop := ∀ (l0 : List (List Int)) (a1 : Int), l0.length * 24 ≤ 140737488351232 → (∀ x ∈ l0, ∀ c ∈ x, (Lit.int .u8 c).wf = true) → (∀ x ∈ l0, x.length ≤ maxLen) → (Lit.int .u32 a1).wf = true → ∃ k, sluicelaw01_GrainSums.f k l0 a1 = some true
/-- What a row of rows reads as. -/
def IsRows (w : World) (a : Option Addr) (len : Nat) : Prop :=
  (a = none ∧ len = 0) ∨ ∃ (x : Addr) (A : Nat → Option Addr) (L C : Nat → Nat) (Z : Nat → List Int), a = some x ∧ len ≤ maxLen ∧
      ∀ r, r < len → w.cell? (x.add r) = some (.slice (A r) (L r) (C r)) ∧ L r ≤ C r ∧ C r ≤ maxLen ∧ (Z r).length = C r ∧ (∀ n ∈ Z r, (Lit.int .u8 n).wf = true) ∧ (A r = none → C r = 0) ∧
        ∀ a', A r = some a' → ∀ c, c < C r → w.cell? (a'.add c) = some (.int .u8 ((Z r).getD c 0))
theorem IsRows.reads {w : World} {a : Option Addr} {len : Nat} (h : IsRows w a len) : ∃ l : List (List Int), len = l.length ∧ Kd.C (Kd.slice 5 (Kd.int .u8)) w a l.length l ∧ (∀ x ∈ l, ∀ c ∈ x, (Lit.int .u8 c).wf = true) ∧ ∀ x ∈ l, x.length ≤ maxLen := by
  rcases h with ⟨rfl, rfl⟩ | ⟨x, A, L, C, Z, rfl, hm, hr⟩
  · exact ⟨[], rfl, ⟨rfl, by simp, fun h => absurd h (by simp)⟩, (by intro x hx; cases hx), (by intro x hx; cases hx)⟩
  have each : ∀ r, r < len → ∃ l : List Int, L r = l.length ∧ (Kd.int .u8).C w (A r) l.length l ∧ (∀ c ∈ l, (Lit.int .u8 c).wf = true) ∧ l.length ≤ C r ∧ C r ≤ maxLen := by
    intro r hr0
    obtain ⟨_, h1, h2, h3, h4, h5, h6⟩ := hr r hr0
    have w0 : (A r = none ∧ L r = 0 ∧ C r = 0 ∧ Z r = []) ∨ ∃ x, A r = some x ∧ L r ≤ C r ∧ C r ≤ maxLen ∧ (Z r).length = C r ∧ (∀ i, i < (Z r).length → w.cell? (x.add i) = some (.int .u8 ((Z r).getD i 0))) ∧ ∀ n ∈ Z r, (Lit.int .u8 n).wf = true := by
      rcases hA : A r with _ | a'
      · have := h5 hA
        exact .inl ⟨rfl, by omega, this, List.eq_nil_of_length_eq_zero (by omega)⟩
      · exact .inr ⟨a', rfl, h1, h2, h3, fun i hi => h6 a' hA i (by omega), h4⟩
    obtain ⟨l, e, hr0, hm0, hw0, hc0⟩ := ReadsInt.ofRowC w0
    exact ⟨l, e, Kd.C_of_reads (d := (0 : Int)) (h1 := fun _ => rfl) hr0, hw0, hc0, h2⟩
  obtain ⟨y, hy⟩ := Go.Deep.choose_lt each
  refine ⟨(List.range len).map y, by simp, ⟨by simp, by rw [List.length_map, List.length_range]; have e_ : maxLen = 9223372036854775807 := rfl; omega, fun _ => ⟨x, rfl, fun j p hp => ?_⟩⟩, ?_, ?_⟩
  · have hj : j < len := by
      have := (List.getElem?_eq_some_iff.1 hp).1
      simpa using this
    rw [List.getElem?_map, List.getElem?_range hj] at hp
    obtain rfl : y j = p := by simpa using hp
    obtain ⟨e, hC, _, hc, hm⟩ := hy j hj
    refine ⟨[.slice (A j) (y j).length (C j)], rfl, ⟨A j, C j, rfl, hc, hC⟩, fun i u hu => ?_⟩
    rcases i with _ | i
    · obtain rfl : Value.slice (A j) (y j).length (C j) = u := by simpa using hu
      rw [← e]
      have := (hr j hj).1
      show w.cell? (x.add (j * 1 + 0)) = _
      rw [Nat.mul_one, Nat.add_zero]
      exact this
    · simp at hu
  · intro z hz
    obtain ⟨j, hj, rfl⟩ := List.mem_map.1 hz
    exact (hy j (List.mem_range.1 hj)).2.2.1
  · intro z hz
    obtain ⟨j, hj, rfl⟩ := List.mem_map.1 hz
    obtain ⟨_, _, _, h1, h2⟩ := hy j (List.mem_range.1 hj)
    omega
theorem sluicelaw01_GrainSums.walk (P : sluicelaw01_GrainSums.Pure) (a0 : Option Addr) (len0 cap0 : Nat) (a1 : Int) (w : World) (w0 : IsRows w a0 len0) (c0 : len0 ≤ cap0) (w1 : (Lit.int .u32 a1).wf = true) (y0 : len0 * 24 ≤ 140737488351232) (hGS : Glob.GS w) :
    Calls Tryd.prog 3 #[.slice a0 len0 cap0, .int .u32 a1] w fun e w' => e = .returned (.bool true) ∧ Below w.heap.size w w' := by
  obtain ⟨l0, rfl, hr0, hw0, hm0⟩ := w0.reads
  obtain ⟨k, h⟩ := P l0 a1 y0 hw0 hm0 w1
  exact sluicelaw01_GrainSums.calls k a0 cap0 l0 a1 true w hr0 c0 h hGS
end Go.Proofs.YtdnofpafojjjaaaDoor.QGrainSums
