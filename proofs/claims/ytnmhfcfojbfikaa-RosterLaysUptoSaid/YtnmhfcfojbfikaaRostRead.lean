/- How an argument of sections is read. Conditions: as each theorem says. -/
import Derived.Test.YtnmhfcfojbfikaaRostKinds
import Derived.Deep.SlicePairs
namespace Go.Proofs.Ytnmhfcfojbfikaa.QRosterLays
open Go.RowKit Go.ChangeShapes Go.WideShapes Go.Proofs.YtnmhfcfojbfikaaW.PrintWords Go.Proofs.YtnmhfcfojbfikaaW.PrintLast Go.Proofs.YtnmhfcfojbfikaaW.PrintMore
set_option linter.unusedVariables false
section
variable {H : Type} {enc : TypeId × Value → H} {W : World} {spare : Nat → Bool} {held : Bool}
theorem pair_cell {W : World} {a : Addr} {j : Nat} {v0 v1 : Value} (h0 : W.cell? (a.add (j * 2)) = some v0) (h1 : W.cell? (a.add (j * 2 + 1)) = some v1) : ∀ i u, [v0, v1][i]? = some u → W.cell? (a.add (j * 2 + i)) = some u := by
  intro i u hu
  match i, hu with
  | 0, hu => obtain rfl := Option.some.inj hu; exact h0
  | 1, hu => obtain rfl := Option.some.inj hu; exact h1
  | i + 2, hu => simp at hu
theorem read34 {fuel : Nat} {cs : List Value} {x : DataW H × List MemPlace} (h : DataW.trod enc Try.prog W 0 spare held fuel 28 cs = some x) :
    ∃ (A : Option Addr) (cap : Nat) (l : List S34), cs = [.slice A l.length cap] ∧ l.length ≤ cap ∧ k34.C W A l.length l := by
  rcases Go.Deep.open_slice_pairs Try.underlying28 Try.underlying34 (by kernel_rfl) rfl rfl (by kernel_rfl) (by kernel_rfl) h with ⟨rfl, _⟩ | ⟨a, len, cap, m, n, V0, V1, D0, D1, P0, P1, rfl, _, hl, hm, hmm, _, hx⟩
  · exact ⟨none, 0, [], rfl, Nat.le_refl _, rfl, Nat.zero_le _, fun h => absurd h (Nat.lt_irrefl _)⟩
  have hlm : len ≤ m := by rw [hmm]; split <;> omega
  have e_ : maxLen = 9223372036854775807 := rfl
  have each : ∀ i, i < len → ∃ q : ByteArray × ByteArray, V0 i = .string q.1 ∧ V1 i = .string q.2 := by
    intro i hi
    obtain ⟨_, _, g0, g1⟩ := hx i (by omega)
    obtain ⟨s0, e0, _⟩ := DataW.trod_string Try.underlying9 g0
    obtain ⟨s1, e1, _⟩ := DataW.trod_string Try.underlying9 g1
    injection e0 with e0
    injection e1 with e1
    exact ⟨(s0, s1), e0, e1⟩
  obtain ⟨q, hq⟩ := Go.Deep.choose_lt each
  refine ⟨some a, cap, (List.range len).map fun i => ⟨(q i).1, (q i).2⟩, by simp, by simpa using hl, by simp, by simp; omega, fun _ => ⟨a, rfl, fun j p hp => ?_⟩⟩
  have hj : j < len := by
    have := (List.getElem?_eq_some_iff.1 hp).1
    simpa using this
  obtain ⟨h0, h1, _, _⟩ := hx j (by omega)
  rw [(hq j hj).1] at h0
  rw [(hq j hj).2] at h1
  have hp' : p = ⟨(q j).1, (q j).2⟩ := by
    rw [List.getElem?_map, List.getElem?_range hj] at hp
    exact (Option.some.inj hp).symm
  subst hp'
  exact ⟨_, rfl, k34_mk W _, pair_cell h0 h1⟩
theorem read101 {fuel : Nat} {cs : List Value} {x : DataW H × List MemPlace} (h : DataW.trod enc Try.prog W 0 spare held fuel 25 cs = some x) :
    ∃ (A : Option Addr) (cap : Nat) (l : List S101), cs = [.slice A l.length cap] ∧ l.length ≤ cap ∧ k101.C W A l.length l ∧ ∀ x ∈ l, x.f1.length ≤ 9223372036854775807 := by
  rcases Go.Deep.open_slice_pairs Try.underlying25 Try.underlying101 (by kernel_rfl) rfl rfl (by kernel_rfl) (by kernel_rfl) h with ⟨rfl, _⟩ | ⟨a, len, cap, m, n, V0, V1, D0, D1, P0, P1, rfl, _, hl, hm, hmm, _, hx⟩
  · exact ⟨none, 0, [], rfl, Nat.le_refl _, ⟨rfl, Nat.zero_le _, fun h => absurd h (Nat.lt_irrefl _)⟩, fun x hx => by cases hx⟩
  have hlm : len ≤ m := by rw [hmm]; split <;> omega
  have e_ : maxLen = 9223372036854775807 := rfl
  have each : ∀ i, i < len → ∃ q : ByteArray × Option Addr × Nat × List S34, V0 i = .string q.1 ∧ V1 i = .slice q.2.1 q.2.2.2.length q.2.2.1 ∧ q.2.2.2.length ≤ q.2.2.1 ∧ k34.C W q.2.1 q.2.2.2.length q.2.2.2 := by
    intro i hi
    obtain ⟨_, _, g0, g1⟩ := hx i (by omega)
    obtain ⟨s0, e0, _⟩ := DataW.trod_string Try.underlying9 g0
    obtain ⟨A, c, l, e1, h1, h2⟩ := read34 g1
    injection e0 with e0
    injection e1 with e1
    exact ⟨(s0, A, c, l), e0, e1, h1, h2⟩
  obtain ⟨q, hq⟩ := Go.Deep.choose_lt each
  refine ⟨some a, cap, (List.range len).map fun i => ⟨(q i).1, (q i).2.2.2⟩, by simp, by simpa using hl, ⟨by simp, by simp; omega, fun _ => ⟨a, rfl, fun j p hp => ?_⟩⟩, fun x hx_ => ?_⟩
  · have hj : j < len := by
      have := (List.getElem?_eq_some_iff.1 hp).1
      simpa using this
    obtain ⟨h0, h1, _, _⟩ := hx j (by omega)
    obtain ⟨q1, q2, q3, q4⟩ := hq j hj
    rw [q1] at h0
    rw [q2] at h1
    have hp' : p = ⟨(q j).1, (q j).2.2.2⟩ := by
      rw [List.getElem?_map, List.getElem?_range hj] at hp
      exact (Option.some.inj hp).symm
    subst hp'
    exact ⟨_, rfl, k101_mk W (⟨(q j).1, (q j).2.2.2⟩ : S101) q3 q4, pair_cell h0 h1⟩
  · obtain ⟨j, hj, rfl⟩ := List.mem_map.1 hx_
    exact (hq j (List.mem_range.1 hj)).2.2.2.2.1
end
end Go.Proofs.Ytnmhfcfojbfikaa.QRosterLays
