/- How an argument of sections is read, and how long its names are by its bulk. Conditions: as each theorem says. -/
import Derived.Test.YtnmhfcfojbfikaaRostKinds
import Derived.Test.YtnmhfcfojbfikaaBulk
import Derived.Deep.SlicePairs
namespace Go.Proofs.Ytnmhfcfojbfikaa.QRosterLays
open Go.RowKit Go.ChangeShapes Go.WideShapes Go.Proofs.YtnmhfcfojbfikaaW.PrintWords Go.Proofs.YtnmhfcfojbfikaaW.PrintLast Go.Proofs.YtnmhfcfojbfikaaW.PrintMore
set_option linter.unusedVariables false
section
variable {H : Type} {enc : TypeId × Value → H} {W : World} {spare : Nat → Bool} {held : Bool}
theorem pair_cellB {W : World} {a : Addr} {j : Nat} {v0 v1 : Value} (h0 : W.cell? (a.add (j * 2)) = some v0) (h1 : W.cell? (a.add (j * 2 + 1)) = some v1) : ∀ i u, [v0, v1][i]? = some u → W.cell? (a.add (j * 2 + i)) = some u := by
  intro i u hu
  match i, hu with
  | 0, hu => obtain rfl := Option.some.inj hu; exact h0
  | 1, hu => obtain rfl := Option.some.inj hu; exact h1
  | i + 2, hu => simp at hu
theorem slice_part {d : DataW H} {elems sp : List (DataW H)} (h : d ∈ elems) : Rows.uptoBulk d ≤ Rows.uptoBulk (.slice elems sp) := by
  have := bulks.part_le h
  simp only [Rows.uptoBulk]
  omega
theorem agg_part {d : DataW H} {parts : List (DataW H)} (h : d ∈ parts) : Rows.uptoBulk d ≤ Rows.uptoBulk (.agg parts) := by
  have := bulks.part_le h
  simp only [Rows.uptoBulk]
  omega
theorem text_bulk (s : ByteArray) : s.size ≤ Rows.uptoBulk (.lit (.string s.data.toList) : DataW H) := by
  simp only [Rows.uptoBulk]
  have : s.data.toList.length = s.size := by rw [Array.length_toList]; rfl
  omega
theorem read34b {fuel : Nat} {cs : List Value} {x : DataW H × List MemPlace} (h : DataW.trod enc Try.prog W 0 spare held fuel 28 cs = some x) :
    ∃ (A : Option Addr) (cap : Nat) (l : List S34), cs = [.slice A l.length cap] ∧ l.length ≤ cap ∧ k34.C W A l.length l ∧ ∀ e ∈ l, e.f0.size ≤ Rows.uptoBulk x.1 := by
  rcases Go.Deep.open_slice_pairs Try.underlying28 Try.underlying34 (by kernel_rfl) rfl rfl (by kernel_rfl) (by kernel_rfl) h with ⟨rfl, _⟩ | ⟨a, len, cap, m, n, V0, V1, D0, D1, P0, P1, rfl, _, hl, hm, hmm, rfl, hx⟩
  · exact ⟨none, 0, [], rfl, Nat.le_refl _, ⟨rfl, Nat.zero_le _, fun h => absurd h (Nat.lt_irrefl _)⟩, fun e he => by cases he⟩
  have hlm : len ≤ m := by rw [hmm]; split <;> omega
  have e_ : maxLen = 9223372036854775807 := rfl
  have each : ∀ i, i < len → ∃ q : ByteArray × ByteArray, V0 i = .string q.1 ∧ V1 i = .string q.2 ∧ q.1.size ≤ Rows.uptoBulk (D0 i) := by
    intro i hi
    obtain ⟨_, _, g0, g1⟩ := hx i (by omega)
    obtain ⟨s0, e0, d0, _⟩ := DataW.trod_string Try.underlying9 g0
    obtain ⟨s1, e1, _⟩ := DataW.trod_string Try.underlying9 g1
    injection e0 with e0
    injection e1 with e1
    exact ⟨(s0, s1), e0, e1, by rw [(Prod.mk.inj d0).1]; exact text_bulk s0⟩
  obtain ⟨q, hq⟩ := Go.Deep.choose_lt each
  refine ⟨some a, cap, (List.range len).map fun i => ⟨(q i).1, (q i).2⟩, by simp, by simpa using hl, ⟨by simp, by simp; omega, fun _ => ⟨a, rfl, fun j p hp => ?_⟩⟩, fun e he => ?_⟩
  · have hj : j < len := by
      have := (List.getElem?_eq_some_iff.1 hp).1
      simpa using this
    obtain ⟨h0, h1, _, _⟩ := hx j (by omega)
    rw [(hq j hj).1] at h0
    rw [(hq j hj).2.1] at h1
    have hp' : p = ⟨(q j).1, (q j).2⟩ := by
      rw [List.getElem?_map, List.getElem?_range hj] at hp
      exact (Option.some.inj hp).symm
    subst hp'
    exact ⟨_, rfl, k34_mk W _, pair_cellB h0 h1⟩
  · obtain ⟨j, hj, rfl⟩ := List.mem_map.1 he
    have hj' := List.mem_range.1 hj
    have h1 : Rows.uptoBulk (D0 j) ≤ Rows.uptoBulk (.agg [D0 j, D1 j]) := agg_part (List.mem_cons_self ..)
    have h2 : Rows.uptoBulk (.agg [D0 j, D1 j]) ≤ Rows.uptoBulk (.slice ((List.range len).map fun i => .agg [D0 i, D1 i]) ((List.range (m - len)).map fun j => .agg [D0 (len + j), D1 (len + j)])) := slice_part (List.mem_map.2 ⟨j, hj, rfl⟩)
    exact Nat.le_trans (hq j hj').2.2 (Nat.le_trans h1 h2)
theorem read101b {fuel : Nat} {cs : List Value} {x : DataW H × List MemPlace} (h : DataW.trod enc Try.prog W 0 spare held fuel 25 cs = some x) :
    ∃ (A : Option Addr) (cap : Nat) (l : List S101), cs = [.slice A l.length cap] ∧ l.length ≤ cap ∧ k101.C W A l.length l ∧ (∀ x ∈ l, x.f1.length ≤ 9223372036854775807) ∧ ∀ y ∈ l, y.f0.size ≤ Rows.uptoBulk x.1 ∧ ∀ e ∈ y.f1, e.f0.size ≤ Rows.uptoBulk x.1 := by
  rcases Go.Deep.open_slice_pairs Try.underlying25 Try.underlying101 (by kernel_rfl) rfl rfl (by kernel_rfl) (by kernel_rfl) h with ⟨rfl, _⟩ | ⟨a, len, cap, m, n, V0, V1, D0, D1, P0, P1, rfl, _, hl, hm, hmm, rfl, hx⟩
  · exact ⟨none, 0, [], rfl, Nat.le_refl _, ⟨rfl, Nat.zero_le _, fun h => absurd h (Nat.lt_irrefl _)⟩, (fun x hx => by cases hx), (fun x hx => by cases hx)⟩
  have hlm : len ≤ m := by rw [hmm]; split <;> omega
  have e_ : maxLen = 9223372036854775807 := rfl
  have each : ∀ i, i < len → ∃ q : ByteArray × Option Addr × Nat × List S34, V0 i = .string q.1 ∧ V1 i = .slice q.2.1 q.2.2.2.length q.2.2.1 ∧ q.2.2.2.length ≤ q.2.2.1 ∧ k34.C W q.2.1 q.2.2.2.length q.2.2.2 ∧ q.1.size ≤ Rows.uptoBulk (D0 i) ∧ ∀ e ∈ q.2.2.2, e.f0.size ≤ Rows.uptoBulk (D1 i) := by
    intro i hi
    obtain ⟨_, _, g0, g1⟩ := hx i (by omega)
    obtain ⟨s0, e0, d0, _⟩ := DataW.trod_string Try.underlying9 g0
    obtain ⟨A, c, l, e1, h1, h2, h3⟩ := read34b g1
    injection e0 with e0
    injection e1 with e1
    exact ⟨(s0, A, c, l), e0, e1, h1, h2, by rw [(Prod.mk.inj d0).1]; exact text_bulk s0, h3⟩
  obtain ⟨q, hq⟩ := Go.Deep.choose_lt each
  have hbk : ∀ j, j ∈ List.range len → ∀ d, d ∈ [D0 j, D1 j] → Rows.uptoBulk d ≤ Rows.uptoBulk (.slice ((List.range len).map fun i => .agg [D0 i, D1 i]) ((List.range (m - len)).map fun j => .agg [D0 (len + j), D1 (len + j)])) := fun j hj d hd =>
    Nat.le_trans (agg_part hd) (slice_part (List.mem_map.2 ⟨j, hj, rfl⟩))
  refine ⟨some a, cap, (List.range len).map fun i => ⟨(q i).1, (q i).2.2.2⟩, by simp, by simpa using hl, ⟨by simp, by simp; omega, fun _ => ⟨a, rfl, fun j p hp => ?_⟩⟩, fun x hx_ => ?_, fun x hx_ => ?_⟩
  · have hj : j < len := by
      have := (List.getElem?_eq_some_iff.1 hp).1
      simpa using this
    obtain ⟨h0, h1, _, _⟩ := hx j (by omega)
    obtain ⟨q1, q2, q3, q4, _⟩ := hq j hj
    rw [q1] at h0
    rw [q2] at h1
    have hp' : p = ⟨(q j).1, (q j).2.2.2⟩ := by
      rw [List.getElem?_map, List.getElem?_range hj] at hp
      exact (Option.some.inj hp).symm
    subst hp'
    exact ⟨_, rfl, k101_mk W (⟨(q j).1, (q j).2.2.2⟩ : S101) q3 q4, pair_cellB h0 h1⟩
  · obtain ⟨j, hj, rfl⟩ := List.mem_map.1 hx_
    exact (hq j (List.mem_range.1 hj)).2.2.2.1.2.1
  · obtain ⟨j, hj, rfl⟩ := List.mem_map.1 hx_
    obtain ⟨_, _, _, _, q5, q6⟩ := hq j (List.mem_range.1 hj)
    exact ⟨Nat.le_trans q5 (hbk j hj _ (List.mem_cons_self ..)), fun e he => Nat.le_trans (q6 e he) (hbk j hj _ (List.mem_cons_of_mem _ (List.mem_cons_self ..)))⟩
end
end Go.Proofs.Ytnmhfcfojbfikaa.QRosterLays
