/- Lists of sections with marks behind them: kinds of their own. Conditions: as each theorem says. -/
import Derived.Test.YtnmhfcfojbfikaaQRosterLaysx0
namespace Go.Proofs.Ytnmhfcfojbfikaa.QRosterLays
open Go.RowKit Go.Proofs.YtnmhfcfojbfikaaW.PrintWords Go.Proofs.YtnmhfcfojbfikaaW.PrintLast Go.Proofs.YtnmhfcfojbfikaaW.PrintMore
set_option linter.unusedVariables false
def mk34 : S34 := ⟨(⟨#[109, 97, 114, 107]⟩ : ByteArray), (⟨#[98, 101, 104, 105, 110, 100]⟩ : ByteArray)⟩
/-- A section with a mark behind its entries; or the mark behind the sections. -/
def KO (w : World) : Option S101 → List Value → Prop
  | some x, cs => ∃ A c, cs = [.string x.f0, .slice A x.f1.length c] ∧ x.f1.length + 1 ≤ c ∧ k34.C w A (x.f1.length + 1) (x.f1 ++ [mk34])
  | none, cs => cs = [.string (⟨#[109, 97, 114, 107]⟩ : ByteArray), .slice none 0 0]
def kO : Kd (Option S101) where
  sz := 2
  E := [34]
  K := KO
  M := fun _ _ _ _ _ => False
  K_len := by
    rintro w (_ | x) cs h
    · obtain rfl := h
      rfl
    · obtain ⟨A, c, rfl, _⟩ := h
      rfl
  K_one := by
    rintro w (_ | x) cs h u hu
    · obtain rfl := h
      simp only [List.mem_cons, List.not_mem_nil, or_false] at hu
      rcases hu with rfl | rfl <;> rfl
    · obtain ⟨A, c, rfl, _⟩ := h
      simp only [List.mem_cons, List.not_mem_nil, or_false] at hu
      rcases hu with rfl | rfl <;> rfl
  K_below := by
    rintro w w1 (_ | x) cs hb h
    · exact h
    · obtain ⟨A, c, e, hl, hc⟩ := h
      exact ⟨A, c, e, hl, Kd.C_below hc hb⟩
  K_of_M := by
    intro w base ok x cs h
    exact h.elim
  M_mono := by
    intro w base ok ok' x cs hok h
    exact h.elim
  M_bound := by
    intro w base ok x cs h
    exact h.elim
  M_move := by
    intro w w1 base ok x cs hm h
    exact h.elim
  M_lower := by
    intro w base base' ok x cs hb h
    exact h.elim
theorem kO_mkF (W : World) (ok : Nat → Prop) (x : S101) {A : Option Addr} {c : Nat} (l : x.f1.length + 1 ≤ c) (g : Kd.F k34 W ok A (x.f1.length + 1) (x.f1 ++ [mk34])) : Kd.FK kO W ok (some x) [.string x.f0, .slice A x.f1.length c] := fun W2 hW => ⟨A, c, rfl, l, g W2 hW⟩
theorem kO_mkF0 (W : World) (ok : Nat → Prop) : Kd.FK kO W ok none [.string (⟨#[109, 97, 114, 107]⟩ : ByteArray), .slice none 0 0] := fun W2 hW => rfl
theorem last_off {a b c : List S34} {m : S34} {j : Int} (h : b = a ++ [m]) (h1 : c = b.take j.toNat) (h2 : wrap64 ((b.length : Int) - 1) = j) (hL : a.length < 4398046511104) : b = c ++ [m] := by
  have e : b.length = a.length + 1 := by rw [h]; simp
  have hj : j.toNat = a.length := by
    unfold wrap64 at h2
    omega
  rw [hj, h, List.take_left' rfl] at h1
  rw [h, h1]
/-- The sections of a marked list, read as sections. -/
theorem C_marked {w : World} {A : Option Addr} {n : Nat} {r : List (Option S101)} {xs : List S101} (h : kO.C w A (n + 1) r) (hr : r = xs.map some ++ [none]) : k101.C w A n xs := by
  have hl := h.1
  rw [hr, List.length_append, List.length_map, List.length_singleton] at hl
  refine ⟨by omega, by have := h.2.1; omega, fun hn => ?_⟩
  obtain ⟨ad, e, hc⟩ := h.2.2 (by omega)
  refine ⟨ad, e, fun j p hj => ?_⟩
  have hjl := (List.getElem?_eq_some_iff.1 hj).1
  have hj' : r[j]? = some (some p) := by
    rw [hr, List.getElem?_append_left (by rw [List.length_map]; exact hjl), List.getElem?_map, hj]
    rfl
  obtain ⟨c, hs, hk, hcell⟩ := hc j _ hj'
  obtain ⟨A1, c1, rfl, hl1, hc1⟩ := hk
  refine ⟨_, hs, k101_mk w p (by omega) ?_, hcell⟩
  have h2 : p.f1.length + 1 = (p.f1 ++ [mk34]).length := by rw [List.length_append]; rfl
  rw [h2] at hc1
  have := Kd.C_take (m := p.f1.length) hc1 (by rw [← h2]; omega)
  rw [List.take_left' rfl] at this
  exact this
end Go.Proofs.Ytnmhfcfojbfikaa.QRosterLays
