/- All entries of a list of sections, as plain lists. Conditions: as each theorem says. -/
import Derived.Test.YtnmhfcfojbfikaaRostAll
import Derived.Test.YtnmhfcfojbfikaaRostPure
namespace Go.Proofs.Ytnmhfcfojbfikaa.QRosterLays
open Go.RowKit Go.Proofs.YtnmhfcfojbfikaaW.PrintWords Go.Proofs.YtnmhfcfojbfikaaW.PrintLast Go.Proofs.YtnmhfcfojbfikaaW.PrintMore
set_option linter.unusedVariables false
set_option linter.unusedSectionVars false
set_option linter.unusedSimpArgs false
def prE (nm : ByteArray) (es : List S34) : List S34 := es.map fun e => ⟨nm ++ (⟨#[46]⟩ : ByteArray) ++ e.f0, e.f1⟩
def allE (l : List S101) : List S34 := l.flatMap fun s => prE s.f0 s.f1
theorem allE_allP (l : List S101) : (allE l).map (fun e => (e.f0, e.f1)) = allP l := by
  unfold allE allP prE prs
  rw [List.map_flatMap]
  congr 1
  funext s
  rw [List.map_map]
  rfl
theorem allE_len (l : List S101) : (allE l).length ≤ tot l := by
  induction l with
  | nil => exact Nat.le_refl _
  | cons x t ih =>
    unfold allE at ih ⊢
    rw [List.flatMap_cons, List.length_append]
    unfold tot
    have : (prE x.f0 x.f1).length = x.f1.length := by unfold prE; rw [List.length_map]
    omega
section
variable {l : List S101} (ht : tot l ≤ 100000) (hz : Sized l)
include ht hz
theorem all_l1 (r : List S34) (i : Nat) (hi : i < l.length) : ∀ (n j : Nat) (acc : List S34), (l[i]).f1.length - j = n → acc.length + n ≤ 1000000 → Ev (fun k => sluiceref07_All.l0 k l (acc ++ prE (l[i]).f0 ((l[i]).f1.drop j)) ((i + 1 : Nat) : Int)) r → Ev (fun k => sluiceref07_All.l1 k l acc (i : Int) (j : Int)) r := by
  have hl := (tot_le l).1
  have hx := (tot_le l).2 _ (List.getElem_mem hi)
  have hs := hz _ (List.getElem_mem hi)
  intro n
  induction n with
  | zero =>
    intro j acc hj ha hn
    rw [drop_nil (by omega)] at hn
    have e : acc ++ prE (l[i]).f0 [] = acc := List.append_nil _
    rw [e] at hn
    exact Ev.step hn (fun k => by rw [sluiceref07_All.l1, if_pos (by omega), if_pos (by omega), rd101 l i hi, if_neg (by omega), wj i (by omega)])
  | succ n ih =>
    intro j acc hj ha hn
    have hjl : j < (l[i]).f1.length := by omega
    have he := hs.2 _ (List.getElem_mem hjl)
    have e : acc ++ prE (l[i]).f0 ((l[i]).f1.drop j) = (acc ++ [(⟨(l[i]).f0 ++ (⟨#[46]⟩ : ByteArray) ++ ((l[i]).f1[j]).f0, ((l[i]).f1[j]).f1⟩ : S34)]) ++ prE (l[i]).f0 ((l[i]).f1.drop (j + 1)) := by
      rw [List.drop_eq_getElem_cons hjl, List.append_assoc]
      rfl
    rw [e] at hn
    refine Ev.step (ih (j + 1) _ (by omega) (by rw [List.length_append, List.length_singleton]; omega) hn) (fun k => ?_)
    have h2 : ((l[i]).f0 ++ (⟨#[46]⟩ : ByteArray)).size + ((l[i]).f1[j]).f0.size ≤ 9223372036854775807 := by
      rw [ByteArray.size_append]
      have : (⟨#[46]⟩ : ByteArray).size = 1 := rfl
      omega
    rw [sluiceref07_All.l1, if_pos (by omega), if_pos (by omega), rd101 l i hi, if_pos (by omega), if_pos (by omega), if_pos (by omega), rd34 _ j hjl, if_pos h2, if_pos (by omega), wj j (by omega)]
theorem all_l0 : ∀ (n i : Nat) (acc : List S34), l.length - i = n → acc.length + (allE (l.drop i)).length ≤ 100000 → Ev (fun k => sluiceref07_All.l0 k l acc (i : Int)) (acc ++ allE (l.drop i)) := by
  have hl := (tot_le l).1
  intro n
  induction n with
  | zero =>
    intro i acc hi ha
    rw [drop_nil (by omega)]
    have e : acc ++ allE [] = acc := List.append_nil _
    rw [e]
    exact Ev.base (fun k => by rw [sluiceref07_All.l0, if_neg (by omega)])
  | succ n ih =>
    intro i acc hi ha
    have hil : i < l.length := by omega
    have e : allE (l.drop i) = prE (l[i]).f0 (l[i]).f1 ++ allE (l.drop (i + 1)) := by
      rw [List.drop_eq_getElem_cons hil]
      unfold allE
      rw [List.flatMap_cons]
    rw [e] at ha ⊢
    rw [List.length_append] at ha
    have hp : (prE (l[i]).f0 (l[i]).f1).length = (l[i]).f1.length := by unfold prE; rw [List.length_map]
    have ih' := ih (i + 1) (acc ++ prE (l[i]).f0 (l[i]).f1) (by omega) (by rw [List.length_append]; omega)
    rw [List.append_assoc] at ih'
    refine Ev.step (all_l1 ht hz _ i hil _ 0 acc rfl (by omega) ih') (fun k => ?_)
    rw [sluiceref07_All.l0, if_pos (by omega)]
    rfl
theorem all_f : Ev (fun k => sluiceref07_All.f k l) (allE l) := all_l0 ht hz l.length 0 [] (by omega) (by
  have := allE_len l
  rw [List.drop_zero, List.length_nil]
  omega)
end
theorem pure_allA (l0 : List S101) (hl0 : l0.length ≤ 9223372036854775807) (hx0 : ∀ x ∈ l0, x.f1.length ≤ 9223372036854775807) (hz : Sized l0) :
    ∃ (k : Nat) (b0 : Bool), sluicelaw07_vast.f k l0 = some b0 ∧ (b0 = false → FactsA k l0 (allE l0)) := by
  obtain ⟨b0, ⟨K0, e0⟩, s0⟩ := vast_l0 l0 hl0 hx0 l0.length 0 100000 (by omega) (by omega) (by omega)
  by_cases hb : b0 = false
  · have ht := s0 hb
    rw [List.drop_zero] at ht
    have ht' : tot l0 ≤ 100000 := by omega
    obtain ⟨h1, h2⟩ := tot_le l0
    obtain ⟨K1, e1⟩ := twin_f l0 (by omega) (fun x hx => by have := h2 x hx; omega)
    obtain ⟨K2, e2⟩ := all_f ht' hz
    obtain ⟨K3, e3⟩ := same_f l0 (by omega) (fun x hx => by have := h2 x hx; omega)
    exact ⟨K0 + K1 + K2 + K3, b0, e0 _ (by omega), fun _ => ⟨e1 _ (by omega), e2 _ (by omega), allE_allP l0, e3 _ (by omega), by omega, fun x hx => by have := h2 x hx; omega, hz⟩⟩
  · exact ⟨K0, b0, e0 _ (by omega), fun h => absurd h hb⟩
end Go.Proofs.Ytnmhfcfojbfikaa.QRosterLays
