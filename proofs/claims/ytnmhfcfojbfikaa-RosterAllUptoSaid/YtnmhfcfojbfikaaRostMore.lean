/- The section that is laid over another, if there is one. Conditions: as each theorem says. -/
import Derived.Test.YtnmhfcfojbfikaaQRosterLaysx0
namespace Go.Proofs.Ytnmhfcfojbfikaa.QRosterLays
open Go.RowKit Go.Proofs.YtnmhfcfojbfikaaW.PrintWords Go.Proofs.YtnmhfcfojbfikaaW.PrintLast Go.Proofs.YtnmhfcfojbfikaaW.PrintMore
set_option linter.unusedVariables false
/-- The section at a place; none, if there is no such place. -/
def moreOf (l : List S101) (t : Int) : S101 := if t < 0 then z101 else rd_T101 l t
theorem more_reads {w : World} {A : Option Addr} {l : List S101} {t : Int} {mo : S101} (h : Kd.C k101 w A l.length l) (hm : mo = moreOf l t) (ht : t < (l.length : Int)) :
    ∃ A2 c2, k34.C w A2 mo.f1.length mo.f1 ∧ mo.f1.length ≤ c2 ∧ (0 ≤ t → ∃ ad, A = some ad ∧ w.cell? (ad.add (t.toNat * 2)) = some (.string mo.f0) ∧ w.cell? ⟨(ad.add (t.toNat * 2)).block, (ad.add (t.toNat * 2)).off + 1, none⟩ = some (.slice A2 mo.f1.length c2)) ∧ (t < 0 → mo.f0 = (⟨#[]⟩ : ByteArray) ∧ A2 = none ∧ c2 = 0 ∧ mo.f1.length = 0) := by
  by_cases h0 : 0 ≤ t
  · obtain ⟨ad, A2, c2, e, h1, h2, h3, h4⟩ := at_T101 h t h0 ht
    have e2 : mo = rd_T101 l t := by rw [hm]; unfold moreOf; rw [if_neg (by omega)]
    rw [← e2] at h1 h2 h3 h4
    exact ⟨A2, c2, h4, h3, fun _ => ⟨ad, e, h1, h2⟩, fun hn => absurd h0 (by omega)⟩
  · have e2 : mo = z101 := by rw [hm]; unfold moreOf; rw [if_pos (by omega)]
    subst e2
    exact ⟨none, 0, Kd.C_nil k34 w, Nat.le_refl _, fun hp => absurd hp h0, fun _ => ⟨rfl, rfl, rfl, rfl⟩⟩
end Go.Proofs.Ytnmhfcfojbfikaa.QRosterLays
