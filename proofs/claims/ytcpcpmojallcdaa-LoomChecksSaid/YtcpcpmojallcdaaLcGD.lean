/- LoomChecks: Table. Conditions: as each theorem says. -/
import Derived.Test.YtcpcpmojallcdaaLcT
namespace Go.Proofs.Ytcpcpmojallcdaa.QLoomChecks
open Go.RowKit Go.Proofs.YtcpcpmojallcdaaW.PrintWords Go.Proofs.YtcpcpmojallcdaaW.PrintLast Go.Proofs.YtcpcpmojallcdaaW.PrintMore
set_option linter.unusedVariables false
set_option linter.unusedSimpArgs false
section Table
/-- Of the instruction of this number: in which handlers, what its Arg is, what it takes and leaves. -/
def tabH (op : Nat) : Int := (sluiceref11_hands.f 20 (op : Int)).getD 0
def tabA (op : Nat) : Int := (sluiceref11_argOf.f 20 (op : Int)).getD 0
def tabP (op : Nat) : ByteArray := (sluiceref11_pops.f 100 (op : Int)).getD ⟨#[]⟩
def tabQ (op : Nat) : ByteArray := (sluiceref11_pushes.f 100 (op : Int)).getD ⟨#[]⟩
def tabN (op : Nat) : ByteArray := ((loom_specs.f (op : Int)).map (·.1)).getD ⟨#[]⟩
def tabS (op : Nat) : Bool := ((loom_specs.f (op : Int)).map (·.2.2.2.2.2)).getD false
def tabC (op : Nat) : Bool := match loom_specs.f (op : Int), sluiceref11_hands.f 20 (op : Int), sluiceref11_argOf.f 20 (op : Int), sluiceref11_pops.f 100 (op : Int), sluiceref11_pushes.f 100 (op : Int) with
 | some (_, h, a, p, q, _), some h', some a', some p', some q' => (h == h' && a == a') && (p.data.toList == p'.data.toList && q.data.toList == q'.data.toList)
 | _, _, _, _, _ => false
theorem tabC_ok : ∀ op : Nat, op < 69 → tabC op = true := by decide +kernel
theorem bytes_ext {a b : ByteArray} (h : (a.data.toList == b.data.toList) = true) : a = b := by
 have h1 : a.data.toList = b.data.toList := by simpa using h
 cases a
 cases b
 simp only [Array.toList_inj] at h1
 rw [h1]
theorem table_ok (op : Nat) (h : op < 69) : loom_specs.f (op : Int) = some (tabN op, tabH op, tabA op, tabP op, tabQ op, tabS op) ∧ sluiceref11_hands.f 20 (op : Int) = some (tabH op) ∧ sluiceref11_argOf.f 20 (op : Int) = some (tabA op) ∧ sluiceref11_pops.f 100 (op : Int) = some (tabP op) ∧ sluiceref11_pushes.f 100 (op : Int) = some (tabQ op) := by
 have hc := tabC_ok op h
 unfold tabC at hc
 unfold tabN tabH tabA tabP tabQ tabS
 generalize loom_specs.f (op : Int) = s at hc ⊢
 generalize sluiceref11_hands.f 20 (op : Int) = hh at hc ⊢
 generalize sluiceref11_argOf.f 20 (op : Int) = aa at hc ⊢
 generalize sluiceref11_pops.f 100 (op : Int) = pp at hc ⊢
 generalize sluiceref11_pushes.f 100 (op : Int) = qq at hc ⊢
 split at hc
 ·simp only [Bool.and_eq_true, beq_iff_eq] at hc
  obtain ⟨⟨rfl, rfl⟩, hp, hq⟩ := hc
  have hp' := bytes_ext (beq_iff_eq.mpr hp)
  have hq' := bytes_ext (beq_iff_eq.mpr hq)
  subst hp' hq'
  exact ⟨rfl, rfl, rfl, rfl, rfl⟩
 cases hc
end Table
end Go.Proofs.Ytcpcpmojallcdaa.QLoomChecks
