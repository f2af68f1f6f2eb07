/- A slice of the call's own cut to 'xs[0:n]': it stays where it is. Conditions: as the lemma says. -/
import Derived.Test.YtnmhfcfojbfikaaWWords
namespace Go.Proofs.Ytnmhfcfojbfikaa.Cut
open Go.RowKit Go.Proofs.YtnmhfcfojbfikaaW.PrintWords
section
variable {P : Program}
theorem cut_to0 (t e : TypeId) (kh : IntKind) {i : TypeInfo} (ht : P.underlying t = some (.slice e)) (hi : P.info? e = some i) (A : Option Addr) (n c : Nat) (j : Int) (h0 : 0 ≤ j) (hm : j ≤ n) (hc : n ≤ c) :
    ∀ W : World, (Instr.slice t (.slice A n c) (some (.int .i64 0)) (some (.int kh j)) none).run P W = .ok (.slice A j.toNat c) W := by
  intro W
  rw [cut_mid t e .i64 kh ht hi i.size rfl A n c 0 j (by decide) h0 hm hc W]
  have ha : (A.map fun x => x.add 0) = A := by cases A <;> simp [Addr.add]
  simp [ha]
end
end Go.Proofs.Ytnmhfcfojbfikaa.Cut
