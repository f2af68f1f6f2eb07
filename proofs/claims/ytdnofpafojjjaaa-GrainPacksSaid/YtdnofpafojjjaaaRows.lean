/-
  No cell of these rows narrows 'for every input' (looked for: loops, veiled, ifaces, maps, wideKeys, modest, calm, conditions, laid).
  DERIVED. THE GIVEN ROWS OF THIS SEAT. 7 by the template 'for every input the law returns true; each argument reads behind the call as it read before'; 0 by the template 'total and deterministic' (their statements: YtdnofpafojjjaaaTotals.lean).
  GIVEN WITH THE SEED: the statements are not yours to turn. If you find one false, say at which input.
  Laid BY PROGRAM, IN A SANDBOX (cutbox-rows.mjs): the forced cells as the released guide's own fill.sh prints them over the translation 807a276eba93cd3f… (all of the seat's roots in one cut). By AI agents, Wed Nov 11 2026. No macro, syntax, notation, axiom, sorry.
-/
import Derived.Test.YtdnofpafojjjaaaChecked
import GoSem.Claim
import GoSem.ClaimJoined
import GoSem.ClaimMapViews
import Derived.JoinedTies
import Derived.KernelRfl
namespace Go.Proofs.Ytdnofpafojjjaaa
/- THE CELL 'sum', in the pinned program and in every row, IS THE sha256 OF THE DUMP (.gsa) THAT YtdnofpafojjjaaaProg.lean LOADS. Nothing in Lean hashes anything: it is a label: what it is worth is what the hold of that sum in a sandbox is worth. -/
noncomputable def Try.pinned : Pinned := { name := "ytdnofpafojjjaaa", sum := "807a276eba93cd3f9d99b8aa9325df599d9c12f68a511c84d00f3f8af4f93c4b", checked := Try.checked }
namespace Rows
def none {H : Type} : Left H := { results := [], args := [] }

/-- 'sluicelaw01.GrainNames': WHATEVER THE INPUT: true; the input reads as it did. -/
def grainNamesSpec : ChangeSpec := { name := "grainNames", fn := fun _ => fun
  | [] => { results := [.lit (.bool true)], args := [] }
  | _ => none }
def grainNamesRow : OpenClaim := { program := "ytdnofpafojjjaaa", sum := "807a276eba93cd3f9d99b8aa9325df599d9c12f68a511c84d00f3f8af4f93c4b", func := "sluice/sluicelaw01.GrainNames", spec := "grainNames", apart := false }
def GrainNamesSaid : Prop := grainNamesRow.holds Try.pinned (OpenSpec.ofChange grainNamesSpec)

/-- ITS FALSE NEIGHBOUR: 'it returns false'. Refute it at one input. -/
def grainNamesWrong : ChangeSpec := { name := "grainNames", fn := fun _ => fun
  | [] => { results := [.lit (.bool false)], args := [] }
  | _ => none }
def GrainNamesWrongFalsely : Prop := grainNamesRow.holds Try.pinned (OpenSpec.ofChange grainNamesWrong)

/-- 'sluicelaw01.GrainOrder': WHATEVER THE INPUT: true; the input reads as it did. -/
def grainOrderSpec : ChangeSpec := { name := "grainOrder", fn := fun _ => fun
  | [d1, d2] => { results := [.lit (.bool true)], args := [d1, d2] }
  | _ => none }
def grainOrderRow : OpenClaim := { program := "ytdnofpafojjjaaa", sum := "807a276eba93cd3f9d99b8aa9325df599d9c12f68a511c84d00f3f8af4f93c4b", func := "sluice/sluicelaw01.GrainOrder", spec := "grainOrder", recurses := true, apart := false }
def GrainOrderSaid : Prop := grainOrderRow.holds Try.pinned (OpenSpec.ofChange grainOrderSpec)

/-- ITS FALSE NEIGHBOUR: 'it returns false'. Refute it at one input. -/
def grainOrderWrong : ChangeSpec := { name := "grainOrder", fn := fun _ => fun
  | [d1, d2] => { results := [.lit (.bool false)], args := [d1, d2] }
  | _ => none }
def GrainOrderWrongFalsely : Prop := grainOrderRow.holds Try.pinned (OpenSpec.ofChange grainOrderWrong)

/-- 'sluicelaw01.GrainTotals': WHATEVER THE INPUT: true; the input reads as it did. -/
def grainTotalsSpec : ChangeSpec := { name := "grainTotals", fn := fun _ => fun
  | [d] => { results := [.lit (.bool true)], args := [d] }
  | _ => none }
def grainTotalsRow : OpenClaim := { program := "ytdnofpafojjjaaa", sum := "807a276eba93cd3f9d99b8aa9325df599d9c12f68a511c84d00f3f8af4f93c4b", func := "sluice/sluicelaw01.GrainTotals", spec := "grainTotals", inPlace := ["math/bits.Add64"], apart := false }
def GrainTotalsSaid : Prop := grainTotalsRow.holds Try.pinned (OpenSpec.ofChange grainTotalsSpec)

/-- ITS FALSE NEIGHBOUR: 'it returns false'. Refute it at one input. -/
def grainTotalsWrong : ChangeSpec := { name := "grainTotals", fn := fun _ => fun
  | [d] => { results := [.lit (.bool false)], args := [d] }
  | _ => none }
def GrainTotalsWrongFalsely : Prop := grainTotalsRow.holds Try.pinned (OpenSpec.ofChange grainTotalsWrong)

/-- 'sluicelaw01.GrainRounds': WHATEVER THE INPUT: true; the input reads as it did. -/
def grainRoundsSpec : ChangeSpec := { name := "grainRounds", fn := fun _ => fun
  | [d1, d2, d3] => { results := [.lit (.bool true)], args := [d1, d2, d3] }
  | _ => none }
def grainRoundsRow : OpenClaim := { program := "ytdnofpafojjjaaa", sum := "807a276eba93cd3f9d99b8aa9325df599d9c12f68a511c84d00f3f8af4f93c4b", func := "sluice/sluicelaw01.GrainRounds", spec := "grainRounds", apart := false }
def GrainRoundsSaid : Prop := grainRoundsRow.holds Try.pinned (OpenSpec.ofChange grainRoundsSpec)

/-- ITS FALSE NEIGHBOUR: 'it returns false'. Refute it at one input. -/
def grainRoundsWrong : ChangeSpec := { name := "grainRounds", fn := fun _ => fun
  | [d1, d2, d3] => { results := [.lit (.bool false)], args := [d1, d2, d3] }
  | _ => none }
def GrainRoundsWrongFalsely : Prop := grainRoundsRow.holds Try.pinned (OpenSpec.ofChange grainRoundsWrong)

/-- 'sluicelaw01.GrainWholes': WHATEVER THE INPUT: true; the input reads as it did. -/
def grainWholesSpec : ChangeSpec := { name := "grainWholes", fn := fun _ => fun
  | [d1, d2] => { results := [.lit (.bool true)], args := [d1, d2] }
  | _ => none }
def grainWholesRow : OpenClaim := { program := "ytdnofpafojjjaaa", sum := "807a276eba93cd3f9d99b8aa9325df599d9c12f68a511c84d00f3f8af4f93c4b", func := "sluice/sluicelaw01.GrainWholes", spec := "grainWholes", apart := false }
def GrainWholesSaid : Prop := grainWholesRow.holds Try.pinned (OpenSpec.ofChange grainWholesSpec)

/-- ITS FALSE NEIGHBOUR: 'it returns false'. Refute it at one input. -/
def grainWholesWrong : ChangeSpec := { name := "grainWholes", fn := fun _ => fun
  | [d1, d2] => { results := [.lit (.bool false)], args := [d1, d2] }
  | _ => none }
def GrainWholesWrongFalsely : Prop := grainWholesRow.holds Try.pinned (OpenSpec.ofChange grainWholesWrong)

/-- 'sluicelaw01.GrainPacks': WHATEVER THE INPUT: true; the input reads as it did. -/
def grainPacksSpec : ChangeSpec := { name := "grainPacks", fn := fun _ => fun
  | [d] => { results := [.lit (.bool true)], args := [d] }
  | _ => none }
def grainPacksRow : OpenClaim := { program := "ytdnofpafojjjaaa", sum := "807a276eba93cd3f9d99b8aa9325df599d9c12f68a511c84d00f3f8af4f93c4b", func := "sluice/sluicelaw01.GrainPacks", spec := "grainPacks", apart := false }
def GrainPacksSaid : Prop := grainPacksRow.holds Try.pinned (OpenSpec.ofChange grainPacksSpec)

/-- ITS FALSE NEIGHBOUR: 'it returns false'. Refute it at one input. -/
def grainPacksWrong : ChangeSpec := { name := "grainPacks", fn := fun _ => fun
  | [d] => { results := [.lit (.bool false)], args := [d] }
  | _ => none }
def GrainPacksWrongFalsely : Prop := grainPacksRow.holds Try.pinned (OpenSpec.ofChange grainPacksWrong)

/-- 'sluicelaw01.GrainUndone': WHATEVER THE INPUT: true; the input reads as it did. -/
def grainUndoneSpec : ChangeSpec := { name := "grainUndone", fn := fun _ => fun
  | [d1, d2, d3] => { results := [.lit (.bool true)], args := [d1, d2, d3] }
  | _ => none }
def grainUndoneRow : OpenClaim := { program := "ytdnofpafojjjaaa", sum := "807a276eba93cd3f9d99b8aa9325df599d9c12f68a511c84d00f3f8af4f93c4b", func := "sluice/sluicelaw01.GrainUndone", spec := "grainUndone", inPlace := ["math/bits.Add64"], apart := false }
def GrainUndoneSaid : Prop := grainUndoneRow.holds Try.pinned (OpenSpec.ofChange grainUndoneSpec)

/-- ITS FALSE NEIGHBOUR: 'it returns false'. Refute it at one input. -/
def grainUndoneWrong : ChangeSpec := { name := "grainUndone", fn := fun _ => fun
  | [d1, d2, d3] => { results := [.lit (.bool false)], args := [d1, d2, d3] }
  | _ => none }
def GrainUndoneWrongFalsely : Prop := grainUndoneRow.holds Try.pinned (OpenSpec.ofChange grainUndoneWrong)

/- THE SECOND FORM. 'bulk': how many values and letters a reading holds, each counted each time it is reached (what is shared counts as often as it is met; a slice's spare places count too). A statement '..UptoSaid' is the law's where the arguments, and the package variables that the reading takes, are together of bulk at most 1048576: NARROWER than '..Said'. Prove '..Said' where nothing that the law and all that it calls make is longer than what came in: it says more and counts as full. Else prove '..UptoSaid'. A law counts once. -/
mutual
def uptoBulk {H : Type} : DataW H → Nat
  | .lit (.string bytes) => bytes.length + 1
  | .lit _ => 1
  | .nil => 1
  | .ptr d => uptoBulk d + 1
  | .slice elems spare => uptoBulkAll elems + uptoBulkAll spare + 1
  | .agg parts => uptoBulkAll parts + 1
  | .iface _ d => uptoBulk d + 1
  | .map entries => uptoBulkEntries entries + 1
  | .held _ => 1
def uptoBulkAll {H : Type} : List (DataW H) → Nat
  | [] => 0
  | d :: r => uptoBulk d + uptoBulkAll r
def uptoBulkEntries {H : Type} : List (Lit × DataW H) → Nat
  | [] => 0
  | x :: r => uptoBulkEntry x + uptoBulkEntries r
def uptoBulkEntry {H : Type} : Lit × DataW H → Nat
  | (.string bytes, d) => bytes.length + uptoBulk d + 1
  | (_, d) => uptoBulk d + 1
 end
def uptoSmall : (H : Type) → List (DataW H) → Bool := fun _ ds => decide (uptoBulkAll ds ≤ 1048576)
def OpenSpec.upto (s : _root_.Go.ChangeSpec) : _root_.Go.OpenSpec := { _root_.Go.OpenSpec.ofChange s with cond := some uptoSmall }

/-- 'sluicelaw01.GrainNames', WHERE WHAT IT READS IS OF BULK AT MOST 1048576: true; the input reads as it did. -/
def grainNamesUptoRow : OpenClaim := { program := "ytdnofpafojjjaaa", sum := "807a276eba93cd3f9d99b8aa9325df599d9c12f68a511c84d00f3f8af4f93c4b", func := "sluice/sluicelaw01.GrainNames", spec := "grainNames", apart := false, narrowed := true }
def GrainNamesUptoSaid : Prop := grainNamesUptoRow.holds Try.pinned (OpenSpec.upto grainNamesSpec)

/-- 'sluicelaw01.GrainOrder', WHERE WHAT IT READS IS OF BULK AT MOST 1048576: true; the input reads as it did. -/
def grainOrderUptoRow : OpenClaim := { program := "ytdnofpafojjjaaa", sum := "807a276eba93cd3f9d99b8aa9325df599d9c12f68a511c84d00f3f8af4f93c4b", func := "sluice/sluicelaw01.GrainOrder", spec := "grainOrder", recurses := true, apart := false, narrowed := true }
def GrainOrderUptoSaid : Prop := grainOrderUptoRow.holds Try.pinned (OpenSpec.upto grainOrderSpec)

/-- 'sluicelaw01.GrainTotals', WHERE WHAT IT READS IS OF BULK AT MOST 1048576: true; the input reads as it did. -/
def grainTotalsUptoRow : OpenClaim := { program := "ytdnofpafojjjaaa", sum := "807a276eba93cd3f9d99b8aa9325df599d9c12f68a511c84d00f3f8af4f93c4b", func := "sluice/sluicelaw01.GrainTotals", spec := "grainTotals", inPlace := ["math/bits.Add64"], apart := false, narrowed := true }
def GrainTotalsUptoSaid : Prop := grainTotalsUptoRow.holds Try.pinned (OpenSpec.upto grainTotalsSpec)

/-- 'sluicelaw01.GrainRounds', WHERE WHAT IT READS IS OF BULK AT MOST 1048576: true; the input reads as it did. -/
def grainRoundsUptoRow : OpenClaim := { program := "ytdnofpafojjjaaa", sum := "807a276eba93cd3f9d99b8aa9325df599d9c12f68a511c84d00f3f8af4f93c4b", func := "sluice/sluicelaw01.GrainRounds", spec := "grainRounds", apart := false, narrowed := true }
def GrainRoundsUptoSaid : Prop := grainRoundsUptoRow.holds Try.pinned (OpenSpec.upto grainRoundsSpec)

/-- 'sluicelaw01.GrainWholes', WHERE WHAT IT READS IS OF BULK AT MOST 1048576: true; the input reads as it did. -/
def grainWholesUptoRow : OpenClaim := { program := "ytdnofpafojjjaaa", sum := "807a276eba93cd3f9d99b8aa9325df599d9c12f68a511c84d00f3f8af4f93c4b", func := "sluice/sluicelaw01.GrainWholes", spec := "grainWholes", apart := false, narrowed := true }
def GrainWholesUptoSaid : Prop := grainWholesUptoRow.holds Try.pinned (OpenSpec.upto grainWholesSpec)

/-- 'sluicelaw01.GrainPacks', WHERE WHAT IT READS IS OF BULK AT MOST 1048576: true; the input reads as it did. -/
def grainPacksUptoRow : OpenClaim := { program := "ytdnofpafojjjaaa", sum := "807a276eba93cd3f9d99b8aa9325df599d9c12f68a511c84d00f3f8af4f93c4b", func := "sluice/sluicelaw01.GrainPacks", spec := "grainPacks", apart := false, narrowed := true }
def GrainPacksUptoSaid : Prop := grainPacksUptoRow.holds Try.pinned (OpenSpec.upto grainPacksSpec)

/-- 'sluicelaw01.GrainUndone', WHERE WHAT IT READS IS OF BULK AT MOST 1048576: true; the input reads as it did. -/
def grainUndoneUptoRow : OpenClaim := { program := "ytdnofpafojjjaaa", sum := "807a276eba93cd3f9d99b8aa9325df599d9c12f68a511c84d00f3f8af4f93c4b", func := "sluice/sluicelaw01.GrainUndone", spec := "grainUndone", inPlace := ["math/bits.Add64"], apart := false, narrowed := true }
def GrainUndoneUptoSaid : Prop := grainUndoneUptoRow.holds Try.pinned (OpenSpec.upto grainUndoneSpec)

end Rows
end Go.Proofs.Ytdnofpafojjjaaa
