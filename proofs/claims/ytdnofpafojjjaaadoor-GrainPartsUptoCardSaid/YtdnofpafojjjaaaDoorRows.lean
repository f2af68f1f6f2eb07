/-
  NARROWER THAN 'FOR EVERY INPUT', by the rows' own cells (each row's printed sentence says how): GrainSums: laid · GrainBursts: laid · GrainJoins: laid · GrainClasses: laid · GrainParts: laid · GrainPlaced: laid.
  DERIVED. THE GIVEN ROWS OF THIS SEAT. 6 by the template 'for every input the law returns true; each argument reads behind the call as it read before'; 0 by the template 'total and deterministic' (their statements: YtdnofpafojjjaaaDoorTotals.lean).
  GIVEN WITH THE SEED: the statements are not yours to turn. If you find one false, say at which input.
  Laid BY PROGRAM, IN A SANDBOX (cutbox-rows.mjs): the forced cells as the released guide's own fill.sh prints them over the translation 4abfb83f1e1adcf9… (all of the seat's roots in one cut). By AI agents, Wed Nov 11 2026. No macro, syntax, notation, axiom, sorry.
-/
import Derived.Test.YtdnofpafojjjaaaDoorChecked
import GoSem.Claim
import GoSem.ClaimJoined
import GoSem.ClaimMapViews
import Derived.JoinedTies
import Derived.KernelRfl
namespace Go.Proofs.YtdnofpafojjjaaaDoor
/- THE CELL 'sum', in the pinned program and in every row, IS THE sha256 OF THE DUMP (.gsa) THAT YtdnofpafojjjaaaDoorProg.lean LOADS. Nothing in Lean hashes anything: it is a label: what it is worth is what the hold of that sum in a sandbox is worth. -/
noncomputable def Tryd.pinned : Pinned := { name := "ytdnofpafojjjaaadoor", sum := "4abfb83f1e1adcf9bf7b6e922aca8b399fc22b7dd13d5e612dfd2154126232d5", checked := Tryd.checked }
namespace Rows
def none {H : Type} : Left H := { results := [], args := [] }

/- WHAT THE LISTED PACKAGE-LEVEL VARIABLES READ AS WHEN THE CALL BEGINS. Each datum BY PROGRAM (the guide's laid-datum.mjs) off the statement by which the dump's own 'gosem.cut.vars' lays the variable. In a bare row this is a premise. The card (YtdnofpafojjjaaaDoorCards.lean) ties it to the program's text. -/
def laid_sluice_grain_steps {H : Type} : DataW H := .agg [.lit (.int .u32 0), .lit (.int .u32 498536548), .lit (.int .u32 997073096), .lit (.int .u32 651767980), .lit (.int .u32 1994146192), .lit (.int .u32 1802195444), .lit (.int .u32 1303535960), .lit (.int .u32 1342533948), .lit (.int .u32 3988292384), .lit (.int .u32 4027552580), .lit (.int .u32 3604390888), .lit (.int .u32 3412177804), .lit (.int .u32 2607071920), .lit (.int .u32 2262029012), .lit (.int .u32 2685067896), .lit (.int .u32 3183342108)]
def laid_math_bits_deBruijn32tab {H : Type} : DataW H := .agg [.lit (.int .u8 0), .lit (.int .u8 1), .lit (.int .u8 28), .lit (.int .u8 2), .lit (.int .u8 29), .lit (.int .u8 14), .lit (.int .u8 24), .lit (.int .u8 3), .lit (.int .u8 30), .lit (.int .u8 22), .lit (.int .u8 20), .lit (.int .u8 15), .lit (.int .u8 25), .lit (.int .u8 17), .lit (.int .u8 4), .lit (.int .u8 8), .lit (.int .u8 31), .lit (.int .u8 27), .lit (.int .u8 13), .lit (.int .u8 23), .lit (.int .u8 21), .lit (.int .u8 19), .lit (.int .u8 16), .lit (.int .u8 7), .lit (.int .u8 26), .lit (.int .u8 12), .lit (.int .u8 18), .lit (.int .u8 6), .lit (.int .u8 11), .lit (.int .u8 5), .lit (.int .u8 10), .lit (.int .u8 9)]

/-- 'sluicelaw01.GrainSums': WHATEVER THE INPUT: true; the input reads as it did. -/
def grainSumsSpec : ChangeSpec := { name := "grainSums", fn := fun _ => fun
  | [d1, d2] => { results := [.lit (.bool true)], args := [d1, d2] }
  | _ => none }
def grainSumsRow : OpenClaim := { program := "ytdnofpafojjjaaadoor", sum := "4abfb83f1e1adcf9bf7b6e922aca8b399fc22b7dd13d5e612dfd2154126232d5", func := "sluice/sluicelaw01.GrainSums", spec := "grainSums", named := ["sluice/grain.steps"], apart := false, laid := [("sluice/grain.steps", laid_sluice_grain_steps)] }
def GrainSumsSaid : Prop := grainSumsRow.holds Tryd.pinned (OpenSpec.ofChange grainSumsSpec)

/-- ITS FALSE NEIGHBOUR: 'it returns false'. Refute it at one input. -/
def grainSumsWrong : ChangeSpec := { name := "grainSums", fn := fun _ => fun
  | [d1, d2] => { results := [.lit (.bool false)], args := [d1, d2] }
  | _ => none }
def GrainSumsWrongFalsely : Prop := grainSumsRow.holds Tryd.pinned (OpenSpec.ofChange grainSumsWrong)

/-- 'sluicelaw01.GrainBursts': WHATEVER THE INPUT: true; the input reads as it did. -/
def grainBurstsSpec : ChangeSpec := { name := "grainBursts", fn := fun _ => fun
  | [d1, d2, d3] => { results := [.lit (.bool true)], args := [d1, d2, d3] }
  | _ => none }
def grainBurstsRow : OpenClaim := { program := "ytdnofpafojjjaaadoor", sum := "4abfb83f1e1adcf9bf7b6e922aca8b399fc22b7dd13d5e612dfd2154126232d5", func := "sluice/sluicelaw01.GrainBursts", spec := "grainBursts", named := ["sluice/grain.steps"], apart := false, laid := [("sluice/grain.steps", laid_sluice_grain_steps)] }
def GrainBurstsSaid : Prop := grainBurstsRow.holds Tryd.pinned (OpenSpec.ofChange grainBurstsSpec)

/-- ITS FALSE NEIGHBOUR: 'it returns false'. Refute it at one input. -/
def grainBurstsWrong : ChangeSpec := { name := "grainBursts", fn := fun _ => fun
  | [d1, d2, d3] => { results := [.lit (.bool false)], args := [d1, d2, d3] }
  | _ => none }
def GrainBurstsWrongFalsely : Prop := grainBurstsRow.holds Tryd.pinned (OpenSpec.ofChange grainBurstsWrong)

/-- 'sluicelaw01.GrainJoins': WHATEVER THE INPUT: true; the input reads as it did. -/
def grainJoinsSpec : ChangeSpec := { name := "grainJoins", fn := fun _ => fun
  | [d1, d2, d3] => { results := [.lit (.bool true)], args := [d1, d2, d3] }
  | _ => none }
def grainJoinsRow : OpenClaim := { program := "ytdnofpafojjjaaadoor", sum := "4abfb83f1e1adcf9bf7b6e922aca8b399fc22b7dd13d5e612dfd2154126232d5", func := "sluice/sluicelaw01.GrainJoins", spec := "grainJoins", named := ["sluice/grain.steps", "math/bits.deBruijn32tab"], apart := false, laid := [("math/bits.deBruijn32tab", laid_math_bits_deBruijn32tab), ("sluice/grain.steps", laid_sluice_grain_steps)] }
def GrainJoinsSaid : Prop := grainJoinsRow.holds Tryd.pinned (OpenSpec.ofChange grainJoinsSpec)

/-- ITS FALSE NEIGHBOUR: 'it returns false'. Refute it at one input. -/
def grainJoinsWrong : ChangeSpec := { name := "grainJoins", fn := fun _ => fun
  | [d1, d2, d3] => { results := [.lit (.bool false)], args := [d1, d2, d3] }
  | _ => none }
def GrainJoinsWrongFalsely : Prop := grainJoinsRow.holds Tryd.pinned (OpenSpec.ofChange grainJoinsWrong)

/-- 'sluicelaw01.GrainClasses': WHATEVER THE INPUT: true; the input reads as it did. -/
def grainClassesSpec : ChangeSpec := { name := "grainClasses", fn := fun _ => fun
  | [d1, d2] => { results := [.lit (.bool true)], args := [d1, d2] }
  | _ => none }
def grainClassesRow : OpenClaim := { program := "ytdnofpafojjjaaadoor", sum := "4abfb83f1e1adcf9bf7b6e922aca8b399fc22b7dd13d5e612dfd2154126232d5", func := "sluice/sluicelaw01.GrainClasses", spec := "grainClasses", inPlace := ["math.Float32frombits", "math.Float32bits"], named := ["math/bits.deBruijn32tab"], apart := false, laid := [("math/bits.deBruijn32tab", laid_math_bits_deBruijn32tab)] }
def GrainClassesSaid : Prop := grainClassesRow.holds Tryd.pinned (OpenSpec.ofChange grainClassesSpec)

/-- ITS FALSE NEIGHBOUR: 'it returns false'. Refute it at one input. -/
def grainClassesWrong : ChangeSpec := { name := "grainClasses", fn := fun _ => fun
  | [d1, d2] => { results := [.lit (.bool false)], args := [d1, d2] }
  | _ => none }
def GrainClassesWrongFalsely : Prop := grainClassesRow.holds Tryd.pinned (OpenSpec.ofChange grainClassesWrong)

/-- 'sluicelaw01.GrainParts': WHATEVER THE INPUT: true; the input reads as it did. -/
def grainPartsSpec : ChangeSpec := { name := "grainParts", fn := fun _ => fun
  | [d1, d2] => { results := [.lit (.bool true)], args := [d1, d2] }
  | _ => none }
def grainPartsRow : OpenClaim := { program := "ytdnofpafojjjaaadoor", sum := "4abfb83f1e1adcf9bf7b6e922aca8b399fc22b7dd13d5e612dfd2154126232d5", func := "sluice/sluicelaw01.GrainParts", spec := "grainParts", named := ["sluice/grain.steps", "math/bits.deBruijn32tab"], apart := false, laid := [("math/bits.deBruijn32tab", laid_math_bits_deBruijn32tab), ("sluice/grain.steps", laid_sluice_grain_steps)] }
def GrainPartsSaid : Prop := grainPartsRow.holds Tryd.pinned (OpenSpec.ofChange grainPartsSpec)

/-- ITS FALSE NEIGHBOUR: 'it returns false'. Refute it at one input. -/
def grainPartsWrong : ChangeSpec := { name := "grainParts", fn := fun _ => fun
  | [d1, d2] => { results := [.lit (.bool false)], args := [d1, d2] }
  | _ => none }
def GrainPartsWrongFalsely : Prop := grainPartsRow.holds Tryd.pinned (OpenSpec.ofChange grainPartsWrong)

/-- 'sluicelaw01.GrainPlaced': WHATEVER THE INPUT: true; the input reads as it did. -/
def grainPlacedSpec : ChangeSpec := { name := "grainPlaced", fn := fun _ => fun
  | [d1, d2, d3, d4, d5] => { results := [.lit (.bool true)], args := [d1, d2, d3, d4, d5] }
  | _ => none }
def grainPlacedRow : OpenClaim := { program := "ytdnofpafojjjaaadoor", sum := "4abfb83f1e1adcf9bf7b6e922aca8b399fc22b7dd13d5e612dfd2154126232d5", func := "sluice/sluicelaw01.GrainPlaced", spec := "grainPlaced", inPlace := ["math/bits.Add64"], named := ["sluice/grain.steps"], apart := false, laid := [("sluice/grain.steps", laid_sluice_grain_steps)] }
def GrainPlacedSaid : Prop := grainPlacedRow.holds Tryd.pinned (OpenSpec.ofChange grainPlacedSpec)

/-- ITS FALSE NEIGHBOUR: 'it returns false'. Refute it at one input. -/
def grainPlacedWrong : ChangeSpec := { name := "grainPlaced", fn := fun _ => fun
  | [d1, d2, d3, d4, d5] => { results := [.lit (.bool false)], args := [d1, d2, d3, d4, d5] }
  | _ => none }
def GrainPlacedWrongFalsely : Prop := grainPlacedRow.holds Tryd.pinned (OpenSpec.ofChange grainPlacedWrong)

/- THE SECOND FORM. 'bulk': how many values and letters a reading holds, each counted each time it is reached (what is shared counts as often as it is met; a slice's spare places count too). A statement '..UptoSaid' is the law's where the arguments, and the package variables that the reading takes, are together of bulk at most 1048576: NARROWER than '..Said'. Prove '..Said' where nothing that the law and all that it calls make is longer than what came in: it says more and counts as full. Else prove '..UptoSaid'. A law counts once. -/
mutual
def uptoBulk {H : Type} : DataW H → Nat
  | .lit (.string bytes) => bytes.length + 1
  | .lit _ => 1
  | .nil => 1
  | .ptr d => uptoBulk d + 1
  | .slice elems spare => uptoBulkAll elems + uptoBulkAll spare + 1
  | .agg parts => uptoBulkAll parts + 1
  | .iface _ d => uptoBulk d + 1
  | .map entries => uptoBulkEntries entries + 1
  | .held _ => 1
def uptoBulkAll {H : Type} : List (DataW H) → Nat
  | [] => 0
  | d :: r => uptoBulk d + uptoBulkAll r
def uptoBulkEntries {H : Type} : List (Lit × DataW H) → Nat
  | [] => 0
  | x :: r => uptoBulkEntry x + uptoBulkEntries r
def uptoBulkEntry {H : Type} : Lit × DataW H → Nat
  | (.string bytes, d) => bytes.length + uptoBulk d + 1
  | (_, d) => uptoBulk d + 1
 end
def uptoSmall : (H : Type) → List (DataW H) → Bool := fun _ ds => decide (uptoBulkAll ds ≤ 1048576)
def OpenSpec.upto (s : _root_.Go.ChangeSpec) : _root_.Go.OpenSpec := { _root_.Go.OpenSpec.ofChange s with cond := some uptoSmall }

/-- 'sluicelaw01.GrainSums', WHERE WHAT IT READS IS OF BULK AT MOST 1048576: true; the input reads as it did. -/
def grainSumsUptoRow : OpenClaim := { program := "ytdnofpafojjjaaadoor", sum := "4abfb83f1e1adcf9bf7b6e922aca8b399fc22b7dd13d5e612dfd2154126232d5", func := "sluice/sluicelaw01.GrainSums", spec := "grainSums", named := ["sluice/grain.steps"], apart := false, laid := [("sluice/grain.steps", laid_sluice_grain_steps)], narrowed := true }
def GrainSumsUptoSaid : Prop := grainSumsUptoRow.holds Tryd.pinned (OpenSpec.upto grainSumsSpec)

/-- 'sluicelaw01.GrainBursts', WHERE WHAT IT READS IS OF BULK AT MOST 1048576: true; the input reads as it did. -/
def grainBurstsUptoRow : OpenClaim := { program := "ytdnofpafojjjaaadoor", sum := "4abfb83f1e1adcf9bf7b6e922aca8b399fc22b7dd13d5e612dfd2154126232d5", func := "sluice/sluicelaw01.GrainBursts", spec := "grainBursts", named := ["sluice/grain.steps"], apart := false, laid := [("sluice/grain.steps", laid_sluice_grain_steps)], narrowed := true }
def GrainBurstsUptoSaid : Prop := grainBurstsUptoRow.holds Tryd.pinned (OpenSpec.upto grainBurstsSpec)

/-- 'sluicelaw01.GrainJoins', WHERE WHAT IT READS IS OF BULK AT MOST 1048576: true; the input reads as it did. -/
def grainJoinsUptoRow : OpenClaim := { program := "ytdnofpafojjjaaadoor", sum := "4abfb83f1e1adcf9bf7b6e922aca8b399fc22b7dd13d5e612dfd2154126232d5", func := "sluice/sluicelaw01.GrainJoins", spec := "grainJoins", named := ["sluice/grain.steps", "math/bits.deBruijn32tab"], apart := false, laid := [("math/bits.deBruijn32tab", laid_math_bits_deBruijn32tab), ("sluice/grain.steps", laid_sluice_grain_steps)], narrowed := true }
def GrainJoinsUptoSaid : Prop := grainJoinsUptoRow.holds Tryd.pinned (OpenSpec.upto grainJoinsSpec)

/-- 'sluicelaw01.GrainClasses', WHERE WHAT IT READS IS OF BULK AT MOST 1048576: true; the input reads as it did. -/
def grainClassesUptoRow : OpenClaim := { program := "ytdnofpafojjjaaadoor", sum := "4abfb83f1e1adcf9bf7b6e922aca8b399fc22b7dd13d5e612dfd2154126232d5", func := "sluice/sluicelaw01.GrainClasses", spec := "grainClasses", inPlace := ["math.Float32frombits", "math.Float32bits"], named := ["math/bits.deBruijn32tab"], apart := false, laid := [("math/bits.deBruijn32tab", laid_math_bits_deBruijn32tab)], narrowed := true }
def GrainClassesUptoSaid : Prop := grainClassesUptoRow.holds Tryd.pinned (OpenSpec.upto grainClassesSpec)

/-- 'sluicelaw01.GrainParts', WHERE WHAT IT READS IS OF BULK AT MOST 1048576: true; the input reads as it did. -/
def grainPartsUptoRow : OpenClaim := { program := "ytdnofpafojjjaaadoor", sum := "4abfb83f1e1adcf9bf7b6e922aca8b399fc22b7dd13d5e612dfd2154126232d5", func := "sluice/sluicelaw01.GrainParts", spec := "grainParts", named := ["sluice/grain.steps", "math/bits.deBruijn32tab"], apart := false, laid := [("math/bits.deBruijn32tab", laid_math_bits_deBruijn32tab), ("sluice/grain.steps", laid_sluice_grain_steps)], narrowed := true }
def GrainPartsUptoSaid : Prop := grainPartsUptoRow.holds Tryd.pinned (OpenSpec.upto grainPartsSpec)

/-- 'sluicelaw01.GrainPlaced', WHERE WHAT IT READS IS OF BULK AT MOST 1048576: true; the input reads as it did. -/
def grainPlacedUptoRow : OpenClaim := { program := "ytdnofpafojjjaaadoor", sum := "4abfb83f1e1adcf9bf7b6e922aca8b399fc22b7dd13d5e612dfd2154126232d5", func := "sluice/sluicelaw01.GrainPlaced", spec := "grainPlaced", inPlace := ["math/bits.Add64"], named := ["sluice/grain.steps"], apart := false, laid := [("sluice/grain.steps", laid_sluice_grain_steps)], narrowed := true }
def GrainPlacedUptoSaid : Prop := grainPlacedUptoRow.holds Tryd.pinned (OpenSpec.upto grainPlacedSpec)

end Rows
end Go.Proofs.YtdnofpafojjjaaaDoor
