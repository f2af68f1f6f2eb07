/-
  No cell of these rows narrows 'for every input' (looked for: loops, veiled, ifaces, maps, wideKeys, modest, calm, conditions, laid).
  DERIVED. THE GIVEN ROWS OF THIS SEAT. 10 by the template 'for every input the law returns true; each argument reads behind the call as it read before'; 0 by the template 'total and deterministic' (their statements: YtnmhfcfojbfikaaTotals.lean).
  GIVEN WITH THE SEED: the statements are not yours to turn. If you find one false, say at which input.
  Laid BY PROGRAM, IN A SANDBOX (cutbox-rows.mjs): the forced cells as the released guide's own fill.sh prints them over the translation 3a5851c91c1e8407… (all of the seat's roots in one cut). By AI agents, Wed Nov 11 2026. No macro, syntax, notation, axiom, sorry.
-/
import Derived.Test.YtnmhfcfojbfikaaChecked
import GoSem.Claim
import GoSem.ClaimJoined
import GoSem.ClaimMapViews
import Derived.JoinedTies
import Derived.KernelRfl
namespace Go.Proofs.Ytnmhfcfojbfikaa
/- THE CELL 'sum', in the pinned program and in every row, IS THE sha256 OF THE DUMP (.gsa) THAT YtnmhfcfojbfikaaProg.lean LOADS. Nothing in Lean hashes anything: it is a label: what it is worth is what the hold of that sum in a sandbox is worth. -/
noncomputable def Try.pinned : Pinned := { name := "ytnmhfcfojbfikaa", sum := "3a5851c91c1e8407177531eadbaab4a278ca860d85e89456fffc8d09d9ca7098", checked := Try.checked }
namespace Rows
def none {H : Type} : Left H := { results := [], args := [] }

/-- 'sluicelaw07.RosterNames': WHATEVER THE INPUT: true; the input reads as it did. -/
def rosterNamesSpec : ChangeSpec := { name := "rosterNames", fn := fun _ => fun
  | [] => { results := [.lit (.bool true)], args := [] }
  | _ => none }
def rosterNamesRow : OpenClaim := { program := "ytnmhfcfojbfikaa", sum := "3a5851c91c1e8407177531eadbaab4a278ca860d85e89456fffc8d09d9ca7098", func := "sluice/sluicelaw07.RosterNames", spec := "rosterNames", apart := false }
def RosterNamesSaid : Prop := rosterNamesRow.holds Try.pinned (OpenSpec.ofChange rosterNamesSpec)

/-- ITS FALSE NEIGHBOUR: 'it returns false'. Refute it at one input. -/
def rosterNamesWrong : ChangeSpec := { name := "rosterNames", fn := fun _ => fun
  | [] => { results := [.lit (.bool false)], args := [] }
  | _ => none }
def RosterNamesWrongFalsely : Prop := rosterNamesRow.holds Try.pinned (OpenSpec.ofChange rosterNamesWrong)

/-- 'sluicelaw17.LoreNames': WHATEVER THE INPUT: true; the input reads as it did. -/
def loreNamesSpec : ChangeSpec := { name := "loreNames", fn := fun _ => fun
  | [] => { results := [.lit (.bool true)], args := [] }
  | _ => none }
def loreNamesRow : OpenClaim := { program := "ytnmhfcfojbfikaa", sum := "3a5851c91c1e8407177531eadbaab4a278ca860d85e89456fffc8d09d9ca7098", func := "sluice/sluicelaw17.LoreNames", spec := "loreNames", apart := false }
def LoreNamesSaid : Prop := loreNamesRow.holds Try.pinned (OpenSpec.ofChange loreNamesSpec)

/-- ITS FALSE NEIGHBOUR: 'it returns false'. Refute it at one input. -/
def loreNamesWrong : ChangeSpec := { name := "loreNames", fn := fun _ => fun
  | [] => { results := [.lit (.bool false)], args := [] }
  | _ => none }
def LoreNamesWrongFalsely : Prop := loreNamesRow.holds Try.pinned (OpenSpec.ofChange loreNamesWrong)

/-- 'sluicelaw11.LoomNames': WHATEVER THE INPUT: true; the input reads as it did. -/
def loomNamesSpec : ChangeSpec := { name := "loomNames", fn := fun _ => fun
  | [] => { results := [.lit (.bool true)], args := [] }
  | _ => none }
def loomNamesRow : OpenClaim := { program := "ytnmhfcfojbfikaa", sum := "3a5851c91c1e8407177531eadbaab4a278ca860d85e89456fffc8d09d9ca7098", func := "sluice/sluicelaw11.LoomNames", spec := "loomNames", apart := false }
def LoomNamesSaid : Prop := loomNamesRow.holds Try.pinned (OpenSpec.ofChange loomNamesSpec)

/-- ITS FALSE NEIGHBOUR: 'it returns false'. Refute it at one input. -/
def loomNamesWrong : ChangeSpec := { name := "loomNames", fn := fun _ => fun
  | [] => { results := [.lit (.bool false)], args := [] }
  | _ => none }
def LoomNamesWrongFalsely : Prop := loomNamesRow.holds Try.pinned (OpenSpec.ofChange loomNamesWrong)

/-- 'sluicelaw12.WheelNames': WHATEVER THE INPUT: true; the input reads as it did. -/
def wheelNamesSpec : ChangeSpec := { name := "wheelNames", fn := fun _ => fun
  | [] => { results := [.lit (.bool true)], args := [] }
  | _ => none }
def wheelNamesRow : OpenClaim := { program := "ytnmhfcfojbfikaa", sum := "3a5851c91c1e8407177531eadbaab4a278ca860d85e89456fffc8d09d9ca7098", func := "sluice/sluicelaw12.WheelNames", spec := "wheelNames", apart := false }
def WheelNamesSaid : Prop := wheelNamesRow.holds Try.pinned (OpenSpec.ofChange wheelNamesSpec)

/-- ITS FALSE NEIGHBOUR: 'it returns false'. Refute it at one input. -/
def wheelNamesWrong : ChangeSpec := { name := "wheelNames", fn := fun _ => fun
  | [] => { results := [.lit (.bool false)], args := [] }
  | _ => none }
def WheelNamesWrongFalsely : Prop := wheelNamesRow.holds Try.pinned (OpenSpec.ofChange wheelNamesWrong)

/-- 'sluicelaw06.ReelNames': WHATEVER THE INPUT: true; the input reads as it did. -/
def reelNamesSpec : ChangeSpec := { name := "reelNames", fn := fun _ => fun
  | [] => { results := [.lit (.bool true)], args := [] }
  | _ => none }
def reelNamesRow : OpenClaim := { program := "ytnmhfcfojbfikaa", sum := "3a5851c91c1e8407177531eadbaab4a278ca860d85e89456fffc8d09d9ca7098", func := "sluice/sluicelaw06.ReelNames", spec := "reelNames", apart := false }
def ReelNamesSaid : Prop := reelNamesRow.holds Try.pinned (OpenSpec.ofChange reelNamesSpec)

/-- ITS FALSE NEIGHBOUR: 'it returns false'. Refute it at one input. -/
def reelNamesWrong : ChangeSpec := { name := "reelNames", fn := fun _ => fun
  | [] => { results := [.lit (.bool false)], args := [] }
  | _ => none }
def ReelNamesWrongFalsely : Prop := reelNamesRow.holds Try.pinned (OpenSpec.ofChange reelNamesWrong)

/-- 'sluicelaw07.RosterAll': WHATEVER THE INPUT: true; the input reads as it did. -/
def rosterAllSpec : ChangeSpec := { name := "rosterAll", fn := fun _ => fun
  | [d1, d2] => { results := [.lit (.bool true)], args := [d1, d2] }
  | _ => none }
def rosterAllRow : OpenClaim := { program := "ytnmhfcfojbfikaa", sum := "3a5851c91c1e8407177531eadbaab4a278ca860d85e89456fffc8d09d9ca7098", func := "sluice/sluicelaw07.RosterAll", spec := "rosterAll", unfollowed := true, recurses := true, apart := false }
def RosterAllSaid : Prop := rosterAllRow.holds Try.pinned (OpenSpec.ofChange rosterAllSpec)

/-- ITS FALSE NEIGHBOUR: 'it returns false'. Refute it at one input. -/
def rosterAllWrong : ChangeSpec := { name := "rosterAll", fn := fun _ => fun
  | [d1, d2] => { results := [.lit (.bool false)], args := [d1, d2] }
  | _ => none }
def RosterAllWrongFalsely : Prop := rosterAllRow.holds Try.pinned (OpenSpec.ofChange rosterAllWrong)

/-- 'sluicelaw07.RosterLays': WHATEVER THE INPUT: true; the input reads as it did. -/
def rosterLaysSpec : ChangeSpec := { name := "rosterLays", fn := fun _ => fun
  | [d1, d2] => { results := [.lit (.bool true)], args := [d1, d2] }
  | _ => none }
def rosterLaysRow : OpenClaim := { program := "ytnmhfcfojbfikaa", sum := "3a5851c91c1e8407177531eadbaab4a278ca860d85e89456fffc8d09d9ca7098", func := "sluice/sluicelaw07.RosterLays", spec := "rosterLays", apart := false }
def RosterLaysSaid : Prop := rosterLaysRow.holds Try.pinned (OpenSpec.ofChange rosterLaysSpec)

/-- ITS FALSE NEIGHBOUR: 'it returns false'. Refute it at one input. -/
def rosterLaysWrong : ChangeSpec := { name := "rosterLays", fn := fun _ => fun
  | [d1, d2] => { results := [.lit (.bool false)], args := [d1, d2] }
  | _ => none }
def RosterLaysWrongFalsely : Prop := rosterLaysRow.holds Try.pinned (OpenSpec.ofChange rosterLaysWrong)

/-- 'sluicelaw06.ReelTexts': WHATEVER THE INPUT: true; the input reads as it did. -/
def reelTextsSpec : ChangeSpec := { name := "reelTexts", fn := fun _ => fun
  | [d1, d2, d3] => { results := [.lit (.bool true)], args := [d1, d2, d3] }
  | _ => none }
def reelTextsRow : OpenClaim := { program := "ytnmhfcfojbfikaa", sum := "3a5851c91c1e8407177531eadbaab4a278ca860d85e89456fffc8d09d9ca7098", func := "sluice/sluicelaw06.ReelTexts", spec := "reelTexts", unfollowed := true, recurses := true, apart := false }
def ReelTextsSaid : Prop := reelTextsRow.holds Try.pinned (OpenSpec.ofChange reelTextsSpec)

/-- ITS FALSE NEIGHBOUR: 'it returns false'. Refute it at one input. -/
def reelTextsWrong : ChangeSpec := { name := "reelTexts", fn := fun _ => fun
  | [d1, d2, d3] => { results := [.lit (.bool false)], args := [d1, d2, d3] }
  | _ => none }
def ReelTextsWrongFalsely : Prop := reelTextsRow.holds Try.pinned (OpenSpec.ofChange reelTextsWrong)

/-- 'sluicelaw12.WheelBounds': WHATEVER THE INPUT: true; the input reads as it did. -/
def wheelBoundsSpec : ChangeSpec := { name := "wheelBounds", fn := fun _ => fun
  | [d1, d2, d3] => { results := [.lit (.bool true)], args := [d1, d2, d3] }
  | _ => none }
def wheelBoundsRow : OpenClaim := { program := "ytnmhfcfojbfikaa", sum := "3a5851c91c1e8407177531eadbaab4a278ca860d85e89456fffc8d09d9ca7098", func := "sluice/sluicelaw12.WheelBounds", spec := "wheelBounds", apart := false }
def WheelBoundsSaid : Prop := wheelBoundsRow.holds Try.pinned (OpenSpec.ofChange wheelBoundsSpec)

/-- ITS FALSE NEIGHBOUR: 'it returns false'. Refute it at one input. -/
def wheelBoundsWrong : ChangeSpec := { name := "wheelBounds", fn := fun _ => fun
  | [d1, d2, d3] => { results := [.lit (.bool false)], args := [d1, d2, d3] }
  | _ => none }
def WheelBoundsWrongFalsely : Prop := wheelBoundsRow.holds Try.pinned (OpenSpec.ofChange wheelBoundsWrong)

/-- 'sluicelaw06.ReelForms': WHATEVER THE INPUT: true; the input reads as it did. -/
def reelFormsSpec : ChangeSpec := { name := "reelForms", fn := fun _ => fun
  | [d1, d2, d3, d4, d5] => { results := [.lit (.bool true)], args := [d1, d2, d3, d4, d5] }
  | _ => none }
def reelFormsRow : OpenClaim := { program := "ytnmhfcfojbfikaa", sum := "3a5851c91c1e8407177531eadbaab4a278ca860d85e89456fffc8d09d9ca7098", func := "sluice/sluicelaw06.ReelForms", spec := "reelForms", unfollowed := true, recurses := true, apart := false }
def ReelFormsSaid : Prop := reelFormsRow.holds Try.pinned (OpenSpec.ofChange reelFormsSpec)

/-- ITS FALSE NEIGHBOUR: 'it returns false'. Refute it at one input. -/
def reelFormsWrong : ChangeSpec := { name := "reelForms", fn := fun _ => fun
  | [d1, d2, d3, d4, d5] => { results := [.lit (.bool false)], args := [d1, d2, d3, d4, d5] }
  | _ => none }
def ReelFormsWrongFalsely : Prop := reelFormsRow.holds Try.pinned (OpenSpec.ofChange reelFormsWrong)

/- THE SECOND FORM. 'bulk': how many values and letters a reading holds, each counted each time it is reached (what is shared counts as often as it is met; a slice's spare places count too). A statement '..UptoSaid' is the law's where the arguments, and the package variables that the reading takes, are together of bulk at most 1048576: NARROWER than '..Said'. Prove '..Said' where nothing that the law and all that it calls make is longer than what came in: it says more and counts as full. Else prove '..UptoSaid'. A law counts once. -/
mutual
def uptoBulk {H : Type} : DataW H → Nat
  | .lit (.string bytes) => bytes.length + 1
  | .lit _ => 1
  | .nil => 1
  | .ptr d => uptoBulk d + 1
  | .slice elems spare => uptoBulkAll elems + uptoBulkAll spare + 1
  | .agg parts => uptoBulkAll parts + 1
  | .iface _ d => uptoBulk d + 1
  | .map entries => uptoBulkEntries entries + 1
  | .held _ => 1
def uptoBulkAll {H : Type} : List (DataW H) → Nat
  | [] => 0
  | d :: r => uptoBulk d + uptoBulkAll r
def uptoBulkEntries {H : Type} : List (Lit × DataW H) → Nat
  | [] => 0
  | x :: r => uptoBulkEntry x + uptoBulkEntries r
def uptoBulkEntry {H : Type} : Lit × DataW H → Nat
  | (.string bytes, d) => bytes.length + uptoBulk d + 1
  | (_, d) => uptoBulk d + 1
 end
def uptoSmall : (H : Type) → List (DataW H) → Bool := fun _ ds => decide (uptoBulkAll ds ≤ 1048576)
def OpenSpec.upto (s : _root_.Go.ChangeSpec) : _root_.Go.OpenSpec := { _root_.Go.OpenSpec.ofChange s with cond := some uptoSmall }

/-- 'sluicelaw07.RosterNames', WHERE WHAT IT READS IS OF BULK AT MOST 1048576: true; the input reads as it did. -/
def rosterNamesUptoRow : OpenClaim := { program := "ytnmhfcfojbfikaa", sum := "3a5851c91c1e8407177531eadbaab4a278ca860d85e89456fffc8d09d9ca7098", func := "sluice/sluicelaw07.RosterNames", spec := "rosterNames", apart := false, narrowed := true }
def RosterNamesUptoSaid : Prop := rosterNamesUptoRow.holds Try.pinned (OpenSpec.upto rosterNamesSpec)

/-- 'sluicelaw17.LoreNames', WHERE WHAT IT READS IS OF BULK AT MOST 1048576: true; the input reads as it did. -/
def loreNamesUptoRow : OpenClaim := { program := "ytnmhfcfojbfikaa", sum := "3a5851c91c1e8407177531eadbaab4a278ca860d85e89456fffc8d09d9ca7098", func := "sluice/sluicelaw17.LoreNames", spec := "loreNames", apart := false, narrowed := true }
def LoreNamesUptoSaid : Prop := loreNamesUptoRow.holds Try.pinned (OpenSpec.upto loreNamesSpec)

/-- 'sluicelaw11.LoomNames', WHERE WHAT IT READS IS OF BULK AT MOST 1048576: true; the input reads as it did. -/
def loomNamesUptoRow : OpenClaim := { program := "ytnmhfcfojbfikaa", sum := "3a5851c91c1e8407177531eadbaab4a278ca860d85e89456fffc8d09d9ca7098", func := "sluice/sluicelaw11.LoomNames", spec := "loomNames", apart := false, narrowed := true }
def LoomNamesUptoSaid : Prop := loomNamesUptoRow.holds Try.pinned (OpenSpec.upto loomNamesSpec)

/-- 'sluicelaw12.WheelNames', WHERE WHAT IT READS IS OF BULK AT MOST 1048576: true; the input reads as it did. -/
def wheelNamesUptoRow : OpenClaim := { program := "ytnmhfcfojbfikaa", sum := "3a5851c91c1e8407177531eadbaab4a278ca860d85e89456fffc8d09d9ca7098", func := "sluice/sluicelaw12.WheelNames", spec := "wheelNames", apart := false, narrowed := true }
def WheelNamesUptoSaid : Prop := wheelNamesUptoRow.holds Try.pinned (OpenSpec.upto wheelNamesSpec)

/-- 'sluicelaw06.ReelNames', WHERE WHAT IT READS IS OF BULK AT MOST 1048576: true; the input reads as it did. -/
def reelNamesUptoRow : OpenClaim := { program := "ytnmhfcfojbfikaa", sum := "3a5851c91c1e8407177531eadbaab4a278ca860d85e89456fffc8d09d9ca7098", func := "sluice/sluicelaw06.ReelNames", spec := "reelNames", apart := false, narrowed := true }
def ReelNamesUptoSaid : Prop := reelNamesUptoRow.holds Try.pinned (OpenSpec.upto reelNamesSpec)

/-- 'sluicelaw07.RosterAll', WHERE WHAT IT READS IS OF BULK AT MOST 1048576: true; the input reads as it did. -/
def rosterAllUptoRow : OpenClaim := { program := "ytnmhfcfojbfikaa", sum := "3a5851c91c1e8407177531eadbaab4a278ca860d85e89456fffc8d09d9ca7098", func := "sluice/sluicelaw07.RosterAll", spec := "rosterAll", unfollowed := true, recurses := true, apart := false, narrowed := true }
def RosterAllUptoSaid : Prop := rosterAllUptoRow.holds Try.pinned (OpenSpec.upto rosterAllSpec)

/-- 'sluicelaw07.RosterLays', WHERE WHAT IT READS IS OF BULK AT MOST 1048576: true; the input reads as it did. -/
def rosterLaysUptoRow : OpenClaim := { program := "ytnmhfcfojbfikaa", sum := "3a5851c91c1e8407177531eadbaab4a278ca860d85e89456fffc8d09d9ca7098", func := "sluice/sluicelaw07.RosterLays", spec := "rosterLays", apart := false, narrowed := true }
def RosterLaysUptoSaid : Prop := rosterLaysUptoRow.holds Try.pinned (OpenSpec.upto rosterLaysSpec)

/-- 'sluicelaw06.ReelTexts', WHERE WHAT IT READS IS OF BULK AT MOST 1048576: true; the input reads as it did. -/
def reelTextsUptoRow : OpenClaim := { program := "ytnmhfcfojbfikaa", sum := "3a5851c91c1e8407177531eadbaab4a278ca860d85e89456fffc8d09d9ca7098", func := "sluice/sluicelaw06.ReelTexts", spec := "reelTexts", unfollowed := true, recurses := true, apart := false, narrowed := true }
def ReelTextsUptoSaid : Prop := reelTextsUptoRow.holds Try.pinned (OpenSpec.upto reelTextsSpec)

/-- 'sluicelaw12.WheelBounds', WHERE WHAT IT READS IS OF BULK AT MOST 1048576: true; the input reads as it did. -/
def wheelBoundsUptoRow : OpenClaim := { program := "ytnmhfcfojbfikaa", sum := "3a5851c91c1e8407177531eadbaab4a278ca860d85e89456fffc8d09d9ca7098", func := "sluice/sluicelaw12.WheelBounds", spec := "wheelBounds", apart := false, narrowed := true }
def WheelBoundsUptoSaid : Prop := wheelBoundsUptoRow.holds Try.pinned (OpenSpec.upto wheelBoundsSpec)

/-- 'sluicelaw06.ReelForms', WHERE WHAT IT READS IS OF BULK AT MOST 1048576: true; the input reads as it did. -/
def reelFormsUptoRow : OpenClaim := { program := "ytnmhfcfojbfikaa", sum := "3a5851c91c1e8407177531eadbaab4a278ca860d85e89456fffc8d09d9ca7098", func := "sluice/sluicelaw06.ReelForms", spec := "reelForms", unfollowed := true, recurses := true, apart := false, narrowed := true }
def ReelFormsUptoSaid : Prop := reelFormsUptoRow.holds Try.pinned (OpenSpec.upto reelFormsSpec)

end Rows
end Go.Proofs.Ytnmhfcfojbfikaa
