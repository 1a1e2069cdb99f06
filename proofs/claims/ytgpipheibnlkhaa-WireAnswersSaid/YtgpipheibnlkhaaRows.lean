/-
  No cell of these rows narrows 'for every input' (looked for: loops, veiled, ifaces, maps, wideKeys, modest, calm, conditions, laid).
  DERIVED. THE GIVEN ROWS OF THIS SEAT. 9 by the template 'for every input the law returns true; each argument reads behind the call as it read before'; 0 by the template 'total and deterministic' (their statements: YtgpipheibnlkhaaTotals.lean).
  GIVEN WITH THE SEED: the statements are not yours to turn. If you find one false, say at which input.
  Laid BY PROGRAM, IN A SANDBOX (cutbox-rows.mjs): the forced cells as the released guide's own fill.sh prints them over the translation d9a8e21568732213… (all of the seat's roots in one cut). By AI agents, Wed Nov 11 2026. No macro, syntax, notation, axiom, sorry.
-/
import Derived.Test.YtgpipheibnlkhaaChecked
import GoSem.Claim
import GoSem.ClaimJoined
import GoSem.ClaimMapViews
import Derived.JoinedTies
import Derived.KernelRfl
namespace Go.Proofs.Ytgpipheibnlkhaa
/- THE CELL 'sum', in the pinned program and in every row, IS THE sha256 OF THE DUMP (.gsa) THAT YtgpipheibnlkhaaProg.lean LOADS. Nothing in Lean hashes anything: it is a label: what it is worth is what the hold of that sum in a sandbox is worth. -/
noncomputable def Try.pinned : Pinned := { name := "ytgpipheibnlkhaa", sum := "d9a8e215687322132a227b85d1db850d000894f78135a86c5824e79d54b4b342", checked := Try.checked }
namespace Rows
def none {H : Type} : Left H := { results := [], args := [] }

/-- 'dispatchlaw18.WireLengths': WHATEVER THE INPUT: true; the input reads as it did. -/
def wireLengthsSpec : ChangeSpec := { name := "wireLengths", fn := fun _ => fun
  | [d] => { results := [.lit (.bool true)], args := [d] }
  | _ => none }
def wireLengthsRow : OpenClaim := { program := "ytgpipheibnlkhaa", sum := "d9a8e215687322132a227b85d1db850d000894f78135a86c5824e79d54b4b342", func := "dispatch/dispatchlaw18.WireLengths", spec := "wireLengths", unfollowed := true, recurses := true, apart := false }
def WireLengthsSaid : Prop := wireLengthsRow.holds Try.pinned (OpenSpec.ofChange wireLengthsSpec)

/-- ITS FALSE NEIGHBOUR: 'it returns false'. Refute it at one input. -/
def wireLengthsWrong : ChangeSpec := { name := "wireLengths", fn := fun _ => fun
  | [d] => { results := [.lit (.bool false)], args := [d] }
  | _ => none }
def WireLengthsWrongFalsely : Prop := wireLengthsRow.holds Try.pinned (OpenSpec.ofChange wireLengthsWrong)

/-- 'dispatchlaw18.WireBounds': WHATEVER THE INPUT: true; the input reads as it did. -/
def wireBoundsSpec : ChangeSpec := { name := "wireBounds", fn := fun _ => fun
  | [d1, d2] => { results := [.lit (.bool true)], args := [d1, d2] }
  | _ => none }
def wireBoundsRow : OpenClaim := { program := "ytgpipheibnlkhaa", sum := "d9a8e215687322132a227b85d1db850d000894f78135a86c5824e79d54b4b342", func := "dispatch/dispatchlaw18.WireBounds", spec := "wireBounds", unfollowed := true, recurses := true, apart := false }
def WireBoundsSaid : Prop := wireBoundsRow.holds Try.pinned (OpenSpec.ofChange wireBoundsSpec)

/-- ITS FALSE NEIGHBOUR: 'it returns false'. Refute it at one input. -/
def wireBoundsWrong : ChangeSpec := { name := "wireBounds", fn := fun _ => fun
  | [d1, d2] => { results := [.lit (.bool false)], args := [d1, d2] }
  | _ => none }
def WireBoundsWrongFalsely : Prop := wireBoundsRow.holds Try.pinned (OpenSpec.ofChange wireBoundsWrong)

/-- 'dispatchlaw18.WireSames': WHATEVER THE INPUT: true; the input reads as it did. -/
def wireSamesSpec : ChangeSpec := { name := "wireSames", fn := fun _ => fun
  | [d1, d2] => { results := [.lit (.bool true)], args := [d1, d2] }
  | _ => none }
def wireSamesRow : OpenClaim := { program := "ytgpipheibnlkhaa", sum := "d9a8e215687322132a227b85d1db850d000894f78135a86c5824e79d54b4b342", func := "dispatch/dispatchlaw18.WireSames", spec := "wireSames", unfollowed := true, recurses := true, apart := false }
def WireSamesSaid : Prop := wireSamesRow.holds Try.pinned (OpenSpec.ofChange wireSamesSpec)

/-- ITS FALSE NEIGHBOUR: 'it returns false'. Refute it at one input. -/
def wireSamesWrong : ChangeSpec := { name := "wireSames", fn := fun _ => fun
  | [d1, d2] => { results := [.lit (.bool false)], args := [d1, d2] }
  | _ => none }
def WireSamesWrongFalsely : Prop := wireSamesRow.holds Try.pinned (OpenSpec.ofChange wireSamesWrong)

/-- 'dispatchlaw18.WireReads': WHATEVER THE INPUT: true; the input reads as it did. -/
def wireReadsSpec : ChangeSpec := { name := "wireReads", fn := fun _ => fun
  | [d1, d2, d3, d4, d5] => { results := [.lit (.bool true)], args := [d1, d2, d3, d4, d5] }
  | _ => none }
def wireReadsRow : OpenClaim := { program := "ytgpipheibnlkhaa", sum := "d9a8e215687322132a227b85d1db850d000894f78135a86c5824e79d54b4b342", func := "dispatch/dispatchlaw18.WireReads", spec := "wireReads", unfollowed := true, recurses := true, apart := false }
def WireReadsSaid : Prop := wireReadsRow.holds Try.pinned (OpenSpec.ofChange wireReadsSpec)

/-- ITS FALSE NEIGHBOUR: 'it returns false'. Refute it at one input. -/
def wireReadsWrong : ChangeSpec := { name := "wireReads", fn := fun _ => fun
  | [d1, d2, d3, d4, d5] => { results := [.lit (.bool false)], args := [d1, d2, d3, d4, d5] }
  | _ => none }
def WireReadsWrongFalsely : Prop := wireReadsRow.holds Try.pinned (OpenSpec.ofChange wireReadsWrong)

/-- 'dispatchlaw18.WireZeros': WHATEVER THE INPUT: true; the input reads as it did. -/
def wireZerosSpec : ChangeSpec := { name := "wireZeros", fn := fun _ => fun
  | [d] => { results := [.lit (.bool true)], args := [d] }
  | _ => none }
def wireZerosRow : OpenClaim := { program := "ytgpipheibnlkhaa", sum := "d9a8e215687322132a227b85d1db850d000894f78135a86c5824e79d54b4b342", func := "dispatch/dispatchlaw18.WireZeros", spec := "wireZeros", unfollowed := true, recurses := true, apart := false }
def WireZerosSaid : Prop := wireZerosRow.holds Try.pinned (OpenSpec.ofChange wireZerosSpec)

/-- ITS FALSE NEIGHBOUR: 'it returns false'. Refute it at one input. -/
def wireZerosWrong : ChangeSpec := { name := "wireZeros", fn := fun _ => fun
  | [d] => { results := [.lit (.bool false)], args := [d] }
  | _ => none }
def WireZerosWrongFalsely : Prop := wireZerosRow.holds Try.pinned (OpenSpec.ofChange wireZerosWrong)

/-- 'dispatchlaw18.WireAnswers': WHATEVER THE INPUT: true; the input reads as it did. -/
def wireAnswersSpec : ChangeSpec := { name := "wireAnswers", fn := fun _ => fun
  | [d1, d2, d3, d4, d5] => { results := [.lit (.bool true)], args := [d1, d2, d3, d4, d5] }
  | _ => none }
def wireAnswersRow : OpenClaim := { program := "ytgpipheibnlkhaa", sum := "d9a8e215687322132a227b85d1db850d000894f78135a86c5824e79d54b4b342", func := "dispatch/dispatchlaw18.WireAnswers", spec := "wireAnswers", unfollowed := true, recurses := true, apart := false }
def WireAnswersSaid : Prop := wireAnswersRow.holds Try.pinned (OpenSpec.ofChange wireAnswersSpec)

/-- ITS FALSE NEIGHBOUR: 'it returns false'. Refute it at one input. -/
def wireAnswersWrong : ChangeSpec := { name := "wireAnswers", fn := fun _ => fun
  | [d1, d2, d3, d4, d5] => { results := [.lit (.bool false)], args := [d1, d2, d3, d4, d5] }
  | _ => none }
def WireAnswersWrongFalsely : Prop := wireAnswersRow.holds Try.pinned (OpenSpec.ofChange wireAnswersWrong)

/-- 'dispatchlaw18.WireOutputs': WHATEVER THE INPUT: true; the input reads as it did. -/
def wireOutputsSpec : ChangeSpec := { name := "wireOutputs", fn := fun _ => fun
  | [d1, d2] => { results := [.lit (.bool true)], args := [d1, d2] }
  | _ => none }
def wireOutputsRow : OpenClaim := { program := "ytgpipheibnlkhaa", sum := "d9a8e215687322132a227b85d1db850d000894f78135a86c5824e79d54b4b342", func := "dispatch/dispatchlaw18.WireOutputs", spec := "wireOutputs", unfollowed := true, recurses := true, apart := false }
def WireOutputsSaid : Prop := wireOutputsRow.holds Try.pinned (OpenSpec.ofChange wireOutputsSpec)

/-- ITS FALSE NEIGHBOUR: 'it returns false'. Refute it at one input. -/
def wireOutputsWrong : ChangeSpec := { name := "wireOutputs", fn := fun _ => fun
  | [d1, d2] => { results := [.lit (.bool false)], args := [d1, d2] }
  | _ => none }
def WireOutputsWrongFalsely : Prop := wireOutputsRow.holds Try.pinned (OpenSpec.ofChange wireOutputsWrong)

/-- 'dispatchlaw18.WireInputs': WHATEVER THE INPUT: true; the input reads as it did. -/
def wireInputsSpec : ChangeSpec := { name := "wireInputs", fn := fun _ => fun
  | [d1, d2] => { results := [.lit (.bool true)], args := [d1, d2] }
  | _ => none }
def wireInputsRow : OpenClaim := { program := "ytgpipheibnlkhaa", sum := "d9a8e215687322132a227b85d1db850d000894f78135a86c5824e79d54b4b342", func := "dispatch/dispatchlaw18.WireInputs", spec := "wireInputs", unfollowed := true, recurses := true, apart := false }
def WireInputsSaid : Prop := wireInputsRow.holds Try.pinned (OpenSpec.ofChange wireInputsSpec)

/-- ITS FALSE NEIGHBOUR: 'it returns false'. Refute it at one input. -/
def wireInputsWrong : ChangeSpec := { name := "wireInputs", fn := fun _ => fun
  | [d1, d2] => { results := [.lit (.bool false)], args := [d1, d2] }
  | _ => none }
def WireInputsWrongFalsely : Prop := wireInputsRow.holds Try.pinned (OpenSpec.ofChange wireInputsWrong)

/-- 'dispatchlaw18.WireCuts': WHATEVER THE INPUT: true; the input reads as it did. -/
def wireCutsSpec : ChangeSpec := { name := "wireCuts", fn := fun _ => fun
  | [d1, d2] => { results := [.lit (.bool true)], args := [d1, d2] }
  | _ => none }
def wireCutsRow : OpenClaim := { program := "ytgpipheibnlkhaa", sum := "d9a8e215687322132a227b85d1db850d000894f78135a86c5824e79d54b4b342", func := "dispatch/dispatchlaw18.WireCuts", spec := "wireCuts", unfollowed := true, recurses := true, apart := false }
def WireCutsSaid : Prop := wireCutsRow.holds Try.pinned (OpenSpec.ofChange wireCutsSpec)

/-- ITS FALSE NEIGHBOUR: 'it returns false'. Refute it at one input. -/
def wireCutsWrong : ChangeSpec := { name := "wireCuts", fn := fun _ => fun
  | [d1, d2] => { results := [.lit (.bool false)], args := [d1, d2] }
  | _ => none }
def WireCutsWrongFalsely : Prop := wireCutsRow.holds Try.pinned (OpenSpec.ofChange wireCutsWrong)

/- THE SECOND FORM. 'bulk': how many values and letters a reading holds, each counted each time it is reached (what is shared counts as often as it is met; a slice's spare places count too). A statement '..UptoSaid' is the law's where the arguments, and the package variables that the reading takes, are together of bulk at most 1048576: NARROWER than '..Said'. Prove '..Said' where nothing that the law and all that it calls make is longer than what came in: it says more and counts as full. Else prove '..UptoSaid'. A law counts once. -/
mutual
def uptoBulk {H : Type} : DataW H → Nat
  | .lit (.string bytes) => bytes.length + 1
  | .lit _ => 1
  | .nil => 1
  | .ptr d => uptoBulk d + 1
  | .slice elems spare => uptoBulkAll elems + uptoBulkAll spare + 1
  | .agg parts => uptoBulkAll parts + 1
  | .iface _ d => uptoBulk d + 1
  | .map entries => uptoBulkEntries entries + 1
  | .held _ => 1
def uptoBulkAll {H : Type} : List (DataW H) → Nat
  | [] => 0
  | d :: r => uptoBulk d + uptoBulkAll r
def uptoBulkEntries {H : Type} : List (Lit × DataW H) → Nat
  | [] => 0
  | x :: r => uptoBulkEntry x + uptoBulkEntries r
def uptoBulkEntry {H : Type} : Lit × DataW H → Nat
  | (.string bytes, d) => bytes.length + uptoBulk d + 1
  | (_, d) => uptoBulk d + 1
 end
def uptoSmall : (H : Type) → List (DataW H) → Bool := fun _ ds => decide (uptoBulkAll ds ≤ 1048576)
def OpenSpec.upto (s : _root_.Go.ChangeSpec) : _root_.Go.OpenSpec := { _root_.Go.OpenSpec.ofChange s with cond := some uptoSmall }

/-- 'dispatchlaw18.WireLengths', WHERE WHAT IT READS IS OF BULK AT MOST 1048576: true; the input reads as it did. -/
def wireLengthsUptoRow : OpenClaim := { program := "ytgpipheibnlkhaa", sum := "d9a8e215687322132a227b85d1db850d000894f78135a86c5824e79d54b4b342", func := "dispatch/dispatchlaw18.WireLengths", spec := "wireLengths", unfollowed := true, recurses := true, apart := false, narrowed := true }
def WireLengthsUptoSaid : Prop := wireLengthsUptoRow.holds Try.pinned (OpenSpec.upto wireLengthsSpec)

/-- 'dispatchlaw18.WireBounds', WHERE WHAT IT READS IS OF BULK AT MOST 1048576: true; the input reads as it did. -/
def wireBoundsUptoRow : OpenClaim := { program := "ytgpipheibnlkhaa", sum := "d9a8e215687322132a227b85d1db850d000894f78135a86c5824e79d54b4b342", func := "dispatch/dispatchlaw18.WireBounds", spec := "wireBounds", unfollowed := true, recurses := true, apart := false, narrowed := true }
def WireBoundsUptoSaid : Prop := wireBoundsUptoRow.holds Try.pinned (OpenSpec.upto wireBoundsSpec)

/-- 'dispatchlaw18.WireSames', WHERE WHAT IT READS IS OF BULK AT MOST 1048576: true; the input reads as it did. -/
def wireSamesUptoRow : OpenClaim := { program := "ytgpipheibnlkhaa", sum := "d9a8e215687322132a227b85d1db850d000894f78135a86c5824e79d54b4b342", func := "dispatch/dispatchlaw18.WireSames", spec := "wireSames", unfollowed := true, recurses := true, apart := false, narrowed := true }
def WireSamesUptoSaid : Prop := wireSamesUptoRow.holds Try.pinned (OpenSpec.upto wireSamesSpec)

/-- 'dispatchlaw18.WireReads', WHERE WHAT IT READS IS OF BULK AT MOST 1048576: true; the input reads as it did. -/
def wireReadsUptoRow : OpenClaim := { program := "ytgpipheibnlkhaa", sum := "d9a8e215687322132a227b85d1db850d000894f78135a86c5824e79d54b4b342", func := "dispatch/dispatchlaw18.WireReads", spec := "wireReads", unfollowed := true, recurses := true, apart := false, narrowed := true }
def WireReadsUptoSaid : Prop := wireReadsUptoRow.holds Try.pinned (OpenSpec.upto wireReadsSpec)

/-- 'dispatchlaw18.WireZeros', WHERE WHAT IT READS IS OF BULK AT MOST 1048576: true; the input reads as it did. -/
def wireZerosUptoRow : OpenClaim := { program := "ytgpipheibnlkhaa", sum := "d9a8e215687322132a227b85d1db850d000894f78135a86c5824e79d54b4b342", func := "dispatch/dispatchlaw18.WireZeros", spec := "wireZeros", unfollowed := true, recurses := true, apart := false, narrowed := true }
def WireZerosUptoSaid : Prop := wireZerosUptoRow.holds Try.pinned (OpenSpec.upto wireZerosSpec)

/-- 'dispatchlaw18.WireAnswers', WHERE WHAT IT READS IS OF BULK AT MOST 1048576: true; the input reads as it did. -/
def wireAnswersUptoRow : OpenClaim := { program := "ytgpipheibnlkhaa", sum := "d9a8e215687322132a227b85d1db850d000894f78135a86c5824e79d54b4b342", func := "dispatch/dispatchlaw18.WireAnswers", spec := "wireAnswers", unfollowed := true, recurses := true, apart := false, narrowed := true }
def WireAnswersUptoSaid : Prop := wireAnswersUptoRow.holds Try.pinned (OpenSpec.upto wireAnswersSpec)

/-- 'dispatchlaw18.WireOutputs', WHERE WHAT IT READS IS OF BULK AT MOST 1048576: true; the input reads as it did. -/
def wireOutputsUptoRow : OpenClaim := { program := "ytgpipheibnlkhaa", sum := "d9a8e215687322132a227b85d1db850d000894f78135a86c5824e79d54b4b342", func := "dispatch/dispatchlaw18.WireOutputs", spec := "wireOutputs", unfollowed := true, recurses := true, apart := false, narrowed := true }
def WireOutputsUptoSaid : Prop := wireOutputsUptoRow.holds Try.pinned (OpenSpec.upto wireOutputsSpec)

/-- 'dispatchlaw18.WireInputs', WHERE WHAT IT READS IS OF BULK AT MOST 1048576: true; the input reads as it did. -/
def wireInputsUptoRow : OpenClaim := { program := "ytgpipheibnlkhaa", sum := "d9a8e215687322132a227b85d1db850d000894f78135a86c5824e79d54b4b342", func := "dispatch/dispatchlaw18.WireInputs", spec := "wireInputs", unfollowed := true, recurses := true, apart := false, narrowed := true }
def WireInputsUptoSaid : Prop := wireInputsUptoRow.holds Try.pinned (OpenSpec.upto wireInputsSpec)

/-- 'dispatchlaw18.WireCuts', WHERE WHAT IT READS IS OF BULK AT MOST 1048576: true; the input reads as it did. -/
def wireCutsUptoRow : OpenClaim := { program := "ytgpipheibnlkhaa", sum := "d9a8e215687322132a227b85d1db850d000894f78135a86c5824e79d54b4b342", func := "dispatch/dispatchlaw18.WireCuts", spec := "wireCuts", unfollowed := true, recurses := true, apart := false, narrowed := true }
def WireCutsUptoSaid : Prop := wireCutsUptoRow.holds Try.pinned (OpenSpec.upto wireCutsSpec)

end Rows
end Go.Proofs.Ytgpipheibnlkhaa
