/-
  No cell of these rows narrows 'for every input' (looked for: loops, veiled, ifaces, maps, wideKeys, modest, calm, conditions, laid).
  DERIVED. THE GIVEN ROWS OF THIS SEAT. 4 by the template 'for every input the law returns true; each argument reads behind the call as it read before'; 0 by the template 'total and deterministic' (their statements: YtlgdinihbomlpaaTotals.lean).
  GIVEN WITH THE SEED: the statements are not yours to turn. If you find one false, say at which input.
  Laid BY PROGRAM, IN A SANDBOX (cutbox-rows.mjs): the forced cells as the released guide's own fill.sh prints them over the translation cfb95cec75ae8cee… (all of the seat's roots in one cut). By AI agents, Wed Nov 11 2026. No macro, syntax, notation, axiom, sorry.
-/
import Derived.Test.YtlgdinihbomlpaaChecked
import GoSem.Claim
import GoSem.ClaimJoined
import GoSem.ClaimMapViews
import Derived.JoinedTies
import Derived.KernelRfl
namespace Go.Proofs.Ytlgdinihbomlpaa
/- THE CELL 'sum', in the pinned program and in every row, IS THE sha256 OF THE DUMP (.gsa) THAT YtlgdinihbomlpaaProg.lean LOADS. Nothing in Lean hashes anything: it is a label: what it is worth is what the hold of that sum in a sandbox is worth. -/
noncomputable def Try.pinned : Pinned := { name := "ytlgdinihbomlpaa", sum := "cfb95cec75ae8ceeeb96dcb5d918c8664045cf09419062432aa35dc139ad7804", checked := Try.checked }
namespace Rows
def none {H : Type} : Left H := { results := [], args := [] }

/-- 'dispatchlaw8.NodesMany': WHATEVER THE INPUT: true; the input reads as it did. -/
def nodesManySpec : ChangeSpec := { name := "nodesMany", fn := fun _ => fun
  | [d1, d2] => { results := [.lit (.bool true)], args := [d1, d2] }
  | _ => none }
def nodesManyRow : OpenClaim := { program := "ytlgdinihbomlpaa", sum := "cfb95cec75ae8ceeeb96dcb5d918c8664045cf09419062432aa35dc139ad7804", func := "dispatch/dispatchlaw8.NodesMany", spec := "nodesMany", inPlace := ["slices.overlaps[dispatch/api.Node]"], unfollowed := true, recurses := true, apart := false }
def NodesManySaid : Prop := nodesManyRow.holds Try.pinned (OpenSpec.ofChange nodesManySpec)

/-- ITS FALSE NEIGHBOUR: 'it returns false'. Refute it at one input. -/
def nodesManyWrong : ChangeSpec := { name := "nodesMany", fn := fun _ => fun
  | [d1, d2] => { results := [.lit (.bool false)], args := [d1, d2] }
  | _ => none }
def NodesManyWrongFalsely : Prop := nodesManyRow.holds Try.pinned (OpenSpec.ofChange nodesManyWrong)

/-- 'dispatchlaw8.NodesLife': WHATEVER THE INPUT: true; the input reads as it did. -/
def nodesLifeSpec : ChangeSpec := { name := "nodesLife", fn := fun _ => fun
  | [d1, d2, d3] => { results := [.lit (.bool true)], args := [d1, d2, d3] }
  | _ => none }
def nodesLifeRow : OpenClaim := { program := "ytlgdinihbomlpaa", sum := "cfb95cec75ae8ceeeb96dcb5d918c8664045cf09419062432aa35dc139ad7804", func := "dispatch/dispatchlaw8.NodesLife", spec := "nodesLife", inPlace := ["slices.overlaps[dispatch/api.Node]"], unfollowed := true, recurses := true, apart := false }
def NodesLifeSaid : Prop := nodesLifeRow.holds Try.pinned (OpenSpec.ofChange nodesLifeSpec)

/-- ITS FALSE NEIGHBOUR: 'it returns false'. Refute it at one input. -/
def nodesLifeWrong : ChangeSpec := { name := "nodesLife", fn := fun _ => fun
  | [d1, d2, d3] => { results := [.lit (.bool false)], args := [d1, d2, d3] }
  | _ => none }
def NodesLifeWrongFalsely : Prop := nodesLifeRow.holds Try.pinned (OpenSpec.ofChange nodesLifeWrong)

/-- 'dispatchlaw8.NodesStale': WHATEVER THE INPUT: true; the input reads as it did. -/
def nodesStaleSpec : ChangeSpec := { name := "nodesStale", fn := fun _ => fun
  | [d1, d2] => { results := [.lit (.bool true)], args := [d1, d2] }
  | _ => none }
def nodesStaleRow : OpenClaim := { program := "ytlgdinihbomlpaa", sum := "cfb95cec75ae8ceeeb96dcb5d918c8664045cf09419062432aa35dc139ad7804", func := "dispatch/dispatchlaw8.NodesStale", spec := "nodesStale", inPlace := ["slices.overlaps[dispatch/api.Node]"], unfollowed := true, recurses := true, apart := false }
def NodesStaleSaid : Prop := nodesStaleRow.holds Try.pinned (OpenSpec.ofChange nodesStaleSpec)

/-- ITS FALSE NEIGHBOUR: 'it returns false'. Refute it at one input. -/
def nodesStaleWrong : ChangeSpec := { name := "nodesStale", fn := fun _ => fun
  | [d1, d2] => { results := [.lit (.bool false)], args := [d1, d2] }
  | _ => none }
def NodesStaleWrongFalsely : Prop := nodesStaleRow.holds Try.pinned (OpenSpec.ofChange nodesStaleWrong)

/-- 'dispatchlaw8.NodesBack': WHATEVER THE INPUT: true; the input reads as it did. -/
def nodesBackSpec : ChangeSpec := { name := "nodesBack", fn := fun _ => fun
  | [d1, d2, d3] => { results := [.lit (.bool true)], args := [d1, d2, d3] }
  | _ => none }
def nodesBackRow : OpenClaim := { program := "ytlgdinihbomlpaa", sum := "cfb95cec75ae8ceeeb96dcb5d918c8664045cf09419062432aa35dc139ad7804", func := "dispatch/dispatchlaw8.NodesBack", spec := "nodesBack", inPlace := ["slices.overlaps[dispatch/api.Node]"], unfollowed := true, recurses := true, apart := false }
def NodesBackSaid : Prop := nodesBackRow.holds Try.pinned (OpenSpec.ofChange nodesBackSpec)

/-- ITS FALSE NEIGHBOUR: 'it returns false'. Refute it at one input. -/
def nodesBackWrong : ChangeSpec := { name := "nodesBack", fn := fun _ => fun
  | [d1, d2, d3] => { results := [.lit (.bool false)], args := [d1, d2, d3] }
  | _ => none }
def NodesBackWrongFalsely : Prop := nodesBackRow.holds Try.pinned (OpenSpec.ofChange nodesBackWrong)

/- THE SECOND FORM. 'bulk': how many values and letters a reading holds, each counted each time it is reached (what is shared counts as often as it is met; a slice's spare places count too). A statement '..UptoSaid' is the law's where the arguments, and the package variables that the reading takes, are together of bulk at most 1048576: NARROWER than '..Said'. Prove '..Said' where nothing that the law and all that it calls make is longer than what came in: it says more and counts as full. Else prove '..UptoSaid'. A law counts once. -/
mutual
def uptoBulk {H : Type} : DataW H → Nat
  | .lit (.string bytes) => bytes.length + 1
  | .lit _ => 1
  | .nil => 1
  | .ptr d => uptoBulk d + 1
  | .slice elems spare => uptoBulkAll elems + uptoBulkAll spare + 1
  | .agg parts => uptoBulkAll parts + 1
  | .iface _ d => uptoBulk d + 1
  | .map entries => uptoBulkEntries entries + 1
  | .held _ => 1
def uptoBulkAll {H : Type} : List (DataW H) → Nat
  | [] => 0
  | d :: r => uptoBulk d + uptoBulkAll r
def uptoBulkEntries {H : Type} : List (Lit × DataW H) → Nat
  | [] => 0
  | x :: r => uptoBulkEntry x + uptoBulkEntries r
def uptoBulkEntry {H : Type} : Lit × DataW H → Nat
  | (.string bytes, d) => bytes.length + uptoBulk d + 1
  | (_, d) => uptoBulk d + 1
 end
def uptoSmall : (H : Type) → List (DataW H) → Bool := fun _ ds => decide (uptoBulkAll ds ≤ 1048576)
def OpenSpec.upto (s : _root_.Go.ChangeSpec) : _root_.Go.OpenSpec := { _root_.Go.OpenSpec.ofChange s with cond := some uptoSmall }

/-- 'dispatchlaw8.NodesMany', WHERE WHAT IT READS IS OF BULK AT MOST 1048576: true; the input reads as it did. -/
def nodesManyUptoRow : OpenClaim := { program := "ytlgdinihbomlpaa", sum := "cfb95cec75ae8ceeeb96dcb5d918c8664045cf09419062432aa35dc139ad7804", func := "dispatch/dispatchlaw8.NodesMany", spec := "nodesMany", inPlace := ["slices.overlaps[dispatch/api.Node]"], unfollowed := true, recurses := true, apart := false, narrowed := true }
def NodesManyUptoSaid : Prop := nodesManyUptoRow.holds Try.pinned (OpenSpec.upto nodesManySpec)

/-- 'dispatchlaw8.NodesLife', WHERE WHAT IT READS IS OF BULK AT MOST 1048576: true; the input reads as it did. -/
def nodesLifeUptoRow : OpenClaim := { program := "ytlgdinihbomlpaa", sum := "cfb95cec75ae8ceeeb96dcb5d918c8664045cf09419062432aa35dc139ad7804", func := "dispatch/dispatchlaw8.NodesLife", spec := "nodesLife", inPlace := ["slices.overlaps[dispatch/api.Node]"], unfollowed := true, recurses := true, apart := false, narrowed := true }
def NodesLifeUptoSaid : Prop := nodesLifeUptoRow.holds Try.pinned (OpenSpec.upto nodesLifeSpec)

/-- 'dispatchlaw8.NodesStale', WHERE WHAT IT READS IS OF BULK AT MOST 1048576: true; the input reads as it did. -/
def nodesStaleUptoRow : OpenClaim := { program := "ytlgdinihbomlpaa", sum := "cfb95cec75ae8ceeeb96dcb5d918c8664045cf09419062432aa35dc139ad7804", func := "dispatch/dispatchlaw8.NodesStale", spec := "nodesStale", inPlace := ["slices.overlaps[dispatch/api.Node]"], unfollowed := true, recurses := true, apart := false, narrowed := true }
def NodesStaleUptoSaid : Prop := nodesStaleUptoRow.holds Try.pinned (OpenSpec.upto nodesStaleSpec)

/-- 'dispatchlaw8.NodesBack', WHERE WHAT IT READS IS OF BULK AT MOST 1048576: true; the input reads as it did. -/
def nodesBackUptoRow : OpenClaim := { program := "ytlgdinihbomlpaa", sum := "cfb95cec75ae8ceeeb96dcb5d918c8664045cf09419062432aa35dc139ad7804", func := "dispatch/dispatchlaw8.NodesBack", spec := "nodesBack", inPlace := ["slices.overlaps[dispatch/api.Node]"], unfollowed := true, recurses := true, apart := false, narrowed := true }
def NodesBackUptoSaid : Prop := nodesBackUptoRow.holds Try.pinned (OpenSpec.upto nodesBackSpec)

end Rows
end Go.Proofs.Ytlgdinihbomlpaa
