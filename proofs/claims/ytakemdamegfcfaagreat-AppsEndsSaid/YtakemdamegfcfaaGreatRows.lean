/-
  No cell of these rows narrows 'for every input' (looked for: loops, veiled, ifaces, maps, wideKeys, modest, calm, conditions, laid).
  DERIVED. THE GIVEN ROWS OF THIS SEAT. 10 by the template 'for every input the law returns true; each argument reads behind the call as it read before'; 0 by the template 'total and deterministic' (their statements: YtakemdamegfcfaaGreatTotals.lean).
  GIVEN WITH THE SEED: the statements are not yours to turn. If you find one false, say at which input.
  Laid BY PROGRAM, IN A SANDBOX (cutbox-rows.mjs): the forced cells as the released guide's own fill.sh prints them over the translation 3f54c90620e354e2… (all of the seat's roots in one cut). By AI agents, Wed Nov 11 2026. No macro, syntax, notation, axiom, sorry.
-/
import Derived.Test.YtakemdamegfcfaaGreatChecked
import GoSem.Claim
import GoSem.ClaimJoined
import GoSem.ClaimMapViews
import Derived.JoinedTies
import Derived.KernelRfl
namespace Go.Proofs.YtakemdamegfcfaaGreat
/- THE CELL 'sum', in the pinned program and in every row, IS THE sha256 OF THE DUMP (.gsa) THAT YtakemdamegfcfaaGreatProg.lean LOADS. Nothing in Lean hashes anything: it is a label: what it is worth is what the hold of that sum in a sandbox is worth. -/
noncomputable def Tryz.pinned : Pinned := { name := "ytakemdamegfcfaagreat", sum := "3f54c90620e354e28c75c74f77134f431a71fec792ee6c17f8a26f59ac18d129", checked := Tryz.checked }
namespace Rows
def none {H : Type} : Left H := { results := [], args := [] }

/-- 'dispatchlaw8.NodesRegister': WHATEVER THE INPUT: true; the input reads as it did. -/
def nodesRegisterSpec : ChangeSpec := { name := "nodesRegister", fn := fun _ => fun
  | [d1, d2, d3] => { results := [.lit (.bool true)], args := [d1, d2, d3] }
  | _ => none }
def nodesRegisterRow : OpenClaim := { program := "ytakemdamegfcfaagreat", sum := "3f54c90620e354e28c75c74f77134f431a71fec792ee6c17f8a26f59ac18d129", func := "dispatch/dispatchlaw8.NodesRegister", spec := "nodesRegister", inPlace := ["slices.overlaps[dispatch/api.Node]"], unfollowed := true, recurses := true, apart := false }
def NodesRegisterSaid : Prop := nodesRegisterRow.holds Tryz.pinned (OpenSpec.ofChange nodesRegisterSpec)

/-- ITS FALSE NEIGHBOUR: 'it returns false'. Refute it at one input. -/
def nodesRegisterWrong : ChangeSpec := { name := "nodesRegister", fn := fun _ => fun
  | [d1, d2, d3] => { results := [.lit (.bool false)], args := [d1, d2, d3] }
  | _ => none }
def NodesRegisterWrongFalsely : Prop := nodesRegisterRow.holds Tryz.pinned (OpenSpec.ofChange nodesRegisterWrong)

/-- 'dispatchlaw8.NodesFree': WHATEVER THE INPUT: true; the input reads as it did. -/
def nodesFreeSpec : ChangeSpec := { name := "nodesFree", fn := fun _ => fun
  | [d] => { results := [.lit (.bool true)], args := [d] }
  | _ => none }
def nodesFreeRow : OpenClaim := { program := "ytakemdamegfcfaagreat", sum := "3f54c90620e354e28c75c74f77134f431a71fec792ee6c17f8a26f59ac18d129", func := "dispatch/dispatchlaw8.NodesFree", spec := "nodesFree", inPlace := ["slices.overlaps[dispatch/api.Node]"], unfollowed := true, recurses := true, apart := false }
def NodesFreeSaid : Prop := nodesFreeRow.holds Tryz.pinned (OpenSpec.ofChange nodesFreeSpec)

/-- ITS FALSE NEIGHBOUR: 'it returns false'. Refute it at one input. -/
def nodesFreeWrong : ChangeSpec := { name := "nodesFree", fn := fun _ => fun
  | [d] => { results := [.lit (.bool false)], args := [d] }
  | _ => none }
def NodesFreeWrongFalsely : Prop := nodesFreeRow.holds Tryz.pinned (OpenSpec.ofChange nodesFreeWrong)

/-- 'dispatchlaw8.NodesAsks': WHATEVER THE INPUT: true; the input reads as it did. -/
def nodesAsksSpec : ChangeSpec := { name := "nodesAsks", fn := fun _ => fun
  | [d1, d2, d3] => { results := [.lit (.bool true)], args := [d1, d2, d3] }
  | _ => none }
def nodesAsksRow : OpenClaim := { program := "ytakemdamegfcfaagreat", sum := "3f54c90620e354e28c75c74f77134f431a71fec792ee6c17f8a26f59ac18d129", func := "dispatch/dispatchlaw8.NodesAsks", spec := "nodesAsks", inPlace := ["slices.overlaps[dispatch/api.Node]"], unfollowed := true, recurses := true, apart := false }
def NodesAsksSaid : Prop := nodesAsksRow.holds Tryz.pinned (OpenSpec.ofChange nodesAsksSpec)

/-- ITS FALSE NEIGHBOUR: 'it returns false'. Refute it at one input. -/
def nodesAsksWrong : ChangeSpec := { name := "nodesAsks", fn := fun _ => fun
  | [d1, d2, d3] => { results := [.lit (.bool false)], args := [d1, d2, d3] }
  | _ => none }
def NodesAsksWrongFalsely : Prop := nodesAsksRow.holds Tryz.pinned (OpenSpec.ofChange nodesAsksWrong)

/-- 'dispatchlaw8.NodesBeat': WHATEVER THE INPUT: true; the input reads as it did. -/
def nodesBeatSpec : ChangeSpec := { name := "nodesBeat", fn := fun _ => fun
  | [d1, d2, d3, d4] => { results := [.lit (.bool true)], args := [d1, d2, d3, d4] }
  | _ => none }
def nodesBeatRow : OpenClaim := { program := "ytakemdamegfcfaagreat", sum := "3f54c90620e354e28c75c74f77134f431a71fec792ee6c17f8a26f59ac18d129", func := "dispatch/dispatchlaw8.NodesBeat", spec := "nodesBeat", inPlace := ["slices.overlaps[dispatch/api.Node]"], unfollowed := true, recurses := true, apart := false }
def NodesBeatSaid : Prop := nodesBeatRow.holds Tryz.pinned (OpenSpec.ofChange nodesBeatSpec)

/-- ITS FALSE NEIGHBOUR: 'it returns false'. Refute it at one input. -/
def nodesBeatWrong : ChangeSpec := { name := "nodesBeat", fn := fun _ => fun
  | [d1, d2, d3, d4] => { results := [.lit (.bool false)], args := [d1, d2, d3, d4] }
  | _ => none }
def NodesBeatWrongFalsely : Prop := nodesBeatRow.holds Tryz.pinned (OpenSpec.ofChange nodesBeatWrong)

/-- 'dispatchlaw10.AppsSubmit': WHATEVER THE INPUT: true; the input reads as it did. -/
def appsSubmitSpec : ChangeSpec := { name := "appsSubmit", fn := fun _ => fun
  | [d1, d2, d3, d4] => { results := [.lit (.bool true)], args := [d1, d2, d3, d4] }
  | _ => none }
def appsSubmitRow : OpenClaim := { program := "ytakemdamegfcfaagreat", sum := "3f54c90620e354e28c75c74f77134f431a71fec792ee6c17f8a26f59ac18d129", func := "dispatch/dispatchlaw10.AppsSubmit", spec := "appsSubmit", inPlace := ["slices.overlaps[dispatch/api.Ask]", "slices.overlaps[dispatch/api.App]"], unfollowed := true, recurses := true, apart := false }
def AppsSubmitSaid : Prop := appsSubmitRow.holds Tryz.pinned (OpenSpec.ofChange appsSubmitSpec)

/-- ITS FALSE NEIGHBOUR: 'it returns false'. Refute it at one input. -/
def appsSubmitWrong : ChangeSpec := { name := "appsSubmit", fn := fun _ => fun
  | [d1, d2, d3, d4] => { results := [.lit (.bool false)], args := [d1, d2, d3, d4] }
  | _ => none }
def AppsSubmitWrongFalsely : Prop := appsSubmitRow.holds Tryz.pinned (OpenSpec.ofChange appsSubmitWrong)

/-- 'dispatchlaw10.AppsQueue': WHATEVER THE INPUT: true; the input reads as it did. -/
def appsQueueSpec : ChangeSpec := { name := "appsQueue", fn := fun _ => fun
  | [d1, d2] => { results := [.lit (.bool true)], args := [d1, d2] }
  | _ => none }
def appsQueueRow : OpenClaim := { program := "ytakemdamegfcfaagreat", sum := "3f54c90620e354e28c75c74f77134f431a71fec792ee6c17f8a26f59ac18d129", func := "dispatch/dispatchlaw10.AppsQueue", spec := "appsQueue", inPlace := ["slices.overlaps[dispatch/api.Ask]", "slices.overlaps[dispatch/api.App]"], unfollowed := true, recurses := true, apart := false }
def AppsQueueSaid : Prop := appsQueueRow.holds Tryz.pinned (OpenSpec.ofChange appsQueueSpec)

/-- ITS FALSE NEIGHBOUR: 'it returns false'. Refute it at one input. -/
def appsQueueWrong : ChangeSpec := { name := "appsQueue", fn := fun _ => fun
  | [d1, d2] => { results := [.lit (.bool false)], args := [d1, d2] }
  | _ => none }
def AppsQueueWrongFalsely : Prop := appsQueueRow.holds Tryz.pinned (OpenSpec.ofChange appsQueueWrong)

/-- 'dispatchlaw10.AppsAsks': WHATEVER THE INPUT: true; the input reads as it did. -/
def appsAsksSpec : ChangeSpec := { name := "appsAsks", fn := fun _ => fun
  | [d1, d2, d3, d4] => { results := [.lit (.bool true)], args := [d1, d2, d3, d4] }
  | _ => none }
def appsAsksRow : OpenClaim := { program := "ytakemdamegfcfaagreat", sum := "3f54c90620e354e28c75c74f77134f431a71fec792ee6c17f8a26f59ac18d129", func := "dispatch/dispatchlaw10.AppsAsks", spec := "appsAsks", inPlace := ["slices.overlaps[dispatch/api.Ask]", "slices.overlaps[dispatch/api.App]"], unfollowed := true, recurses := true, apart := false }
def AppsAsksSaid : Prop := appsAsksRow.holds Tryz.pinned (OpenSpec.ofChange appsAsksSpec)

/-- ITS FALSE NEIGHBOUR: 'it returns false'. Refute it at one input. -/
def appsAsksWrong : ChangeSpec := { name := "appsAsks", fn := fun _ => fun
  | [d1, d2, d3, d4] => { results := [.lit (.bool false)], args := [d1, d2, d3, d4] }
  | _ => none }
def AppsAsksWrongFalsely : Prop := appsAsksRow.holds Tryz.pinned (OpenSpec.ofChange appsAsksWrong)

/-- 'dispatchlaw10.AppsEnds': WHATEVER THE INPUT: true; the input reads as it did. -/
def appsEndsSpec : ChangeSpec := { name := "appsEnds", fn := fun _ => fun
  | [d1, d2, d3] => { results := [.lit (.bool true)], args := [d1, d2, d3] }
  | _ => none }
def appsEndsRow : OpenClaim := { program := "ytakemdamegfcfaagreat", sum := "3f54c90620e354e28c75c74f77134f431a71fec792ee6c17f8a26f59ac18d129", func := "dispatch/dispatchlaw10.AppsEnds", spec := "appsEnds", inPlace := ["slices.overlaps[dispatch/api.Ask]", "slices.overlaps[dispatch/api.App]"], unfollowed := true, recurses := true, apart := false }
def AppsEndsSaid : Prop := appsEndsRow.holds Tryz.pinned (OpenSpec.ofChange appsEndsSpec)

/-- ITS FALSE NEIGHBOUR: 'it returns false'. Refute it at one input. -/
def appsEndsWrong : ChangeSpec := { name := "appsEnds", fn := fun _ => fun
  | [d1, d2, d3] => { results := [.lit (.bool false)], args := [d1, d2, d3] }
  | _ => none }
def AppsEndsWrongFalsely : Prop := appsEndsRow.holds Tryz.pinned (OpenSpec.ofChange appsEndsWrong)

/-- 'dispatchlaw10.AppsLost': WHATEVER THE INPUT: true; the input reads as it did. -/
def appsLostSpec : ChangeSpec := { name := "appsLost", fn := fun _ => fun
  | [d1, d2] => { results := [.lit (.bool true)], args := [d1, d2] }
  | _ => none }
def appsLostRow : OpenClaim := { program := "ytakemdamegfcfaagreat", sum := "3f54c90620e354e28c75c74f77134f431a71fec792ee6c17f8a26f59ac18d129", func := "dispatch/dispatchlaw10.AppsLost", spec := "appsLost", inPlace := ["slices.overlaps[dispatch/api.Ask]", "slices.overlaps[dispatch/api.App]"], unfollowed := true, recurses := true, apart := false }
def AppsLostSaid : Prop := appsLostRow.holds Tryz.pinned (OpenSpec.ofChange appsLostSpec)

/-- ITS FALSE NEIGHBOUR: 'it returns false'. Refute it at one input. -/
def appsLostWrong : ChangeSpec := { name := "appsLost", fn := fun _ => fun
  | [d1, d2] => { results := [.lit (.bool false)], args := [d1, d2] }
  | _ => none }
def AppsLostWrongFalsely : Prop := appsLostRow.holds Tryz.pinned (OpenSpec.ofChange appsLostWrong)

/-- 'dispatchlaw10.AppsEnd': WHATEVER THE INPUT: true; the input reads as it did. -/
def appsEndSpec : ChangeSpec := { name := "appsEnd", fn := fun _ => fun
  | [d1, d2, d3, d4, d5] => { results := [.lit (.bool true)], args := [d1, d2, d3, d4, d5] }
  | _ => none }
def appsEndRow : OpenClaim := { program := "ytakemdamegfcfaagreat", sum := "3f54c90620e354e28c75c74f77134f431a71fec792ee6c17f8a26f59ac18d129", func := "dispatch/dispatchlaw10.AppsEnd", spec := "appsEnd", inPlace := ["slices.overlaps[dispatch/api.Ask]", "slices.overlaps[dispatch/api.App]"], unfollowed := true, recurses := true, apart := false }
def AppsEndSaid : Prop := appsEndRow.holds Tryz.pinned (OpenSpec.ofChange appsEndSpec)

/-- ITS FALSE NEIGHBOUR: 'it returns false'. Refute it at one input. -/
def appsEndWrong : ChangeSpec := { name := "appsEnd", fn := fun _ => fun
  | [d1, d2, d3, d4, d5] => { results := [.lit (.bool false)], args := [d1, d2, d3, d4, d5] }
  | _ => none }
def AppsEndWrongFalsely : Prop := appsEndRow.holds Tryz.pinned (OpenSpec.ofChange appsEndWrong)

/- THE SECOND FORM. 'bulk': how many values and letters a reading holds, each counted each time it is reached (what is shared counts as often as it is met; a slice's spare places count too). A statement '..UptoSaid' is the law's where the arguments, and the package variables that the reading takes, are together of bulk at most 1048576: NARROWER than '..Said'. Prove '..Said' where nothing that the law and all that it calls make is longer than what came in: it says more and counts as full. Else prove '..UptoSaid'. A law counts once. -/
mutual
def uptoBulk {H : Type} : DataW H → Nat
  | .lit (.string bytes) => bytes.length + 1
  | .lit _ => 1
  | .nil => 1
  | .ptr d => uptoBulk d + 1
  | .slice elems spare => uptoBulkAll elems + uptoBulkAll spare + 1
  | .agg parts => uptoBulkAll parts + 1
  | .iface _ d => uptoBulk d + 1
  | .map entries => uptoBulkEntries entries + 1
  | .held _ => 1
def uptoBulkAll {H : Type} : List (DataW H) → Nat
  | [] => 0
  | d :: r => uptoBulk d + uptoBulkAll r
def uptoBulkEntries {H : Type} : List (Lit × DataW H) → Nat
  | [] => 0
  | x :: r => uptoBulkEntry x + uptoBulkEntries r
def uptoBulkEntry {H : Type} : Lit × DataW H → Nat
  | (.string bytes, d) => bytes.length + uptoBulk d + 1
  | (_, d) => uptoBulk d + 1
 end
def uptoSmall : (H : Type) → List (DataW H) → Bool := fun _ ds => decide (uptoBulkAll ds ≤ 1048576)
def OpenSpec.upto (s : _root_.Go.ChangeSpec) : _root_.Go.OpenSpec := { _root_.Go.OpenSpec.ofChange s with cond := some uptoSmall }

/-- 'dispatchlaw8.NodesRegister', WHERE WHAT IT READS IS OF BULK AT MOST 1048576: true; the input reads as it did. -/
def nodesRegisterUptoRow : OpenClaim := { program := "ytakemdamegfcfaagreat", sum := "3f54c90620e354e28c75c74f77134f431a71fec792ee6c17f8a26f59ac18d129", func := "dispatch/dispatchlaw8.NodesRegister", spec := "nodesRegister", inPlace := ["slices.overlaps[dispatch/api.Node]"], unfollowed := true, recurses := true, apart := false, narrowed := true }
def NodesRegisterUptoSaid : Prop := nodesRegisterUptoRow.holds Tryz.pinned (OpenSpec.upto nodesRegisterSpec)

/-- 'dispatchlaw8.NodesFree', WHERE WHAT IT READS IS OF BULK AT MOST 1048576: true; the input reads as it did. -/
def nodesFreeUptoRow : OpenClaim := { program := "ytakemdamegfcfaagreat", sum := "3f54c90620e354e28c75c74f77134f431a71fec792ee6c17f8a26f59ac18d129", func := "dispatch/dispatchlaw8.NodesFree", spec := "nodesFree", inPlace := ["slices.overlaps[dispatch/api.Node]"], unfollowed := true, recurses := true, apart := false, narrowed := true }
def NodesFreeUptoSaid : Prop := nodesFreeUptoRow.holds Tryz.pinned (OpenSpec.upto nodesFreeSpec)

/-- 'dispatchlaw8.NodesAsks', WHERE WHAT IT READS IS OF BULK AT MOST 1048576: true; the input reads as it did. -/
def nodesAsksUptoRow : OpenClaim := { program := "ytakemdamegfcfaagreat", sum := "3f54c90620e354e28c75c74f77134f431a71fec792ee6c17f8a26f59ac18d129", func := "dispatch/dispatchlaw8.NodesAsks", spec := "nodesAsks", inPlace := ["slices.overlaps[dispatch/api.Node]"], unfollowed := true, recurses := true, apart := false, narrowed := true }
def NodesAsksUptoSaid : Prop := nodesAsksUptoRow.holds Tryz.pinned (OpenSpec.upto nodesAsksSpec)

/-- 'dispatchlaw8.NodesBeat', WHERE WHAT IT READS IS OF BULK AT MOST 1048576: true; the input reads as it did. -/
def nodesBeatUptoRow : OpenClaim := { program := "ytakemdamegfcfaagreat", sum := "3f54c90620e354e28c75c74f77134f431a71fec792ee6c17f8a26f59ac18d129", func := "dispatch/dispatchlaw8.NodesBeat", spec := "nodesBeat", inPlace := ["slices.overlaps[dispatch/api.Node]"], unfollowed := true, recurses := true, apart := false, narrowed := true }
def NodesBeatUptoSaid : Prop := nodesBeatUptoRow.holds Tryz.pinned (OpenSpec.upto nodesBeatSpec)

/-- 'dispatchlaw10.AppsSubmit', WHERE WHAT IT READS IS OF BULK AT MOST 1048576: true; the input reads as it did. -/
def appsSubmitUptoRow : OpenClaim := { program := "ytakemdamegfcfaagreat", sum := "3f54c90620e354e28c75c74f77134f431a71fec792ee6c17f8a26f59ac18d129", func := "dispatch/dispatchlaw10.AppsSubmit", spec := "appsSubmit", inPlace := ["slices.overlaps[dispatch/api.Ask]", "slices.overlaps[dispatch/api.App]"], unfollowed := true, recurses := true, apart := false, narrowed := true }
def AppsSubmitUptoSaid : Prop := appsSubmitUptoRow.holds Tryz.pinned (OpenSpec.upto appsSubmitSpec)

/-- 'dispatchlaw10.AppsQueue', WHERE WHAT IT READS IS OF BULK AT MOST 1048576: true; the input reads as it did. -/
def appsQueueUptoRow : OpenClaim := { program := "ytakemdamegfcfaagreat", sum := "3f54c90620e354e28c75c74f77134f431a71fec792ee6c17f8a26f59ac18d129", func := "dispatch/dispatchlaw10.AppsQueue", spec := "appsQueue", inPlace := ["slices.overlaps[dispatch/api.Ask]", "slices.overlaps[dispatch/api.App]"], unfollowed := true, recurses := true, apart := false, narrowed := true }
def AppsQueueUptoSaid : Prop := appsQueueUptoRow.holds Tryz.pinned (OpenSpec.upto appsQueueSpec)

/-- 'dispatchlaw10.AppsAsks', WHERE WHAT IT READS IS OF BULK AT MOST 1048576: true; the input reads as it did. -/
def appsAsksUptoRow : OpenClaim := { program := "ytakemdamegfcfaagreat", sum := "3f54c90620e354e28c75c74f77134f431a71fec792ee6c17f8a26f59ac18d129", func := "dispatch/dispatchlaw10.AppsAsks", spec := "appsAsks", inPlace := ["slices.overlaps[dispatch/api.Ask]", "slices.overlaps[dispatch/api.App]"], unfollowed := true, recurses := true, apart := false, narrowed := true }
def AppsAsksUptoSaid : Prop := appsAsksUptoRow.holds Tryz.pinned (OpenSpec.upto appsAsksSpec)

/-- 'dispatchlaw10.AppsEnds', WHERE WHAT IT READS IS OF BULK AT MOST 1048576: true; the input reads as it did. -/
def appsEndsUptoRow : OpenClaim := { program := "ytakemdamegfcfaagreat", sum := "3f54c90620e354e28c75c74f77134f431a71fec792ee6c17f8a26f59ac18d129", func := "dispatch/dispatchlaw10.AppsEnds", spec := "appsEnds", inPlace := ["slices.overlaps[dispatch/api.Ask]", "slices.overlaps[dispatch/api.App]"], unfollowed := true, recurses := true, apart := false, narrowed := true }
def AppsEndsUptoSaid : Prop := appsEndsUptoRow.holds Tryz.pinned (OpenSpec.upto appsEndsSpec)

/-- 'dispatchlaw10.AppsLost', WHERE WHAT IT READS IS OF BULK AT MOST 1048576: true; the input reads as it did. -/
def appsLostUptoRow : OpenClaim := { program := "ytakemdamegfcfaagreat", sum := "3f54c90620e354e28c75c74f77134f431a71fec792ee6c17f8a26f59ac18d129", func := "dispatch/dispatchlaw10.AppsLost", spec := "appsLost", inPlace := ["slices.overlaps[dispatch/api.Ask]", "slices.overlaps[dispatch/api.App]"], unfollowed := true, recurses := true, apart := false, narrowed := true }
def AppsLostUptoSaid : Prop := appsLostUptoRow.holds Tryz.pinned (OpenSpec.upto appsLostSpec)

/-- 'dispatchlaw10.AppsEnd', WHERE WHAT IT READS IS OF BULK AT MOST 1048576: true; the input reads as it did. -/
def appsEndUptoRow : OpenClaim := { program := "ytakemdamegfcfaagreat", sum := "3f54c90620e354e28c75c74f77134f431a71fec792ee6c17f8a26f59ac18d129", func := "dispatch/dispatchlaw10.AppsEnd", spec := "appsEnd", inPlace := ["slices.overlaps[dispatch/api.Ask]", "slices.overlaps[dispatch/api.App]"], unfollowed := true, recurses := true, apart := false, narrowed := true }
def AppsEndUptoSaid : Prop := appsEndUptoRow.holds Tryz.pinned (OpenSpec.upto appsEndSpec)

end Rows
end Go.Proofs.YtakemdamegfcfaaGreat
