/-
  No cell of these rows narrows 'for every input' (looked for: loops, veiled, ifaces, maps, wideKeys, modest, calm, conditions, laid).
  DERIVED. THE GIVEN ROWS OF THIS SEAT. 5 by the template 'for every input the law returns true; each argument reads behind the call as it read before'; 0 by the template 'total and deterministic' (their statements: YtglimfdofgadjaaTotals.lean).
  GIVEN WITH THE SEED: the statements are not yours to turn. If you find one false, say at which input.
  Laid BY PROGRAM, IN A SANDBOX (cutbox-rows.mjs): the forced cells as the released guide's own fill.sh prints them over the translation 8c17db3bdfc3c1c0… (all of the seat's roots in one cut). By AI agents, Wed Nov 11 2026. No macro, syntax, notation, axiom, sorry.
-/
import Derived.Test.YtglimfdofgadjaaChecked
import GoSem.Claim
import GoSem.ClaimJoined
import GoSem.ClaimMapViews
import Derived.JoinedTies
import Derived.KernelRfl
namespace Go.Proofs.Ytglimfdofgadjaa
/- THE CELL 'sum', in the pinned program and in every row, IS THE sha256 OF THE DUMP (.gsa) THAT YtglimfdofgadjaaProg.lean LOADS. Nothing in Lean hashes anything: it is a label: what it is worth is what the hold of that sum in a sandbox is worth. -/
noncomputable def Try.pinned : Pinned := { name := "ytglimfdofgadjaa", sum := "8c17db3bdfc3c1c0cd1d30dadb6f30173998a1559af97e0ae749cecacb8c166a", checked := Try.checked }
namespace Rows
def none {H : Type} : Left H := { results := [], args := [] }

/-- 'dispatchlaw9.AsksOrder': WHATEVER THE INPUT: true; the input reads as it did. -/
def asksOrderSpec : ChangeSpec := { name := "asksOrder", fn := fun _ => fun
  | [d1, d2, d3] => { results := [.lit (.bool true)], args := [d1, d2, d3] }
  | _ => none }
def asksOrderRow : OpenClaim := { program := "ytglimfdofgadjaa", sum := "8c17db3bdfc3c1c0cd1d30dadb6f30173998a1559af97e0ae749cecacb8c166a", func := "dispatch/dispatchlaw9.AsksOrder", spec := "asksOrder", inPlace := ["slices.overlaps[dispatch/api.Ask]"], unfollowed := true, recurses := true, apart := false }
def AsksOrderSaid : Prop := asksOrderRow.holds Try.pinned (OpenSpec.ofChange asksOrderSpec)

/-- ITS FALSE NEIGHBOUR: 'it returns false'. Refute it at one input. -/
def asksOrderWrong : ChangeSpec := { name := "asksOrder", fn := fun _ => fun
  | [d1, d2, d3] => { results := [.lit (.bool false)], args := [d1, d2, d3] }
  | _ => none }
def AsksOrderWrongFalsely : Prop := asksOrderRow.holds Try.pinned (OpenSpec.ofChange asksOrderWrong)

/-- 'dispatchlaw9.AsksPending': WHATEVER THE INPUT: true; the input reads as it did. -/
def asksPendingSpec : ChangeSpec := { name := "asksPending", fn := fun _ => fun
  | [d1, d2] => { results := [.lit (.bool true)], args := [d1, d2] }
  | _ => none }
def asksPendingRow : OpenClaim := { program := "ytglimfdofgadjaa", sum := "8c17db3bdfc3c1c0cd1d30dadb6f30173998a1559af97e0ae749cecacb8c166a", func := "dispatch/dispatchlaw9.AsksPending", spec := "asksPending", inPlace := ["slices.overlaps[dispatch/api.Ask]"], unfollowed := true, recurses := true, apart := false }
def AsksPendingSaid : Prop := asksPendingRow.holds Try.pinned (OpenSpec.ofChange asksPendingSpec)

/-- ITS FALSE NEIGHBOUR: 'it returns false'. Refute it at one input. -/
def asksPendingWrong : ChangeSpec := { name := "asksPending", fn := fun _ => fun
  | [d1, d2] => { results := [.lit (.bool false)], args := [d1, d2] }
  | _ => none }
def AsksPendingWrongFalsely : Prop := asksPendingRow.holds Try.pinned (OpenSpec.ofChange asksPendingWrong)

/-- 'dispatchlaw9.AsksAlone': WHATEVER THE INPUT: true; the input reads as it did. -/
def asksAloneSpec : ChangeSpec := { name := "asksAlone", fn := fun _ => fun
  | [d1, d2, d3] => { results := [.lit (.bool true)], args := [d1, d2, d3] }
  | _ => none }
def asksAloneRow : OpenClaim := { program := "ytglimfdofgadjaa", sum := "8c17db3bdfc3c1c0cd1d30dadb6f30173998a1559af97e0ae749cecacb8c166a", func := "dispatch/dispatchlaw9.AsksAlone", spec := "asksAlone", inPlace := ["slices.overlaps[dispatch/api.Ask]"], unfollowed := true, recurses := true, apart := false }
def AsksAloneSaid : Prop := asksAloneRow.holds Try.pinned (OpenSpec.ofChange asksAloneSpec)

/-- ITS FALSE NEIGHBOUR: 'it returns false'. Refute it at one input. -/
def asksAloneWrong : ChangeSpec := { name := "asksAlone", fn := fun _ => fun
  | [d1, d2, d3] => { results := [.lit (.bool false)], args := [d1, d2, d3] }
  | _ => none }
def AsksAloneWrongFalsely : Prop := asksAloneRow.holds Try.pinned (OpenSpec.ofChange asksAloneWrong)

/-- 'dispatchlaw9.AsksPlay': WHATEVER THE INPUT: true; the input reads as it did. -/
def asksPlaySpec : ChangeSpec := { name := "asksPlay", fn := fun _ => fun
  | [d1, d2] => { results := [.lit (.bool true)], args := [d1, d2] }
  | _ => none }
def asksPlayRow : OpenClaim := { program := "ytglimfdofgadjaa", sum := "8c17db3bdfc3c1c0cd1d30dadb6f30173998a1559af97e0ae749cecacb8c166a", func := "dispatch/dispatchlaw9.AsksPlay", spec := "asksPlay", inPlace := ["slices.overlaps[dispatch/api.Ask]"], unfollowed := true, recurses := true, apart := false }
def AsksPlaySaid : Prop := asksPlayRow.holds Try.pinned (OpenSpec.ofChange asksPlaySpec)

/-- ITS FALSE NEIGHBOUR: 'it returns false'. Refute it at one input. -/
def asksPlayWrong : ChangeSpec := { name := "asksPlay", fn := fun _ => fun
  | [d1, d2] => { results := [.lit (.bool false)], args := [d1, d2] }
  | _ => none }
def AsksPlayWrongFalsely : Prop := asksPlayRow.holds Try.pinned (OpenSpec.ofChange asksPlayWrong)

/-- 'dispatchlaw9.AsksTake': WHATEVER THE INPUT: true; the input reads as it did. -/
def asksTakeSpec : ChangeSpec := { name := "asksTake", fn := fun _ => fun
  | [d1, d2, d3] => { results := [.lit (.bool true)], args := [d1, d2, d3] }
  | _ => none }
def asksTakeRow : OpenClaim := { program := "ytglimfdofgadjaa", sum := "8c17db3bdfc3c1c0cd1d30dadb6f30173998a1559af97e0ae749cecacb8c166a", func := "dispatch/dispatchlaw9.AsksTake", spec := "asksTake", inPlace := ["slices.overlaps[dispatch/api.Ask]"], unfollowed := true, recurses := true, apart := false }
def AsksTakeSaid : Prop := asksTakeRow.holds Try.pinned (OpenSpec.ofChange asksTakeSpec)

/-- ITS FALSE NEIGHBOUR: 'it returns false'. Refute it at one input. -/
def asksTakeWrong : ChangeSpec := { name := "asksTake", fn := fun _ => fun
  | [d1, d2, d3] => { results := [.lit (.bool false)], args := [d1, d2, d3] }
  | _ => none }
def AsksTakeWrongFalsely : Prop := asksTakeRow.holds Try.pinned (OpenSpec.ofChange asksTakeWrong)

/- THE SECOND FORM. 'bulk': how many values and letters a reading holds, each counted each time it is reached (what is shared counts as often as it is met; a slice's spare places count too). A statement '..UptoSaid' is the law's where the arguments, and the package variables that the reading takes, are together of bulk at most 1048576: NARROWER than '..Said'. Prove '..Said' where nothing that the law and all that it calls make is longer than what came in: it says more and counts as full. Else prove '..UptoSaid'. A law counts once. -/
mutual
def uptoBulk {H : Type} : DataW H → Nat
  | .lit (.string bytes) => bytes.length + 1
  | .lit _ => 1
  | .nil => 1
  | .ptr d => uptoBulk d + 1
  | .slice elems spare => uptoBulkAll elems + uptoBulkAll spare + 1
  | .agg parts => uptoBulkAll parts + 1
  | .iface _ d => uptoBulk d + 1
  | .map entries => uptoBulkEntries entries + 1
  | .held _ => 1
def uptoBulkAll {H : Type} : List (DataW H) → Nat
  | [] => 0
  | d :: r => uptoBulk d + uptoBulkAll r
def uptoBulkEntries {H : Type} : List (Lit × DataW H) → Nat
  | [] => 0
  | x :: r => uptoBulkEntry x + uptoBulkEntries r
def uptoBulkEntry {H : Type} : Lit × DataW H → Nat
  | (.string bytes, d) => bytes.length + uptoBulk d + 1
  | (_, d) => uptoBulk d + 1
 end
def uptoSmall : (H : Type) → List (DataW H) → Bool := fun _ ds => decide (uptoBulkAll ds ≤ 1048576)
def OpenSpec.upto (s : _root_.Go.ChangeSpec) : _root_.Go.OpenSpec := { _root_.Go.OpenSpec.ofChange s with cond := some uptoSmall }

/-- 'dispatchlaw9.AsksOrder', WHERE WHAT IT READS IS OF BULK AT MOST 1048576: true; the input reads as it did. -/
def asksOrderUptoRow : OpenClaim := { program := "ytglimfdofgadjaa", sum := "8c17db3bdfc3c1c0cd1d30dadb6f30173998a1559af97e0ae749cecacb8c166a", func := "dispatch/dispatchlaw9.AsksOrder", spec := "asksOrder", inPlace := ["slices.overlaps[dispatch/api.Ask]"], unfollowed := true, recurses := true, apart := false, narrowed := true }
def AsksOrderUptoSaid : Prop := asksOrderUptoRow.holds Try.pinned (OpenSpec.upto asksOrderSpec)

/-- 'dispatchlaw9.AsksPending', WHERE WHAT IT READS IS OF BULK AT MOST 1048576: true; the input reads as it did. -/
def asksPendingUptoRow : OpenClaim := { program := "ytglimfdofgadjaa", sum := "8c17db3bdfc3c1c0cd1d30dadb6f30173998a1559af97e0ae749cecacb8c166a", func := "dispatch/dispatchlaw9.AsksPending", spec := "asksPending", inPlace := ["slices.overlaps[dispatch/api.Ask]"], unfollowed := true, recurses := true, apart := false, narrowed := true }
def AsksPendingUptoSaid : Prop := asksPendingUptoRow.holds Try.pinned (OpenSpec.upto asksPendingSpec)

/-- 'dispatchlaw9.AsksAlone', WHERE WHAT IT READS IS OF BULK AT MOST 1048576: true; the input reads as it did. -/
def asksAloneUptoRow : OpenClaim := { program := "ytglimfdofgadjaa", sum := "8c17db3bdfc3c1c0cd1d30dadb6f30173998a1559af97e0ae749cecacb8c166a", func := "dispatch/dispatchlaw9.AsksAlone", spec := "asksAlone", inPlace := ["slices.overlaps[dispatch/api.Ask]"], unfollowed := true, recurses := true, apart := false, narrowed := true }
def AsksAloneUptoSaid : Prop := asksAloneUptoRow.holds Try.pinned (OpenSpec.upto asksAloneSpec)

/-- 'dispatchlaw9.AsksPlay', WHERE WHAT IT READS IS OF BULK AT MOST 1048576: true; the input reads as it did. -/
def asksPlayUptoRow : OpenClaim := { program := "ytglimfdofgadjaa", sum := "8c17db3bdfc3c1c0cd1d30dadb6f30173998a1559af97e0ae749cecacb8c166a", func := "dispatch/dispatchlaw9.AsksPlay", spec := "asksPlay", inPlace := ["slices.overlaps[dispatch/api.Ask]"], unfollowed := true, recurses := true, apart := false, narrowed := true }
def AsksPlayUptoSaid : Prop := asksPlayUptoRow.holds Try.pinned (OpenSpec.upto asksPlaySpec)

/-- 'dispatchlaw9.AsksTake', WHERE WHAT IT READS IS OF BULK AT MOST 1048576: true; the input reads as it did. -/
def asksTakeUptoRow : OpenClaim := { program := "ytglimfdofgadjaa", sum := "8c17db3bdfc3c1c0cd1d30dadb6f30173998a1559af97e0ae749cecacb8c166a", func := "dispatch/dispatchlaw9.AsksTake", spec := "asksTake", inPlace := ["slices.overlaps[dispatch/api.Ask]"], unfollowed := true, recurses := true, apart := false, narrowed := true }
def AsksTakeUptoSaid : Prop := asksTakeUptoRow.holds Try.pinned (OpenSpec.upto asksTakeSpec)

end Rows
end Go.Proofs.Ytglimfdofgadjaa
