/-
  No cell of these rows narrows 'for every input' (looked for: loops, veiled, ifaces, maps, wideKeys, modest, calm, conditions, laid).
  DERIVED. THE GIVEN ROWS OF THIS SEAT. 6 by the template 'for every input the law returns true; each argument reads behind the call as it read before'; 0 by the template 'total and deterministic' (their statements: YtdknamiaadonlaaTotals.lean).
  GIVEN WITH THE SEED: the statements are not yours to turn. If you find one false, say at which input.
  Laid BY PROGRAM, IN A SANDBOX (cutbox-rows.mjs): the forced cells as the released guide's own fill.sh prints them over the translation af7772de62ab7bf7… (all of the seat's roots in one cut). By AI agents, Wed Nov 11 2026. No macro, syntax, notation, axiom, sorry.
-/
import Derived.Test.YtdknamiaadonlaaChecked
import GoSem.Claim
import GoSem.ClaimJoined
import GoSem.ClaimMapViews
import Derived.JoinedTies
import Derived.KernelRfl
namespace Go.Proofs.Ytdknamiaadonlaa
/- THE CELL 'sum', in the pinned program and in every row, IS THE sha256 OF THE DUMP (.gsa) THAT YtdknamiaadonlaaProg.lean LOADS. Nothing in Lean hashes anything: it is a label: what it is worth is what the hold of that sum in a sandbox is worth. -/
noncomputable def Try.pinned : Pinned := { name := "ytdknamiaadonlaa", sum := "af7772de62ab7bf7a793919e1d9f32da956e770a1bad5d434f6ef30a1af1fd6c", checked := Try.checked }
namespace Rows
def none {H : Type} : Left H := { results := [], args := [] }

/-- 'dispatchlaw4.FramesScan': WHATEVER THE INPUT: true; the input reads as it did. -/
def framesScanSpec : ChangeSpec := { name := "framesScan", fn := fun _ => fun
  | [d1, d2, d3, d4, d5] => { results := [.lit (.bool true)], args := [d1, d2, d3, d4, d5] }
  | _ => none }
def framesScanRow : OpenClaim := { program := "ytdknamiaadonlaa", sum := "af7772de62ab7bf7a793919e1d9f32da956e770a1bad5d434f6ef30a1af1fd6c", func := "dispatch/dispatchlaw4.FramesScan", spec := "framesScan", apart := false }
def FramesScanSaid : Prop := framesScanRow.holds Try.pinned (OpenSpec.ofChange framesScanSpec)

/-- ITS FALSE NEIGHBOUR: 'it returns false'. Refute it at one input. -/
def framesScanWrong : ChangeSpec := { name := "framesScan", fn := fun _ => fun
  | [d1, d2, d3, d4, d5] => { results := [.lit (.bool false)], args := [d1, d2, d3, d4, d5] }
  | _ => none }
def FramesScanWrongFalsely : Prop := framesScanRow.holds Try.pinned (OpenSpec.ofChange framesScanWrong)

/-- 'dispatchlaw4.FramesTurned': WHATEVER THE INPUT: true; the input reads as it did. -/
def framesTurnedSpec : ChangeSpec := { name := "framesTurned", fn := fun _ => fun
  | [d1, d2, d3] => { results := [.lit (.bool true)], args := [d1, d2, d3] }
  | _ => none }
def framesTurnedRow : OpenClaim := { program := "ytdknamiaadonlaa", sum := "af7772de62ab7bf7a793919e1d9f32da956e770a1bad5d434f6ef30a1af1fd6c", func := "dispatch/dispatchlaw4.FramesTurned", spec := "framesTurned", apart := false }
def FramesTurnedSaid : Prop := framesTurnedRow.holds Try.pinned (OpenSpec.ofChange framesTurnedSpec)

/-- ITS FALSE NEIGHBOUR: 'it returns false'. Refute it at one input. -/
def framesTurnedWrong : ChangeSpec := { name := "framesTurned", fn := fun _ => fun
  | [d1, d2, d3] => { results := [.lit (.bool false)], args := [d1, d2, d3] }
  | _ => none }
def FramesTurnedWrongFalsely : Prop := framesTurnedRow.holds Try.pinned (OpenSpec.ofChange framesTurnedWrong)

/-- 'dispatchlaw4.FramesWrite': WHATEVER THE INPUT: true; the input reads as it did. -/
def framesWriteSpec : ChangeSpec := { name := "framesWrite", fn := fun _ => fun
  | [d1, d2] => { results := [.lit (.bool true)], args := [d1, d2] }
  | _ => none }
def framesWriteRow : OpenClaim := { program := "ytdknamiaadonlaa", sum := "af7772de62ab7bf7a793919e1d9f32da956e770a1bad5d434f6ef30a1af1fd6c", func := "dispatch/dispatchlaw4.FramesWrite", spec := "framesWrite", apart := false }
def FramesWriteSaid : Prop := framesWriteRow.holds Try.pinned (OpenSpec.ofChange framesWriteSpec)

/-- ITS FALSE NEIGHBOUR: 'it returns false'. Refute it at one input. -/
def framesWriteWrong : ChangeSpec := { name := "framesWrite", fn := fun _ => fun
  | [d1, d2] => { results := [.lit (.bool false)], args := [d1, d2] }
  | _ => none }
def FramesWriteWrongFalsely : Prop := framesWriteRow.holds Try.pinned (OpenSpec.ofChange framesWriteWrong)

/-- 'dispatchlaw4.FramesTorn': WHATEVER THE INPUT: true; the input reads as it did. -/
def framesTornSpec : ChangeSpec := { name := "framesTorn", fn := fun _ => fun
  | [d1, d2, d3] => { results := [.lit (.bool true)], args := [d1, d2, d3] }
  | _ => none }
def framesTornRow : OpenClaim := { program := "ytdknamiaadonlaa", sum := "af7772de62ab7bf7a793919e1d9f32da956e770a1bad5d434f6ef30a1af1fd6c", func := "dispatch/dispatchlaw4.FramesTorn", spec := "framesTorn", apart := false }
def FramesTornSaid : Prop := framesTornRow.holds Try.pinned (OpenSpec.ofChange framesTornSpec)

/-- ITS FALSE NEIGHBOUR: 'it returns false'. Refute it at one input. -/
def framesTornWrong : ChangeSpec := { name := "framesTorn", fn := fun _ => fun
  | [d1, d2, d3] => { results := [.lit (.bool false)], args := [d1, d2, d3] }
  | _ => none }
def FramesTornWrongFalsely : Prop := framesTornRow.holds Try.pinned (OpenSpec.ofChange framesTornWrong)

/-- 'dispatchlaw4.FramesBack': WHATEVER THE INPUT: true; the input reads as it did. -/
def framesBackSpec : ChangeSpec := { name := "framesBack", fn := fun _ => fun
  | [d1, d2] => { results := [.lit (.bool true)], args := [d1, d2] }
  | _ => none }
def framesBackRow : OpenClaim := { program := "ytdknamiaadonlaa", sum := "af7772de62ab7bf7a793919e1d9f32da956e770a1bad5d434f6ef30a1af1fd6c", func := "dispatch/dispatchlaw4.FramesBack", spec := "framesBack", apart := false }
def FramesBackSaid : Prop := framesBackRow.holds Try.pinned (OpenSpec.ofChange framesBackSpec)

/-- ITS FALSE NEIGHBOUR: 'it returns false'. Refute it at one input. -/
def framesBackWrong : ChangeSpec := { name := "framesBack", fn := fun _ => fun
  | [d1, d2] => { results := [.lit (.bool false)], args := [d1, d2] }
  | _ => none }
def FramesBackWrongFalsely : Prop := framesBackRow.holds Try.pinned (OpenSpec.ofChange framesBackWrong)

/-- 'dispatchlaw4.FramesLong': WHATEVER THE INPUT: true; the input reads as it did. -/
def framesLongSpec : ChangeSpec := { name := "framesLong", fn := fun _ => fun
  | [d1, d2] => { results := [.lit (.bool true)], args := [d1, d2] }
  | _ => none }
def framesLongRow : OpenClaim := { program := "ytdknamiaadonlaa", sum := "af7772de62ab7bf7a793919e1d9f32da956e770a1bad5d434f6ef30a1af1fd6c", func := "dispatch/dispatchlaw4.FramesLong", spec := "framesLong", apart := false }
def FramesLongSaid : Prop := framesLongRow.holds Try.pinned (OpenSpec.ofChange framesLongSpec)

/-- ITS FALSE NEIGHBOUR: 'it returns false'. Refute it at one input. -/
def framesLongWrong : ChangeSpec := { name := "framesLong", fn := fun _ => fun
  | [d1, d2] => { results := [.lit (.bool false)], args := [d1, d2] }
  | _ => none }
def FramesLongWrongFalsely : Prop := framesLongRow.holds Try.pinned (OpenSpec.ofChange framesLongWrong)

/- THE SECOND FORM. 'bulk': how many values and letters a reading holds, each counted each time it is reached (what is shared counts as often as it is met; a slice's spare places count too). A statement '..UptoSaid' is the law's where the arguments, and the package variables that the reading takes, are together of bulk at most 1048576: NARROWER than '..Said'. Prove '..Said' where nothing that the law and all that it calls make is longer than what came in: it says more and counts as full. Else prove '..UptoSaid'. A law counts once. -/
mutual
def uptoBulk {H : Type} : DataW H → Nat
  | .lit (.string bytes) => bytes.length + 1
  | .lit _ => 1
  | .nil => 1
  | .ptr d => uptoBulk d + 1
  | .slice elems spare => uptoBulkAll elems + uptoBulkAll spare + 1
  | .agg parts => uptoBulkAll parts + 1
  | .iface _ d => uptoBulk d + 1
  | .map entries => uptoBulkEntries entries + 1
  | .held _ => 1
def uptoBulkAll {H : Type} : List (DataW H) → Nat
  | [] => 0
  | d :: r => uptoBulk d + uptoBulkAll r
def uptoBulkEntries {H : Type} : List (Lit × DataW H) → Nat
  | [] => 0
  | x :: r => uptoBulkEntry x + uptoBulkEntries r
def uptoBulkEntry {H : Type} : Lit × DataW H → Nat
  | (.string bytes, d) => bytes.length + uptoBulk d + 1
  | (_, d) => uptoBulk d + 1
 end
def uptoSmall : (H : Type) → List (DataW H) → Bool := fun _ ds => decide (uptoBulkAll ds ≤ 1048576)
def OpenSpec.upto (s : _root_.Go.ChangeSpec) : _root_.Go.OpenSpec := { _root_.Go.OpenSpec.ofChange s with cond := some uptoSmall }

/-- 'dispatchlaw4.FramesScan', WHERE WHAT IT READS IS OF BULK AT MOST 1048576: true; the input reads as it did. -/
def framesScanUptoRow : OpenClaim := { program := "ytdknamiaadonlaa", sum := "af7772de62ab7bf7a793919e1d9f32da956e770a1bad5d434f6ef30a1af1fd6c", func := "dispatch/dispatchlaw4.FramesScan", spec := "framesScan", apart := false, narrowed := true }
def FramesScanUptoSaid : Prop := framesScanUptoRow.holds Try.pinned (OpenSpec.upto framesScanSpec)

/-- 'dispatchlaw4.FramesTurned', WHERE WHAT IT READS IS OF BULK AT MOST 1048576: true; the input reads as it did. -/
def framesTurnedUptoRow : OpenClaim := { program := "ytdknamiaadonlaa", sum := "af7772de62ab7bf7a793919e1d9f32da956e770a1bad5d434f6ef30a1af1fd6c", func := "dispatch/dispatchlaw4.FramesTurned", spec := "framesTurned", apart := false, narrowed := true }
def FramesTurnedUptoSaid : Prop := framesTurnedUptoRow.holds Try.pinned (OpenSpec.upto framesTurnedSpec)

/-- 'dispatchlaw4.FramesWrite', WHERE WHAT IT READS IS OF BULK AT MOST 1048576: true; the input reads as it did. -/
def framesWriteUptoRow : OpenClaim := { program := "ytdknamiaadonlaa", sum := "af7772de62ab7bf7a793919e1d9f32da956e770a1bad5d434f6ef30a1af1fd6c", func := "dispatch/dispatchlaw4.FramesWrite", spec := "framesWrite", apart := false, narrowed := true }
def FramesWriteUptoSaid : Prop := framesWriteUptoRow.holds Try.pinned (OpenSpec.upto framesWriteSpec)

/-- 'dispatchlaw4.FramesTorn', WHERE WHAT IT READS IS OF BULK AT MOST 1048576: true; the input reads as it did. -/
def framesTornUptoRow : OpenClaim := { program := "ytdknamiaadonlaa", sum := "af7772de62ab7bf7a793919e1d9f32da956e770a1bad5d434f6ef30a1af1fd6c", func := "dispatch/dispatchlaw4.FramesTorn", spec := "framesTorn", apart := false, narrowed := true }
def FramesTornUptoSaid : Prop := framesTornUptoRow.holds Try.pinned (OpenSpec.upto framesTornSpec)

/-- 'dispatchlaw4.FramesBack', WHERE WHAT IT READS IS OF BULK AT MOST 1048576: true; the input reads as it did. -/
def framesBackUptoRow : OpenClaim := { program := "ytdknamiaadonlaa", sum := "af7772de62ab7bf7a793919e1d9f32da956e770a1bad5d434f6ef30a1af1fd6c", func := "dispatch/dispatchlaw4.FramesBack", spec := "framesBack", apart := false, narrowed := true }
def FramesBackUptoSaid : Prop := framesBackUptoRow.holds Try.pinned (OpenSpec.upto framesBackSpec)

/-- 'dispatchlaw4.FramesLong', WHERE WHAT IT READS IS OF BULK AT MOST 1048576: true; the input reads as it did. -/
def framesLongUptoRow : OpenClaim := { program := "ytdknamiaadonlaa", sum := "af7772de62ab7bf7a793919e1d9f32da956e770a1bad5d434f6ef30a1af1fd6c", func := "dispatch/dispatchlaw4.FramesLong", spec := "framesLong", apart := false, narrowed := true }
def FramesLongUptoSaid : Prop := framesLongUptoRow.holds Try.pinned (OpenSpec.upto framesLongSpec)

end Rows
end Go.Proofs.Ytdknamiaadonlaa
