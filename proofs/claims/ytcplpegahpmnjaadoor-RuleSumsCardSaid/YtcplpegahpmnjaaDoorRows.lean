/-
  NARROWER THAN 'FOR EVERY INPUT', by the rows' own cells (each row's printed sentence says how): RuleSums: laid · RuleNames: laid · RuleDepth: laid · RuleAsks: laid · RuleUps: laid · RuleKids: laid.
  DERIVED. THE GIVEN ROWS OF THIS SEAT. 6 by the template 'for every input the law returns true; each argument reads behind the call as it read before'; 0 by the template 'total and deterministic' (their statements: YtcplpegahpmnjaaDoorTotals.lean).
  GIVEN WITH THE SEED: the statements are not yours to turn. If you find one false, say at which input.
  Laid BY PROGRAM, IN A SANDBOX (cutbox-rows.mjs): the forced cells as the released guide's own fill.sh prints them over the translation c1895e2fb795a1c4… (all of the seat's roots in one cut). By AI agents, Wed Nov 11 2026. No macro, syntax, notation, axiom, sorry.
-/
import Derived.Test.YtcplpegahpmnjaaDoorChecked
import GoSem.PinnedTables
import GoSem.Claim
import GoSem.ClaimJoined
import GoSem.ClaimMapViews
import Derived.JoinedTies
import Derived.KernelRfl
namespace Go.Proofs.YtcplpegahpmnjaaDoor
/- THE CELL 'sum', in the pinned program and in every row, IS THE sha256 OF THE DUMP (.gsa) THAT YtcplpegahpmnjaaDoorProg.lean LOADS. Nothing in Lean hashes anything: it is a label: what it is worth is what the hold of that sum in a sandbox is worth. -/
noncomputable def Tryd.pinned : Pinned := { name := "ytcplpegahpmnjaadoor", sum := "c1895e2fb795a1c450a1dbc0c8548b5ee6ef1003aad776a83520eccbb142ea02", checked := Tryd.checked }
namespace Rows
def none {H : Type} : Left H := { results := [], args := [] }

/- WHAT THE LISTED PACKAGE-LEVEL VARIABLES READ AS WHEN THE CALL BEGINS. Each datum BY PROGRAM (the guide's laid-datum.mjs) off the statement by which the dump's own 'gosem.cut.vars' lays the variable. In a bare row this is a premise. The card (YtcplpegahpmnjaaDoorCards.lean) ties it to the program's text. -/
def laid_unicode_utf8_acceptRanges {H : Type} : DataW H := .agg [.agg [.lit (.int .u8 128), .lit (.int .u8 191)], .agg [.lit (.int .u8 160), .lit (.int .u8 191)], .agg [.lit (.int .u8 128), .lit (.int .u8 159)], .agg [.lit (.int .u8 144), .lit (.int .u8 191)], .agg [.lit (.int .u8 128), .lit (.int .u8 143)], .agg [.lit (.int .u8 0), .lit (.int .u8 0)], .agg [.lit (.int .u8 0), .lit (.int .u8 0)], .agg [.lit (.int .u8 0), .lit (.int .u8 0)], .agg [.lit (.int .u8 0), .lit (.int .u8 0)], .agg [.lit (.int .u8 0), .lit (.int .u8 0)], .agg [.lit (.int .u8 0), .lit (.int .u8 0)], .agg [.lit (.int .u8 0), .lit (.int .u8 0)], .agg [.lit (.int .u8 0), .lit (.int .u8 0)], .agg [.lit (.int .u8 0), .lit (.int .u8 0)], .agg [.lit (.int .u8 0), .lit (.int .u8 0)], .agg [.lit (.int .u8 0), .lit (.int .u8 0)]]
/-- One of Go's own tables, pinned by name: the form's constant. -/
def laid_unicode_utf8_first : DataW Unit := Go.Pinned.utf8First

/-- 'dispatchlaw6.RuleSums': WHATEVER THE INPUT: true; the input reads as it did. -/
def ruleSumsSpec : ChangeSpec := { name := "ruleSums", fn := fun _ => fun
  | [d1, d2, d3, d4] => { results := [.lit (.bool true)], args := [d1, d2, d3, d4] }
  | _ => none }
def ruleSumsRow : OpenClaim := { program := "ytcplpegahpmnjaadoor", sum := "c1895e2fb795a1c450a1dbc0c8548b5ee6ef1003aad776a83520eccbb142ea02", func := "dispatch/dispatchlaw6.RuleSums", spec := "ruleSums", inPlace := ["internal/bytealg.CountString", "internal/bytealg.IndexByteString", "internal/bytealg.IndexString"], unfollowed := true, recurses := true, named := ["unicode/utf8.first", "unicode/utf8.acceptRanges", "internal/bytealg.MaxLen"], apart := false, laid := [("unicode/utf8.acceptRanges", laid_unicode_utf8_acceptRanges), ("unicode/utf8.first", laid_unicode_utf8_first)] }
def RuleSumsSaid : Prop := ruleSumsRow.holds Tryd.pinned (OpenSpec.ofChange ruleSumsSpec)

/-- ITS FALSE NEIGHBOUR: 'it returns false'. Refute it at one input. -/
def ruleSumsWrong : ChangeSpec := { name := "ruleSums", fn := fun _ => fun
  | [d1, d2, d3, d4] => { results := [.lit (.bool false)], args := [d1, d2, d3, d4] }
  | _ => none }
def RuleSumsWrongFalsely : Prop := ruleSumsRow.holds Tryd.pinned (OpenSpec.ofChange ruleSumsWrong)

/-- 'dispatchlaw6.RuleNames': WHATEVER THE INPUT: true; the input reads as it did. -/
def ruleNamesSpec : ChangeSpec := { name := "ruleNames", fn := fun _ => fun
  | [d1, d2, d3] => { results := [.lit (.bool true)], args := [d1, d2, d3] }
  | _ => none }
def ruleNamesRow : OpenClaim := { program := "ytcplpegahpmnjaadoor", sum := "c1895e2fb795a1c450a1dbc0c8548b5ee6ef1003aad776a83520eccbb142ea02", func := "dispatch/dispatchlaw6.RuleNames", spec := "ruleNames", inPlace := ["internal/bytealg.CountString", "internal/bytealg.IndexByteString", "internal/bytealg.IndexString"], unfollowed := true, recurses := true, named := ["unicode/utf8.first", "unicode/utf8.acceptRanges", "internal/bytealg.MaxLen"], apart := false, laid := [("unicode/utf8.acceptRanges", laid_unicode_utf8_acceptRanges), ("unicode/utf8.first", laid_unicode_utf8_first)] }
def RuleNamesSaid : Prop := ruleNamesRow.holds Tryd.pinned (OpenSpec.ofChange ruleNamesSpec)

/-- ITS FALSE NEIGHBOUR: 'it returns false'. Refute it at one input. -/
def ruleNamesWrong : ChangeSpec := { name := "ruleNames", fn := fun _ => fun
  | [d1, d2, d3] => { results := [.lit (.bool false)], args := [d1, d2, d3] }
  | _ => none }
def RuleNamesWrongFalsely : Prop := ruleNamesRow.holds Tryd.pinned (OpenSpec.ofChange ruleNamesWrong)

/-- 'dispatchlaw6.RuleDepth': WHATEVER THE INPUT: true; the input reads as it did. -/
def ruleDepthSpec : ChangeSpec := { name := "ruleDepth", fn := fun _ => fun
  | [d1, d2] => { results := [.lit (.bool true)], args := [d1, d2] }
  | _ => none }
def ruleDepthRow : OpenClaim := { program := "ytcplpegahpmnjaadoor", sum := "c1895e2fb795a1c450a1dbc0c8548b5ee6ef1003aad776a83520eccbb142ea02", func := "dispatch/dispatchlaw6.RuleDepth", spec := "ruleDepth", inPlace := ["internal/bytealg.CountString", "internal/bytealg.IndexByteString", "internal/bytealg.IndexString"], unfollowed := true, recurses := true, named := ["unicode/utf8.first", "unicode/utf8.acceptRanges", "internal/bytealg.MaxLen"], apart := false, laid := [("unicode/utf8.acceptRanges", laid_unicode_utf8_acceptRanges), ("unicode/utf8.first", laid_unicode_utf8_first)] }
def RuleDepthSaid : Prop := ruleDepthRow.holds Tryd.pinned (OpenSpec.ofChange ruleDepthSpec)

/-- ITS FALSE NEIGHBOUR: 'it returns false'. Refute it at one input. -/
def ruleDepthWrong : ChangeSpec := { name := "ruleDepth", fn := fun _ => fun
  | [d1, d2] => { results := [.lit (.bool false)], args := [d1, d2] }
  | _ => none }
def RuleDepthWrongFalsely : Prop := ruleDepthRow.holds Tryd.pinned (OpenSpec.ofChange ruleDepthWrong)

/-- 'dispatchlaw6.RuleAsks': WHATEVER THE INPUT: true; the input reads as it did. -/
def ruleAsksSpec : ChangeSpec := { name := "ruleAsks", fn := fun _ => fun
  | [d1, d2, d3, d4] => { results := [.lit (.bool true)], args := [d1, d2, d3, d4] }
  | _ => none }
def ruleAsksRow : OpenClaim := { program := "ytcplpegahpmnjaadoor", sum := "c1895e2fb795a1c450a1dbc0c8548b5ee6ef1003aad776a83520eccbb142ea02", func := "dispatch/dispatchlaw6.RuleAsks", spec := "ruleAsks", inPlace := ["internal/bytealg.CountString", "internal/bytealg.IndexByteString", "internal/bytealg.IndexString"], unfollowed := true, recurses := true, named := ["unicode/utf8.first", "unicode/utf8.acceptRanges", "internal/bytealg.MaxLen"], apart := false, laid := [("unicode/utf8.acceptRanges", laid_unicode_utf8_acceptRanges), ("unicode/utf8.first", laid_unicode_utf8_first)] }
def RuleAsksSaid : Prop := ruleAsksRow.holds Tryd.pinned (OpenSpec.ofChange ruleAsksSpec)

/-- ITS FALSE NEIGHBOUR: 'it returns false'. Refute it at one input. -/
def ruleAsksWrong : ChangeSpec := { name := "ruleAsks", fn := fun _ => fun
  | [d1, d2, d3, d4] => { results := [.lit (.bool false)], args := [d1, d2, d3, d4] }
  | _ => none }
def RuleAsksWrongFalsely : Prop := ruleAsksRow.holds Tryd.pinned (OpenSpec.ofChange ruleAsksWrong)

/-- 'dispatchlaw6.RuleUps': WHATEVER THE INPUT: true; the input reads as it did. -/
def ruleUpsSpec : ChangeSpec := { name := "ruleUps", fn := fun _ => fun
  | [d1, d2] => { results := [.lit (.bool true)], args := [d1, d2] }
  | _ => none }
def ruleUpsRow : OpenClaim := { program := "ytcplpegahpmnjaadoor", sum := "c1895e2fb795a1c450a1dbc0c8548b5ee6ef1003aad776a83520eccbb142ea02", func := "dispatch/dispatchlaw6.RuleUps", spec := "ruleUps", inPlace := ["internal/bytealg.CountString", "internal/bytealg.IndexByteString", "internal/bytealg.IndexString"], unfollowed := true, recurses := true, named := ["unicode/utf8.first", "unicode/utf8.acceptRanges", "internal/bytealg.MaxLen"], apart := false, laid := [("unicode/utf8.acceptRanges", laid_unicode_utf8_acceptRanges), ("unicode/utf8.first", laid_unicode_utf8_first)] }
def RuleUpsSaid : Prop := ruleUpsRow.holds Tryd.pinned (OpenSpec.ofChange ruleUpsSpec)

/-- ITS FALSE NEIGHBOUR: 'it returns false'. Refute it at one input. -/
def ruleUpsWrong : ChangeSpec := { name := "ruleUps", fn := fun _ => fun
  | [d1, d2] => { results := [.lit (.bool false)], args := [d1, d2] }
  | _ => none }
def RuleUpsWrongFalsely : Prop := ruleUpsRow.holds Tryd.pinned (OpenSpec.ofChange ruleUpsWrong)

/-- 'dispatchlaw6.RuleKids': WHATEVER THE INPUT: true; the input reads as it did. -/
def ruleKidsSpec : ChangeSpec := { name := "ruleKids", fn := fun _ => fun
  | [d1, d2] => { results := [.lit (.bool true)], args := [d1, d2] }
  | _ => none }
def ruleKidsRow : OpenClaim := { program := "ytcplpegahpmnjaadoor", sum := "c1895e2fb795a1c450a1dbc0c8548b5ee6ef1003aad776a83520eccbb142ea02", func := "dispatch/dispatchlaw6.RuleKids", spec := "ruleKids", inPlace := ["internal/bytealg.CountString", "internal/bytealg.IndexByteString", "internal/bytealg.IndexString"], unfollowed := true, recurses := true, named := ["unicode/utf8.first", "unicode/utf8.acceptRanges", "internal/bytealg.MaxLen"], apart := false, laid := [("unicode/utf8.acceptRanges", laid_unicode_utf8_acceptRanges), ("unicode/utf8.first", laid_unicode_utf8_first)] }
def RuleKidsSaid : Prop := ruleKidsRow.holds Tryd.pinned (OpenSpec.ofChange ruleKidsSpec)

/-- ITS FALSE NEIGHBOUR: 'it returns false'. Refute it at one input. -/
def ruleKidsWrong : ChangeSpec := { name := "ruleKids", fn := fun _ => fun
  | [d1, d2] => { results := [.lit (.bool false)], args := [d1, d2] }
  | _ => none }
def RuleKidsWrongFalsely : Prop := ruleKidsRow.holds Tryd.pinned (OpenSpec.ofChange ruleKidsWrong)

/- THE SECOND FORM. 'bulk': how many values and letters a reading holds, each counted each time it is reached (what is shared counts as often as it is met; a slice's spare places count too). A statement '..UptoSaid' is the law's where the arguments, and the package variables that the reading takes, are together of bulk at most 1048576: NARROWER than '..Said'. Prove '..Said' where nothing that the law and all that it calls make is longer than what came in: it says more and counts as full. Else prove '..UptoSaid'. A law counts once. -/
mutual
def uptoBulk {H : Type} : DataW H → Nat
  | .lit (.string bytes) => bytes.length + 1
  | .lit _ => 1
  | .nil => 1
  | .ptr d => uptoBulk d + 1
  | .slice elems spare => uptoBulkAll elems + uptoBulkAll spare + 1
  | .agg parts => uptoBulkAll parts + 1
  | .iface _ d => uptoBulk d + 1
  | .map entries => uptoBulkEntries entries + 1
  | .held _ => 1
def uptoBulkAll {H : Type} : List (DataW H) → Nat
  | [] => 0
  | d :: r => uptoBulk d + uptoBulkAll r
def uptoBulkEntries {H : Type} : List (Lit × DataW H) → Nat
  | [] => 0
  | x :: r => uptoBulkEntry x + uptoBulkEntries r
def uptoBulkEntry {H : Type} : Lit × DataW H → Nat
  | (.string bytes, d) => bytes.length + uptoBulk d + 1
  | (_, d) => uptoBulk d + 1
 end
def uptoSmall : (H : Type) → List (DataW H) → Bool := fun _ ds => decide (uptoBulkAll ds ≤ 1048576)
def OpenSpec.upto (s : _root_.Go.ChangeSpec) : _root_.Go.OpenSpec := { _root_.Go.OpenSpec.ofChange s with cond := some uptoSmall }

/-- 'dispatchlaw6.RuleSums', WHERE WHAT IT READS IS OF BULK AT MOST 1048576: true; the input reads as it did. -/
def ruleSumsUptoRow : OpenClaim := { program := "ytcplpegahpmnjaadoor", sum := "c1895e2fb795a1c450a1dbc0c8548b5ee6ef1003aad776a83520eccbb142ea02", func := "dispatch/dispatchlaw6.RuleSums", spec := "ruleSums", inPlace := ["internal/bytealg.CountString", "internal/bytealg.IndexByteString", "internal/bytealg.IndexString"], unfollowed := true, recurses := true, named := ["unicode/utf8.first", "unicode/utf8.acceptRanges", "internal/bytealg.MaxLen"], apart := false, laid := [("unicode/utf8.acceptRanges", laid_unicode_utf8_acceptRanges), ("unicode/utf8.first", laid_unicode_utf8_first)], narrowed := true }
def RuleSumsUptoSaid : Prop := ruleSumsUptoRow.holds Tryd.pinned (OpenSpec.upto ruleSumsSpec)

/-- 'dispatchlaw6.RuleNames', WHERE WHAT IT READS IS OF BULK AT MOST 1048576: true; the input reads as it did. -/
def ruleNamesUptoRow : OpenClaim := { program := "ytcplpegahpmnjaadoor", sum := "c1895e2fb795a1c450a1dbc0c8548b5ee6ef1003aad776a83520eccbb142ea02", func := "dispatch/dispatchlaw6.RuleNames", spec := "ruleNames", inPlace := ["internal/bytealg.CountString", "internal/bytealg.IndexByteString", "internal/bytealg.IndexString"], unfollowed := true, recurses := true, named := ["unicode/utf8.first", "unicode/utf8.acceptRanges", "internal/bytealg.MaxLen"], apart := false, laid := [("unicode/utf8.acceptRanges", laid_unicode_utf8_acceptRanges), ("unicode/utf8.first", laid_unicode_utf8_first)], narrowed := true }
def RuleNamesUptoSaid : Prop := ruleNamesUptoRow.holds Tryd.pinned (OpenSpec.upto ruleNamesSpec)

/-- 'dispatchlaw6.RuleDepth', WHERE WHAT IT READS IS OF BULK AT MOST 1048576: true; the input reads as it did. -/
def ruleDepthUptoRow : OpenClaim := { program := "ytcplpegahpmnjaadoor", sum := "c1895e2fb795a1c450a1dbc0c8548b5ee6ef1003aad776a83520eccbb142ea02", func := "dispatch/dispatchlaw6.RuleDepth", spec := "ruleDepth", inPlace := ["internal/bytealg.CountString", "internal/bytealg.IndexByteString", "internal/bytealg.IndexString"], unfollowed := true, recurses := true, named := ["unicode/utf8.first", "unicode/utf8.acceptRanges", "internal/bytealg.MaxLen"], apart := false, laid := [("unicode/utf8.acceptRanges", laid_unicode_utf8_acceptRanges), ("unicode/utf8.first", laid_unicode_utf8_first)], narrowed := true }
def RuleDepthUptoSaid : Prop := ruleDepthUptoRow.holds Tryd.pinned (OpenSpec.upto ruleDepthSpec)

/-- 'dispatchlaw6.RuleAsks', WHERE WHAT IT READS IS OF BULK AT MOST 1048576: true; the input reads as it did. -/
def ruleAsksUptoRow : OpenClaim := { program := "ytcplpegahpmnjaadoor", sum := "c1895e2fb795a1c450a1dbc0c8548b5ee6ef1003aad776a83520eccbb142ea02", func := "dispatch/dispatchlaw6.RuleAsks", spec := "ruleAsks", inPlace := ["internal/bytealg.CountString", "internal/bytealg.IndexByteString", "internal/bytealg.IndexString"], unfollowed := true, recurses := true, named := ["unicode/utf8.first", "unicode/utf8.acceptRanges", "internal/bytealg.MaxLen"], apart := false, laid := [("unicode/utf8.acceptRanges", laid_unicode_utf8_acceptRanges), ("unicode/utf8.first", laid_unicode_utf8_first)], narrowed := true }
def RuleAsksUptoSaid : Prop := ruleAsksUptoRow.holds Tryd.pinned (OpenSpec.upto ruleAsksSpec)

/-- 'dispatchlaw6.RuleUps', WHERE WHAT IT READS IS OF BULK AT MOST 1048576: true; the input reads as it did. -/
def ruleUpsUptoRow : OpenClaim := { program := "ytcplpegahpmnjaadoor", sum := "c1895e2fb795a1c450a1dbc0c8548b5ee6ef1003aad776a83520eccbb142ea02", func := "dispatch/dispatchlaw6.RuleUps", spec := "ruleUps", inPlace := ["internal/bytealg.CountString", "internal/bytealg.IndexByteString", "internal/bytealg.IndexString"], unfollowed := true, recurses := true, named := ["unicode/utf8.first", "unicode/utf8.acceptRanges", "internal/bytealg.MaxLen"], apart := false, laid := [("unicode/utf8.acceptRanges", laid_unicode_utf8_acceptRanges), ("unicode/utf8.first", laid_unicode_utf8_first)], narrowed := true }
def RuleUpsUptoSaid : Prop := ruleUpsUptoRow.holds Tryd.pinned (OpenSpec.upto ruleUpsSpec)

/-- 'dispatchlaw6.RuleKids', WHERE WHAT IT READS IS OF BULK AT MOST 1048576: true; the input reads as it did. -/
def ruleKidsUptoRow : OpenClaim := { program := "ytcplpegahpmnjaadoor", sum := "c1895e2fb795a1c450a1dbc0c8548b5ee6ef1003aad776a83520eccbb142ea02", func := "dispatch/dispatchlaw6.RuleKids", spec := "ruleKids", inPlace := ["internal/bytealg.CountString", "internal/bytealg.IndexByteString", "internal/bytealg.IndexString"], unfollowed := true, recurses := true, named := ["unicode/utf8.first", "unicode/utf8.acceptRanges", "internal/bytealg.MaxLen"], apart := false, laid := [("unicode/utf8.acceptRanges", laid_unicode_utf8_acceptRanges), ("unicode/utf8.first", laid_unicode_utf8_first)], narrowed := true }
def RuleKidsUptoSaid : Prop := ruleKidsUptoRow.holds Tryd.pinned (OpenSpec.upto ruleKidsSpec)

end Rows
end Go.Proofs.YtcplpegahpmnjaaDoor
