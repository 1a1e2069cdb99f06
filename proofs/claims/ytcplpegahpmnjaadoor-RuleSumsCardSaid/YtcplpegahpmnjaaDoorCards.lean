/-
  DERIVED. GIVEN WITH THE SEED: THE CARDS: each row of YtcplpegahpmnjaaDoorRows.lean that lists a variable, with what it lists TIED to the program's text (the seventh form; the later family's looks); each row that meets fmt, with fmt's text TOLD by the authors' own Lean function (tested against real Go, not proved from fmt's source: count such statements apart). THE CARD IS WHAT COUNTS. Prove the row's statement (the work); the ties are given (YtcplpegahpmnjaaDoorTie.lean); close each card by the builder's one call (the guide's Derived/Test/ToyasCard.lean, 'card_holds'). Laid BY PROGRAM, IN A SANDBOX (cutbox-door.mjs). By AI agents, Wed Nov 11 2026. No macro, syntax, notation, axiom, sorry.
-/
import Derived.Test.YtcplpegahpmnjaaDoorRows
import GoSem.ClaimSeven
namespace Go.Proofs.YtcplpegahpmnjaaDoor
namespace Rows

/-- THE TIED CARD OF 'dispatchlaw6.RuleSums'. -/
def ruleSumsCard : Claim7 := { stood := { row := ruleSumsRow, standIns := [], harness := (true, "4f65ce3a3a0e6af681f8672289e90af37e36e70264ecdfef7c76bb1df76dc5cc"), looks := false }, kinds := [], alts := [], laidByText := true, laidKinds := [.data, .pinned], laidTests := true, laidLooks := .later }
def RuleSumsCardSaid : Prop := Claim7.holds Tryd.pinned (.plain (OpenSpec.ofChange ruleSumsSpec)) ruleSumsCard

/-- THE TIED CARD OF 'dispatchlaw6.RuleNames'. -/
def ruleNamesCard : Claim7 := { stood := { row := ruleNamesRow, standIns := [], harness := (true, "4f65ce3a3a0e6af681f8672289e90af37e36e70264ecdfef7c76bb1df76dc5cc"), looks := false }, kinds := [], alts := [], laidByText := true, laidKinds := [.data, .pinned], laidTests := true, laidLooks := .later }
def RuleNamesCardSaid : Prop := Claim7.holds Tryd.pinned (.plain (OpenSpec.ofChange ruleNamesSpec)) ruleNamesCard

/-- THE TIED CARD OF 'dispatchlaw6.RuleDepth'. -/
def ruleDepthCard : Claim7 := { stood := { row := ruleDepthRow, standIns := [], harness := (true, "4f65ce3a3a0e6af681f8672289e90af37e36e70264ecdfef7c76bb1df76dc5cc"), looks := false }, kinds := [], alts := [], laidByText := true, laidKinds := [.data, .pinned], laidTests := true, laidLooks := .later }
def RuleDepthCardSaid : Prop := Claim7.holds Tryd.pinned (.plain (OpenSpec.ofChange ruleDepthSpec)) ruleDepthCard

/-- THE TIED CARD OF 'dispatchlaw6.RuleAsks'. -/
def ruleAsksCard : Claim7 := { stood := { row := ruleAsksRow, standIns := [], harness := (true, "4f65ce3a3a0e6af681f8672289e90af37e36e70264ecdfef7c76bb1df76dc5cc"), looks := false }, kinds := [], alts := [], laidByText := true, laidKinds := [.data, .pinned], laidTests := true, laidLooks := .later }
def RuleAsksCardSaid : Prop := Claim7.holds Tryd.pinned (.plain (OpenSpec.ofChange ruleAsksSpec)) ruleAsksCard

/-- THE TIED CARD OF 'dispatchlaw6.RuleUps'. -/
def ruleUpsCard : Claim7 := { stood := { row := ruleUpsRow, standIns := [], harness := (true, "4f65ce3a3a0e6af681f8672289e90af37e36e70264ecdfef7c76bb1df76dc5cc"), looks := false }, kinds := [], alts := [], laidByText := true, laidKinds := [.data, .pinned], laidTests := true, laidLooks := .later }
def RuleUpsCardSaid : Prop := Claim7.holds Tryd.pinned (.plain (OpenSpec.ofChange ruleUpsSpec)) ruleUpsCard

/-- THE TIED CARD OF 'dispatchlaw6.RuleKids'. -/
def ruleKidsCard : Claim7 := { stood := { row := ruleKidsRow, standIns := [], harness := (true, "4f65ce3a3a0e6af681f8672289e90af37e36e70264ecdfef7c76bb1df76dc5cc"), looks := false }, kinds := [], alts := [], laidByText := true, laidKinds := [.data, .pinned], laidTests := true, laidLooks := .later }
def RuleKidsCardSaid : Prop := Claim7.holds Tryd.pinned (.plain (OpenSpec.ofChange ruleKidsSpec)) ruleKidsCard

/-- THE SECOND FORM's CARD OF 'dispatchlaw6.RuleSums'. -/
def ruleSumsUptoCard : Claim7 := { stood := { row := ruleSumsUptoRow, standIns := [], harness := (true, "4f65ce3a3a0e6af681f8672289e90af37e36e70264ecdfef7c76bb1df76dc5cc"), looks := false }, kinds := [], alts := [], laidByText := true, laidKinds := [.data, .pinned], laidTests := true, laidLooks := .later }
def RuleSumsUptoCardSaid : Prop := Claim7.holds Tryd.pinned (.plain (OpenSpec.upto ruleSumsSpec)) ruleSumsUptoCard

/-- THE SECOND FORM's CARD OF 'dispatchlaw6.RuleNames'. -/
def ruleNamesUptoCard : Claim7 := { stood := { row := ruleNamesUptoRow, standIns := [], harness := (true, "4f65ce3a3a0e6af681f8672289e90af37e36e70264ecdfef7c76bb1df76dc5cc"), looks := false }, kinds := [], alts := [], laidByText := true, laidKinds := [.data, .pinned], laidTests := true, laidLooks := .later }
def RuleNamesUptoCardSaid : Prop := Claim7.holds Tryd.pinned (.plain (OpenSpec.upto ruleNamesSpec)) ruleNamesUptoCard

/-- THE SECOND FORM's CARD OF 'dispatchlaw6.RuleDepth'. -/
def ruleDepthUptoCard : Claim7 := { stood := { row := ruleDepthUptoRow, standIns := [], harness := (true, "4f65ce3a3a0e6af681f8672289e90af37e36e70264ecdfef7c76bb1df76dc5cc"), looks := false }, kinds := [], alts := [], laidByText := true, laidKinds := [.data, .pinned], laidTests := true, laidLooks := .later }
def RuleDepthUptoCardSaid : Prop := Claim7.holds Tryd.pinned (.plain (OpenSpec.upto ruleDepthSpec)) ruleDepthUptoCard

/-- THE SECOND FORM's CARD OF 'dispatchlaw6.RuleAsks'. -/
def ruleAsksUptoCard : Claim7 := { stood := { row := ruleAsksUptoRow, standIns := [], harness := (true, "4f65ce3a3a0e6af681f8672289e90af37e36e70264ecdfef7c76bb1df76dc5cc"), looks := false }, kinds := [], alts := [], laidByText := true, laidKinds := [.data, .pinned], laidTests := true, laidLooks := .later }
def RuleAsksUptoCardSaid : Prop := Claim7.holds Tryd.pinned (.plain (OpenSpec.upto ruleAsksSpec)) ruleAsksUptoCard

/-- THE SECOND FORM's CARD OF 'dispatchlaw6.RuleUps'. -/
def ruleUpsUptoCard : Claim7 := { stood := { row := ruleUpsUptoRow, standIns := [], harness := (true, "4f65ce3a3a0e6af681f8672289e90af37e36e70264ecdfef7c76bb1df76dc5cc"), looks := false }, kinds := [], alts := [], laidByText := true, laidKinds := [.data, .pinned], laidTests := true, laidLooks := .later }
def RuleUpsUptoCardSaid : Prop := Claim7.holds Tryd.pinned (.plain (OpenSpec.upto ruleUpsSpec)) ruleUpsUptoCard

/-- THE SECOND FORM's CARD OF 'dispatchlaw6.RuleKids'. -/
def ruleKidsUptoCard : Claim7 := { stood := { row := ruleKidsUptoRow, standIns := [], harness := (true, "4f65ce3a3a0e6af681f8672289e90af37e36e70264ecdfef7c76bb1df76dc5cc"), looks := false }, kinds := [], alts := [], laidByText := true, laidKinds := [.data, .pinned], laidTests := true, laidLooks := .later }
def RuleKidsUptoCardSaid : Prop := Claim7.holds Tryd.pinned (.plain (OpenSpec.upto ruleKidsSpec)) ruleKidsUptoCard
end Rows
end Go.Proofs.YtcplpegahpmnjaaDoor
