/- A part of a proof: what functions of the program compute. No condition. -/
import Derived.Test.YtakemdamegfcfaaGreatU37
import Derived.Test.YtakemdamegfcfaaGreatT33
set_option linter.unusedSimpArgs false
set_option linter.unusedVariables false
set_option maxRecDepth 20000
namespace Go.Proofs.YtakemdamegfcfaaGreat
open Go Go.Ab
theorem aSD:CT s4.labels s4.qs:=⟨by decide,by decide,fun x hx=>by rw [List.mem_singleton.1 hx];decide,by decide,by decide,fun q hq=>by rw [List.mem_singleton.1 hq];exact ⟨by decide,by decide⟩⟩
theorem aMq:NOk s4:=⟨aSD,by decide,by decide,(fun a ha=>by cases ha),by decide,by decide,by decide⟩
end Go.Proofs.YtakemdamegfcfaaGreat
