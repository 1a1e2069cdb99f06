/- What functions of the program compute. No condition. -/
import Derived.Test.YtcplpegahpmnjaaDoorU4
set_option linter.unusedSimpArgs false
set_option linter.unusedVariables false
namespace Go.Proofs.YtcplpegahpmnjaaDoor
open Go Go.Ab
def rootS : List UInt8 := [114, 111, 111, 116]
end Go.Proofs.YtcplpegahpmnjaaDoor
