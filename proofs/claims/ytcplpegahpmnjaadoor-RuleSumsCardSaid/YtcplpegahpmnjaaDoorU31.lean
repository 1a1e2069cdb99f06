/- What functions of the program compute. No condition. -/
import Derived.Test.YtcplpegahpmnjaaDoorU30
set_option linter.unusedSimpArgs false
set_option linter.unusedVariables false
namespace Go.Proofs.YtcplpegahpmnjaaDoor
open Go Go.Ab
end Go.Proofs.YtcplpegahpmnjaaDoor
