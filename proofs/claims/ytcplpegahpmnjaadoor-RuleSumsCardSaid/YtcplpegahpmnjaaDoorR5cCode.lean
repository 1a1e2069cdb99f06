/- What functions of the program compute. No condition. -/
import Derived.Test.YtcplpegahpmnjaaDoorProg
import Derived.KernelRfl
import Derived.Test.YtcplpegahpmnjaaDoorL4
set_option maxRecDepth 100000
namespace Go.Proofs.YtcplpegahpmnjaaDoor
open Go Go.Ab
end Go.Proofs.YtcplpegahpmnjaaDoor
