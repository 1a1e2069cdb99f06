/- What functions of the program compute. No condition. -/
import Derived.Test.YtgpipheibnlkhaaProg
import Derived.KernelRfl
import Derived.Test.YtgpipheibnlkhaaL4
set_option maxRecDepth 100000
namespace Go.Proofs.Ytgpipheibnlkhaa
open Go Go.Ab

end Go.Proofs.Ytgpipheibnlkhaa
