/- What functions of the program compute. No condition. -/
import Derived.Test.YtgpipheibnlkhaaWRd5
set_option linter.unusedSimpArgs false
set_option linter.unusedVariables false
namespace Go.Proofs.Ytgpipheibnlkhaa
open Go Go.Ab

end Go.Proofs.Ytgpipheibnlkhaa
