/- Walks of the functions that draw trees by keys, rows, or two trees. -/
import Derived.Test.YtphchpbfhcniaaaDraw4
namespace Go.Proofs.Ytphchpbfhcniaaa.Eng
open Go.RowKit
set_option linter.unusedVariables false
set_option linter.unusedSimpArgs false
set_option maxHeartbeats 1000000

end Go.Proofs.Ytphchpbfhcniaaa.Eng
