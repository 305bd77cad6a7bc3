/- Walks of l1Max and l1Min. -/
import Derived.Test.YtpfkcblhojkaiaaDoorOk
import Derived.Test.YtpfkcblhojkaiaaDoorBld
namespace Go.Proofs.YtpfkcblhojkaiaaDoor.Eng
open Go.RowKit
set_option linter.unusedVariables false
set_option linter.unusedSimpArgs false
set_option maxHeartbeats 1000000

end Go.Proofs.YtpfkcblhojkaiaaDoor.Eng
