/- The walk of slices.Clone over trees: a row of the call's own with the same elements. -/
import Derived.Test.YtpfkcblhojkaiaaDoorCom
import Derived.Test.YtpfkcblhojkaiaaDoorNil
namespace Go.Proofs.YtpfkcblhojkaiaaDoor.Eng
open Go.RowKit
set_option linter.unusedVariables false
set_option linter.unusedSimpArgs false
set_option maxHeartbeats 1000000

end Go.Proofs.YtpfkcblhojkaiaaDoor.Eng
