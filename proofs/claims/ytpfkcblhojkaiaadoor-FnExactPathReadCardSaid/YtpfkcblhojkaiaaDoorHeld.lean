/- Walks of what looks for marks: every mark is found where it was laid. -/
import Derived.Test.YtpfkcblhojkaiaaDoorMark
namespace Go.Proofs.YtpfkcblhojkaiaaDoor.Eng
open Go.RowKit
set_option linter.unusedVariables false
set_option linter.unusedSimpArgs false
set_option maxHeartbeats 1000000





end Go.Proofs.YtpfkcblhojkaiaaDoor.Eng
