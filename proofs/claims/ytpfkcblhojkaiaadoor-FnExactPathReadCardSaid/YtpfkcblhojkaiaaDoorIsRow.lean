/- Walks of isRow and l4Row: whether a tree is a row. -/
import Derived.Test.YtpfkcblhojkaiaaDoorOk
namespace Go.Proofs.YtpfkcblhojkaiaaDoor.Eng
open Go.RowKit
set_option linter.unusedVariables false
set_option linter.unusedSimpArgs false
set_option maxHeartbeats 1000000


noncomputable def okT (t : Tr) : Bool := decide (Form 6 t) && decide ((t.cnt : Int) ≤ 60)
noncomputable def rowT (t : Tr) : Bool := okT t && t.kind == 5

end Go.Proofs.YtpfkcblhojkaiaaDoor.Eng
