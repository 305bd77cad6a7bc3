/- Walks of both PartEach: the parts of a tree that is well made and small enough and has parts, else none. -/
import Derived.Test.YtpfkcblhojkaiaaDoorHeld
import Derived.Test.YtpfkcblhojkaiaaDoorIsRow
namespace Go.Proofs.YtpfkcblhojkaiaaDoor.Eng
open Go.RowKit
set_option linter.unusedVariables false
set_option linter.unusedSimpArgs false
set_option maxHeartbeats 1000000


noncomputable def eachB (t : Tr) : Bool := okT t && decide (5 ≤ t.kind)
noncomputable def eachL (t : Tr) : List Tr := if eachB t = true then t.list else []
theorem eachL_mkn (t : Tr) : sumN Tr.mkn (eachL t) ≤ 3 * t.wt + 3 := by
  have := t.mkn_list
  unfold eachL
  split
  · omega
  · simp [sumN]

end Go.Proofs.YtpfkcblhojkaiaaDoor.Eng
