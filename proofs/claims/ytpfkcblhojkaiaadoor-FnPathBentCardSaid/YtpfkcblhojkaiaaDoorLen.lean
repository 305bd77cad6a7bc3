/- Walks of both PartLen: a tree's length is a number. -/
import Derived.Test.YtpfkcblhojkaiaaDoorCom
import Derived.Test.YtpfkcblhojkaiaaDoorOrd0
namespace Go.Proofs.YtpfkcblhojkaiaaDoor.Eng
open Go.RowKit
set_option linter.unusedVariables false
set_option linter.unusedSimpArgs false
set_option maxHeartbeats 1000000


noncomputable def lenR (t : Tr) : Option Tr := if okT t = true then (if t.kind = 0 then some (numT 0) else if t.kind = 3 then some (numT (if t.num < 0 then -t.num else t.num)) else if t.kind = 4 then some (numT t.str.size) else if t.kind = 5 ∨ t.kind = 6 then some (numT t.list.length) else none) else none
theorem okT_num {t : Tr} (h : okT t = true) : -1000000 ≤ t.num ∧ t.num ≤ 1000000 := by
  obtain ⟨k, n, s, ks, l⟩ := t
  have := (Form.iff.1 (okT_node h).1).2.1
  exact ⟨this.n0, this.n1⟩
theorem lenR_leaf (t : Tr) : ((lenR t).getD zeroT).keys.length + sumN Tr.mkn ((lenR t).getD zeroT).list = 0 := by
  unfold lenR
  repeat' split
  all_goals rfl

end Go.Proofs.YtpfkcblhojkaiaaDoor.Eng
