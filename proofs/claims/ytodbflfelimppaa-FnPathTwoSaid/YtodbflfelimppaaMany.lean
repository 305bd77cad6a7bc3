/- Walks of both ValMany and what they call: the count of a tree that is well made and small enough, else 0. -/
import Derived.Test.YtodbflfelimppaaOk
namespace Go.Proofs.Ytodbflfelimppaa.Eng
open Go.RowKit
set_option linter.unusedVariables false
set_option linter.unusedSimpArgs false
set_option maxHeartbeats 1000000


noncomputable def manyOf (t : Tr) : Int := if (decide (Form 6 t) && decide ((t.cnt : Int) ≤ 60)) = true then t.cnt else 0
def CntOk (t : Tr) : Prop := ∀ (v : Value) (w : World), Rep Any w t v → t.wt ≤ 1048576 →
    Calls Try.prog 181 #[v] w fun e w' => e = .returned (.int .i64 (t.cnt : Int)) ∧ Chg No w w'



end Go.Proofs.Ytodbflfelimppaa.Eng
