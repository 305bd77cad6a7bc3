/- Whether a slice is nil. No statement of the seat is proved here. -/
import Derived.Test.YtpfkcblhojkaiaaDoorYld
import Derived.Lib.LazyBuf
namespace Go.Proofs.YtpfkcblhojkaiaaDoor.Eng
open Go.RowKit
set_option linter.unusedVariables false
set_option linter.unusedSimpArgs false
section
variable {P : Program} {n : Nat} {S : Env} {o : Oper} {g : Bool} {v : Value} {w : World} {x : Operand} {t t' : TypeId}
theorem yld_nileq {A : Option Addr} {m c : Nat} {e sz by' : Nat} (ht : sliceT P t e sz by' = true) (ho : o.op = .binOp .eql t x (.const (.slice none 0 0)) t') (hx : Ev S g x (.slice A m c)) : Yld P n S o g w (.bool A.isNone) := fun a hs hg => by
  have ex := hx n a hs hg
  have ey : a.eval (.const (.slice none 0 0)) = .slice none 0 0 := rfl
  generalize a.eval = ρ at ex ey ⊢
  have hu := (sliceT_spec ht).1
  have hr := run_eql_slice_nil (P := P) w t e A m c hu
  simp [execOp, ho, ex, ey, eqGuard, hr, run_underlying hu]
end
end Go.Proofs.YtpfkcblhojkaiaaDoor.Eng
