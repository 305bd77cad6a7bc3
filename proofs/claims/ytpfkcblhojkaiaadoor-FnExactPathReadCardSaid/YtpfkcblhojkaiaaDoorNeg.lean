/- The sign turned; the greater of two numbers. No statement of the seat is proved here. -/
import Derived.Test.YtpfkcblhojkaiaaDoorEng
import Derived.Test.YtpfkcblhojkaiaaDoorYld
namespace Go.Proofs.YtpfkcblhojkaiaaDoor.Eng
open Go.RowKit
set_option linter.unusedVariables false
set_option linter.unusedSimpArgs false
section
variable {P : Program} {n : Nat} {S : Env} {o : Oper} {g : Bool} {v : Value} {w : World} {x y : Operand} {t : TypeId} {i j : Int}
theorem yld_neg (ho : o.op = .unOp .neg t x) (hx : Ev S g x (.int .i64 i)) (hb : g = true → -9223372036854775807 ≤ i ∧ i ≤ 9223372036854775807) : Yld P n S o g w (.int .i64 (-i)) := fun a hs hg => by
  have ex := hx n a hs hg
  generalize a.eval = ρ at ex ⊢
  have hw : IntKind.i64.wrap (-i) = -i := IntWalk.i64_in _ (by have := hb hg; omega)
  simp [execOp, ho, ex, Op.unary, Op.intArith, hw]
theorem yld_max {ts : Array TypeId} (ho : o.op = .call { callee := .builtin .max, args := #[x, y], argTypes := ts }) (hx : Ev S g x (.int .i64 i)) (hy : Ev S g y (.int .i64 j)) : Yld P n S o g w (.int .i64 (if i < j then j else i)) := fun a hs hg => by
  have ex := hx n a hs hg
  have ey := hy n a hs hg
  generalize a.eval = ρ at ex ey ⊢
  simp [execOp, ho, resolve, invoke, builtin, ex, ey, run_max_int2]
theorem yld_min {ts : Array TypeId} (ho : o.op = .call { callee := .builtin .min, args := #[x, y], argTypes := ts }) (hx : Ev S g x (.int .i64 i)) (hy : Ev S g y (.int .i64 j)) : Yld P n S o g w (.int .i64 (if j < i then j else i)) := fun a hs hg => by
  have ex := hx n a hs hg
  have ey := hy n a hs hg
  generalize a.eval = ρ at ex ey ⊢
  simp [execOp, ho, resolve, invoke, builtin, ex, ey, run_min_int2]
end
end Go.Proofs.YtpfkcblhojkaiaaDoor.Eng
