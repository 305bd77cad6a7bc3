/- Walks of l1Max and l1Min. -/
import Derived.Test.YtodbflfelimppaaOk
import Derived.Test.YtodbflfelimppaaBld
namespace Go.Proofs.Ytodbflfelimppaa.Eng
open Go.RowKit
set_option linter.unusedVariables false
set_option linter.unusedSimpArgs false
set_option maxHeartbeats 1000000

set_option maxRecDepth 100000 in
theorem l1Max_ct (x y : Int) (w : World) : Calls Try.prog 162 #[.int .i64 x, .int .i64 y] w fun e w' => e = .returned (.int .i64 (if y < x then x else y)) ∧ Chg No w w' := by
  refine enter Try.func162 rfl rfl rfl ?_
  have F0 := Fr.start w
  refine Cod.seq fun K1 hK1 => ?_
  refine Cod.region ?_
  refine Ops.step (One.val rfl rfl rfl (yld_assign rfl ev_c) ?_)
  refine Ops.nil fun a hS => ?_
  refine hK1 _ _ ?_ a hS
  refine Cod.seq fun K2 hK2 => ?_
  refine Cod.seq fun K3 hK3 => ?_
  refine Cod.region ?_
  refine Ops.step (One.val rfl rfl rfl (yld_move rfl (ev_t rfl)) ?_)
  refine Ops.step (One.val rfl rfl rfl (yld_move rfl (ev_t rfl)) ?_)
  refine Ops.step (One.val rfl rfl rfl (yld_gtr rfl (ev_t rfl) (ev_t rfl)) ?_)
  refine Ops.nil fun a hS => ?_
  refine hK3 _ _ ?_ a hS
  refine Cod.cond rfl (fun hc7 => ?_) (fun hc7 => ?_)
  · skip
    have h1 : y < x := by simpa using hc7
    refine Cod.seq fun K4 hK4 => ?_
    refine Cod.region ?_
    refine Ops.step (One.val rfl rfl rfl (yld_move rfl (ev_t rfl)) ?_)
    refine Ops.step (One.val rfl rfl rfl (yld_assign rfl (ev_t rfl)) ?_)
    refine Ops.nil fun a hS => ?_
    refine hK4 _ _ ?_ a hS
    refine Cod.ret fun a hS => ?_
    try simp only [Exit.then, Exit.inBlock]
    exact ret1 (t := 4) rfl hS rfl ⟨by rw [if_pos h1], F0.chg⟩
  · skip
    have h1 : ¬ y < x := by simpa using hc7
    refine Cod.skip fun a hS => ?_
    refine hK2 _ _ ?_ a hS
    refine Cod.seq fun K5 hK5 => ?_
    refine Cod.region ?_
    refine Ops.step (One.val rfl rfl rfl (yld_move rfl (ev_t rfl)) ?_)
    refine Ops.step (One.val rfl rfl rfl (yld_assign rfl (ev_t rfl)) ?_)
    refine Ops.nil fun a hS => ?_
    refine hK5 _ _ ?_ a hS
    refine Cod.ret fun a hS => ?_
    try simp only [Exit.then, Exit.inBlock]
    exact ret1 (t := 4) rfl hS rfl ⟨by rw [if_neg h1], F0.chg⟩

set_option maxRecDepth 100000 in
theorem l1Min_ct (x y : Int) (w : World) : Calls Try.prog 163 #[.int .i64 x, .int .i64 y] w fun e w' => e = .returned (.int .i64 (if x < y then x else y)) ∧ Chg No w w' := by
  refine enter Try.func163 rfl rfl rfl ?_
  have F0 := Fr.start w
  refine Cod.seq fun K1 hK1 => ?_
  refine Cod.region ?_
  refine Ops.step (One.val rfl rfl rfl (yld_assign rfl ev_c) ?_)
  refine Ops.nil fun a hS => ?_
  refine hK1 _ _ ?_ a hS
  refine Cod.seq fun K2 hK2 => ?_
  refine Cod.seq fun K3 hK3 => ?_
  refine Cod.region ?_
  refine Ops.step (One.val rfl rfl rfl (yld_move rfl (ev_t rfl)) ?_)
  refine Ops.step (One.val rfl rfl rfl (yld_move rfl (ev_t rfl)) ?_)
  refine Ops.step (One.val rfl rfl rfl (yld_lss rfl (ev_t rfl) (ev_t rfl)) ?_)
  refine Ops.nil fun a hS => ?_
  refine hK3 _ _ ?_ a hS
  refine Cod.cond rfl (fun hc7 => ?_) (fun hc7 => ?_)
  · skip
    have h1 : x < y := by simpa using hc7
    refine Cod.seq fun K4 hK4 => ?_
    refine Cod.region ?_
    refine Ops.step (One.val rfl rfl rfl (yld_move rfl (ev_t rfl)) ?_)
    refine Ops.step (One.val rfl rfl rfl (yld_assign rfl (ev_t rfl)) ?_)
    refine Ops.nil fun a hS => ?_
    refine hK4 _ _ ?_ a hS
    refine Cod.ret fun a hS => ?_
    try simp only [Exit.then, Exit.inBlock]
    exact ret1 (t := 4) rfl hS rfl ⟨by rw [if_pos h1], F0.chg⟩
  · skip
    have h1 : ¬ x < y := by simpa using hc7
    refine Cod.skip fun a hS => ?_
    refine hK2 _ _ ?_ a hS
    refine Cod.seq fun K5 hK5 => ?_
    refine Cod.region ?_
    refine Ops.step (One.val rfl rfl rfl (yld_move rfl (ev_t rfl)) ?_)
    refine Ops.step (One.val rfl rfl rfl (yld_assign rfl (ev_t rfl)) ?_)
    refine Ops.nil fun a hS => ?_
    refine hK5 _ _ ?_ a hS
    refine Cod.ret fun a hS => ?_
    try simp only [Exit.then, Exit.inBlock]
    exact ret1 (t := 4) rfl hS rfl ⟨by rw [if_neg h1], F0.chg⟩

end Go.Proofs.Ytodbflfelimppaa.Eng
