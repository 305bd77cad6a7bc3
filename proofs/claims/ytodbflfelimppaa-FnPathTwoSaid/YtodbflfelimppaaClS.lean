/- The walk of slices.Clone over trees: a row of the call's own with the same elements. -/
import Derived.Test.YtodbflfelimppaaCom
import Derived.Test.YtodbflfelimppaaNil
namespace Go.Proofs.Ytodbflfelimppaa.Eng
open Go.RowKit
set_option linter.unusedVariables false
set_option linter.unusedSimpArgs false
set_option maxHeartbeats 1000000

set_option maxRecDepth 100000 in
theorem cloneS_ct (l : List Tr) (v : Value) (w0 w : World) (hp : RepL Any w0 l v) (hc0 : Chg No w0 w) (hn : l.length ≤ 1048576) : Calls Try.prog 86 #[v] w fun e w' => ∃ v' ys, e = .returned v' ∧ Chg No w w' ∧ (own 31 5 v' ys.length (ys.flatMap enc5)).is w' ∧ AL w0 l ys ∧ ∀ k, v'.ownBlock = some k → w.heap.size ≤ k := by
  obtain ⟨ys, hre, hal⟩ := hp.v5
  have hyl := hal.1
  obtain ⟨A, c, rfl, hnn⟩ := hre.open
  refine enter Try.func86 rfl rfl rfl ?_
  have F0 := Fr.start w
  refine Cod.seq fun K1 hK1 => ?_
  refine Cod.region ?_
  refine Ops.step (One.val rfl rfl rfl (yld_assign rfl ev_c) ?_)
  refine Ops.nil fun a hS => ?_
  refine hK1 _ _ ?_ a hS
  refine Cod.seq fun K2 hK2 => ?_
  refine Cod.seq fun K3 hK3 => ?_
  refine Cod.region ?_
  refine Ops.step (One.val rfl rfl rfl (yld_move rfl (ev_t rfl)) ?_)
  refine Ops.step (One.val rfl rfl rfl (yld_nileq sl29 rfl (ev_t rfl)) ?_)
  refine Ops.nil fun a hS => ?_
  refine hK3 _ _ ?_ a hS
  refine Cod.cond rfl (fun hc4 => ?_) (fun hc4 => ?_)
  · skip
    have hA : A = none := by cases A <;> simp at hc4 ⊢
    have hys : ys = [] := by
      subst hA
      obtain ⟨A2, c2, e2, -, -, h2⟩ := hre
      by_cases hne : ys = []
      · exact hne
      · obtain ⟨b, o, e3, -⟩ := h2 hne
        subst e3
        simp at e2
    refine Cod.seq fun K4 hK4 => ?_
    refine Cod.region ?_
    refine Ops.step (One.val rfl rfl rfl (yld_assign rfl ev_c) ?_)
    refine Ops.nil fun a hS => ?_
    refine hK4 _ _ ?_ a hS
    refine Cod.ret fun a hS => ?_
    try simp only [Exit.then, Exit.inBlock]
    exact ret1 (t := 2) rfl hS rfl ⟨.slice none 0 0, ys, rfl, F0.chg, by rw [hys]; exact World.ownsRow_nil _ 0 31 5, hal, fun k hk => by simp [Value.ownBlock] at hk⟩
  · skip
    refine Cod.skip fun a hS => ?_
    refine hK2 _ _ ?_ a hS
    refine Cod.seq fun K5 hK5 => ?_
    refine Cod.region ?_
    refine Ops.step (One.buildNil enc5 F0 sl29 rfl rfl rfl rfl ?_)
    intro b1 w1 hb1 F1
    refine Ops.step (One.val rfl rfl rfl (yld_move rfl (ev_t rfl)) ?_)
    refine Ops.step (One.append (enc := enc5) ys F1 0 rfl sl29 zero31 rfl rfl (fun _ => rfl) rfl rfl rfl rfl (ev_t rfl) (ev_t rfl) (hre.chg (hc0.trans F1.chg)) hal.cells (by simp; omega) (by simp; omega) ?_)
    intro u2 w2 hu2 F2
    change Fr _ _ [_] _ at F2
    refine Ops.step (One.val rfl rfl rfl (yld_assign rfl (ev_t rfl)) ?_)
    refine Ops.nil fun a hS => ?_
    refine hK5 _ _ ?_ a hS
    refine Cod.ret fun a hS => ?_
    try simp only [Exit.then, Exit.inBlock]
    exact ret1 (t := 2) rfl hS rfl ⟨u2, ys, rfl, F2.chg, F2.get 0 rfl, hal, fun b hb => (F2.dom _ (List.mem_cons_self ..) b hb).resolve_left id⟩

end Go.Proofs.Ytodbflfelimppaa.Eng
