/- Walks of both PartEach: the parts of a tree that is well made and small enough and has parts, else none. -/
import Derived.Test.YtmmgobhoakaaaaaHeld
import Derived.Test.YtmmgobhoakaaaaaIsRow
namespace Go.Proofs.Ytmmgobhoakaaaaa.Eng
open Go.RowKit
set_option linter.unusedVariables false
set_option linter.unusedSimpArgs false
set_option maxHeartbeats 1000000


noncomputable def eachB (t : Tr) : Bool := okT t && decide (5 ≤ t.kind)
noncomputable def eachL (t : Tr) : List Tr := if eachB t = true then t.list else []
theorem eachL_mkn (t : Tr) : sumN Tr.mkn (eachL t) ≤ 3 * t.wt + 3 := by
  have := t.mkn_list
  unfold eachL
  split
  · omega
  · simp [sumN]

set_option maxRecDepth 100000 in
theorem each_ct (t : Tr) (v : Value) (w : World) (hr : Rep Any w t v) (hf : t.Fit) (hw : t.wt ≤ 1048576) :
    Calls Try.prog 57 #[v] w fun e w' => ∃ v' F, e = .returned (.tuple #[v', .bool (eachB t)]) ∧ Chg No w w' ∧ SepL w' F (eachL t) v' ∧ ∀ k, F k → w.heap.size ≤ k := by
  obtain ⟨v3, v4, ev, h3, h4⟩ := hr.form
  subst ev
  refine enter Try.func57 rfl rfl rfl ?_
  have F0 := Fr.start w
  refine Cod.seq fun K1 hK1 => ?_
  refine Cod.region ?_
  refine Ops.step (One.box F0 rfl rfl rfl rfl (ev_t rfl) ?_)
  intro b1 w1 hb1 F1
  change Fr _ _ [blk _ _ [_, _, _, _, _]] _ at F1
  refine Ops.step (One.val rfl rfl rfl (yld_assign rfl ev_c) ?_)
  refine Ops.step (One.val rfl rfl rfl (yld_assign rfl ev_c) ?_)
  refine Ops.nil fun a hS => ?_
  refine hK1 _ _ ?_ a hS
  refine Cod.seq fun K2 hK2 => ?_
  refine Cod.seq fun K3 hK3 => ?_
  refine Cod.region ?_
  refine Ops.step (One.val rfl rfl rfl (yld_loadN ag26 rfl (ev_t rfl) (fun _ => F1.range (m := 5) (cs' := [_, _, _, _, _]) 0 rfl rfl) rfl) ?_)
  refine Ops.step (One.call rfl rfl rfl (ent_f rfl (evl1 (ev_t rfl)) (enters en36)) (valOk_ct t _ _ (hr.chg F1.chg) hf) (fun e w2 hw2 => ?_))
  obtain ⟨rfl, C2⟩ := hw2
  have F2 := F1.call C2
  refine ⟨_, rfl, ?_⟩
  refine Ops.step (One.val rfl rfl rfl (yld_not rfl (ev_t rfl)) ?_)
  refine Ops.step (One.val rfl rfl rfl (yld_move rfl (ev_t rfl)) ?_)
  refine Ops.step (One.val (gd_some rfl rfl) rfl rfl (yld_field fi26_0 rfl (ev_t rfl)) ?_)
  refine Ops.step (One.val (gd_some rfl rfl) rfl rfl (yld_load1 on3 rfl (ev_g rfl) (fun _ => F2.cell 0 rfl rfl)) ?_)
  refine Ops.step (One.val (gd_some rfl rfl) rfl rfl (yld_lss rfl (ev_g rfl) ev_c) ?_)
  refine Ops.step (One.val rfl rfl rfl (yld_or rfl (ev_t rfl) (ev_g rfl)) ?_)
  refine Ops.nil fun a hS => ?_
  refine hK3 _ _ ?_ a hS
  refine Cod.cond rfl (fun hc11 => ?_) (fun hc11 => ?_)
  · skip
    have hb : eachB t = false := by
      have hc : (!(okT t) || decide (t.kind < 5)) = true := hc11
      unfold eachB
      cases h1 : okT t <;> simp [h1] at hc ⊢
      exact hc
    have hl : eachL t = [] := by unfold eachL; rw [if_neg (by rw [hb]; simp)]
    refine Cod.seq fun K4 hK4 => ?_
    refine Cod.region ?_
    refine Ops.step (One.buildNil enc5 F2 sl24 rfl rfl rfl rfl ?_)
    intro b2 w3 hb2 F3
    refine Ops.step (One.val rfl rfl rfl (yld_assign rfl (ev_t rfl)) ?_)
    refine Ops.step (One.val rfl rfl rfl (yld_assign rfl ev_c) ?_)
    refine Ops.nil fun a hS => ?_
    refine hK4 _ _ ?_ a hS
    refine Cod.ret fun a hS => ?_
    try simp only [Exit.then, Exit.inBlock]
    have hF := Fr.toSepL (xs := []) (l := []) F3.kids0 rfl
    exact ret2 (t := 2) (u := 3) rfl hS rfl rfl ⟨_, _, by rw [hb], hF.chg, by rw [hl]; exact hF.get 0 rfl, fun b hb => (hF.dom _ (List.mem_cons_self ..) b hb).resolve_left id⟩
  · skip
    have hb : eachB t = true := by
      have hc : (!(okT t) || decide (t.kind < 5)) = false := hc11
      unfold eachB
      cases h1 : okT t <;> simp [h1] at hc ⊢
      exact hc
    have hl : eachL t = t.list := by unfold eachL; rw [if_pos hb]
    refine Cod.skip fun a hS => ?_
    refine hK2 _ _ ?_ a hS
    refine Cod.seq fun K5 hK5 => ?_
    refine Cod.region ?_
    refine Ops.step (One.val rfl rfl rfl (yld_loadN ag26 rfl (ev_t rfl) (fun _ => F2.range (m := 5) (cs' := [_, _, _, _, _]) 0 rfl rfl) rfl) ?_)
    refine Ops.step (One.call rfl rfl rfl (ent_f rfl (evl1 (ev_t rfl)) (enters en116)) (clone_ct t _ _ (hr.chg F2.chg) hw) (fun e w4 hw4 => ?_))
    obtain ⟨x, G, rfl, C4, hsp, hb4⟩ := hw4
    obtain ⟨tk, tn, ts, tks, tl, rfl⟩ := Tr.eta t
    have hK := F2.new C4 (sep G _ x.val) hsp hb4
    obtain ⟨u3, u4, Fu, hxe, hsub, F4⟩ := hK.sepOut
    have hxe2 := V5.inj hxe
    subst hxe2
    refine ⟨_, rfl, ?_⟩
    refine Ops.step (One.val rfl rfl rfl (yld_fieldv (f := 4) (off := 4) (by kernel_rfl) rfl (ev_t rfl) rfl) ?_)
    refine Ops.step (One.val rfl rfl rfl (yld_assign rfl (ev_t rfl)) ?_)
    refine Ops.step (One.val rfl rfl rfl (yld_assign rfl ev_c) ?_)
    refine Ops.nil fun a hS => ?_
    refine hK5 _ _ ?_ a hS
    refine Cod.ret fun a hS => ?_
    try simp only [Exit.then, Exit.inBlock]
    exact ret2 (t := 2) (u := 3) rfl hS rfl rfl ⟨_, _, by rw [hb], F4.chg, by rw [hl]; exact F4.get 0 rfl, fun b hb => (F4.dom _ (List.mem_cons_self ..) b hb).resolve_left id⟩

end Go.Proofs.Ytmmgobhoakaaaaa.Eng
