/- Walks of both ValMany and what they call: the count of a tree that is well made and small enough, else 0. -/
import Derived.Test.YtpfkcblhojkaiaaDoorOk
namespace Go.Proofs.YtpfkcblhojkaiaaDoor.Eng
open Go.RowKit
set_option linter.unusedVariables false
set_option linter.unusedSimpArgs false
set_option maxHeartbeats 1000000


noncomputable def manyOf (t : Tr) : Int := if (decide (Form 6 t) && decide ((t.cnt : Int) ≤ 60)) = true then t.cnt else 0
def CntOk (t : Tr) : Prop := ∀ (v : Value) (w : World), Rep Any w t v → t.wt ≤ 1048576 →
    Calls Tryd.prog 76 #[v] w fun e w' => e = .returned (.int .i64 (t.cnt : Int)) ∧ Chg No w w'

set_option maxRecDepth 100000 in
theorem many_of (k n : Int) (s : ByteArray) (ks : List ByteArray) (l : List Tr) (H : ∀ t ∈ l, CntOk t) : CntOk (.mk k n s ks l) := by
  intro v w hr hw
  obtain ⟨v3, v4, rfl, h3, h4⟩ := hr.open
  obtain ⟨A3, c3, rfl, hn3⟩ := h3.open
  obtain ⟨A4, c4, rfl, hn4⟩ := h4.open
  have hcw := Tr.cnt_wt (.mk k n s ks l)
  have hcm := Tr.cnt_mk k n s ks l
  rw [Tr.wt_mk] at hw
  have hcs : sumN Tr.cnt l ≤ l.length + sumN Tr.wt l := sumN_le fun x _ => x.cnt_wt
  refine enter Tryd.func76 rfl rfl rfl ?_
  have F0 := Fr.start w
  refine Cod.seq fun K1 hK1 => ?_
  refine Cod.region ?_
  refine Ops.step (One.box F0 rfl rfl rfl rfl (ev_t rfl) ?_)
  intro b1 w1 hb1 F1
  change Fr _ _ [blk _ _ [_, _, _, _, _]] _ at F1
  refine Ops.step (One.val rfl rfl rfl (yld_assign rfl ev_c) ?_)
  refine Ops.nil fun a hS => ?_
  refine hK1 _ _ ?_ a hS
  refine Cod.seq fun K2 hK2 => ?_
  refine Cod.region ?_
  refine Ops.step (One.val rfl rfl rfl (yld_assign rfl ev_c) ?_)
  refine Ops.nil fun a hS => ?_
  refine hK2 _ _ ?_ a hS
  refine Cod.seq fun K3 hK3 => ?_
  refine Cod.seq fun K4 hK4 => ?_
  refine Cod.region ?_
  refine Ops.step (One.val rfl rfl rfl (yld_field fi33_4 rfl (ev_t rfl)) ?_)
  refine Ops.step (One.val rfl rfl rfl (yld_load1 on31 rfl (ev_t rfl) (fun _ => F1.cell 0 rfl rfl)) ?_)
  refine Ops.step (One.val rfl rfl rfl (yld_len sl31 rfl (ev_t rfl)) ?_)
  refine Ops.step (One.val rfl rfl rfl (yld_move rfl ev_c) ?_)
  refine Ops.nil fun a hS => ?_
  refine hK4 _ _ ?_ a hS
  refine Cod.block ?_
  refine Cod.loop (fun i : Nat => [(3, true, .int .i64 (1 + sumN Tr.cnt (l.take i) : Nat)), (7, true, .slice A4 l.length c4), (8, true, .int .i64 (l.length : Int)), (9, true, .int .i64 (i : Int))]) (fun i w' => i ≤ l.length ∧ Fr No w [blk b1 33 [.int .i64 k, .int .i64 n, .string s, .slice A3 ks.length c3, .slice A4 l.length c4]] w') (fun i => l.length - i) 0 ⟨rfl, rfl, rfl, rfl, trivial⟩ ⟨Nat.zero_le _, F1⟩ ?_
  intro i w2 hW K5 hK5
  obtain ⟨hi, F2⟩ := hW
  refine Cod.seq fun K6 hK6 => ?_
  refine Cod.region ?_
  refine Ops.step (One.val rfl rfl rfl (yld_lss rfl (ev_t rfl) (ev_t rfl)) ?_)
  refine Ops.nil fun a hS => ?_
  refine hK6 _ _ ?_ a hS
  refine Cod.seq fun K7 hK7 => ?_
  refine Cod.cond rfl (fun hc10 => ?_) (fun hc10 => ?_)
  · skip
    have hi : i < l.length := by simp at hc10; omega
    obtain ⟨b, o, cs, rfl, -, hlc, hr, ht⟩ := h4.at i hi
    obtain ⟨y1, y2, y3, y4, y5, rfl⟩ := five hlc
    have hst := sumN_take Tr.cnt l i hi
    have hsl := sumN_take_le Tr.cnt l (i + 1)
    have hwi := sumN_mem Tr.wt (List.getElem_mem hi)
    refine Cod.skip fun a hS => ?_
    refine hK7 _ _ ?_ a hS
    refine Cod.seq fun K8 hK8 => ?_
    refine Cod.block ?_
    refine Cod.seq fun K9 hK9 => ?_
    refine Cod.region ?_
    refine Ops.step (One.val rfl rfl rfl (yld_indexN sl31 rfl (ev_t rfl) (ev_t rfl) (fun _ => by omega)) ?_)
    refine Ops.step (One.val rfl rfl rfl (yld_loadN ag33 rfl (ev_t rfl) (fun _ => rng hr F2.chg) rfl) ?_)
    refine Ops.step (One.alloc F2 zero33 rfl rfl rfl rfl ?_)
    intro b2 w3 hb2 F3
    change Fr _ _ [blk _ _ [_, _, _, _, _], blk _ _ [_, _, _, _, _]] _ at F3
    refine Ops.step (One.storeN (vs := [_, _, _, _, _]) F3 0 rfl sz33 rfl rfl rfl (ev_t rfl) (ev_t rfl) rfl rfl ht.one ?_)
    intro w4 F4
    change Fr _ _ [blk _ _ [_, _, _, _, _], blk _ _ [_, _, _, _, _]] _ at F4
    refine Ops.nil fun a hS => ?_
    refine hK9 _ _ ?_ a hS
    refine Cod.region ?_
    refine Ops.step (One.val rfl rfl rfl (yld_move rfl (ev_t rfl)) ?_)
    refine Ops.step (One.val rfl rfl rfl (yld_loadN ag33 rfl (ev_t rfl) (fun _ => F4.range (m := 5) (cs' := [_, _, _, _, _]) 0 rfl rfl) rfl) ?_)
    refine Ops.step (One.call rfl rfl rfl (ent_f rfl (evl1 (ev_t rfl)) (enters en76)) (H _ (List.getElem_mem hi) _ _ (ht.chg F4.chg) (by omega)) (fun e w5 hw5 => ?_))
    obtain ⟨rfl, C5⟩ := hw5
    have F5 := F4.call C5
    refine ⟨_, rfl, ?_⟩
    refine Ops.step (One.val rfl rfl rfl (yld_add rfl (ev_t rfl) (ev_t rfl) (fun _ => by omega)) ?_)
    refine Ops.step (One.val rfl rfl rfl (yld_assign rfl (ev_t rfl)) ?_)
    refine Ops.nil fun a hS => ?_
    refine hK8 _ _ ?_ a hS
    refine Cod.region ?_
    refine Ops.step (One.val rfl rfl rfl (yld_inc rfl (ev_t rfl) (fun _ => by omega)) ?_)
    refine Ops.step (One.val rfl rfl rfl (yld_move rfl (ev_t rfl)) ?_)
    refine Ops.nil fun a hS => ?_
    rw [show ((1 + sumN Tr.cnt (l.take i) : Nat) : Int) + (Tr.cnt l[i] : Int) = ((1 + sumN Tr.cnt (l.take (i + 1)) : Nat) : Int) by omega] at hS
    exact hK5 (i + 1) _ a (hS.sub ⟨rfl, rfl, rfl, rfl, trivial⟩) ⟨by omega, F5.drop1⟩ (by omega)
  · skip
    have hend : i = l.length := by simp at hc10; omega
    subst hend
    rw [List.take_length]
    refine Cod.exit fun a hS => ?_
    simp only [Exit.then, Exit.inBlock, ↓reduceIte]
    refine hK3 _ _ ?_ a hS
    refine Cod.seq fun K10 hK10 => ?_
    refine Cod.region ?_
    refine Ops.step (One.val rfl rfl rfl (yld_move rfl (ev_t rfl)) ?_)
    refine Ops.step (One.val rfl rfl rfl (yld_assign rfl (ev_t rfl)) ?_)
    refine Ops.nil fun a hS => ?_
    refine hK10 _ _ ?_ a hS
    refine Cod.ret fun a hS => ?_
    try simp only [Exit.then, Exit.inBlock]
    exact ret1 (t := 2) rfl hS rfl ⟨ret_i (by rw [hcm]), F2.chg⟩


theorem many_ct (t : Tr) : CntOk t := Tr.ind (p := CntOk) many_of t

set_option maxRecDepth 100000 in
theorem valMany_ct (t : Tr) (v : Value) (w : World) (hr : Rep Any w t v) (hf : t.Fit) (hw : t.wt ≤ 1048576) :
    Calls Tryd.prog 38 #[v] w fun e w' => e = .returned (.int .i64 (manyOf t)) ∧ Chg No w w' := by
  obtain ⟨v3, v4, ev, -, -⟩ := hr.form
  subst ev
  refine enter Tryd.func38 rfl rfl rfl ?_
  have F0 := Fr.start w
  refine Cod.seq fun K1 hK1 => ?_
  refine Cod.region ?_
  refine Ops.step (One.box F0 rfl rfl rfl rfl (ev_t rfl) ?_)
  intro b1 w1 hb1 F1
  change Fr _ _ [blk _ _ [_, _, _, _, _]] _ at F1
  refine Ops.step (One.val rfl rfl rfl (yld_assign rfl ev_c) ?_)
  refine Ops.nil fun a hS => ?_
  refine hK1 _ _ ?_ a hS
  refine Cod.seq fun K2 hK2 => ?_
  refine Cod.seq fun K3 hK3 => ?_
  refine Cod.region ?_
  refine Ops.step (One.val rfl rfl rfl (yld_loadN ag33 rfl (ev_t rfl) (fun _ => F1.range (m := 5) (cs' := [_, _, _, _, _]) 0 rfl rfl) rfl) ?_)
  refine Ops.step (One.call rfl rfl rfl (ent_f rfl (evl1 (ev_t rfl)) (enters en36)) (valOk_ct t _ _ (hr.chg F1.chg) hf) (fun e w2 hw2 => ?_))
  obtain ⟨rfl, C2⟩ := hw2
  have F2 := F1.call C2
  refine ⟨_, rfl, ?_⟩
  refine Ops.step (One.val rfl rfl rfl (yld_not rfl (ev_t rfl)) ?_)
  refine Ops.nil fun a hS => ?_
  refine hK3 _ _ ?_ a hS
  refine Cod.cond rfl (fun hc5 => ?_) (fun hc5 => ?_)
  · skip
    have hm : manyOf t = 0 := if_neg (fun h => by rw [h] at hc5; cases hc5)
    refine Cod.seq fun K4 hK4 => ?_
    refine Cod.region ?_
    refine Ops.step (One.val rfl rfl rfl (yld_assign rfl ev_c) ?_)
    refine Ops.nil fun a hS => ?_
    refine hK4 _ _ ?_ a hS
    refine Cod.ret fun a hS => ?_
    try simp only [Exit.then, Exit.inBlock]
    exact ret1 (t := 2) rfl hS rfl ⟨by rw [hm], F2.chg⟩
  · skip
    have hm : manyOf t = t.cnt := if_pos (by simpa using hc5)
    refine Cod.skip fun a hS => ?_
    refine hK2 _ _ ?_ a hS
    refine Cod.seq fun K5 hK5 => ?_
    refine Cod.region ?_
    refine Ops.step (One.val rfl rfl rfl (yld_loadN ag33 rfl (ev_t rfl) (fun _ => F2.range (m := 5) (cs' := [_, _, _, _, _]) 0 rfl rfl) rfl) ?_)
    refine Ops.step (One.call rfl rfl rfl (ent_f rfl (evl1 (ev_t rfl)) (enters en76)) (many_ct t _ _ (hr.chg F2.chg) hw) (fun e w3 hw3 => ?_))
    obtain ⟨rfl, C3⟩ := hw3
    have F3 := F2.call C3
    refine ⟨_, rfl, ?_⟩
    refine Ops.step (One.val rfl rfl rfl (yld_assign rfl (ev_t rfl)) ?_)
    refine Ops.nil fun a hS => ?_
    refine hK5 _ _ ?_ a hS
    refine Cod.ret fun a hS => ?_
    try simp only [Exit.then, Exit.inBlock]
    exact ret1 (t := 2) rfl hS rfl ⟨by rw [hm], F3.chg⟩

end Go.Proofs.YtpfkcblhojkaiaaDoor.Eng
