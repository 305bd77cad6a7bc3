/- The walk of markStepS: marks are laid in a row of steps that the call owns. -/
import Derived.Test.YtlfmfcocdailgaaPGet
import Derived.Test.YtlfmfcocdailgaaMark
namespace Go.Proofs.Ytlfmfcocdailgaa.Eng
open Go.RowKit
set_option linter.unusedVariables false
set_option linter.unusedSimpArgs false

set_option maxRecDepth 100000 in
theorem markStepS_ct (p : List Stp) (k0 : Int) (v : Value) (w : World) (h : (own 83 3 v p.length (p.flatMap pCells)).is w) (hk0 : 0 ≤ k0) (hk : k0 + 3 * p.length ≤ 4611686018427387904) :
    Calls Try.prog 47 #[v, .int .i64 k0] w fun e w' => ∃ qs : List Stp, e = .returned (.int .i64 (k0 + 3 * (p.length : Int))) ∧ Chg (fun b => v.ownBlock = some b) w w' ∧ (own 83 3 v p.length (qs.flatMap pCells)).is w' := by
  obtain ⟨A, m0, c0, hv⟩ := own_form h
  have hm0 : m0 = p.length := own_len h hv
  subst hv
  subst hm0
  obtain ⟨k, rfl⟩ := Int.eq_ofNat_of_zero_le hk0
  refine enter Try.func47 rfl rfl rfl ?_
  have F0 := Fr.lend _ h
  refine Cod.seq fun K1 hK1 => ?_
  refine Cod.region ?_
  refine Ops.step (One.val rfl rfl rfl (yld_assign rfl ev_c) ?_)
  refine Ops.nil fun a hS => ?_
  refine hK1 _ _ ?_ a hS
  refine Cod.seq fun K2 hK2 => ?_
  refine Cod.seq fun K3 hK3 => ?_
  refine Cod.region ?_
  refine Ops.step (One.val rfl rfl rfl (yld_assign rfl ev_c) ?_)
  refine Ops.nil fun a hS => ?_
  refine hK3 _ _ ?_ a hS
  refine Cod.block ?_
  refine Cod.loop (fun i : Nat × List Stp => [(0, true, .slice A p.length c0), (1, true, .int .i64 ((k + 3 * i.1 : Nat) : Int)), (5, true, .int .i64 (i.1 : Int))]) (fun i w' => i.1 ≤ p.length ∧ i.2.length = p.length ∧ Fr (fun b => (Value.slice A p.length c0).ownBlock = some b) w [own 83 3 (.slice A p.length c0) p.length (i.2.flatMap pCells)] w') (fun i => p.length - i.1) (0, p) ⟨rfl, rfl, rfl, trivial⟩ ⟨Nat.zero_le _, rfl, F0⟩ ?_
  intro i w1 hW K4 hK4
  obtain ⟨i, qs⟩ := i
  obtain ⟨hi, hql, F1⟩ := hW
  dsimp only at *
  refine Cod.seq fun K5 hK5 => ?_
  refine Cod.seq fun K6 hK6 => ?_
  refine Cod.region ?_
  refine Ops.step (One.val rfl rfl rfl (yld_move rfl (ev_t rfl)) ?_)
  refine Ops.step (One.val rfl rfl rfl (yld_move rfl (ev_t rfl)) ?_)
  refine Ops.step (One.val rfl rfl rfl (yld_len sl49 rfl (ev_t rfl)) ?_)
  refine Ops.step (One.val rfl rfl rfl (yld_lss rfl (ev_t rfl) (ev_t rfl)) ?_)
  refine Ops.nil fun a hS => ?_
  refine hK6 _ _ ?_ a hS
  refine Cod.cond rfl (fun hc9 => ?_) (fun hc9 => ?_)
  · skip
    have hi : i < p.length := by simpa using hc9
    obtain ⟨bb, cap, hv, -, -⟩ := World.ownsRow.form (F1.get 0 rfl) (by omega)
    obtain ⟨rfl, -⟩ : A = some ⟨bb, 0, none⟩ ∧ c0 = cap := by simpa using hv
    obtain ⟨q, hq⟩ : ∃ q, qs[i]? = some q := ⟨_, List.getElem?_eq_getElem (by omega)⟩
    have hq1 : (qs.set i ⟨((((k + 3 * i) % 3 : Nat) : Int) == 0), q.key, q.pl⟩)[i]? = some ⟨((((k + 3 * i) % 3 : Nat) : Int) == 0), q.key, q.pl⟩ := set_get_self (by omega)
    have hq2 : ((qs.set i ⟨((((k + 3 * i) % 3 : Nat) : Int) == 0), q.key, q.pl⟩).set i ⟨((((k + 3 * i) % 3 : Nat) : Int) == 0), (mt ((k + 3 * i + 1 : Nat) : Int)), q.pl⟩)[i]? = some ⟨((((k + 3 * i) % 3 : Nat) : Int) == 0), (mt ((k + 3 * i + 1 : Nat) : Int)), q.pl⟩ := set_get_self (by simp; omega)
    refine Cod.skip fun a hS => ?_
    refine hK5 _ _ ?_ a hS
    refine Cod.seq fun K7 hK7 => ?_
    refine Cod.block ?_
    refine Cod.seq fun K8 hK8 => ?_
    refine Cod.region ?_
    refine Ops.step (One.val rfl rfl rfl (yld_move rfl (ev_t rfl)) ?_)
    refine Ops.step (One.val rfl rfl rfl (yld_move rfl (ev_t rfl)) ?_)
    refine Ops.step (One.val rfl rfl rfl (yld_move rfl (ev_t rfl)) ?_)
    refine Ops.step (One.val rfl rfl rfl (yld_rem rfl (ev_t rfl) ev_c (j := 3) (by omega)) ?_)
    refine Ops.step (One.val rfl rfl rfl (yld_eql rfl (ev_t rfl) ev_c) ?_)
    refine Ops.step (One.val rfl rfl rfl (yld_indexN sl49 rfl (ev_t rfl) (ev_t rfl) (fun _ => by omega)) ?_)
    refine Ops.step (One.val rfl rfl rfl (yld_field fi83_0 rfl (ev_t rfl)) ?_)
    refine Ops.step (One.storeCell (enc := pCells) ⟨((((k + 3 * i) % 3 : Nat) : Int) == 0), q.key, q.pl⟩ 0 (fun _ => rfl) rfl F1 0 rfl hql hq rfl sz4 rfl rfl rfl (ev_t rfl) (ev_t rfl) rfl ?_)
    intro w2 F2
    change Fr _ _ [_] _ at F2
    refine Ops.nil fun a hS => ?_
    refine hK8 _ _ ?_ a hS
    refine Cod.seq fun K9 hK9 => ?_
    refine Cod.region ?_
    refine Ops.step (One.val rfl rfl rfl (yld_move rfl (ev_t rfl)) ?_)
    refine Ops.step (One.val rfl rfl rfl (yld_inc rfl (ev_t rfl) (fun _ => by omega)) ?_)
    refine Ops.step (One.val rfl rfl rfl (yld_assign rfl (ev_t rfl)) ?_)
    refine Ops.nil fun a hS => ?_
    refine hK9 _ _ ?_ a hS
    refine Cod.seq fun K10 hK10 => ?_
    refine Cod.region ?_
    refine Ops.step (One.val rfl rfl rfl (yld_move rfl (ev_t rfl)) ?_)
    refine Ops.step (One.val rfl rfl rfl (yld_move rfl (ev_t rfl)) ?_)
    refine Ops.step (One.val rfl rfl rfl (yld_move rfl (ev_t rfl)) ?_)
    refine Ops.step (One.call rfl rfl rfl (ent_f rfl (evl1 (ev_t rfl)) (enters en92)) (markText_ct _ _ (by omega)) (fun e w3 hw3 => ?_))
    obtain ⟨rfl, C3⟩ := hw3
    have F3 := F2.call C3
    refine ⟨_, rfl, ?_⟩
    refine Ops.step (One.val rfl rfl rfl (yld_indexN sl49 rfl (ev_t rfl) (ev_t rfl) (fun _ => by omega)) ?_)
    refine Ops.step (One.val rfl rfl rfl (yld_field fi83_1 rfl (ev_t rfl)) ?_)
    refine Ops.step (One.storeCell (enc := pCells) ⟨((((k + 3 * i) % 3 : Nat) : Int) == 0), (mt ((k + 3 * i + 1 : Nat) : Int)), q.pl⟩ 1 (fun _ => rfl) rfl F3 0 rfl (by rw [List.length_set]; exact hql) hq1 rfl sz9 rfl rfl rfl (ev_t rfl) (ev_t rfl) rfl ?_)
    intro w4 F4
    change Fr _ _ [_] _ at F4
    refine Ops.nil fun a hS => ?_
    refine hK10 _ _ ?_ a hS
    refine Cod.seq fun K11 hK11 => ?_
    refine Cod.region ?_
    refine Ops.step (One.val rfl rfl rfl (yld_move rfl (ev_t rfl)) ?_)
    refine Ops.step (One.val rfl rfl rfl (yld_inc rfl (ev_t rfl) (fun _ => by omega)) ?_)
    refine Ops.step (One.val rfl rfl rfl (yld_assign rfl (ev_t rfl)) ?_)
    refine Ops.nil fun a hS => ?_
    refine hK11 _ _ ?_ a hS
    refine Cod.seq fun K12 hK12 => ?_
    refine Cod.region ?_
    refine Ops.step (One.val rfl rfl rfl (yld_move rfl (ev_t rfl)) ?_)
    refine Ops.step (One.val rfl rfl rfl (yld_move rfl (ev_t rfl)) ?_)
    refine Ops.step (One.val rfl rfl rfl (yld_move rfl (ev_t rfl)) ?_)
    refine Ops.step (One.val rfl rfl rfl (yld_indexN sl49 rfl (ev_t rfl) (ev_t rfl) (fun _ => by omega)) ?_)
    refine Ops.step (One.val rfl rfl rfl (yld_field fi83_2 rfl (ev_t rfl)) ?_)
    refine Ops.step (One.storeCell (enc := pCells) ⟨((((k + 3 * i) % 3 : Nat) : Int) == 0), (mt ((k + 3 * i + 1 : Nat) : Int)), ((k + 3 * i + 1 + 1 : Nat) : Int)⟩ 2 (fun _ => rfl) rfl F4 0 rfl (by rw [List.length_set, List.length_set]; exact hql) hq2 rfl sz3 rfl rfl rfl (ev_t rfl) (ev_t rfl) rfl ?_)
    intro w5 F5
    change Fr _ _ [_] _ at F5
    refine Ops.nil fun a hS => ?_
    refine hK12 _ _ ?_ a hS
    refine Cod.region ?_
    refine Ops.step (One.val rfl rfl rfl (yld_move rfl (ev_t rfl)) ?_)
    refine Ops.step (One.val rfl rfl rfl (yld_inc rfl (ev_t rfl) (fun _ => by omega)) ?_)
    refine Ops.step (One.val rfl rfl rfl (yld_assign rfl (ev_t rfl)) ?_)
    refine Ops.nil fun a hS => ?_
    refine hK7 _ _ ?_ a hS
    refine Cod.region ?_
    refine Ops.step (One.val rfl rfl rfl (yld_move rfl (ev_t rfl)) ?_)
    refine Ops.step (One.val rfl rfl rfl (yld_inc rfl (ev_t rfl) (fun _ => by omega)) ?_)
    refine Ops.step (One.val rfl rfl rfl (yld_assign rfl (ev_t rfl)) ?_)
    refine Ops.nil fun a hS => ?_
    rw [show k + 3 * i + 1 + 1 + 1 = k + 3 * (i + 1) by omega] at hS
    exact hK4 (i + 1, _) _ a (hS.sub ⟨rfl, rfl, rfl, trivial⟩) ⟨by show i + 1 ≤ _; omega, by simp [hql], F5⟩ (by show p.length - (i + 1) < p.length - i; omega)
  · skip
    have hend : i = p.length := by simp at hc9; omega
    refine Cod.exit fun a hS => ?_
    simp only [Exit.then, Exit.inBlock, ↓reduceIte]
    refine hK2 _ _ ?_ a hS
    refine Cod.seq fun K13 hK13 => ?_
    refine Cod.region ?_
    refine Ops.step (One.val rfl rfl rfl (yld_move rfl (ev_t rfl)) ?_)
    refine Ops.step (One.val rfl rfl rfl (yld_assign rfl (ev_t rfl)) ?_)
    refine Ops.nil fun a hS => ?_
    refine hK13 _ _ ?_ a hS
    refine Cod.ret fun a hS => ?_
    try simp only [Exit.then, Exit.inBlock]
    exact ret1 (t := 4) rfl hS rfl ⟨qs, ret_i (by rw [hend]; omega), F1.chg, F1.get 0 rfl⟩

end Go.Proofs.Ytlfmfcocdailgaa.Eng
