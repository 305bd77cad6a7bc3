/- FnExactRowKeys returns true for every tree: where it is small enough to be looked at, the program's RowKeys and the reference's answer alike, the program leaves its argument as it was, and what it gives shares nothing with it, nor with itself, nor with what it gives next. No condition. -/
import Derived.Test.YteodgmpkpbmoeaaRKeys
import Derived.Test.YteodgmpkpbmoeaaArg
import Derived.Test.YteodgmpkpbmoeaaRows
namespace Go.Proofs.Yteodgmpkpbmoeaa.Eng
open Go.RowKit Go.ChangeShapes Go.WideShapes Go.ChangeAt
set_option linter.unusedVariables false
set_option linter.unusedSimpArgs false
set_option maxHeartbeats 1000000
set_option linter.constructorNameAsVariable false
namespace LRowKeys

set_option maxRecDepth 100000 in
theorem walk (ta : Tr) (va : Value) (w : World) (ha : Rep Any w ta va) (fa : ta.Fit) :
    Calls Try.prog 6 #[va] w fun e w' => e = .returned (.bool true) ∧ Chg No w w' := by
  obtain ⟨a3, a4, ea, -, -⟩ := ha.form
  subst ea
  refine enter Try.func6 rfl rfl rfl ?_
  have F0 := Fr.start w
  refine Cod.seq fun K1 hK1 => ?_
  refine Cod.region ?_
  refine Ops.step (One.box F0 rfl rfl rfl rfl (ev_t rfl) ?_)
  intro b1 w1 hb1 F1
  change Fr _ _ [blk _ _ [_, _, _, _, _]] _ at F1
  refine Ops.step (One.val rfl rfl rfl (yld_assign rfl ev_c) ?_)
  refine Ops.nil fun a hS => ?_
  refine hK1 _ _ ?_ a hS
  refine Cod.seq fun K2 hK2 => ?_
  refine Cod.region ?_
  refine Ops.step (One.val rfl rfl rfl (yld_assign rfl ev_c) ?_)
  refine Ops.nil fun a hS => ?_
  refine hK2 _ _ ?_ a hS
  refine Cod.seq fun K3 hK3 => ?_
  refine Cod.region ?_
  refine Ops.step (One.val rfl rfl rfl (yld_loadN ag25 rfl (ev_t rfl) (fun _ => F1.range (m := 5) (cs' := [_, _, _, _, _]) 0 rfl rfl) rfl) ?_)
  refine Ops.step (One.val rfl rfl rfl (yld_move rfl (ev_t rfl)) ?_)
  refine Ops.step (One.call rfl rfl rfl (ent_f rfl (evl2 (ev_t rfl) (ev_t rfl)) (enters en7)) (szVal_ct ta _ _ _ (ha.chg F1.chg) (by omega) (by omega) fa) (fun e w2 hw2 => ?_))
  obtain ⟨rfl, C2⟩ := hw2
  have F2 := F1.call C2
  refine ⟨_, rfl, ?_⟩
  refine Ops.step (One.val rfl rfl rfl (yld_assign rfl (ev_t rfl)) ?_)
  refine Ops.nil fun a hS => ?_
  refine hK3 _ _ ?_ a hS
  refine Cod.seq fun K4 hK4 => ?_
  refine Cod.seq fun K5 hK5 => ?_
  refine Cod.region ?_
  refine Ops.step (One.val rfl rfl rfl (yld_move rfl (ev_t rfl)) ?_)
  refine Ops.step (One.val rfl rfl rfl (yld_lss rfl (ev_t rfl) ev_c) ?_)
  refine Ops.nil fun a hS => ?_
  refine hK5 _ _ ?_ a hS
  refine Cod.cond rfl (fun hc18 => ?_) (fun hc18 => ?_)
  · skip
    skip
    refine Cod.seq fun K6 hK6 => ?_
    refine Cod.region ?_
    refine Ops.step (One.val rfl rfl rfl (yld_assign rfl ev_c) ?_)
    refine Ops.nil fun a hS => ?_
    refine hK6 _ _ ?_ a hS
    refine Cod.ret fun a hS => ?_
    try simp only [Exit.then, Exit.inBlock]
    exact ret1 (t := 2) rfl hS rfl ⟨rfl, F2.chg⟩
  · skip
    obtain ⟨he, hge⟩ := tk_ok (by omega) hc18
    have hwt : ta.wt ≤ 1048576 := by omega
    have hmk1 := ta.mkn_list
    have hRb := rowKeys_mkn fa
    refine Cod.skip fun a hS => ?_
    refine hK4 _ _ ?_ a hS
    refine Cod.seq fun K7 hK7 => ?_
    refine Cod.region ?_
    refine Ops.step (One.val rfl rfl rfl (yld_loadN ag25 rfl (ev_t rfl) (fun _ => F2.range (m := 5) (cs' := [_, _, _, _, _]) 0 rfl rfl) rfl) ?_)
    refine Ops.step (One.call rfl rfl rfl (ent_f rfl (evl1 (ev_t rfl)) (enters en9)) (toVal_ct ta _ _ (ha.chg F2.chg) (by omega)) (fun e w3 hw3 => ?_))
    obtain ⟨x1, G1, rfl, C3, hs1, hb1⟩ := hw3
    have F3 := F2.new C3 (sep G1 ta x1.val) hs1 hb1
    refine ⟨_, rfl, ?_⟩
    refine Ops.step (One.call rfl rfl rfl (ent_f rfl (evl1 (ev_t rfl)) (enters en24)) (specRowKeys_ct ta _ _ (F3.get 0 rfl).rep fa hwt) (fun e w4 hw4 => ?_))
    obtain ⟨e1, E1, rfl, C4, hE1, hEb1⟩ := hw4
    have F4 := F3.new C4 (sep E1 ((rowKeysR ta).getD zeroT) e1.val) hE1 hEb1
    refine ⟨_, rfl, ?_⟩
    refine Ops.step (One.val rfl rfl rfl (yld_move rfl (ev_t rfl)) ?_)
    refine Ops.step (One.val rfl rfl rfl (yld_extract rfl (ev_t rfl) rfl) ?_)
    refine Ops.step (One.val rfl rfl rfl (yld_extract rfl (ev_t rfl) rfl) ?_)
    refine Ops.step (One.alloc F4 zero31 rfl rfl rfl rfl ?_)
    intro b2 w5 hb2 F5
    change Fr _ _ [blk _ _ [_, _, _, _, _], _, _, blk _ _ [_, _, _, _, _]] _ at F5
    refine Ops.step (One.storeN (vs := [_, _, _, _, _]) F5 0 rfl sz31 rfl rfl rfl (ev_t rfl) (ev_t rfl) rfl rfl hE1.one ?_)
    intro w6 F6
    change Fr _ _ [blk _ _ [_, _, _, _, _], _, _, blk _ _ [_, _, _, _, _]] _ at F6
    refine Ops.step (One.val rfl rfl rfl (yld_assign rfl (ev_t rfl)) ?_)
    refine Ops.nil fun a hS => ?_
    refine hK7 _ _ ?_ a hS
    refine Cod.seq fun K8 hK8 => ?_
    refine Cod.region ?_
    refine Ops.step (One.val rfl rfl rfl (yld_loadN ag25 rfl (ev_t rfl) (fun _ => F6.range (m := 5) (cs' := [_, _, _, _, _]) 3 rfl rfl) rfl) ?_)
    refine Ops.step (One.call rfl rfl rfl (ent_f rfl (evl1 (ev_t rfl)) (enters en9)) (toVal_ct ta _ _ (ha.chg F6.chg) (by omega)) (fun e w7 hw7 => ?_))
    obtain ⟨x2, G2, rfl, C7, hs2, hb2⟩ := hw7
    have F7 := F6.new C7 (sep G2 ta x2.val) hs2 hb2
    refine ⟨_, rfl, ?_⟩
    refine Ops.step (One.alloc F7 zero31 rfl rfl rfl rfl ?_)
    intro b3 w8 hb3 F8
    change Fr _ _ [blk _ _ [_, _, _, _, _], _, blk _ _ [_, _, _, _, _], _, _, blk _ _ [_, _, _, _, _]] _ at F8
    refine Ops.step (One.storeN (vs := [_, _, _, _, _]) F8 0 rfl sz31 rfl rfl rfl (ev_t rfl) (ev_t rfl) rfl rfl hs2.one ?_)
    intro w9 F9
    change Fr _ _ [blk _ _ [_, _, _, _, _], _, blk _ _ [_, _, _, _, _], _, _, blk _ _ [_, _, _, _, _]] _ at F9
    refine Ops.nil fun a hS => ?_
    refine hK8 _ _ ?_ a hS
    refine Cod.seq fun K9 hK9 => ?_
    refine Cod.region ?_
    refine Ops.step (One.val rfl rfl rfl (yld_loadN ag31 rfl (ev_t rfl) (fun _ => F9.range (m := 5) (cs' := [_, _, _, _, _]) 0 rfl rfl) rfl) ?_)
    refine Ops.step (One.call rfl rfl rfl (ent_f rfl (evl1 (ev_t rfl)) (enters en25)) (rowKeys_ct ta _ _ (F9.get 1 rfl).rep fa hwt) (fun e w10 hw10 => ?_))
    obtain ⟨e2, E2, rfl, C10, hE2, hEb2⟩ := hw10
    have F10 := F9.new C10 (sep E2 ((rowKeysR ta).getD zeroT) e2.val) hE2 hEb2
    refine ⟨_, rfl, ?_⟩
    refine Ops.step (One.val rfl rfl rfl (yld_move rfl (ev_t rfl)) ?_)
    refine Ops.step (One.val rfl rfl rfl (yld_extract rfl (ev_t rfl) rfl) ?_)
    refine Ops.step (One.val rfl rfl rfl (yld_extract rfl (ev_t rfl) rfl) ?_)
    refine Ops.step (One.alloc F10 zero31 rfl rfl rfl rfl ?_)
    intro b4 w11 hb4 F11
    change Fr _ _ [blk _ _ [_, _, _, _, _], _, blk _ _ [_, _, _, _, _], _, blk _ _ [_, _, _, _, _], _, _, blk _ _ [_, _, _, _, _]] _ at F11
    refine Ops.step (One.storeN (vs := [_, _, _, _, _]) F11 0 rfl sz31 rfl rfl rfl (ev_t rfl) (ev_t rfl) rfl rfl hE2.one ?_)
    intro w12 F12
    change Fr _ _ [blk _ _ [_, _, _, _, _], _, blk _ _ [_, _, _, _, _], _, blk _ _ [_, _, _, _, _], _, _, blk _ _ [_, _, _, _, _]] _ at F12
    refine Ops.step (One.val rfl rfl rfl (yld_assign rfl (ev_t rfl)) ?_)
    refine Ops.nil fun a hS => ?_
    refine hK9 _ _ ?_ a hS
    refine Cod.seq fun K10 hK10 => ?_
    refine Cod.seq fun K11 hK11 => ?_
    refine Cod.region ?_
    refine Ops.step (One.val rfl rfl rfl (yld_loadN ag31 rfl (ev_t rfl) (fun _ => F12.range (m := 5) (cs' := [_, _, _, _, _]) 0 rfl rfl) rfl) ?_)
    refine Ops.step (One.val rfl rfl rfl (yld_loadN ag31 rfl (ev_t rfl) (fun _ => F12.range (m := 5) (cs' := [_, _, _, _, _]) 4 rfl rfl) rfl) ?_)
    refine Ops.step (One.call rfl rfl rfl (ent_f rfl (evl2 (ev_t rfl) (ev_t rfl)) (enters en12)) (eqVal_ct ((rowKeysR ta).getD zeroT) ((rowKeysR ta).getD zeroT) _ _ _ (F12.get 1 rfl).rep (F12.get 5 rfl).rep) (fun e w13 hw13 => ?_))
    obtain ⟨rfl, C13⟩ := hw13
    have F13 := F12.call C13
    refine ⟨_, rfl, ?_⟩
    refine Ops.step (One.val rfl rfl rfl (yld_not rfl (ev_t rfl)) ?_)
    refine Ops.step (One.val rfl rfl rfl (yld_move rfl (ev_t rfl)) ?_)
    refine Ops.step (One.val (gd_some rfl rfl) rfl rfl (yld_move rfl (ev_t rfl)) ?_)
    refine Ops.step (One.val (gd_some rfl rfl) rfl rfl (yld_move rfl (ev_t rfl)) ?_)
    refine Ops.step (One.val (gd_some rfl rfl) rfl rfl (yld_bneq Try.underlying4 rfl (ev_g rfl) (ev_g rfl)) ?_)
    refine Ops.step (One.val rfl rfl rfl (yld_or rfl (ev_t rfl) (ev_g rfl)) ?_)
    refine Ops.nil fun a hS => ?_
    refine hK11 _ _ ?_ a hS
    refine Cod.cond rfl (fun hc40 => ?_) (fun hc40 => ?_)
    · skip
      simp at hc40
    · skip
      refine Cod.skip fun a hS => ?_
      refine hK10 _ _ ?_ a hS
      refine Cod.seq fun K12 hK12 => ?_
      refine Cod.seq fun K13 hK13 => ?_
      have F14 := F13.drew
      refine Cod.draw (C_of F14) (by kernel_rfl) ?_
      refine Hops.take 0 rfl (by kernel_rfl) (fun _ _ _ h => h) rfl rfl rfl F14 (fun w F => (yld_loadN ag31 rfl (ev_t rfl) (fun _ => F.range (m := 5) (cs' := [_, _, _, _, _]) 2 rfl rfl) rfl)) ?_
      refine Hops.take 1 rfl (by kernel_rfl) (fun _ _ _ h => h) rfl rfl rfl F14 (fun w F => (yld_loadN ag25 rfl (ev_t rfl) (fun _ => F.range (m := 5) (cs' := [_, _, _, _, _]) 7 rfl rfl) rfl)) ?_
      refine Hops.one 2 rfl (by kernel_rfl) (One.call rfl rfl rfl (ent_f rfl (evl1 (ev_t rfl)) (enters en9)) (toVal_ct ta _ _ (ha.chg F14.chg) (by omega)) (fun e w14 hw14 => ?_))
      obtain ⟨x3, G3, rfl, C14, hs3, hb3⟩ := hw14
      have F15 := F14.new C14 (sep G3 ta x3.val) hs3 hb3
      refine ⟨_, rfl, ?_⟩
      refine ⟨F15.drop1, ?_⟩
      refine Hops.one 3 rfl (by kernel_rfl) (One.call rfl rfl rfl (ent_f rfl (evl2 (ev_t rfl) (ev_t rfl)) (enters en12)) (eqVal_ct ta ta _ _ _ (F15.get 4 rfl).rep (F15.get 0 rfl).rep) (fun e w15 hw15 => ?_))
      obtain ⟨rfl, C15⟩ := hw15
      have F16 := F15.call C15
      refine ⟨_, rfl, ?_⟩
      refine ⟨F16.drop1, ?_⟩
      refine Hops.take 4 rfl (by kernel_rfl) (fun _ _ _ h => h) rfl rfl rfl F16.drop1 (fun w F => (yld_not rfl (ev_t rfl))) ?_
      refine Hops.nil (by kernel_rfl) fun a hS => ?_
      refine hK13 _ _ ?_ a hS
      refine Cod.cond rfl (fun hc45 => ?_) (fun hc45 => ?_)
      · skip
        simp at hc45
      · skip
        refine Cod.skip fun a hS => ?_
        refine hK12 _ _ ?_ a hS
        refine Cod.seq fun K14 hK14 => ?_
        refine Cod.region ?_
        refine Ops.step (One.val rfl rfl rfl (yld_assign rfl ev_c) ?_)
        refine Ops.nil fun a hS => ?_
        refine hK14 _ _ ?_ a hS
        refine Cod.seq fun K15 hK15 => ?_
        refine Cod.region ?_
        refine Ops.step (One.val rfl rfl rfl (yld_loadN ag31 rfl (ev_t rfl) (fun _ => F16.range (m := 5) (cs' := [_, _, _, _, _]) 3 rfl rfl) rfl) ?_)
        refine Ops.step (One.val rfl rfl rfl (yld_move rfl (ev_t rfl)) ?_)
        refine Ops.step (One.call rfl rfl rfl (ent_f rfl (evl2 (ev_t rfl) (ev_t rfl)) (enters en13)) (markVal_ct ta 1 x2.val _ G2 (F16.get 4 rfl) (by omega) (by omega)) (fun e w16 hw16 => ?_))
        obtain ⟨rfl, C16, hm1⟩ := hw16
        have F17 := F16.upd 4 rfl C16 (fun _ hk => .inl hk) (sep G2 (ta.mkT 1) x2.val) hm1 (fun _ hk => .inl hk)
        change Fr _ _ [_, _, _, _, _, _, _, _, _] _ at F17
        refine ⟨_, rfl, ?_⟩
        refine Ops.step (One.val rfl rfl rfl (yld_assign rfl (ev_t rfl)) ?_)
        refine Ops.nil fun a hS => ?_
        refine hK15 _ _ ?_ a hS
        refine Cod.seq fun K16 hK16 => ?_
        refine Cod.seq fun K17 hK17 => ?_
        refine Cod.region ?_
        refine Ops.step (One.val rfl rfl rfl (yld_move rfl (ev_t rfl)) ?_)
        refine Ops.step (One.val rfl rfl rfl (yld_lss rfl (ev_t rfl) ev_c) ?_)
        refine Ops.step (One.val rfl rfl rfl (yld_move rfl (ev_t rfl)) ?_)
        refine Ops.step (One.val (gd_some rfl rfl) rfl rfl (yld_loadN ag31 rfl (ev_t rfl) (fun _ => F17.range (m := 5) (cs' := [_, _, _, _, _]) 1 rfl rfl) rfl) ?_)
        refine Ops.step (One.val (gd_some rfl rfl) rfl rfl (yld_loadN ag31 rfl (ev_t rfl) (fun _ => F17.range (m := 5) (cs' := [_, _, _, _, _]) 5 rfl rfl) rfl) ?_)
        refine Ops.step (One.gcall (R := Chg No w16) (gd_some rfl rfl) rfl rfl (ent_f rfl (evl2 (ev_g rfl) (ev_g rfl)) (enters en12)) (Chg.refl _ _) (fun hg => eqVal_ct ((rowKeysR ta).getD zeroT) ((rowKeysR ta).getD zeroT) _ _ _ (F17.get 2 rfl).rep (F17.get 6 rfl).rep) ?_)
        intro w17 C17
        have F18 := F17.call C17
        refine Ops.step (One.val (gd_some rfl rfl) rfl rfl (yld_not rfl (ev_g rfl)) ?_)
        refine Ops.step (One.val rfl rfl rfl (yld_or rfl (ev_t rfl) (ev_g rfl)) ?_)
        refine Ops.step (One.val rfl rfl rfl (yld_move rfl (ev_t rfl)) ?_)
        refine Ops.step (One.val (gd_some rfl rfl) rfl rfl (yld_move rfl (ev_t rfl)) ?_)
        refine Ops.step (One.val (gd_some rfl rfl) rfl rfl (yld_move rfl (ev_t rfl)) ?_)
        refine Ops.step (One.val (gd_some rfl rfl) rfl rfl (yld_bneq Try.underlying4 rfl (ev_g rfl) (ev_g rfl)) ?_)
        refine Ops.step (One.val rfl rfl rfl (yld_or rfl (ev_t rfl) (ev_g rfl)) ?_)
        refine Ops.nil fun a hS => ?_
        refine hK17 _ _ ?_ a hS
        refine Cod.cond rfl (fun hc61 => ?_) (fun hc61 => ?_)
        · skip
          (simp at hc61; omega)
        · skip
          refine Cod.skip fun a hS => ?_
          refine hK16 _ _ ?_ a hS
          refine Cod.seq fun K18 hK18 => ?_
          refine Cod.region ?_
          refine Ops.step (One.val rfl rfl rfl (yld_assign rfl ev_c) ?_)
          refine Ops.nil fun a hS => ?_
          refine hK18 _ _ ?_ a hS
          refine Cod.seq fun K19 hK19 => ?_
          refine Cod.region ?_
          refine Ops.step (One.val rfl rfl rfl (yld_loadN ag31 rfl (ev_t rfl) (fun _ => F18.range (m := 5) (cs' := [_, _, _, _, _]) 1 rfl rfl) rfl) ?_)
          refine Ops.step (One.val rfl rfl rfl (yld_move rfl (ev_t rfl)) ?_)
          refine Ops.step (One.call rfl rfl rfl (ent_f rfl (evl2 (ev_t rfl) (ev_t rfl)) (enters en13)) (markVal_ct ((rowKeysR ta).getD zeroT) 1 e2.val _ E2 (F18.get 2 rfl) (by omega) (by omega)) (fun e w18 hw18 => ?_))
          obtain ⟨rfl, C18, hm2⟩ := hw18
          have F19 := F18.upd 2 rfl C18 (fun _ hk => .inl hk) (sep E2 (((rowKeysR ta).getD zeroT).mkT 1) e2.val) hm2 (fun _ hk => .inl hk)
          change Fr _ _ [_, _, _, _, _, _, _, _, _] _ at F19
          refine ⟨_, rfl, ?_⟩
          refine Ops.step (One.val rfl rfl rfl (yld_assign rfl (ev_t rfl)) ?_)
          refine Ops.nil fun a hS => ?_
          refine hK19 _ _ ?_ a hS
          refine Cod.seq fun K20 hK20 => ?_
          refine Cod.region ?_
          refine Ops.step (One.val rfl rfl rfl (yld_assign rfl ev_c) ?_)
          refine Ops.nil fun a hS => ?_
          refine hK20 _ _ ?_ a hS
          refine Cod.seq fun K21 hK21 => ?_
          refine Cod.region ?_
          refine Ops.step (One.val rfl rfl rfl (yld_loadN ag31 rfl (ev_t rfl) (fun _ => F19.range (m := 5) (cs' := [_, _, _, _, _]) 1 rfl rfl) rfl) ?_)
          refine Ops.step (One.val rfl rfl rfl (yld_move rfl (ev_t rfl)) ?_)
          refine Ops.step (One.call rfl rfl rfl (ent_f rfl (evl2 (ev_t rfl) (ev_t rfl)) (enters en23)) (heldVal_ct ((rowKeysR ta).getD zeroT) 1 _ _ (F19.get 2 rfl).rep (by omega) (by omega)) (fun e w19 hw19 => ?_))
          obtain ⟨rfl, C19⟩ := hw19
          have F20 := F19.call C19
          refine ⟨_, rfl, ?_⟩
          refine Ops.step (One.val rfl rfl rfl (yld_assign rfl (ev_t rfl)) ?_)
          refine Ops.nil fun a hS => ?_
          refine hK21 _ _ ?_ a hS
          refine Cod.seq fun K22 hK22 => ?_
          refine Cod.seq fun K23 hK23 => ?_
          refine Cod.region ?_
          refine Ops.step (One.val rfl rfl rfl (yld_move rfl (ev_t rfl)) ?_)
          refine Ops.step (One.val rfl rfl rfl (yld_lss rfl (ev_t rfl) ev_c) ?_)
          refine Ops.nil fun a hS => ?_
          refine hK23 _ _ ?_ a hS
          refine Cod.cond rfl (fun hc69 => ?_) (fun hc69 => ?_)
          · skip
            (have := of_decide_eq_true hc69; omega)
          · skip
            refine Cod.skip fun a hS => ?_
            refine hK22 _ _ ?_ a hS
            refine Cod.seq fun K24 hK24 => ?_
            refine Cod.seq fun K25 hK25 => ?_
            refine Cod.region ?_
            refine Ops.step (One.val rfl rfl rfl (yld_move rfl (ev_t rfl)) ?_)
            refine Ops.step (One.val rfl rfl rfl (yld_move rfl (ev_t rfl)) ?_)
            refine Ops.step (One.val rfl rfl rfl (yld_neq rfl (ev_t rfl) (ev_t rfl)) ?_)
            refine Ops.nil fun a hS => ?_
            refine hK25 _ _ ?_ a hS
            refine Cod.cond rfl (fun hc72 => ?_) (fun hc72 => ?_)
            · skip
              simp at hc72
            · skip
              refine Cod.skip fun a hS => ?_
              refine hK24 _ _ ?_ a hS
              refine Cod.seq fun K26 hK26 => ?_
              refine Cod.region ?_
              refine Ops.step (One.val rfl rfl rfl (yld_loadN ag25 rfl (ev_t rfl) (fun _ => F20.range (m := 5) (cs' := [_, _, _, _, _]) 8 rfl rfl) rfl) ?_)
              refine Ops.step (One.call rfl rfl rfl (ent_f rfl (evl1 (ev_t rfl)) (enters en9)) (toVal_ct ta _ _ (ha.chg F20.chg) (by omega)) (fun e w20 hw20 => ?_))
              obtain ⟨x4, G4, rfl, C20, hs4, hb4⟩ := hw20
              have F21 := F20.new C20 (sep G4 ta x4.val) hs4 hb4
              refine ⟨_, rfl, ?_⟩
              refine Ops.step (One.call rfl rfl rfl (ent_f rfl (evl1 (ev_t rfl)) (enters en25)) (rowKeys_ct ta _ _ (F21.get 0 rfl).rep fa hwt) (fun e w21 hw21 => ?_))
              obtain ⟨e3, E3, rfl, C21, hE3, hEb3⟩ := hw21
              have F22 := F21.new C21 (sep E3 ((rowKeysR ta).getD zeroT) e3.val) hE3 hEb3
              refine ⟨_, rfl, ?_⟩
              refine Ops.step (One.val rfl rfl rfl (yld_move rfl (ev_t rfl)) ?_)
              refine Ops.step (One.val rfl rfl rfl (yld_extract rfl (ev_t rfl) rfl) ?_)
              refine Ops.step (One.val rfl rfl rfl (yld_extract rfl (ev_t rfl) rfl) ?_)
              refine Ops.step (One.alloc F22 zero31 rfl rfl rfl rfl ?_)
              intro b5 w22 hb5 F23
              change Fr _ _ [blk _ _ [_, _, _, _, _], _, _, _, blk _ _ [_, _, _, _, _], _, blk _ _ [_, _, _, _, _], _, blk _ _ [_, _, _, _, _], _, _, blk _ _ [_, _, _, _, _]] _ at F23
              refine Ops.step (One.storeN (vs := [_, _, _, _, _]) F23 0 rfl sz31 rfl rfl rfl (ev_t rfl) (ev_t rfl) rfl rfl hE3.one ?_)
              intro w23 F24
              change Fr _ _ [blk _ _ [_, _, _, _, _], _, _, _, blk _ _ [_, _, _, _, _], _, blk _ _ [_, _, _, _, _], _, blk _ _ [_, _, _, _, _], _, _, blk _ _ [_, _, _, _, _]] _ at F24
              refine Ops.step (One.val rfl rfl rfl (yld_assign rfl (ev_t rfl)) ?_)
              refine Ops.nil fun a hS => ?_
              refine hK26 _ _ ?_ a hS
              refine Cod.seq fun K27 hK27 => ?_
              refine Cod.seq fun K28 hK28 => ?_
              refine Cod.region ?_
              refine Ops.step (One.val rfl rfl rfl (yld_loadN ag31 rfl (ev_t rfl) (fun _ => F24.range (m := 5) (cs' := [_, _, _, _, _]) 0 rfl rfl) rfl) ?_)
              refine Ops.step (One.val rfl rfl rfl (yld_loadN ag31 rfl (ev_t rfl) (fun _ => F24.range (m := 5) (cs' := [_, _, _, _, _]) 8 rfl rfl) rfl) ?_)
              refine Ops.step (One.call rfl rfl rfl (ent_f rfl (evl2 (ev_t rfl) (ev_t rfl)) (enters en12)) (eqVal_ct ((rowKeysR ta).getD zeroT) ((rowKeysR ta).getD zeroT) _ _ _ (F24.get 1 rfl).rep (F24.get 9 rfl).rep) (fun e w24 hw24 => ?_))
              obtain ⟨rfl, C24⟩ := hw24
              have F25 := F24.call C24
              refine ⟨_, rfl, ?_⟩
              refine Ops.step (One.val rfl rfl rfl (yld_not rfl (ev_t rfl)) ?_)
              refine Ops.step (One.val rfl rfl rfl (yld_move rfl (ev_t rfl)) ?_)
              refine Ops.step (One.val (gd_some rfl rfl) rfl rfl (yld_move rfl (ev_t rfl)) ?_)
              refine Ops.step (One.val (gd_some rfl rfl) rfl rfl (yld_move rfl (ev_t rfl)) ?_)
              refine Ops.step (One.val (gd_some rfl rfl) rfl rfl (yld_bneq Try.underlying4 rfl (ev_g rfl) (ev_g rfl)) ?_)
              refine Ops.step (One.val rfl rfl rfl (yld_or rfl (ev_t rfl) (ev_g rfl)) ?_)
              refine Ops.nil fun a hS => ?_
              refine hK28 _ _ ?_ a hS
              refine Cod.cond rfl (fun hc87 => ?_) (fun hc87 => ?_)
              · skip
                simp at hc87
              · skip
                refine Cod.skip fun a hS => ?_
                refine hK27 _ _ ?_ a hS
                refine Cod.seq fun K29 hK29 => ?_
                refine Cod.region ?_
                refine Ops.step (One.val rfl rfl rfl (yld_assign rfl ev_c) ?_)
                refine Ops.nil fun a hS => ?_
                refine hK29 _ _ ?_ a hS
                refine Cod.seq fun K30 hK30 => ?_
                refine Cod.region ?_
                refine Ops.step (One.val rfl rfl rfl (yld_loadN ag31 rfl (ev_t rfl) (fun _ => F25.range (m := 5) (cs' := [_, _, _, _, _]) 4 rfl rfl) rfl) ?_)
                refine Ops.step (One.val rfl rfl rfl (yld_move rfl (ev_t rfl)) ?_)
                refine Ops.step (One.call rfl rfl rfl (ent_f rfl (evl2 (ev_t rfl) (ev_t rfl)) (enters en23)) (heldVal_ct ((rowKeysR ta).getD zeroT) 1 _ _ (F25.get 5 rfl).rep (by omega) (by omega)) (fun e w25 hw25 => ?_))
                obtain ⟨rfl, C25⟩ := hw25
                have F26 := F25.call C25
                refine ⟨_, rfl, ?_⟩
                refine Ops.step (One.val rfl rfl rfl (yld_assign rfl (ev_t rfl)) ?_)
                refine Ops.nil fun a hS => ?_
                refine hK30 _ _ ?_ a hS
                refine Cod.seq fun K31 hK31 => ?_
                refine Cod.seq fun K32 hK32 => ?_
                refine Cod.region ?_
                refine Ops.step (One.val rfl rfl rfl (yld_move rfl (ev_t rfl)) ?_)
                refine Ops.step (One.val rfl rfl rfl (yld_lss rfl (ev_t rfl) ev_c) ?_)
                refine Ops.nil fun a hS => ?_
                refine hK32 _ _ ?_ a hS
                refine Cod.cond rfl (fun hc92 => ?_) (fun hc92 => ?_)
                · skip
                  (have := of_decide_eq_true hc92; omega)
                · skip
                  refine Cod.skip fun a hS => ?_
                  refine hK31 _ _ ?_ a hS
                  refine Cod.seq fun K33 hK33 => ?_
                  refine Cod.seq fun K34 hK34 => ?_
                  refine Cod.region ?_
                  refine Ops.step (One.val rfl rfl rfl (yld_move rfl (ev_t rfl)) ?_)
                  refine Ops.step (One.val rfl rfl rfl (yld_move rfl (ev_t rfl)) ?_)
                  refine Ops.step (One.val rfl rfl rfl (yld_neq rfl (ev_t rfl) (ev_t rfl)) ?_)
                  refine Ops.nil fun a hS => ?_
                  refine hK34 _ _ ?_ a hS
                  refine Cod.cond rfl (fun hc95 => ?_) (fun hc95 => ?_)
                  · skip
                    simp at hc95
                  · skip
                    refine Cod.skip fun a hS => ?_
                    refine hK33 _ _ ?_ a hS
                    refine Cod.seq fun K35 hK35 => ?_
                    refine Cod.region ?_
                    refine Ops.step (One.val rfl rfl rfl (yld_assign rfl ev_c) ?_)
                    refine Ops.nil fun a hS => ?_
                    refine hK35 _ _ ?_ a hS
                    refine Cod.ret fun a hS => ?_
                    try simp only [Exit.then, Exit.inBlock]
                    exact ret1 (t := 2) rfl hS rfl ⟨rfl, F26.chg⟩


theorem ownKnob_none : ownKnob Try.prog.godebug = none := by kernel_rfl
theorem params_ok : ∀ t ∈ Try.f6.params.toList, Try.prog.readableRec t = true ∧ t < Try.prog.types.size := by
  rw [Try.params6]
  intro t ht
  simp only [List.mem_cons, List.not_mem_nil, or_false] at ht
  rcases ht with rfl <;> exact ⟨by kernel_rfl, of_decide_eq_true (by kernel_rfl)⟩
set_option maxRecDepth 100000 in
theorem lifted (os : Os) (started : os.Started) (H : Type) (enc : TypeId × Value → H) :
    ReturnsInHanded {} Try.checked os 6 .any (Rows.fnExactRowKeysSpec.pre6 enc Try.prog Try.f6 Rows.fnExactRowKeysRow.domain false) (Rows.fnExactRowKeysSpec.post enc Try.prog Try.f6 false true false false) := by
  refine returnsInHanded_of_change (C := Try.checked) ownKnob_none started (by kernel_rfl) Try.func6
    (ChangeSpec.witness6 (enc := enc) (C := Try.checked) false ⟨#[], #[.agg #[.int .i64 0, .int .i64 0, .string ⟨#[]⟩, .slice none 0 0, .slice none 0 0]], []⟩ 8 (by kernel_rfl) (by kernel_rfl) (by kernel_rfl) (by kernel_rfl)) ?_
  intro W base args ds gs before hval0 hW hcnd _
  have hval : ∀ (j : Nat) t v, Try.f6.params[j]? = some t → args[j]? = some v → Value.okWide Try.prog W .any base t v := hval0
  have hW' := hW
  obtain ⟨p, q, hA0, hV, rfl, hfz, hnd⟩ := hW
  have hA : DataW.TrodAll enc Try.prog W 0 (fun _ => true) true Try.f6.params.toList args.toList ds p := hA0
  rw [Try.params6] at hA hval
  obtain ⟨v0, d0, rfl, rfl, h0⟩ := trodAll_one hA
  obtain ⟨rfl, rfl⟩ := trodVars_none hV
  obtain ⟨ta, ha, fa⟩ := open_tree h0
  refine (walk ta v0 W ha fa).mono fun e W' ⟨he, hc⟩ => ?_
  subst he
  exact ⟨_, rfl, post_chg laidOut rfl params_ok hW' (fun _ _ _ => (trodAll_cons_mk (shut_bool Try.underlying4 _) trodAll_mk0)) rfl rfl hc (ok_one (by kernel_rfl) rfl (okWide_bool_mk Try.underlying4 _))⟩

theorem over : Rows.fnExactRowKeysRow.holds Try.pinned (OpenSpec.ofChange Rows.fnExactRowKeysSpec) :=
  OpenClaim.holds_of_wide 6 Try.f6 rfl rfl rfl rfl rfl rfl rfl ⟨rfl, rfl, rfl, rfl, rfl⟩ rfl rfl rfl rfl rfl (by kernel_rfl) Try.func6 (by kernel_rfl)
    (of_decide_eq_true (by kernel_rfl)) (by unfold Func.isWrapper; first | (rw [if_pos (by decide +kernel)]; kernel_rfl) | (rw [if_neg (by decide +kernel)]; exact ⟨rfl, rfl⟩))
    (fun os started H enc _ => lifted os started H enc)

/-- The statement. -/
theorem proved : Rows.FnExactRowKeysSaid := over
#print axioms proved

end LRowKeys
end Go.Proofs.Yteodgmpkpbmoeaa.Eng
