/- FnPartGet returns true for all bytes: the parts of a tree one by one are what the tree gives at their places, or at their keys; there are as many as its length says. No condition. -/
import Derived.Test.YtphchpbfhcniaaaLawT
import Derived.Test.YtphchpbfhcniaaaDraw4
import Derived.Test.YtphchpbfhcniaaaArgB
import Derived.Test.YtphchpbfhcniaaaRows
namespace Go.Proofs.Ytphchpbfhcniaaa.Eng
open Go.RowKit Go.ChangeShapes Go.WideShapes Go.ChangeAt
set_option linter.unusedVariables false
set_option linter.unusedSimpArgs false
set_option maxHeartbeats 1000000
set_option linter.constructorNameAsVariable false
namespace GPartGet


theorem no87 {t : Tr} {r : Option Tr} (hr : r = keysR t) (h : eachB t = false) : ((((eachL t).length : Int) == 0) && (!r.isSome)) = true := by
  have h1 : eachL t = [] := by unfold eachL; rw [if_neg (by rw [h]; simp)]
  have h2 : r = none := by
    rw [hr]
    unfold keysR
    rw [if_neg]
    intro hh
    unfold eachB at h
    rw [hh.1, decide_eq_true hh.2] at h
    cases h
  rw [h1, h2]; rfl

set_option maxHeartbeats 4000000 in
set_option maxRecDepth 100000 in
theorem walk (code : List UInt8) (v : Value) (w : World) (hp : RepE bCells 1 Any w code v) :
    Calls Try.prog 9 #[v] w fun e w' => e = .returned (.bool true) ∧ Chg No w w' := by
  obtain ⟨A, c, rfl, -⟩ := hp.open
  refine enter Try.func9 rfl rfl rfl ?_
  have F0 := Fr.start w
  refine Cod.seq fun K1 hK1 => ?_
  refine Cod.region ?_
  refine Ops.step (One.val rfl rfl rfl (yld_assign rfl ev_c) ?_)
  refine Ops.nil fun a hS => ?_
  refine hK1 _ _ ?_ a hS
  refine Cod.seq fun K2 hK2 => ?_
  refine Cod.seq fun K3 hK3 => ?_
  refine Cod.region ?_
  refine Ops.step (One.val rfl rfl rfl (yld_move rfl (ev_t rfl)) ?_)
  refine Ops.step (One.val rfl rfl rfl (yld_len sl22 rfl (ev_t rfl)) ?_)
  refine Ops.step (One.val rfl rfl rfl (yld_gtr rfl (ev_t rfl) ev_c) ?_)
  refine Ops.nil fun a hS => ?_
  refine hK3 _ _ ?_ a hS
  refine Cod.cond rfl (fun hc21 => ?_) (fun hc21 => ?_)
  · skip
    refine Cod.seq fun K4 hK4 => ?_
    refine Cod.region ?_
    refine Ops.step (One.val rfl rfl rfl (yld_assign rfl ev_c) ?_)
    refine Ops.nil fun a hS => ?_
    refine hK4 _ _ ?_ a hS
    refine Cod.ret fun a hS => ?_
    try simp only [Exit.then, Exit.inBlock]
    exact ret1 (t := 2) rfl hS rfl ⟨rfl, F0.chg⟩
  · skip
    refine Cod.skip fun a hS => ?_
    refine hK2 _ _ ?_ a hS
    refine Cod.seq fun K5 hK5 => ?_
    refine Cod.region ?_
    refine Ops.step (One.val rfl rfl rfl (yld_move rfl (ev_t rfl)) ?_)
    refine Ops.step (One.call rfl rfl rfl (ent_f rfl (evl1 (ev_t rfl)) (enters en34)) (drawEach_ct code _ _ (hp.chg F0.chg)) (fun e w1 hw1 => ?_))
    obtain ⟨xa, ta, rfl, C1, hrsa, hda⟩ := hw1
    have hwa := hda.wt
    obtain ⟨Grsa, hGa⟩ : ∃ G, G = New w w1 := ⟨_, rfl⟩
    rw [← hGa] at hrsa
    obtain ⟨A3a, c3a, A4a, c4a, hxa⟩ := rep_x (rps_get hrsa 0 rfl)
    subst hxa
    have F1 := F0.new C1 (rps Grsa [(ta, (x5 ta.kind ta.num ta.str (.slice A3a ta.keys.length c3a) (.slice A4a ta.list.length c4a)).val)]) hrsa (by rw [hGa]; exact New.new)
    refine ⟨_, rfl, ?_⟩
    refine Ops.step (One.alloc F1 zero26 rfl rfl rfl rfl ?_)
    intro b1 w2 hb1 F2
    change Fr _ _ [blk _ _ [_, _, _, _, _], _] _ at F2
    refine Ops.step (One.storeN (vs := [_, _, _, _, _]) F2 0 rfl sz26 rfl rfl rfl (ev_t rfl) (ev_t rfl) rfl rfl (rps_oneC (F2.get 1 rfl) 0 rfl) ?_)
    intro w3 F3
    change Fr _ _ [blk _ _ [_, _, _, _, _], _] _ at F3
    refine Ops.nil fun a hS => ?_
    refine hK5 _ _ ?_ a hS
    refine Cod.seq fun K6 hK6 => ?_
    refine Cod.region ?_
    refine Ops.step (One.val rfl rfl rfl (yld_loadN ag26 rfl (ev_t rfl) (fun _ => F3.range (m := 5) (cs' := [_, _, _, _, _]) 0 rfl rfl) rfl) ?_)
    refine Ops.step (One.call rfl rfl rfl (ent_f rfl (evl1 (ev_t rfl)) (enters en35)) (each_ct ta _ _ (rps_get (F3.get 1 rfl) 0 rfl) hda.fit (by omega)) (fun e w4 hw4 => ?_))
    obtain ⟨ea1, Ea1, rfl, C4, hEa1, hEab1⟩ := hw4
    obtain ⟨Az1, cz1, hez1, -⟩ := hEa1.rep.open
    subst hez1
    have F4 := F3.new C4 (sepL Ea1 (eachL ta) _) hEa1 hEab1
    refine ⟨_, rfl, ?_⟩
    refine Ops.step (One.val rfl rfl rfl (yld_move rfl (ev_t rfl)) ?_)
    refine Ops.step (One.val rfl rfl rfl (yld_extract rfl (ev_t rfl) rfl) ?_)
    refine Ops.step (One.val rfl rfl rfl (yld_extract rfl (ev_t rfl) rfl) ?_)
    refine Ops.step (One.val rfl rfl rfl (yld_assign rfl (ev_t rfl)) ?_)
    refine Ops.step (One.val rfl rfl rfl (yld_assign rfl (ev_t rfl)) ?_)
    refine Ops.nil fun a hS => ?_
    refine hK6 _ _ ?_ a hS
    refine Cod.seq fun K7 hK7 => ?_
    refine Cod.region ?_
    refine Ops.step (One.val rfl rfl rfl (yld_loadN ag26 rfl (ev_t rfl) (fun _ => F4.range (m := 5) (cs' := [_, _, _, _, _]) 1 rfl rfl) rfl) ?_)
    refine Ops.step (One.call rfl rfl rfl (ent_f rfl (evl1 (ev_t rfl)) (enters en36)) (specEach_ct ta _ _ (rps_get (F4.get 2 rfl) 0 rfl) hda.fit (by omega)) (fun e w5 hw5 => ?_))
    obtain ⟨ea2, Ea2, rfl, C5, hEa2, hEab2⟩ := hw5
    obtain ⟨Az2, cz2, hez2, -⟩ := hEa2.rep.open
    subst hez2
    have F5 := F4.new C5 (sepL Ea2 (eachL ta) _) hEa2 hEab2
    refine ⟨_, rfl, ?_⟩
    refine Ops.step (One.val rfl rfl rfl (yld_move rfl (ev_t rfl)) ?_)
    refine Ops.step (One.val rfl rfl rfl (yld_extract rfl (ev_t rfl) rfl) ?_)
    refine Ops.step (One.val rfl rfl rfl (yld_extract rfl (ev_t rfl) rfl) ?_)
    refine Ops.step (One.val rfl rfl rfl (yld_assign rfl (ev_t rfl)) ?_)
    refine Ops.step (One.val rfl rfl rfl (yld_assign rfl (ev_t rfl)) ?_)
    refine Ops.nil fun a hS => ?_
    refine hK7 _ _ ?_ a hS
    refine Cod.seq fun K8 hK8 => ?_
    refine Cod.region ?_
    refine Ops.step (One.val rfl rfl rfl (yld_loadN ag26 rfl (ev_t rfl) (fun _ => F5.range (m := 5) (cs' := [_, _, _, _, _]) 2 rfl rfl) rfl) ?_)
    refine Ops.step (One.call rfl rfl rfl (ent_f rfl (evl1 (ev_t rfl)) (enters en37)) (len_ct ta _ _ (rps_get (F5.get 3 rfl) 0 rfl) hda.fit (by omega)) (fun e w6 hw6 => ?_))
    obtain ⟨R1, hR1⟩ : ∃ R, R = lenR ta := ⟨_, rfl⟩
    have hO1 : okT (R1.getD zeroT) = true := by rw [hR1]; exact lenR_ok _ hda.fit
    rw [← hR1] at hw6
    obtain ⟨e1, E1, rfl, C6, hE1, hEb1⟩ := hw6
    obtain ⟨A3e1, c3e1, A4e1, c4e1, hxe1⟩ := rep_x hE1.rep
    subst hxe1
    have F6 := F5.new C6 (sep E1 (R1.getD zeroT) (x5 (R1.getD zeroT).kind (R1.getD zeroT).num (R1.getD zeroT).str (.slice A3e1 (R1.getD zeroT).keys.length c3e1) (.slice A4e1 (R1.getD zeroT).list.length c4e1)).val) hE1 hEb1
    refine ⟨_, rfl, ?_⟩
    refine Ops.step (One.val rfl rfl rfl (yld_move rfl (ev_t rfl)) ?_)
    refine Ops.step (One.val rfl rfl rfl (yld_extract rfl (ev_t rfl) rfl) ?_)
    refine Ops.step (One.val rfl rfl rfl (yld_extract rfl (ev_t rfl) rfl) ?_)
    refine Ops.step (One.alloc F6 zero26 rfl rfl rfl rfl ?_)
    intro b2 w7 hb2 F7
    change Fr _ _ [blk _ _ [_, _, _, _, _], _, _, _, blk _ _ [_, _, _, _, _], _] _ at F7
    refine Ops.step (One.storeN (vs := [_, _, _, _, _]) F7 0 rfl sz26 rfl rfl rfl (ev_t rfl) (ev_t rfl) rfl rfl (Sep.one (x := (x5 (R1.getD zeroT).kind (R1.getD zeroT).num (R1.getD zeroT).str (.slice A3e1 (R1.getD zeroT).keys.length c3e1) (.slice A4e1 (R1.getD zeroT).list.length c4e1))) (F7.get 1 rfl)) ?_)
    intro w8 F8
    change Fr _ _ [blk _ _ [_, _, _, _, _], _, _, _, blk _ _ [_, _, _, _, _], _] _ at F8
    refine Ops.step (One.val rfl rfl rfl (yld_assign rfl (ev_t rfl)) ?_)
    refine Ops.nil fun a hS => ?_
    refine hK8 _ _ ?_ a hS
    refine Cod.seq fun K9 hK9 => ?_
    refine Cod.region ?_
    refine Ops.step (One.val rfl rfl rfl (yld_loadN ag26 rfl (ev_t rfl) (fun _ => F8.range (m := 5) (cs' := [_, _, _, _, _]) 4 rfl rfl) rfl) ?_)
    refine Ops.step (One.call rfl rfl rfl (ent_f rfl (evl1 (ev_t rfl)) (enters en38)) (specLen_ct ta _ _ (rps_get (F8.get 5 rfl) 0 rfl) hda.fit (by omega)) (fun e w9 hw9 => ?_))
    rw [← hR1] at hw9
    obtain ⟨e2, E2, rfl, C9, hE2, hEb2⟩ := hw9
    obtain ⟨A3e2, c3e2, A4e2, c4e2, hxe2⟩ := rep_x hE2.rep
    subst hxe2
    have F9 := F8.new C9 (sep E2 (R1.getD zeroT) (x5 (R1.getD zeroT).kind (R1.getD zeroT).num (R1.getD zeroT).str (.slice A3e2 (R1.getD zeroT).keys.length c3e2) (.slice A4e2 (R1.getD zeroT).list.length c4e2)).val) hE2 hEb2
    refine ⟨_, rfl, ?_⟩
    refine Ops.step (One.val rfl rfl rfl (yld_move rfl (ev_t rfl)) ?_)
    refine Ops.step (One.val rfl rfl rfl (yld_extract rfl (ev_t rfl) rfl) ?_)
    refine Ops.step (One.val rfl rfl rfl (yld_extract rfl (ev_t rfl) rfl) ?_)
    refine Ops.step (One.alloc F9 zero26 rfl rfl rfl rfl ?_)
    intro b3 w10 hb3 F10
    change Fr _ _ [blk _ _ [_, _, _, _, _], _, blk _ _ [_, _, _, _, _], _, _, _, blk _ _ [_, _, _, _, _], _] _ at F10
    refine Ops.step (One.storeN (vs := [_, _, _, _, _]) F10 0 rfl sz26 rfl rfl rfl (ev_t rfl) (ev_t rfl) rfl rfl (Sep.one (x := (x5 (R1.getD zeroT).kind (R1.getD zeroT).num (R1.getD zeroT).str (.slice A3e2 (R1.getD zeroT).keys.length c3e2) (.slice A4e2 (R1.getD zeroT).list.length c4e2))) (F10.get 1 rfl)) ?_)
    intro w11 F11
    change Fr _ _ [blk _ _ [_, _, _, _, _], _, blk _ _ [_, _, _, _, _], _, _, _, blk _ _ [_, _, _, _, _], _] _ at F11
    refine Ops.step (One.val rfl rfl rfl (yld_assign rfl (ev_t rfl)) ?_)
    refine Ops.nil fun a hS => ?_
    refine hK9 _ _ ?_ a hS
    refine Cod.seq fun K10 hK10 => ?_
    refine Cod.region ?_
    refine Ops.step (One.val rfl rfl rfl (yld_loadN ag26 rfl (ev_t rfl) (fun _ => F11.range (m := 5) (cs' := [_, _, _, _, _]) 6 rfl rfl) rfl) ?_)
    refine Ops.step (One.call rfl rfl rfl (ent_f rfl (evl1 (ev_t rfl)) (enters en39)) (keys_ct ta _ _ (rps_get (F11.get 7 rfl) 0 rfl) hda.fit (by omega)) (fun e w12 hw12 => ?_))
    obtain ⟨R2, hR2⟩ : ∃ R, R = keysR ta := ⟨_, rfl⟩
    have hO2 : okT (R2.getD zeroT) = true := by rw [hR2]; exact keysR_ok _ hda.fit
    rw [← hR2] at hw12
    obtain ⟨e3, E3, rfl, C12, hE3, hEb3⟩ := hw12
    obtain ⟨A3e3, c3e3, A4e3, c4e3, hxe3⟩ := rep_x hE3.rep
    subst hxe3
    have F12 := F11.new C12 (sep E3 (R2.getD zeroT) (x5 (R2.getD zeroT).kind (R2.getD zeroT).num (R2.getD zeroT).str (.slice A3e3 (R2.getD zeroT).keys.length c3e3) (.slice A4e3 (R2.getD zeroT).list.length c4e3)).val) hE3 hEb3
    refine ⟨_, rfl, ?_⟩
    refine Ops.step (One.val rfl rfl rfl (yld_move rfl (ev_t rfl)) ?_)
    refine Ops.step (One.val rfl rfl rfl (yld_extract rfl (ev_t rfl) rfl) ?_)
    refine Ops.step (One.val rfl rfl rfl (yld_extract rfl (ev_t rfl) rfl) ?_)
    refine Ops.step (One.alloc F12 zero26 rfl rfl rfl rfl ?_)
    intro b4 w13 hb4 F13
    change Fr _ _ [blk _ _ [_, _, _, _, _], _, blk _ _ [_, _, _, _, _], _, blk _ _ [_, _, _, _, _], _, _, _, blk _ _ [_, _, _, _, _], _] _ at F13
    refine Ops.step (One.storeN (vs := [_, _, _, _, _]) F13 0 rfl sz26 rfl rfl rfl (ev_t rfl) (ev_t rfl) rfl rfl (Sep.one (x := (x5 (R2.getD zeroT).kind (R2.getD zeroT).num (R2.getD zeroT).str (.slice A3e3 (R2.getD zeroT).keys.length c3e3) (.slice A4e3 (R2.getD zeroT).list.length c4e3))) (F13.get 1 rfl)) ?_)
    intro w14 F14
    change Fr _ _ [blk _ _ [_, _, _, _, _], _, blk _ _ [_, _, _, _, _], _, blk _ _ [_, _, _, _, _], _, _, _, blk _ _ [_, _, _, _, _], _] _ at F14
    refine Ops.step (One.val rfl rfl rfl (yld_assign rfl (ev_t rfl)) ?_)
    refine Ops.nil fun a hS => ?_
    refine hK10 _ _ ?_ a hS
    refine Cod.seq fun K11 hK11 => ?_
    refine Cod.region ?_
    refine Ops.step (One.val rfl rfl rfl (yld_loadN ag26 rfl (ev_t rfl) (fun _ => F14.range (m := 5) (cs' := [_, _, _, _, _]) 8 rfl rfl) rfl) ?_)
    refine Ops.step (One.call rfl rfl rfl (ent_f rfl (evl1 (ev_t rfl)) (enters en40)) (specKeys_ct ta _ _ (rps_get (F14.get 9 rfl) 0 rfl) hda.fit (by omega)) (fun e w15 hw15 => ?_))
    rw [← hR2] at hw15
    obtain ⟨e4, E4, rfl, C15, hE4, hEb4⟩ := hw15
    obtain ⟨A3e4, c3e4, A4e4, c4e4, hxe4⟩ := rep_x hE4.rep
    subst hxe4
    have F15 := F14.new C15 (sep E4 (R2.getD zeroT) (x5 (R2.getD zeroT).kind (R2.getD zeroT).num (R2.getD zeroT).str (.slice A3e4 (R2.getD zeroT).keys.length c3e4) (.slice A4e4 (R2.getD zeroT).list.length c4e4)).val) hE4 hEb4
    refine ⟨_, rfl, ?_⟩
    refine Ops.step (One.val rfl rfl rfl (yld_move rfl (ev_t rfl)) ?_)
    refine Ops.step (One.val rfl rfl rfl (yld_extract rfl (ev_t rfl) rfl) ?_)
    refine Ops.step (One.val rfl rfl rfl (yld_extract rfl (ev_t rfl) rfl) ?_)
    refine Ops.step (One.alloc F15 zero26 rfl rfl rfl rfl ?_)
    intro b5 w16 hb5 F16
    change Fr _ _ [blk _ _ [_, _, _, _, _], _, blk _ _ [_, _, _, _, _], _, blk _ _ [_, _, _, _, _], _, blk _ _ [_, _, _, _, _], _, _, _, blk _ _ [_, _, _, _, _], _] _ at F16
    refine Ops.step (One.storeN (vs := [_, _, _, _, _]) F16 0 rfl sz26 rfl rfl rfl (ev_t rfl) (ev_t rfl) rfl rfl (Sep.one (x := (x5 (R2.getD zeroT).kind (R2.getD zeroT).num (R2.getD zeroT).str (.slice A3e4 (R2.getD zeroT).keys.length c3e4) (.slice A4e4 (R2.getD zeroT).list.length c4e4))) (F16.get 1 rfl)) ?_)
    intro w17 F17
    change Fr _ _ [blk _ _ [_, _, _, _, _], _, blk _ _ [_, _, _, _, _], _, blk _ _ [_, _, _, _, _], _, blk _ _ [_, _, _, _, _], _, _, _, blk _ _ [_, _, _, _, _], _] _ at F17
    refine Ops.step (One.val rfl rfl rfl (yld_assign rfl (ev_t rfl)) ?_)
    refine Ops.nil fun a hS => ?_
    refine hK11 _ _ ?_ a hS
    refine Cod.seq fun K12 hK12 => ?_
    refine Cod.seq fun K13 hK13 => ?_
    refine Cod.region ?_
    refine Ops.step (One.val rfl rfl rfl (yld_move rfl (ev_t rfl)) ?_)
    refine Ops.step (One.val rfl rfl rfl (yld_move rfl (ev_t rfl)) ?_)
    refine Ops.step (One.val rfl rfl rfl (yld_bneq Try.underlying4 rfl (ev_t rfl) (ev_t rfl)) ?_)
    refine Ops.step (One.val rfl rfl rfl (yld_move rfl (ev_t rfl)) ?_)
    refine Ops.step (One.val (gd_some rfl rfl) rfl rfl (yld_move rfl (ev_t rfl)) ?_)
    refine Ops.step (One.val (gd_some rfl rfl) rfl rfl (yld_len sl24 rfl (ev_g rfl)) ?_)
    refine Ops.step (One.val (gd_some rfl rfl) rfl rfl (yld_move rfl (ev_t rfl)) ?_)
    refine Ops.step (One.val (gd_some rfl rfl) rfl rfl (yld_len sl24 rfl (ev_g rfl)) ?_)
    refine Ops.step (One.val (gd_some rfl rfl) rfl rfl (yld_neq rfl (ev_g rfl) (ev_g rfl)) ?_)
    refine Ops.step (One.val rfl rfl rfl (yld_or rfl (ev_t rfl) (ev_g rfl)) ?_)
    refine Ops.step (One.val rfl rfl rfl (yld_move rfl (ev_t rfl)) ?_)
    refine Ops.step (One.val (gd_some rfl rfl) rfl rfl (yld_move rfl (ev_t rfl)) ?_)
    refine Ops.step (One.val (gd_some rfl rfl) rfl rfl (yld_move rfl (ev_t rfl)) ?_)
    refine Ops.step (One.val (gd_some rfl rfl) rfl rfl (yld_bneq Try.underlying4 rfl (ev_g rfl) (ev_g rfl)) ?_)
    refine Ops.step (One.val rfl rfl rfl (yld_or rfl (ev_t rfl) (ev_g rfl)) ?_)
    refine Ops.step (One.val rfl rfl rfl (yld_move rfl (ev_t rfl)) ?_)
    refine Ops.step (One.val (gd_some rfl rfl) rfl rfl (yld_loadN ag26 rfl (ev_t rfl) (fun _ => F17.range (m := 5) (cs' := [_, _, _, _, _]) 6 rfl rfl) rfl) ?_)
    refine Ops.step (One.val (gd_some rfl rfl) rfl rfl (yld_loadN ag26 rfl (ev_t rfl) (fun _ => F17.range (m := 5) (cs' := [_, _, _, _, _]) 4 rfl rfl) rfl) ?_)
    refine Ops.step (One.gcall (R := Chg No w17) (gd_some rfl rfl) rfl rfl (ent_f rfl (evl2 (ev_g rfl) (ev_g rfl)) (enters en20)) (Chg.refl _ _) (fun hg => valSame_ct (R1.getD zeroT) (R1.getD zeroT) _ _ _ (F17.get 7 rfl).rep (F17.get 5 rfl).rep) ?_)
    intro w18 C18
    have F18 := F17.call C18
    refine Ops.step (One.val (gd_some rfl rfl) rfl rfl (yld_not rfl (ev_g rfl)) ?_)
    refine Ops.step (One.val rfl rfl rfl (yld_or rfl (ev_t rfl) (ev_g rfl)) ?_)
    refine Ops.step (One.val rfl rfl rfl (yld_move rfl (ev_t rfl)) ?_)
    refine Ops.step (One.val (gd_some rfl rfl) rfl rfl (yld_move rfl (ev_t rfl)) ?_)
    refine Ops.step (One.val (gd_some rfl rfl) rfl rfl (yld_move rfl (ev_t rfl)) ?_)
    refine Ops.step (One.val (gd_some rfl rfl) rfl rfl (yld_bneq Try.underlying4 rfl (ev_g rfl) (ev_g rfl)) ?_)
    refine Ops.step (One.val rfl rfl rfl (yld_or rfl (ev_t rfl) (ev_g rfl)) ?_)
    refine Ops.step (One.val rfl rfl rfl (yld_move rfl (ev_t rfl)) ?_)
    refine Ops.step (One.val (gd_some rfl rfl) rfl rfl (yld_loadN ag26 rfl (ev_t rfl) (fun _ => F18.range (m := 5) (cs' := [_, _, _, _, _]) 2 rfl rfl) rfl) ?_)
    refine Ops.step (One.val (gd_some rfl rfl) rfl rfl (yld_loadN ag26 rfl (ev_t rfl) (fun _ => F18.range (m := 5) (cs' := [_, _, _, _, _]) 0 rfl rfl) rfl) ?_)
    refine Ops.step (One.gcall (R := Chg No w18) (gd_some rfl rfl) rfl rfl (ent_f rfl (evl2 (ev_g rfl) (ev_g rfl)) (enters en20)) (Chg.refl _ _) (fun hg => valSame_ct (R2.getD zeroT) (R2.getD zeroT) _ _ _ (F18.get 3 rfl).rep (F18.get 1 rfl).rep) ?_)
    intro w19 C19
    have F19 := F18.call C19
    refine Ops.step (One.val (gd_some rfl rfl) rfl rfl (yld_not rfl (ev_g rfl)) ?_)
    refine Ops.step (One.val rfl rfl rfl (yld_or rfl (ev_t rfl) (ev_g rfl)) ?_)
    refine Ops.nil fun a hS => ?_
    refine hK13 _ _ ?_ a hS
    refine Cod.cond rfl (fun hc85 => ?_) (fun hc85 => ?_)
    · skip
      simp at hc85
    · skip
      skip
      refine Cod.skip fun a hS => ?_
      refine hK12 _ _ ?_ a hS
      refine Cod.seq fun K14 hK14 => ?_
      refine Cod.seq fun K15 hK15 => ?_
      refine Cod.region ?_
      refine Ops.step (One.val rfl rfl rfl (yld_move rfl (ev_t rfl)) ?_)
      refine Ops.step (One.val rfl rfl rfl (yld_not rfl (ev_t rfl)) ?_)
      refine Ops.nil fun a hS => ?_
      refine hK15 _ _ ?_ a hS
      refine Cod.cond rfl (fun hc87 => ?_) (fun hc87 => ?_)
      · skip
        have hno : eachB ta = false := by simpa using hc87
        refine Cod.seq fun K16 hK16 => ?_
        refine Cod.region ?_
        refine Ops.step (One.val rfl rfl rfl (yld_move rfl (ev_t rfl)) ?_)
        refine Ops.step (One.val rfl rfl rfl (yld_len sl24 rfl (ev_t rfl)) ?_)
        refine Ops.step (One.val rfl rfl rfl (yld_eql rfl (ev_t rfl) ev_c) ?_)
        refine Ops.step (One.val rfl rfl rfl (yld_move rfl (ev_t rfl)) ?_)
        refine Ops.step (One.val (gd_some rfl rfl) rfl rfl (yld_move rfl (ev_t rfl)) ?_)
        refine Ops.step (One.val (gd_some rfl rfl) rfl rfl (yld_not rfl (ev_g rfl)) ?_)
        refine Ops.step (One.val rfl rfl rfl (yld_and rfl (ev_t rfl) (ev_g rfl)) ?_)
        refine Ops.step (One.val rfl rfl rfl (yld_assign rfl (ev_t rfl)) ?_)
        refine Ops.nil fun a hS => ?_
        refine hK16 _ _ ?_ a hS
        refine Cod.ret fun a hS => ?_
        try simp only [Exit.then, Exit.inBlock]
        exact ret1 (t := 2) rfl hS rfl ⟨ret_b (no87 hR2 hno), F19.chg⟩
      · skip
        obtain ⟨hok, hk5, hel⟩ := each_ok (t := ta) (by simpa using hc87)
        rw [hel] at F19
        have e1 := lenR_yes hok hk5
        have e2 := keysR_yes hok hk5
        have hl59 := okT_len60 hok
        rw [← hR1] at e1
        rw [← hR2] at e2
        refine Cod.skip fun a hS => ?_
        refine hK14 _ _ ?_ a hS
        refine Cod.seq fun K17 hK17 => ?_
        refine Cod.seq fun K18 hK18 => ?_
        refine Cod.region ?_
        refine Ops.step (One.val rfl rfl rfl (yld_assign rfl ev_c) ?_)
        refine Ops.nil fun a hS => ?_
        refine hK18 _ _ ?_ a hS
        refine Cod.block ?_
        rw [hel] at *
        have F20 := F19.pull 11 rfl
        have F21 := F20.pull 11 rfl
        have F22 := F21.pull 9 rfl
        have F23 := F22.pull 9 rfl
        have F24 := F23.pull 11 rfl
        have F25 := F24.pull 11 rfl
        have F26 := F25.pull 9 rfl
        have F27 := F26.pull 9 rfl
        have F28 := F27.erase 8
        have F29 := F28.erase 8
        have F30 := F29.erase 8
        have F31 := F30.erase 8
        refine Cod.loop (fun i : Nat => [(3, true, .pointer (some ⟨b1, 0, none⟩)), (4, true, .slice Az1 ta.list.length cz1), (6, true, .slice Az2 ta.list.length cz2), (8, true, .pointer (some ⟨b2, 0, none⟩)), (9, true, .bool R1.isSome), (12, true, .pointer (some ⟨b4, 0, none⟩)), (13, true, .bool R2.isSome), (16, true, .int .i64 (i : Int))]) (fun i w' => i ≤ ta.list.length ∧ Fr No w [blk b4 26 (enc5 (x5 (R2.getD zeroT).kind (R2.getD zeroT).num (R2.getD zeroT).str (.slice A3e3 (R2.getD zeroT).keys.length c3e3) (.slice A4e3 (R2.getD zeroT).list.length c4e3))), sep E3 (R2.getD zeroT) (x5 (R2.getD zeroT).kind (R2.getD zeroT).num (R2.getD zeroT).str (.slice A3e3 (R2.getD zeroT).keys.length c3e3) (.slice A4e3 (R2.getD zeroT).list.length c4e3)).val, sepL Ea2 ta.list (.slice Az2 ta.list.length cz2), sepL Ea1 ta.list (.slice Az1 ta.list.length cz1), blk b2 26 (enc5 (x5 (R1.getD zeroT).kind (R1.getD zeroT).num (R1.getD zeroT).str (.slice A3e1 (R1.getD zeroT).keys.length c3e1) (.slice A4e1 (R1.getD zeroT).list.length c4e1))), sep E1 (R1.getD zeroT) (x5 (R1.getD zeroT).kind (R1.getD zeroT).num (R1.getD zeroT).str (.slice A3e1 (R1.getD zeroT).keys.length c3e1) (.slice A4e1 (R1.getD zeroT).list.length c4e1)).val, blk b1 26 (enc5 (x5 ta.kind ta.num ta.str (.slice A3a ta.keys.length c3a) (.slice A4a ta.list.length c4a))), rps Grsa [(ta, (x5 ta.kind ta.num ta.str (.slice A3a ta.keys.length c3a) (.slice A4a ta.list.length c4a)).val)]] w') (fun i => ta.list.length - i) 0 ⟨rfl, rfl, rfl, rfl, rfl, rfl, rfl, rfl, trivial⟩ ⟨Nat.zero_le _, F31⟩ ?_
        intro i w20 hW K19 hK19
        obtain ⟨ix, hix⟩ : ∃ ix, ix = i := ⟨i, rfl⟩
        subst hix
        obtain ⟨hi0, F32⟩ := hW
        refine Cod.seq fun K20 hK20 => ?_
        refine Cod.seq fun K21 hK21 => ?_
        refine Cod.region ?_
        refine Ops.step (One.val rfl rfl rfl (yld_move rfl (ev_t rfl)) ?_)
        refine Ops.step (One.val rfl rfl rfl (yld_move rfl (ev_t rfl)) ?_)
        refine Ops.step (One.val rfl rfl rfl (yld_len sl24 rfl (ev_t rfl)) ?_)
        refine Ops.step (One.val rfl rfl rfl (yld_lss rfl (ev_t rfl) (ev_t rfl)) ?_)
        refine Ops.nil fun a hS => ?_
        refine hK21 _ _ ?_ a hS
        refine Cod.cond rfl (fun hc98 => ?_) (fun hc98 => ?_)
        · skip
          have hi : ix < ta.list.length := by simpa using hc98
          have hokc := okT_child hok (List.getElem_mem hi)
          refine Cod.skip fun a hS => ?_
          refine hK20 _ _ ?_ a hS
          refine Cod.seq fun K22 hK22 => ?_
          refine Cod.block ?_
          refine Cod.seq fun K23 hK23 => ?_
          refine Cod.region ?_
          refine Ops.step (One.val rfl rfl rfl (yld_loadN ag26 rfl (ev_t rfl) (fun _ => F32.range (m := 5) (cs' := [_, _, _, _, _]) 6 rfl rfl) rfl) ?_)
          refine Ops.step (One.val rfl rfl rfl (yld_move rfl (ev_t rfl)) ?_)
          refine Ops.step (One.call rfl rfl rfl (ent_f rfl (evl2 (ev_t rfl) (ev_t rfl)) (enters en22)) (partAt_ct ta (ix : Int) (by omega) _ _ (rps_get (F32.get 7 rfl) 0 rfl) hda.fit (by omega)) (fun e w21 hw21 => ?_))
          obtain ⟨R3, hR3⟩ : ∃ R, R = partAtR ta (ix : Int) := ⟨_, rfl⟩
          have hO3 : okT (R3.getD zeroT) = true := by rw [hR3]; exact partAtR_ok ta (ix : Int)
          rw [← hR3] at hw21
          obtain ⟨e5, E5, rfl, C21, hE5, hEb5⟩ := hw21
          obtain ⟨A3e5, c3e5, A4e5, c4e5, hxe5⟩ := rep_x hE5.rep
          subst hxe5
          have F33 := F32.new C21 (sep E5 (R3.getD zeroT) (x5 (R3.getD zeroT).kind (R3.getD zeroT).num (R3.getD zeroT).str (.slice A3e5 (R3.getD zeroT).keys.length c3e5) (.slice A4e5 (R3.getD zeroT).list.length c4e5)).val) hE5 hEb5
          refine ⟨_, rfl, ?_⟩
          refine Ops.step (One.val rfl rfl rfl (yld_move rfl (ev_t rfl)) ?_)
          refine Ops.step (One.val rfl rfl rfl (yld_extract rfl (ev_t rfl) rfl) ?_)
          refine Ops.step (One.val rfl rfl rfl (yld_extract rfl (ev_t rfl) rfl) ?_)
          refine Ops.step (One.alloc F33 zero26 rfl rfl rfl rfl ?_)
          intro b6 w22 hb6 F34
          change Fr _ _ [blk _ _ [_, _, _, _, _], _, blk _ _ [_, _, _, _, _], _, _, _, blk _ _ [_, _, _, _, _], _, blk _ _ [_, _, _, _, _], _] _ at F34
          refine Ops.step (One.storeN (vs := [_, _, _, _, _]) F34 0 rfl sz26 rfl rfl rfl (ev_t rfl) (ev_t rfl) rfl rfl (Sep.one (x := (x5 (R3.getD zeroT).kind (R3.getD zeroT).num (R3.getD zeroT).str (.slice A3e5 (R3.getD zeroT).keys.length c3e5) (.slice A4e5 (R3.getD zeroT).list.length c4e5))) (F34.get 1 rfl)) ?_)
          intro w23 F35
          change Fr _ _ [blk _ _ [_, _, _, _, _], _, blk _ _ [_, _, _, _, _], _, _, _, blk _ _ [_, _, _, _, _], _, blk _ _ [_, _, _, _, _], _] _ at F35
          refine Ops.step (One.val rfl rfl rfl (yld_assign rfl (ev_t rfl)) ?_)
          refine Ops.nil fun a hS => ?_
          refine hK23 _ _ ?_ a hS
          refine Cod.cut (fun i : V5 × (Nat → Prop) => [(3, true, .pointer (some ⟨b1, 0, none⟩)), (4, true, .slice Az1 ta.list.length cz1), (6, true, .slice Az2 ta.list.length cz2), (8, true, .pointer (some ⟨b2, 0, none⟩)), (9, true, .bool R1.isSome), (12, true, .pointer (some ⟨b4, 0, none⟩)), (13, true, .bool R2.isSome), (16, true, .int .i64 (ix : Int)), (17, true, .pointer (some ⟨b6, 0, none⟩)), (18, true, .bool true)]) (fun i w' => Fr No w [blk b6 26 (enc5 i.1), sep i.2 ta.list[ix] i.1.val, blk b4 26 (enc5 (x5 (R2.getD zeroT).kind (R2.getD zeroT).num (R2.getD zeroT).str (.slice A3e3 (R2.getD zeroT).keys.length c3e3) (.slice A4e3 (R2.getD zeroT).list.length c4e3))), sep E3 (R2.getD zeroT) (x5 (R2.getD zeroT).kind (R2.getD zeroT).num (R2.getD zeroT).str (.slice A3e3 (R2.getD zeroT).keys.length c3e3) (.slice A4e3 (R2.getD zeroT).list.length c4e3)).val, sepL Ea2 ta.list (.slice Az2 ta.list.length cz2), sepL Ea1 ta.list (.slice Az1 ta.list.length cz1), blk b2 26 (enc5 (x5 (R1.getD zeroT).kind (R1.getD zeroT).num (R1.getD zeroT).str (.slice A3e1 (R1.getD zeroT).keys.length c3e1) (.slice A4e1 (R1.getD zeroT).list.length c4e1))), sep E1 (R1.getD zeroT) (x5 (R1.getD zeroT).kind (R1.getD zeroT).num (R1.getD zeroT).str (.slice A3e1 (R1.getD zeroT).keys.length c3e1) (.slice A4e1 (R1.getD zeroT).list.length c4e1)).val, blk b1 26 (enc5 (x5 ta.kind ta.num ta.str (.slice A3a ta.keys.length c3a) (.slice A4a ta.list.length c4a))), rps Grsa [(ta, (x5 ta.kind ta.num ta.str (.slice A3a ta.keys.length c3a) (.slice A4a ta.list.length c4a)).val)]] w') (fun K24 hK24 => ?_) ?_
          · skip
            refine Cod.seq fun K25 hK25 => ?_
            refine Cod.region ?_
            refine Ops.step (One.val rfl rfl rfl (yld_field fi26_0 rfl (ev_t rfl)) ?_)
            refine Ops.step (One.val rfl rfl rfl (yld_load1 on3 rfl (ev_t rfl) (fun _ => F35.cell 8 rfl rfl)) ?_)
            refine Ops.step (One.val rfl rfl rfl (yld_eql rfl (ev_t rfl) ev_c) ?_)
            refine Ops.nil fun a hS => ?_
            refine hK25 _ _ ?_ a hS
            refine Cod.cond rfl (fun hc109 => ?_) (fun hc109 => ?_)
            · skip
              have h6 : ta.kind = 6 := by simpa using hc109
              have hkl := okT_len hok h6
              have e4 := partGet_nth hok h6 hi
              have hks := okS_size ((okT_six hok).2.2 ix (by omega)).1
              have F36 := F35.drew
              have hk2 : (R2.getD zeroT).list = keysL ta ta.list.length := by rw [e2]; rfl
              have hk3 : ix < (R2.getD zeroT).list.length := by rw [hk2, keysL_len]; exact hi
              obtain ⟨kb, ko, kx, hka, -, hkr, hkt⟩ := at5 (rep_l (F36.get 3 rfl).rep) ix hk3
              have hkt2 := hkt
              simp only [hk2, keysL_get] at hkt2
              unfold keyT at hkt2
              rw [if_neg (by omega)] at hkt2
              obtain ⟨ku, kv, hkx, -, -⟩ := hkt2.form
              obtain rfl : kx = x5 4 0 (nth ta.keys ix) ku kv := V5.inj hkx
              refine Cod.draw (C_of (F36.erase 1).drop1) (by kernel_rfl) ?_
              refine Hops.take 0 rfl (by kernel_rfl) (fun _ _ _ h => h) rfl rfl rfl (F36.erase 1).drop1 (fun w F => (yld_loadN ag26 rfl (ev_t rfl) (fun _ => F.range (m := 5) (cs' := [_, _, _, _, _]) 6 rfl rfl) rfl)) ?_
              refine Hops.take 1 rfl (by kernel_rfl) (fun _ _ _ h => h) rfl rfl rfl (F36.erase 1).drop1 (fun w F => (yld_field fi26_4 rfl (ev_t rfl))) ?_
              refine Hops.take 2 rfl (by kernel_rfl) (fun _ _ _ h => h) rfl rfl rfl (F36.erase 1).drop1 (fun w F => (yld_load1 on24 rfl (ev_t rfl) (fun _ => F.cell 0 rfl rfl))) ?_
              refine Hops.take 3 rfl (by kernel_rfl) (fun _ _ _ h => h) rfl rfl rfl (F36.erase 1).drop1 (fun w F => (yld_move rfl (ev_t rfl))) ?_
              refine Hops.take 4 rfl (by kernel_rfl) (fun _ _ _ h => h) rfl rfl rfl (F36.erase 1).drop1 (fun w F => (yld_indexG (b := kb) (q := ko) (i := ix) sl24 rfl (ev_t rfl) (ev_t rfl) (fun _ => hka) (fun _ => hk3))) ?_
              refine Hops.take 5 rfl (by kernel_rfl) (fun _ _ _ h => h) rfl rfl rfl (F36.erase 1).drop1 (fun w F => (yld_field fi26_2 rfl (ev_t rfl))) ?_
              refine Hops.one 6 rfl (by kernel_rfl) (One.val rfl rfl rfl (yld_load1 on9 rfl (ev_t rfl) (fun _ => rangeAt_cell (rng hkr (Chg.refl _ _)) (j := 2) rfl)) ?_)
              refine ⟨(F36.erase 1).drop1, ?_⟩
              refine Hops.one 7 rfl (by kernel_rfl) (One.call rfl rfl rfl (ent_f rfl (evl2 (ev_t rfl) (ev_t rfl)) (enters en41)) (partGet_ct ta (nth ta.keys ix) (by omega) _ _ (rps_get (F36.get 9 rfl) 0 rfl) hda.fit (by omega)) (fun e w24 hw24 => ?_))
              obtain ⟨R4, hR4⟩ : ∃ R, R = partGetR ta (nth ta.keys ix) := ⟨_, rfl⟩
              have hO4 : okT (R4.getD zeroT) = true := by rw [hR4]; exact partGetR_ok ta (nth ta.keys ix)
              rw [← hR4] at hw24
              obtain ⟨e6, E6, rfl, C24, hE6, hEb6⟩ := hw24
              obtain ⟨A3e6, c3e6, A4e6, c4e6, hxe6⟩ := rep_x hE6.rep
              subst hxe6
              have F37 := F36.new C24 (sep E6 (R4.getD zeroT) (x5 (R4.getD zeroT).kind (R4.getD zeroT).num (R4.getD zeroT).str (.slice A3e6 (R4.getD zeroT).keys.length c3e6) (.slice A4e6 (R4.getD zeroT).list.length c4e6)).val) hE6 hEb6
              refine ⟨_, rfl, ?_⟩
              refine ⟨((F37.erase 2).erase 1).drop1, ?_⟩
              refine Hops.take 8 rfl (by kernel_rfl) (fun _ _ _ h => h) rfl rfl rfl ((F37.erase 2).erase 1).drop1 (fun w F => (yld_move rfl (ev_t rfl))) ?_
              refine Hops.take 9 rfl (by kernel_rfl) (fun _ _ _ h => h) rfl rfl rfl ((F37.erase 2).erase 1).drop1 (fun w F => (yld_extract rfl (ev_t rfl) rfl)) ?_
              refine Hops.take 10 rfl (by kernel_rfl) (fun _ _ _ h => h) rfl rfl rfl ((F37.erase 2).erase 1).drop1 (fun w F => (yld_extract rfl (ev_t rfl) rfl)) ?_
              refine Hops.one 11 rfl (by kernel_rfl) (One.storeN (vs := [_, _, _, _, _]) F37 1 rfl sz26 rfl rfl rfl (ev_t rfl) (ev_t rfl) rfl rfl (Sep.one (x := (x5 (R4.getD zeroT).kind (R4.getD zeroT).num (R4.getD zeroT).str (.slice A3e6 (R4.getD zeroT).keys.length c3e6) (.slice A4e6 (R4.getD zeroT).list.length c4e6))) (F37.get 0 rfl)) ?_)
              intro w25 F38
              refine ⟨((F38.erase 2).erase 1).drop1, ?_⟩
              change Fr _ _ [_, blk _ _ [_, _, _, _, _], _, blk _ _ [_, _, _, _, _], _, _, _, blk _ _ [_, _, _, _, _], _, blk _ _ [_, _, _, _, _], _] _ at F38
              refine Hops.one 12 rfl (by kernel_rfl) (One.val rfl rfl rfl (yld_assign rfl (ev_t rfl)) ?_)
              refine ⟨((F38.erase 2).erase 1).drop1, ?_⟩
              refine Hops.nil (by kernel_rfl) fun a hS => ?_
              have F39 := F38.pull 10 rfl
              have F40 := F39.pull 10 rfl
              have F41 := F40.pull 10 rfl
              have F42 := F41.pull 10 rfl
              have F43 := F42.pull 10 rfl
              have F44 := F43.pull 10 rfl
              have F45 := F44.pull 10 rfl
              have F46 := F45.pull 10 rfl
              have F47 := F46.pull 8 rfl
              have F48 := F47.pull 9 rfl
              have F49 := F48.erase 10
              rw [← hR4] at e4
              rw [e4] at hS F49
              exact hK24 ((x5 ((some ta.list[ix]).getD zeroT).kind ((some ta.list[ix]).getD zeroT).num ((some ta.list[ix]).getD zeroT).str (.slice A3e6 ((some ta.list[ix]).getD zeroT).keys.length c3e6) (.slice A4e6 ((some ta.list[ix]).getD zeroT).list.length c4e6)), E6) _ a (hS.sub ⟨rfl, rfl, rfl, rfl, rfl, rfl, rfl, rfl, rfl, rfl, trivial⟩) F49
            · skip
              have h5 : ta.kind = 5 := by have h := hc109; have := (okT_six hok).1; simp at h; omega
              have e3 := partAt_nth hok h5 hi
              rw [← hR3] at e3
              refine Cod.skip fun a hS => ?_
              have F50 := F35.pull 9 rfl
              have F51 := F50.pull 9 rfl
              have F52 := F51.pull 9 rfl
              have F53 := F52.pull 9 rfl
              have F54 := F53.pull 9 rfl
              have F55 := F54.pull 9 rfl
              have F56 := F55.pull 9 rfl
              have F57 := F56.pull 9 rfl
              have F58 := F57.pull 9 rfl
              have F59 := F58.pull 9 rfl
              rw [e3] at hS F59
              exact hK24 ((x5 ((some ta.list[ix]).getD zeroT).kind ((some ta.list[ix]).getD zeroT).num ((some ta.list[ix]).getD zeroT).str (.slice A3e5 ((some ta.list[ix]).getD zeroT).keys.length c3e5) (.slice A4e5 ((some ta.list[ix]).getD zeroT).list.length c4e5)), E5) _ a (hS.sub ⟨rfl, rfl, rfl, rfl, rfl, rfl, rfl, rfl, rfl, rfl, trivial⟩) F59
          · skip
            intro i w26 hW
            obtain ⟨xv, Gv⟩ := i
            have F60 := hW
            dsimp only at *
            obtain ⟨A3v, c3v, A4v, c4v, hxv⟩ := rep_x (F60.get 1 rfl).rep
            subst hxv
            refine Cod.seq fun K26 hK26 => ?_
            have F61 := F60.drew
            obtain ⟨y1, p1, z1, hy1, -, hr1, ht1⟩ := at5 (F61.get 5 rfl).rep ix hi
            obtain ⟨y2, p2, z2, hy2, -, hr2, ht2⟩ := at5 (F61.get 4 rfl).rep ix hi
            refine Cod.draw (C_of F61) (by kernel_rfl) ?_
            refine Hops.take 0 rfl (by kernel_rfl) (fun _ _ _ h => h) rfl rfl rfl F61 (fun w F => (yld_move rfl (ev_t rfl))) ?_
            refine Hops.take 1 rfl (by kernel_rfl) (fun _ _ _ h => h) rfl rfl rfl F61 (fun w F => (yld_not rfl (ev_t rfl))) ?_
            refine Hops.take 2 rfl (by kernel_rfl) (fun _ _ _ h => h) rfl rfl rfl F61 (fun w F => (yld_move rfl (ev_t rfl))) ?_
            refine Hops.take 3 rfl (by kernel_rfl) (fun _ _ _ h => h) (gd_some rfl rfl) rfl rfl F61 (fun w F => (yld_loadN ag26 rfl (ev_t rfl) (fun _ => F.range (m := 5) (cs' := [_, _, _, _, _]) 0 rfl rfl) rfl)) ?_
            refine Hops.take 4 rfl (by kernel_rfl) (fun _ _ _ h => h) (gd_some rfl rfl) rfl rfl F61 (fun w F => (yld_move rfl (ev_t rfl))) ?_
            refine Hops.take 5 rfl (by kernel_rfl) (fun _ _ _ h => h) (gd_some rfl rfl) rfl rfl F61 (fun w F => (yld_move rfl (ev_t rfl))) ?_
            refine Hops.take 6 rfl (by kernel_rfl) (fun _ _ _ h => h) (gd_some rfl rfl) rfl rfl F61 (fun w F => (yld_indexG (b := y1) (q := p1) (i := ix) sl24 rfl (ev_g rfl) (ev_g rfl) (fun _ => hy1) (fun _ => hi))) ?_
            refine Hops.one 7 rfl (by kernel_rfl) (One.val (gd_some rfl rfl) rfl rfl (yld_loadN (cs := [z1.a, z1.b, z1.c, z1.d, z1.e]) ag26 rfl (ev_g rfl) (fun _ => hr1) rfl) ?_)
            refine ⟨F61, ?_⟩
            have hvs := valSame_ct (ta.list[ix]'hi) (ta.list[ix]'hi) _ _ w26.drew (F61.get 1 rfl).rep ht1
            refine Hops.one 8 rfl (by kernel_rfl) (One.gcall (R := Chg No w26.drew) (gd_some rfl rfl) rfl rfl (ent_f rfl (evl2 (ev_g rfl) (ev_g rfl)) (enters en20)) (Chg.refl _ _) (fun hg => hvs) ?_)
            intro w27 C27
            have F62 := F61.call C27
            refine ⟨F62, ?_⟩
            have hC1 := C27
            refine Hops.take 9 rfl (by kernel_rfl) (fun _ _ _ h => h) (gd_some rfl rfl) rfl rfl F62 (fun w F => (yld_not rfl (ev_g rfl))) ?_
            refine Hops.take 10 rfl (by kernel_rfl) (fun _ _ _ h => h) rfl rfl rfl F62 (fun w F => (yld_or rfl (ev_t rfl) (ev_g rfl))) ?_
            refine Hops.take 11 rfl (by kernel_rfl) (fun _ _ _ h => h) rfl rfl rfl F62 (fun w F => (yld_move rfl (ev_t rfl))) ?_
            refine Hops.take 12 rfl (by kernel_rfl) (fun _ _ _ h => h) (gd_some rfl rfl) rfl rfl F62 (fun w F => (yld_loadN ag26 rfl (ev_t rfl) (fun _ => F.range (m := 5) (cs' := [_, _, _, _, _]) 0 rfl rfl) rfl)) ?_
            refine Hops.take 13 rfl (by kernel_rfl) (fun _ _ _ h => h) (gd_some rfl rfl) rfl rfl F62 (fun w F => (yld_move rfl (ev_t rfl))) ?_
            refine Hops.take 14 rfl (by kernel_rfl) (fun _ _ _ h => h) (gd_some rfl rfl) rfl rfl F62 (fun w F => (yld_move rfl (ev_t rfl))) ?_
            refine Hops.take 15 rfl (by kernel_rfl) (fun _ _ _ h => h) (gd_some rfl rfl) rfl rfl F62 (fun w F => (yld_indexG (b := y2) (q := p2) (i := ix) sl24 rfl (ev_g rfl) (ev_g rfl) (fun _ => hy2) (fun _ => hi))) ?_
            refine Hops.one 16 rfl (by kernel_rfl) (One.val (gd_some rfl rfl) rfl rfl (yld_loadN (cs := [z2.a, z2.b, z2.c, z2.d, z2.e]) ag26 rfl (ev_g rfl) (fun _ => rng hr2 hC1) rfl) ?_)
            refine ⟨F62, ?_⟩
            have hvs2 := valSame_ct (ta.list[ix]'hi) (ta.list[ix]'hi) _ _ w27 (F62.get 1 rfl).rep (ht2.chg hC1)
            refine Hops.one 17 rfl (by kernel_rfl) (One.gcall (R := Chg No w27) (gd_some rfl rfl) rfl rfl (ent_f rfl (evl2 (ev_g rfl) (ev_g rfl)) (enters en20)) (Chg.refl _ _) (fun hg => hvs2) ?_)
            intro w28 C28
            have F63 := F62.call C28
            refine ⟨F63, ?_⟩
            refine Hops.take 18 rfl (by kernel_rfl) (fun _ _ _ h => h) (gd_some rfl rfl) rfl rfl F63 (fun w F => (yld_not rfl (ev_g rfl))) ?_
            refine Hops.take 19 rfl (by kernel_rfl) (fun _ _ _ h => h) rfl rfl rfl F63 (fun w F => (yld_or rfl (ev_t rfl) (ev_g rfl))) ?_
            refine Hops.nil (by kernel_rfl) fun a hS => ?_
            refine hK26 _ _ ?_ a hS
            refine Cod.cond rfl (fun hc140 => ?_) (fun hc140 => ?_)
            · skip
              simp at hc140
            · skip
              skip
              refine Cod.skip fun a hS => ?_
              refine hK22 _ _ ?_ a hS
              refine Cod.region ?_
              refine Ops.step (One.val rfl rfl rfl (yld_move rfl (ev_t rfl)) ?_)
              refine Ops.step (One.val rfl rfl rfl (yld_inc rfl (ev_t rfl) (fun _ => by omega)) ?_)
              refine Ops.step (One.val rfl rfl rfl (yld_assign rfl (ev_t rfl)) ?_)
              refine Ops.nil fun a hS => ?_
              have F64 := F63.pull 9 rfl
              have F65 := F64.pull 9 rfl
              have F66 := F65.pull 9 rfl
              have F67 := F66.pull 9 rfl
              have F68 := F67.pull 9 rfl
              have F69 := F68.pull 9 rfl
              have F70 := F69.pull 9 rfl
              have F71 := F70.pull 9 rfl
              have F72 := F71.erase 8
              have F73 := F72.erase 8
              exact hK19 (ix + 1) _ a (hS.sub ⟨rfl, rfl, rfl, rfl, rfl, rfl, rfl, rfl, trivial⟩) ⟨by omega, F73⟩ (by omega)
        · skip
          have hie : ix = ta.list.length := by simp at hc98; omega
          refine Cod.exit fun a hS => ?_
          simp only [Exit.then, Exit.inBlock, ↓reduceIte]
          refine hK17 _ _ ?_ a hS
          refine Cod.seq fun K27 hK27 => ?_
          refine Cod.region ?_
          refine Ops.step (One.val rfl rfl rfl (yld_move rfl (ev_t rfl)) ?_)
          refine Ops.step (One.val rfl rfl rfl (yld_move rfl (ev_t rfl)) ?_)
          refine Ops.step (One.val (gd_some rfl rfl) rfl rfl (yld_move rfl (ev_t rfl)) ?_)
          refine Ops.step (One.val rfl rfl rfl (yld_and rfl (ev_t rfl) (ev_g rfl)) ?_)
          refine Ops.step (One.val rfl rfl rfl (yld_move rfl (ev_t rfl)) ?_)
          refine Ops.step (One.val (gd_some rfl rfl) rfl rfl (yld_field fi26_1 rfl (ev_t rfl)) ?_)
          refine Ops.step (One.val (gd_some rfl rfl) rfl rfl (yld_load1 on3 rfl (ev_g rfl) (fun _ => F32.cell 4 rfl rfl)) ?_)
          refine Ops.step (One.val (gd_some rfl rfl) rfl rfl (yld_move rfl (ev_t rfl)) ?_)
          refine Ops.step (One.val (gd_some rfl rfl) rfl rfl (yld_len sl24 rfl (ev_g rfl)) ?_)
          refine Ops.step (One.val (gd_some rfl rfl) rfl rfl (yld_eql rfl (ev_g rfl) (ev_g rfl)) ?_)
          refine Ops.step (One.val rfl rfl rfl (yld_and rfl (ev_t rfl) (ev_g rfl)) ?_)
          refine Ops.step (One.val rfl rfl rfl (yld_move rfl (ev_t rfl)) ?_)
          refine Ops.step (One.val (gd_some rfl rfl) rfl rfl (yld_field fi26_4 rfl (ev_t rfl)) ?_)
          refine Ops.step (One.val (gd_some rfl rfl) rfl rfl (yld_load1 on24 rfl (ev_g rfl) (fun _ => F32.cell 0 rfl rfl)) ?_)
          refine Ops.step (One.val (gd_some rfl rfl) rfl rfl (yld_len sl24 rfl (ev_g rfl)) ?_)
          refine Ops.step (One.val (gd_some rfl rfl) rfl rfl (yld_move rfl (ev_t rfl)) ?_)
          refine Ops.step (One.val (gd_some rfl rfl) rfl rfl (yld_len sl24 rfl (ev_g rfl)) ?_)
          refine Ops.step (One.val (gd_some rfl rfl) rfl rfl (yld_eql rfl (ev_g rfl) (ev_g rfl)) ?_)
          refine Ops.step (One.val rfl rfl rfl (yld_and rfl (ev_t rfl) (ev_g rfl)) ?_)
          refine Ops.step (One.val rfl rfl rfl (yld_assign rfl (ev_t rfl)) ?_)
          refine Ops.nil fun a hS => ?_
          refine hK27 _ _ ?_ a hS
          refine Cod.ret fun a hS => ?_
          try simp only [Exit.then, Exit.inBlock]
          have q1 : (R1.getD zeroT).num = ta.list.length := by rw [e1]; rfl
          have q2 : (R2.getD zeroT).list.length = ta.list.length := by rw [e2]; exact keysL_len _ _
          exact ret1 (t := 2) rfl hS rfl ⟨ret_b (by rw [q1, q2, e1, e2]; simp), F32.chg⟩


theorem ownKnob_none : ownKnob Try.prog.godebug = none := by kernel_rfl
theorem params_ok : ∀ t ∈ Try.f9.params.toList, Try.prog.readableRec t = true ∧ t < Try.prog.types.size := by
  rw [Try.params9]
  intro t ht
  simp only [List.mem_cons, List.not_mem_nil, or_false] at ht
  rcases ht with rfl <;> exact ⟨by kernel_rfl, of_decide_eq_true (by kernel_rfl)⟩
set_option maxRecDepth 100000 in
theorem lifted (os : Os) (started : os.Started) (H : Type) (enc : TypeId × Value → H) :
    ReturnsInHanded {} Try.checked os 9 .any (Rows.fnPartGetSpec.pre6 enc Try.prog Try.f9 Rows.fnPartGetRow.domain false) (Rows.fnPartGetSpec.post enc Try.prog Try.f9 false true false false) := by
  refine returnsInHanded_of_change (C := Try.checked) ownKnob_none started (by kernel_rfl) Try.func9
    (ChangeSpec.witness6 (enc := enc) (C := Try.checked) false ⟨#[], #[.slice none 0 0], []⟩ 8 (by kernel_rfl) (by kernel_rfl) (by kernel_rfl) (by kernel_rfl)) ?_
  intro W base args ds gs before hval0 hW hcnd _
  have hval : ∀ (j : Nat) t v, Try.f9.params[j]? = some t → args[j]? = some v → Value.okWide Try.prog W .any base t v := hval0
  have hW' := hW
  obtain ⟨p, q, hA0, hV, rfl, hfz, hnd⟩ := hW
  have hA : DataW.TrodAll enc Try.prog W 0 (fun _ => true) true Try.f9.params.toList args.toList ds p := hA0
  rw [Try.params9] at hA hval
  obtain ⟨v0, d0, rfl, rfl, h0⟩ := trodAll_one hA
  obtain ⟨rfl, rfl⟩ := trodVars_none hV
  obtain ⟨code, hp⟩ := open_bytes (hval 0 _ v0 rfl rfl) h0
  refine (walk code v0 W hp).mono fun e W' ⟨he, hc⟩ => ?_
  subst he
  exact ⟨_, rfl, post_chg laidOut rfl params_ok hW' (fun _ _ _ => (trodAll_cons_mk (shut_bool Try.underlying4 _) trodAll_mk0)) rfl rfl hc (ok_one (by kernel_rfl) rfl (okWide_bool_mk Try.underlying4 _))⟩

theorem over : Rows.fnPartGetRow.holds Try.pinned (OpenSpec.ofChange Rows.fnPartGetSpec) :=
  OpenClaim.holds_of_wide 9 Try.f9 rfl rfl rfl rfl rfl rfl rfl ⟨rfl, rfl, rfl, rfl, rfl⟩ rfl rfl rfl rfl rfl (by kernel_rfl) Try.func9 (by kernel_rfl)
    (of_decide_eq_true (by kernel_rfl)) (by unfold Func.isWrapper; first | (rw [if_pos (by decide +kernel)]; kernel_rfl) | (rw [if_neg (by decide +kernel)]; exact ⟨rfl, rfl⟩))
    (fun os started H enc _ => lifted os started H enc)

/-- The statement. -/
theorem proved : Rows.FnPartGetSaid := over
#print axioms proved

end GPartGet
end Go.Proofs.Ytphchpbfhcniaaa.Eng
