/- FnExactPathGet returns true for every tree and path: where both are small enough to be looked at, the program's PathGet and the reference's answer alike, the program leaves its arguments as they were, and what it gives shares nothing with them, nor with itself, nor with what it gives next. No condition. -/
import Derived.Test.YtlfmfcocdailgaaMarkP
import Derived.Test.YtlfmfcocdailgaaArg
import Derived.Test.YtlfmfcocdailgaaRows
namespace Go.Proofs.Ytlfmfcocdailgaa.Eng
open Go.RowKit Go.ChangeShapes Go.WideShapes Go.ChangeAt
set_option linter.unusedVariables false
set_option linter.unusedSimpArgs false
set_option linter.constructorNameAsVariable false
namespace LPathGet

set_option maxRecDepth 100000 in
theorem walk (ta : Tr) (p : List Stp) (hs : ∀ s ∈ p, s.key.size ≤ 9223372036854775807) (va vp : Value) (w : World) (ha : Rep Any w ta va) (hp : RepP Any w p vp) (fa : ta.Fit) :
    Calls Try.prog 14 #[va, vp] w fun e w' => e = .returned (.bool true) ∧ Chg No w w' := by
  obtain ⟨a3, a4, ea, -, -⟩ := ha.form
  subst ea
  refine enter Try.func14 rfl rfl rfl ?_
  have F0 := Fr.start w
  refine Cod.seq fun K1 hK1 => ?_
  refine Cod.region ?_
  refine Ops.step (One.box F0 rfl rfl rfl rfl (ev_t rfl) ?_)
  intro b1 w1 hb1 F1
  change Fr _ _ [blk _ _ [_, _, _, _, _]] _ at F1
  refine Ops.step (One.val rfl rfl rfl (yld_assign rfl ev_c) ?_)
  refine Ops.nil fun a hS => ?_
  refine hK1 _ _ ?_ a hS
  refine Cod.seq fun K2 hK2 => ?_
  refine Cod.region ?_
  refine Ops.step (One.val rfl rfl rfl (yld_assign rfl ev_c) ?_)
  refine Ops.nil fun a hS => ?_
  refine hK2 _ _ ?_ a hS
  refine Cod.seq fun K3 hK3 => ?_
  refine Cod.region ?_
  refine Ops.step (One.val rfl rfl rfl (yld_loadN ag25 rfl (ev_t rfl) (fun _ => F1.range (m := 5) (cs' := [_, _, _, _, _]) 0 rfl rfl) rfl) ?_)
  refine Ops.step (One.val rfl rfl rfl (yld_move rfl (ev_t rfl)) ?_)
  refine Ops.step (One.call rfl rfl rfl (ent_f rfl (evl2 (ev_t rfl) (ev_t rfl)) (enters en15)) (szVal_ct ta _ _ _ (ha.chg F1.chg) (by omega) (by omega) fa) (fun e w2 hw2 => ?_))
  obtain ⟨rfl, C2⟩ := hw2
  have F2 := F1.call C2
  refine ⟨_, rfl, ?_⟩
  refine Ops.step (One.val rfl rfl rfl (yld_assign rfl (ev_t rfl)) ?_)
  refine Ops.nil fun a hS => ?_
  refine hK3 _ _ ?_ a hS
  refine Cod.seq fun K4 hK4 => ?_
  refine Cod.seq fun K5 hK5 => ?_
  refine Cod.region ?_
  refine Ops.step (One.val rfl rfl rfl (yld_move rfl (ev_t rfl)) ?_)
  refine Ops.step (One.val rfl rfl rfl (yld_lss rfl (ev_t rfl) ev_c) ?_)
  refine Ops.nil fun a hS => ?_
  refine hK5 _ _ ?_ a hS
  refine Cod.cond rfl (fun hc21 => ?_) (fun hc21 => ?_)
  · skip
    skip
    refine Cod.seq fun K6 hK6 => ?_
    refine Cod.region ?_
    refine Ops.step (One.val rfl rfl rfl (yld_assign rfl ev_c) ?_)
    refine Ops.nil fun a hS => ?_
    refine hK6 _ _ ?_ a hS
    refine Cod.ret fun a hS => ?_
    try simp only [Exit.then, Exit.inBlock]
    exact ret1 (t := 4) rfl hS rfl ⟨rfl, F2.chg⟩
  · skip
    obtain ⟨he, hge⟩ := tk_ok (by omega) hc21
    rw [he]
    have hwt : ta.wt ≤ 1048576 := by omega
    have hmk1 := ta.mkn_list
    have hRb := pathR_mkn fa p
    refine Cod.skip fun a hS => ?_
    refine hK4 _ _ ?_ a hS
    refine Cod.seq fun K7 hK7 => ?_
    refine Cod.region ?_
    refine Ops.step (One.val rfl rfl rfl (yld_move rfl (ev_t rfl)) ?_)
    refine Ops.step (One.val rfl rfl rfl (yld_move rfl (ev_t rfl)) ?_)
    refine Ops.step (One.call rfl rfl rfl (ent_f rfl (evl2 (ev_t rfl) (ev_t rfl)) (enters en42)) (szStepS_ct p _ _ _ (hp.chg F2.chg) (by omega) (by omega) hs) (fun e w3 hw3 => ?_))
    obtain ⟨rfl, C3⟩ := hw3
    have F3 := F2.call C3
    refine ⟨_, rfl, ?_⟩
    refine Ops.step (One.val rfl rfl rfl (yld_assign rfl (ev_t rfl)) ?_)
    refine Ops.nil fun a hS => ?_
    refine hK7 _ _ ?_ a hS
    refine Cod.seq fun K8 hK8 => ?_
    refine Cod.seq fun K9 hK9 => ?_
    refine Cod.region ?_
    refine Ops.step (One.val rfl rfl rfl (yld_move rfl (ev_t rfl)) ?_)
    refine Ops.step (One.val rfl rfl rfl (yld_lss rfl (ev_t rfl) ev_c) ?_)
    refine Ops.nil fun a hS => ?_
    refine hK9 _ _ ?_ a hS
    refine Cod.cond rfl (fun hc26 => ?_) (fun hc26 => ?_)
    · skip
      skip
      refine Cod.seq fun K10 hK10 => ?_
      refine Cod.region ?_
      refine Ops.step (One.val rfl rfl rfl (yld_assign rfl ev_c) ?_)
      refine Ops.nil fun a hS => ?_
      refine hK10 _ _ ?_ a hS
      refine Cod.ret fun a hS => ?_
      try simp only [Exit.then, Exit.inBlock]
      exact ret1 (t := 4) rfl hS rfl ⟨rfl, F3.chg⟩
    · skip
      have hsm : p.length ≤ 1048576 := by
        have hq := of_decide_eq_false hc26
        split at hq <;> omega
      refine Cod.skip fun a hS => ?_
      refine hK8 _ _ ?_ a hS
      refine Cod.seq fun K11 hK11 => ?_
      refine Cod.region ?_
      refine Ops.step (One.val rfl rfl rfl (yld_loadN ag25 rfl (ev_t rfl) (fun _ => F3.range (m := 5) (cs' := [_, _, _, _, _]) 0 rfl rfl) rfl) ?_)
      refine Ops.step (One.call rfl rfl rfl (ent_f rfl (evl1 (ev_t rfl)) (enters en17)) (toVal_ct ta _ _ (ha.chg F3.chg) (by omega)) (fun e w4 hw4 => ?_))
      obtain ⟨x1, G1, rfl, C4, hs1, hb1⟩ := hw4
      have F4 := F3.new C4 (sep G1 ta x1.val) hs1 hb1
      refine ⟨_, rfl, ?_⟩
      refine Ops.step (One.val rfl rfl rfl (yld_move rfl (ev_t rfl)) ?_)
      refine Ops.step (One.call rfl rfl rfl (ent_f rfl (evl1 (ev_t rfl)) (enters en44)) (toStepS_ct p _ _ (hp.chg F4.chg) hsm) (fun e w5 hw5 => ?_))
      obtain ⟨u1, rfl, C5, ho1, hob1⟩ := hw5
      have F5 := F4.new C5 (own _ 3 u1 p.length _) ho1 hob1
      refine ⟨_, rfl, ?_⟩
      refine Ops.step (One.call rfl rfl rfl (ent_f rfl (evl2 (ev_t rfl) (ev_t rfl)) (enters en43)) (specPathGet_ct ta p hs _ _ _ (F5.get 1 rfl).rep (ownP (F5.get 0 rfl)) fa hwt) (fun e w6 hw6 => ?_))
      obtain ⟨e1, E1, rfl, C6, hE1, hEb1⟩ := hw6
      have F6 := F5.new C6 (sep E1 ((pathR ta p).getD zeroT) e1.val) hE1 hEb1
      refine ⟨_, rfl, ?_⟩
      refine Ops.step (One.val rfl rfl rfl (yld_move rfl (ev_t rfl)) ?_)
      refine Ops.step (One.val rfl rfl rfl (yld_extract rfl (ev_t rfl) rfl) ?_)
      refine Ops.step (One.val rfl rfl rfl (yld_extract rfl (ev_t rfl) rfl) ?_)
      refine Ops.step (One.alloc F6 zero29 rfl rfl rfl rfl ?_)
      intro b2 w7 hb2 F7
      change Fr _ _ [blk _ _ [_, _, _, _, _], _, _, _, blk _ _ [_, _, _, _, _]] _ at F7
      refine Ops.step (One.storeN (vs := [_, _, _, _, _]) F7 0 rfl sz29 rfl rfl rfl (ev_t rfl) (ev_t rfl) rfl rfl hE1.one ?_)
      intro w8 F8
      change Fr _ _ [blk _ _ [_, _, _, _, _], _, _, _, blk _ _ [_, _, _, _, _]] _ at F8
      refine Ops.step (One.val rfl rfl rfl (yld_assign rfl (ev_t rfl)) ?_)
      refine Ops.nil fun a hS => ?_
      refine hK11 _ _ ?_ a hS
      refine Cod.seq fun K12 hK12 => ?_
      refine Cod.region ?_
      refine Ops.step (One.val rfl rfl rfl (yld_loadN ag25 rfl (ev_t rfl) (fun _ => F8.range (m := 5) (cs' := [_, _, _, _, _]) 4 rfl rfl) rfl) ?_)
      refine Ops.step (One.call rfl rfl rfl (ent_f rfl (evl1 (ev_t rfl)) (enters en17)) (toVal_ct ta _ _ (ha.chg F8.chg) (by omega)) (fun e w9 hw9 => ?_))
      obtain ⟨x2, G2, rfl, C9, hs2, hb2⟩ := hw9
      have F9 := F8.new C9 (sep G2 ta x2.val) hs2 hb2
      refine ⟨_, rfl, ?_⟩
      refine Ops.step (One.alloc F9 zero29 rfl rfl rfl rfl ?_)
      intro b3 w10 hb3 F10
      change Fr _ _ [blk _ _ [_, _, _, _, _], _, blk _ _ [_, _, _, _, _], _, _, _, blk _ _ [_, _, _, _, _]] _ at F10
      refine Ops.step (One.storeN (vs := [_, _, _, _, _]) F10 0 rfl sz29 rfl rfl rfl (ev_t rfl) (ev_t rfl) rfl rfl hs2.one ?_)
      intro w11 F11
      change Fr _ _ [blk _ _ [_, _, _, _, _], _, blk _ _ [_, _, _, _, _], _, _, _, blk _ _ [_, _, _, _, _]] _ at F11
      refine Ops.nil fun a hS => ?_
      refine hK12 _ _ ?_ a hS
      refine Cod.seq fun K13 hK13 => ?_
      refine Cod.region ?_
      refine Ops.step (One.val rfl rfl rfl (yld_move rfl (ev_t rfl)) ?_)
      refine Ops.step (One.call rfl rfl rfl (ent_f rfl (evl1 (ev_t rfl)) (enters en44)) (toStepS_ct p _ _ (hp.chg F11.chg) hsm) (fun e w12 hw12 => ?_))
      obtain ⟨u2, rfl, C12, ho2, hob2⟩ := hw12
      have F12 := F11.new C12 (own _ 3 u2 p.length _) ho2 hob2
      refine ⟨_, rfl, ?_⟩
      refine Ops.step (One.val rfl rfl rfl (yld_assign rfl (ev_t rfl)) ?_)
      refine Ops.nil fun a hS => ?_
      refine hK13 _ _ ?_ a hS
      refine Cod.seq fun K14 hK14 => ?_
      refine Cod.region ?_
      refine Ops.step (One.val rfl rfl rfl (yld_loadN ag29 rfl (ev_t rfl) (fun _ => F12.range (m := 5) (cs' := [_, _, _, _, _]) 1 rfl rfl) rfl) ?_)
      refine Ops.step (One.val rfl rfl rfl (yld_move rfl (ev_t rfl)) ?_)
      refine Ops.step (One.call rfl rfl rfl (ent_f rfl (evl2 (ev_t rfl) (ev_t rfl)) (enters en45)) (pathGet_ct ta p hs _ _ _ (F12.get 2 rfl).rep (ownP (F12.get 0 rfl)) fa hwt) (fun e w13 hw13 => ?_))
      obtain ⟨e2, E2, rfl, C13, hE2, hEb2⟩ := hw13
      have F13 := F12.new C13 (sep E2 ((pathR ta p).getD zeroT) e2.val) hE2 hEb2
      refine ⟨_, rfl, ?_⟩
      refine Ops.step (One.val rfl rfl rfl (yld_move rfl (ev_t rfl)) ?_)
      refine Ops.step (One.val rfl rfl rfl (yld_extract rfl (ev_t rfl) rfl) ?_)
      refine Ops.step (One.val rfl rfl rfl (yld_extract rfl (ev_t rfl) rfl) ?_)
      refine Ops.step (One.alloc F13 zero29 rfl rfl rfl rfl ?_)
      intro b4 w14 hb4 F14
      change Fr _ _ [blk _ _ [_, _, _, _, _], _, _, blk _ _ [_, _, _, _, _], _, blk _ _ [_, _, _, _, _], _, _, _, blk _ _ [_, _, _, _, _]] _ at F14
      refine Ops.step (One.storeN (vs := [_, _, _, _, _]) F14 0 rfl sz29 rfl rfl rfl (ev_t rfl) (ev_t rfl) rfl rfl hE2.one ?_)
      intro w15 F15
      change Fr _ _ [blk _ _ [_, _, _, _, _], _, _, blk _ _ [_, _, _, _, _], _, blk _ _ [_, _, _, _, _], _, _, _, blk _ _ [_, _, _, _, _]] _ at F15
      refine Ops.step (One.val rfl rfl rfl (yld_assign rfl (ev_t rfl)) ?_)
      refine Ops.nil fun a hS => ?_
      refine hK14 _ _ ?_ a hS
      refine Cod.seq fun K15 hK15 => ?_
      refine Cod.seq fun K16 hK16 => ?_
      refine Cod.region ?_
      refine Ops.step (One.val rfl rfl rfl (yld_loadN ag29 rfl (ev_t rfl) (fun _ => F15.range (m := 5) (cs' := [_, _, _, _, _]) 0 rfl rfl) rfl) ?_)
      refine Ops.step (One.val rfl rfl rfl (yld_loadN ag29 rfl (ev_t rfl) (fun _ => F15.range (m := 5) (cs' := [_, _, _, _, _]) 5 rfl rfl) rfl) ?_)
      refine Ops.step (One.call rfl rfl rfl (ent_f rfl (evl2 (ev_t rfl) (ev_t rfl)) (enters en19)) (eqVal_ct ((pathR ta p).getD zeroT) ((pathR ta p).getD zeroT) _ _ _ (F15.get 1 rfl).rep (F15.get 6 rfl).rep) (fun e w16 hw16 => ?_))
      obtain ⟨rfl, C16⟩ := hw16
      have F16 := F15.call C16
      refine ⟨_, rfl, ?_⟩
      refine Ops.step (One.val rfl rfl rfl (yld_not rfl (ev_t rfl)) ?_)
      refine Ops.step (One.val rfl rfl rfl (yld_move rfl (ev_t rfl)) ?_)
      refine Ops.step (One.val (gd_some rfl rfl) rfl rfl (yld_move rfl (ev_t rfl)) ?_)
      refine Ops.step (One.val (gd_some rfl rfl) rfl rfl (yld_move rfl (ev_t rfl)) ?_)
      refine Ops.step (One.val (gd_some rfl rfl) rfl rfl (yld_bneq Try.underlying4 rfl (ev_g rfl) (ev_g rfl)) ?_)
      refine Ops.step (One.val rfl rfl rfl (yld_or rfl (ev_t rfl) (ev_g rfl)) ?_)
      refine Ops.nil fun a hS => ?_
      refine hK16 _ _ ?_ a hS
      refine Cod.cond rfl (fun hc53 => ?_) (fun hc53 => ?_)
      · skip
        simp at hc53
      · skip
        refine Cod.skip fun a hS => ?_
        refine hK15 _ _ ?_ a hS
        refine Cod.seq fun K17 hK17 => ?_
        refine Cod.seq fun K18 hK18 => ?_
        have F17 := F16.drew
        refine Cod.draw (C_of F17) (by kernel_rfl) ?_
        refine Hops.take 0 rfl (by kernel_rfl) (fun _ _ _ h => h) rfl rfl rfl F17 (fun w F => (yld_loadN ag29 rfl (ev_t rfl) (fun _ => F.range (m := 5) (cs' := [_, _, _, _, _]) 3 rfl rfl) rfl)) ?_
        refine Hops.take 1 rfl (by kernel_rfl) (fun _ _ _ h => h) rfl rfl rfl F17 (fun w F => (yld_loadN ag25 rfl (ev_t rfl) (fun _ => F.range (m := 5) (cs' := [_, _, _, _, _]) 9 rfl rfl) rfl)) ?_
        refine Hops.one 2 rfl (by kernel_rfl) (One.call rfl rfl rfl (ent_f rfl (evl1 (ev_t rfl)) (enters en17)) (toVal_ct ta _ _ (ha.chg F17.chg) (by omega)) (fun e w17 hw17 => ?_))
        obtain ⟨x3, G3, rfl, C17, hs3, hb3⟩ := hw17
        have F18 := F17.new C17 (sep G3 ta x3.val) hs3 hb3
        refine ⟨_, rfl, ?_⟩
        refine ⟨F18.drop1, ?_⟩
        refine Hops.one 3 rfl (by kernel_rfl) (One.call rfl rfl rfl (ent_f rfl (evl2 (ev_t rfl) (ev_t rfl)) (enters en19)) (eqVal_ct ta ta _ _ _ (F18.get 5 rfl).rep (F18.get 0 rfl).rep) (fun e w18 hw18 => ?_))
        obtain ⟨rfl, C18⟩ := hw18
        have F19 := F18.call C18
        refine ⟨_, rfl, ?_⟩
        refine ⟨F19.drop1, ?_⟩
        refine Hops.take 4 rfl (by kernel_rfl) (fun _ _ _ h => h) rfl rfl rfl F19.drop1 (fun w F => (yld_not rfl (ev_t rfl))) ?_
        refine Hops.nil (by kernel_rfl) fun a hS => ?_
        refine hK18 _ _ ?_ a hS
        refine Cod.cond rfl (fun hc58 => ?_) (fun hc58 => ?_)
        · skip
          simp at hc58
        · skip
          refine Cod.skip fun a hS => ?_
          refine hK17 _ _ ?_ a hS
          refine Cod.seq fun K19 hK19 => ?_
          refine Cod.seq fun K20 hK20 => ?_
          refine Cod.region ?_
          refine Ops.step (One.val rfl rfl rfl (yld_move rfl (ev_t rfl)) ?_)
          refine Ops.step (One.val rfl rfl rfl (yld_move rfl (ev_t rfl)) ?_)
          refine Ops.step (One.call rfl rfl rfl (ent_f rfl (evl1 (ev_t rfl)) (enters en44)) (toStepS_ct p _ _ (hp.chg F19.chg) hsm) (fun e w19 hw19 => ?_))
          obtain ⟨u3, rfl, C19, ho3, hob3⟩ := hw19
          have F20 := F19.new C19 (own _ 3 u3 p.length _) ho3 hob3
          refine ⟨_, rfl, ?_⟩
          refine Ops.step (One.call rfl rfl rfl (ent_f rfl (evl2 (ev_t rfl) (ev_t rfl)) (enters en46)) (eqStepS_ct p p _ _ _ (ownP (F20.get 4 rfl)) (ownP (F20.get 0 rfl))) (fun e w20 hw20 => ?_))
          obtain ⟨rfl, C20⟩ := hw20
          have F21 := F20.call C20
          refine ⟨_, rfl, ?_⟩
          refine Ops.step (One.val rfl rfl rfl (yld_not rfl (ev_t rfl)) ?_)
          refine Ops.nil fun a hS => ?_
          refine hK20 _ _ ?_ a hS
          refine Cod.cond rfl (fun hc63 => ?_) (fun hc63 => ?_)
          · skip
            simp at hc63
          · skip
            refine Cod.skip fun a hS => ?_
            refine hK19 _ _ ?_ a hS
            refine Cod.seq fun K21 hK21 => ?_
            refine Cod.region ?_
            refine Ops.step (One.val rfl rfl rfl (yld_assign rfl ev_c) ?_)
            refine Ops.nil fun a hS => ?_
            refine hK21 _ _ ?_ a hS
            refine Cod.seq fun K22 hK22 => ?_
            refine Cod.region ?_
            refine Ops.step (One.val rfl rfl rfl (yld_loadN ag29 rfl (ev_t rfl) (fun _ => F21.range (m := 5) (cs' := [_, _, _, _, _]) 5 rfl rfl) rfl) ?_)
            refine Ops.step (One.val rfl rfl rfl (yld_move rfl (ev_t rfl)) ?_)
            refine Ops.step (One.call rfl rfl rfl (ent_f rfl (evl2 (ev_t rfl) (ev_t rfl)) (enters en20)) (markVal_ct ta 1 x2.val _ G2 (F21.get 6 rfl) (by omega) (by omega)) (fun e w21 hw21 => ?_))
            obtain ⟨rfl, C21, hmx2⟩ := hw21
            have F22 := F21.upd 6 rfl C21 (fun _ hk => .inl hk) (sep G2 (ta.mkT 1) x2.val) hmx2 (fun _ hk => .inl hk)
            change Fr _ _ [_, _, _, _, _, _, _, _, _, _, _, _] _ at F22
            refine ⟨_, rfl, ?_⟩
            refine Ops.step (One.val rfl rfl rfl (yld_assign rfl (ev_t rfl)) ?_)
            refine Ops.nil fun a hS => ?_
            refine hK22 _ _ ?_ a hS
            refine Cod.seq fun K23 hK23 => ?_
            refine Cod.region ?_
            refine Ops.step (One.val rfl rfl rfl (yld_move rfl (ev_t rfl)) ?_)
            refine Ops.step (One.val rfl rfl rfl (yld_move rfl (ev_t rfl)) ?_)
            refine Ops.step (One.call rfl rfl rfl (ent_f rfl (evl2 (ev_t rfl) (ev_t rfl)) (enters en47)) (markStepS_ct p _ u2 _ (F22.get 4 rfl) (by omega) (by omega)) (fun e w22 hw22 => ?_))
            obtain ⟨qs, rfl, C22, hmq⟩ := hw22
            have F23 := F22.upd 4 rfl C22 (fun _ hk => .inl hk) (own _ 3 u2 p.length (qs.flatMap pCells)) hmq (fun _ hk => .inl hk)
            change Fr _ _ [_, _, _, _, _, _, _, _, _, _, _, _] _ at F23
            refine ⟨_, rfl, ?_⟩
            refine Ops.step (One.val rfl rfl rfl (yld_assign rfl (ev_t rfl)) ?_)
            refine Ops.nil fun a hS => ?_
            refine hK23 _ _ ?_ a hS
            refine Cod.seq fun K24 hK24 => ?_
            refine Cod.seq fun K25 hK25 => ?_
            refine Cod.region ?_
            refine Ops.step (One.val rfl rfl rfl (yld_move rfl (ev_t rfl)) ?_)
            refine Ops.step (One.val rfl rfl rfl (yld_lss rfl (ev_t rfl) ev_c) ?_)
            refine Ops.step (One.val rfl rfl rfl (yld_move rfl (ev_t rfl)) ?_)
            refine Ops.step (One.val (gd_some rfl rfl) rfl rfl (yld_loadN ag29 rfl (ev_t rfl) (fun _ => F23.range (m := 5) (cs' := [_, _, _, _, _]) 2 rfl rfl) rfl) ?_)
            refine Ops.step (One.val (gd_some rfl rfl) rfl rfl (yld_loadN ag29 rfl (ev_t rfl) (fun _ => F23.range (m := 5) (cs' := [_, _, _, _, _]) 7 rfl rfl) rfl) ?_)
            refine Ops.step (One.gcall (R := Chg No w22) (gd_some rfl rfl) rfl rfl (ent_f rfl (evl2 (ev_g rfl) (ev_g rfl)) (enters en19)) (Chg.refl _ _) (fun hg => eqVal_ct ((pathR ta p).getD zeroT) ((pathR ta p).getD zeroT) _ _ _ (F23.get 3 rfl).rep (F23.get 8 rfl).rep) ?_)
            intro w23 C23
            have F24 := F23.call C23
            refine Ops.step (One.val (gd_some rfl rfl) rfl rfl (yld_not rfl (ev_g rfl)) ?_)
            refine Ops.step (One.val rfl rfl rfl (yld_or rfl (ev_t rfl) (ev_g rfl)) ?_)
            refine Ops.step (One.val rfl rfl rfl (yld_move rfl (ev_t rfl)) ?_)
            refine Ops.step (One.val (gd_some rfl rfl) rfl rfl (yld_move rfl (ev_t rfl)) ?_)
            refine Ops.step (One.val (gd_some rfl rfl) rfl rfl (yld_move rfl (ev_t rfl)) ?_)
            refine Ops.step (One.val (gd_some rfl rfl) rfl rfl (yld_bneq Try.underlying4 rfl (ev_g rfl) (ev_g rfl)) ?_)
            refine Ops.step (One.val rfl rfl rfl (yld_or rfl (ev_t rfl) (ev_g rfl)) ?_)
            refine Ops.nil fun a hS => ?_
            refine hK25 _ _ ?_ a hS
            refine Cod.cond rfl (fun hc82 => ?_) (fun hc82 => ?_)
            · skip
              (simp at hc82; omega)
            · skip
              refine Cod.skip fun a hS => ?_
              refine hK24 _ _ ?_ a hS
              refine Cod.seq fun K26 hK26 => ?_
              refine Cod.region ?_
              refine Ops.step (One.val rfl rfl rfl (yld_assign rfl ev_c) ?_)
              refine Ops.nil fun a hS => ?_
              refine hK26 _ _ ?_ a hS
              refine Cod.seq fun K27 hK27 => ?_
              refine Cod.region ?_
              refine Ops.step (One.val rfl rfl rfl (yld_loadN ag29 rfl (ev_t rfl) (fun _ => F24.range (m := 5) (cs' := [_, _, _, _, _]) 2 rfl rfl) rfl) ?_)
              refine Ops.step (One.val rfl rfl rfl (yld_move rfl (ev_t rfl)) ?_)
              refine Ops.step (One.call rfl rfl rfl (ent_f rfl (evl2 (ev_t rfl) (ev_t rfl)) (enters en20)) (markVal_ct ((pathR ta p).getD zeroT) 1 e2.val _ E2 (F24.get 3 rfl) (by omega) (by omega)) (fun e w24 hw24 => ?_))
              obtain ⟨rfl, C24, hme2⟩ := hw24
              have F25 := F24.upd 3 rfl C24 (fun _ hk => .inl hk) (sep E2 (((pathR ta p).getD zeroT).mkT 1) e2.val) hme2 (fun _ hk => .inl hk)
              change Fr _ _ [_, _, _, _, _, _, _, _, _, _, _, _] _ at F25
              refine ⟨_, rfl, ?_⟩
              refine Ops.step (One.val rfl rfl rfl (yld_assign rfl (ev_t rfl)) ?_)
              refine Ops.nil fun a hS => ?_
              refine hK27 _ _ ?_ a hS
              refine Cod.seq fun K28 hK28 => ?_
              refine Cod.region ?_
              refine Ops.step (One.val rfl rfl rfl (yld_assign rfl ev_c) ?_)
              refine Ops.nil fun a hS => ?_
              refine hK28 _ _ ?_ a hS
              refine Cod.seq fun K29 hK29 => ?_
              refine Cod.region ?_
              refine Ops.step (One.val rfl rfl rfl (yld_loadN ag29 rfl (ev_t rfl) (fun _ => F25.range (m := 5) (cs' := [_, _, _, _, _]) 2 rfl rfl) rfl) ?_)
              refine Ops.step (One.val rfl rfl rfl (yld_move rfl (ev_t rfl)) ?_)
              refine Ops.step (One.call rfl rfl rfl (ent_f rfl (evl2 (ev_t rfl) (ev_t rfl)) (enters en21)) (heldVal_ct ((pathR ta p).getD zeroT) 1 _ _ (F25.get 3 rfl).rep (by omega) (by omega)) (fun e w25 hw25 => ?_))
              obtain ⟨rfl, C25⟩ := hw25
              have F26 := F25.call C25
              refine ⟨_, rfl, ?_⟩
              refine Ops.step (One.val rfl rfl rfl (yld_assign rfl (ev_t rfl)) ?_)
              refine Ops.nil fun a hS => ?_
              refine hK29 _ _ ?_ a hS
              refine Cod.seq fun K30 hK30 => ?_
              refine Cod.seq fun K31 hK31 => ?_
              refine Cod.region ?_
              refine Ops.step (One.val rfl rfl rfl (yld_move rfl (ev_t rfl)) ?_)
              refine Ops.step (One.val rfl rfl rfl (yld_lss rfl (ev_t rfl) ev_c) ?_)
              refine Ops.nil fun a hS => ?_
              refine hK31 _ _ ?_ a hS
              refine Cod.cond rfl (fun hc90 => ?_) (fun hc90 => ?_)
              · skip
                (have := of_decide_eq_true hc90; omega)
              · skip
                refine Cod.skip fun a hS => ?_
                refine hK30 _ _ ?_ a hS
                refine Cod.seq fun K32 hK32 => ?_
                refine Cod.seq fun K33 hK33 => ?_
                refine Cod.region ?_
                refine Ops.step (One.val rfl rfl rfl (yld_move rfl (ev_t rfl)) ?_)
                refine Ops.step (One.val rfl rfl rfl (yld_move rfl (ev_t rfl)) ?_)
                refine Ops.step (One.val rfl rfl rfl (yld_neq rfl (ev_t rfl) (ev_t rfl)) ?_)
                refine Ops.nil fun a hS => ?_
                refine hK33 _ _ ?_ a hS
                refine Cod.cond rfl (fun hc93 => ?_) (fun hc93 => ?_)
                · skip
                  simp at hc93
                · skip
                  refine Cod.skip fun a hS => ?_
                  refine hK32 _ _ ?_ a hS
                  refine Cod.seq fun K34 hK34 => ?_
                  refine Cod.region ?_
                  refine Ops.step (One.val rfl rfl rfl (yld_loadN ag25 rfl (ev_t rfl) (fun _ => F26.range (m := 5) (cs' := [_, _, _, _, _]) 11 rfl rfl) rfl) ?_)
                  refine Ops.step (One.call rfl rfl rfl (ent_f rfl (evl1 (ev_t rfl)) (enters en17)) (toVal_ct ta _ _ (ha.chg F26.chg) (by omega)) (fun e w26 hw26 => ?_))
                  obtain ⟨x4, G4, rfl, C26, hs4, hb4⟩ := hw26
                  have F27 := F26.new C26 (sep G4 ta x4.val) hs4 hb4
                  refine ⟨_, rfl, ?_⟩
                  refine Ops.step (One.val rfl rfl rfl (yld_move rfl (ev_t rfl)) ?_)
                  refine Ops.step (One.call rfl rfl rfl (ent_f rfl (evl1 (ev_t rfl)) (enters en44)) (toStepS_ct p _ _ (hp.chg F27.chg) hsm) (fun e w27 hw27 => ?_))
                  obtain ⟨u4, rfl, C27, ho4, hob4⟩ := hw27
                  have F28 := F27.new C27 (own _ 3 u4 p.length _) ho4 hob4
                  refine ⟨_, rfl, ?_⟩
                  refine Ops.step (One.call rfl rfl rfl (ent_f rfl (evl2 (ev_t rfl) (ev_t rfl)) (enters en45)) (pathGet_ct ta p hs _ _ _ (F28.get 1 rfl).rep (ownP (F28.get 0 rfl)) fa hwt) (fun e w28 hw28 => ?_))
                  obtain ⟨e3, E3, rfl, C28, hE3, hEb3⟩ := hw28
                  have F29 := F28.new C28 (sep E3 ((pathR ta p).getD zeroT) e3.val) hE3 hEb3
                  refine ⟨_, rfl, ?_⟩
                  refine Ops.step (One.val rfl rfl rfl (yld_move rfl (ev_t rfl)) ?_)
                  refine Ops.step (One.val rfl rfl rfl (yld_extract rfl (ev_t rfl) rfl) ?_)
                  refine Ops.step (One.val rfl rfl rfl (yld_extract rfl (ev_t rfl) rfl) ?_)
                  refine Ops.step (One.alloc F29 zero29 rfl rfl rfl rfl ?_)
                  intro b5 w29 hb5 F30
                  change Fr _ _ [blk _ _ [_, _, _, _, _], _, _, _, _, _, blk _ _ [_, _, _, _, _], _, _, blk _ _ [_, _, _, _, _], _, blk _ _ [_, _, _, _, _], _, _, _, blk _ _ [_, _, _, _, _]] _ at F30
                  refine Ops.step (One.storeN (vs := [_, _, _, _, _]) F30 0 rfl sz29 rfl rfl rfl (ev_t rfl) (ev_t rfl) rfl rfl hE3.one ?_)
                  intro w30 F31
                  change Fr _ _ [blk _ _ [_, _, _, _, _], _, _, _, _, _, blk _ _ [_, _, _, _, _], _, _, blk _ _ [_, _, _, _, _], _, blk _ _ [_, _, _, _, _], _, _, _, blk _ _ [_, _, _, _, _]] _ at F31
                  refine Ops.step (One.val rfl rfl rfl (yld_assign rfl (ev_t rfl)) ?_)
                  refine Ops.nil fun a hS => ?_
                  refine hK34 _ _ ?_ a hS
                  refine Cod.seq fun K35 hK35 => ?_
                  refine Cod.seq fun K36 hK36 => ?_
                  refine Cod.region ?_
                  refine Ops.step (One.val rfl rfl rfl (yld_loadN ag29 rfl (ev_t rfl) (fun _ => F31.range (m := 5) (cs' := [_, _, _, _, _]) 0 rfl rfl) rfl) ?_)
                  refine Ops.step (One.val rfl rfl rfl (yld_loadN ag29 rfl (ev_t rfl) (fun _ => F31.range (m := 5) (cs' := [_, _, _, _, _]) 11 rfl rfl) rfl) ?_)
                  refine Ops.step (One.call rfl rfl rfl (ent_f rfl (evl2 (ev_t rfl) (ev_t rfl)) (enters en19)) (eqVal_ct ((pathR ta p).getD zeroT) ((pathR ta p).getD zeroT) _ _ _ (F31.get 1 rfl).rep (F31.get 12 rfl).rep) (fun e w31 hw31 => ?_))
                  obtain ⟨rfl, C31⟩ := hw31
                  have F32 := F31.call C31
                  refine ⟨_, rfl, ?_⟩
                  refine Ops.step (One.val rfl rfl rfl (yld_not rfl (ev_t rfl)) ?_)
                  refine Ops.step (One.val rfl rfl rfl (yld_move rfl (ev_t rfl)) ?_)
                  refine Ops.step (One.val (gd_some rfl rfl) rfl rfl (yld_move rfl (ev_t rfl)) ?_)
                  refine Ops.step (One.val (gd_some rfl rfl) rfl rfl (yld_move rfl (ev_t rfl)) ?_)
                  refine Ops.step (One.val (gd_some rfl rfl) rfl rfl (yld_bneq Try.underlying4 rfl (ev_g rfl) (ev_g rfl)) ?_)
                  refine Ops.step (One.val rfl rfl rfl (yld_or rfl (ev_t rfl) (ev_g rfl)) ?_)
                  refine Ops.nil fun a hS => ?_
                  refine hK36 _ _ ?_ a hS
                  refine Cod.cond rfl (fun hc110 => ?_) (fun hc110 => ?_)
                  · skip
                    simp at hc110
                  · skip
                    refine Cod.skip fun a hS => ?_
                    refine hK35 _ _ ?_ a hS
                    refine Cod.seq fun K37 hK37 => ?_
                    refine Cod.region ?_
                    refine Ops.step (One.val rfl rfl rfl (yld_assign rfl ev_c) ?_)
                    refine Ops.nil fun a hS => ?_
                    refine hK37 _ _ ?_ a hS
                    refine Cod.seq fun K38 hK38 => ?_
                    refine Cod.region ?_
                    refine Ops.step (One.val rfl rfl rfl (yld_loadN ag29 rfl (ev_t rfl) (fun _ => F32.range (m := 5) (cs' := [_, _, _, _, _]) 6 rfl rfl) rfl) ?_)
                    refine Ops.step (One.val rfl rfl rfl (yld_move rfl (ev_t rfl)) ?_)
                    refine Ops.step (One.call rfl rfl rfl (ent_f rfl (evl2 (ev_t rfl) (ev_t rfl)) (enters en21)) (heldVal_ct ((pathR ta p).getD zeroT) 1 _ _ (F32.get 7 rfl).rep (by omega) (by omega)) (fun e w32 hw32 => ?_))
                    obtain ⟨rfl, C32⟩ := hw32
                    have F33 := F32.call C32
                    refine ⟨_, rfl, ?_⟩
                    refine Ops.step (One.val rfl rfl rfl (yld_assign rfl (ev_t rfl)) ?_)
                    refine Ops.nil fun a hS => ?_
                    refine hK38 _ _ ?_ a hS
                    refine Cod.seq fun K39 hK39 => ?_
                    refine Cod.seq fun K40 hK40 => ?_
                    refine Cod.region ?_
                    refine Ops.step (One.val rfl rfl rfl (yld_move rfl (ev_t rfl)) ?_)
                    refine Ops.step (One.val rfl rfl rfl (yld_lss rfl (ev_t rfl) ev_c) ?_)
                    refine Ops.nil fun a hS => ?_
                    refine hK40 _ _ ?_ a hS
                    refine Cod.cond rfl (fun hc115 => ?_) (fun hc115 => ?_)
                    · skip
                      (have := of_decide_eq_true hc115; omega)
                    · skip
                      refine Cod.skip fun a hS => ?_
                      refine hK39 _ _ ?_ a hS
                      refine Cod.seq fun K41 hK41 => ?_
                      refine Cod.seq fun K42 hK42 => ?_
                      refine Cod.region ?_
                      refine Ops.step (One.val rfl rfl rfl (yld_move rfl (ev_t rfl)) ?_)
                      refine Ops.step (One.val rfl rfl rfl (yld_move rfl (ev_t rfl)) ?_)
                      refine Ops.step (One.val rfl rfl rfl (yld_neq rfl (ev_t rfl) (ev_t rfl)) ?_)
                      refine Ops.nil fun a hS => ?_
                      refine hK42 _ _ ?_ a hS
                      refine Cod.cond rfl (fun hc118 => ?_) (fun hc118 => ?_)
                      · skip
                        simp at hc118
                      · skip
                        refine Cod.skip fun a hS => ?_
                        refine hK41 _ _ ?_ a hS
                        refine Cod.seq fun K43 hK43 => ?_
                        refine Cod.region ?_
                        refine Ops.step (One.val rfl rfl rfl (yld_assign rfl ev_c) ?_)
                        refine Ops.nil fun a hS => ?_
                        refine hK43 _ _ ?_ a hS
                        refine Cod.ret fun a hS => ?_
                        try simp only [Exit.then, Exit.inBlock]
                        exact ret1 (t := 4) rfl hS rfl ⟨rfl, F33.chg⟩


theorem ownKnob_none : ownKnob Try.prog.godebug = none := by kernel_rfl
theorem params_ok : ∀ t ∈ Try.f14.params.toList, Try.prog.readableRec t = true ∧ t < Try.prog.types.size := by
  rw [Try.params14]
  intro t ht
  simp only [List.mem_cons, List.not_mem_nil, or_false] at ht
  rcases ht with rfl | rfl <;> exact ⟨by kernel_rfl, of_decide_eq_true (by kernel_rfl)⟩
set_option maxRecDepth 100000 in
theorem lifted (os : Os) (started : os.Started) (H : Type) (enc : TypeId × Value → H) :
    ReturnsInHanded {} Try.checked os 14 .any (Rows.fnExactPathGetSpec.pre6 enc Try.prog Try.f14 Rows.fnExactPathGetRow.domain false) (Rows.fnExactPathGetSpec.post enc Try.prog Try.f14 false true false false) := by
  refine returnsInHanded_of_change (C := Try.checked) ownKnob_none started (by kernel_rfl) Try.func14
    (ChangeSpec.witness6 (enc := enc) (C := Try.checked) false ⟨#[], #[.agg #[.int .i64 0, .int .i64 0, .string ⟨#[]⟩, .slice none 0 0, .slice none 0 0], .slice none 0 0], []⟩ 8 (by kernel_rfl) (by kernel_rfl) (by kernel_rfl) (by kernel_rfl)) ?_
  intro W base args ds gs before hval0 hW hcnd _
  have hval : ∀ (j : Nat) t v, Try.f14.params[j]? = some t → args[j]? = some v → Value.okWide Try.prog W .any base t v := hval0
  have hW' := hW
  obtain ⟨p, q, hA0, hV, rfl, hfz, hnd⟩ := hW
  have hA : DataW.TrodAll enc Try.prog W 0 (fun _ => true) true Try.f14.params.toList args.toList ds p := hA0
  rw [Try.params14] at hA hval
  obtain ⟨v0, v1, d0, d1, p0, p1, rfl, rfl, rfl, h0, h1⟩ := trodAll_two hA
  obtain ⟨rfl, rfl⟩ := trodVars_none hV
  obtain ⟨ta, ha, fa⟩ := open_tree h0
  obtain ⟨p, hp, hs⟩ := open_steps (hval 1 _ v1 rfl rfl) h1
  refine (walk ta p hs v0 v1 W ha hp fa).mono fun e W' ⟨he, hc⟩ => ?_
  subst he
  exact ⟨_, rfl, post_chg laidOut rfl params_ok hW' (fun _ _ _ => (trodAll_cons_mk (shut_bool Try.underlying4 _) trodAll_mk0)) rfl rfl hc (ok_one (by kernel_rfl) rfl (okWide_bool_mk Try.underlying4 _))⟩

theorem over : Rows.fnExactPathGetRow.holds Try.pinned (OpenSpec.ofChange Rows.fnExactPathGetSpec) :=
  OpenClaim.holds_of_wide 14 Try.f14 rfl rfl rfl rfl rfl rfl rfl ⟨rfl, rfl, rfl, rfl, rfl⟩ rfl rfl rfl rfl rfl (by kernel_rfl) Try.func14 (by kernel_rfl)
    (of_decide_eq_true (by kernel_rfl)) (by unfold Func.isWrapper; first | (rw [if_pos (by decide +kernel)]; kernel_rfl) | (rw [if_neg (by decide +kernel)]; exact ⟨rfl, rfl⟩))
    (fun os started H enc _ => lifted os started H enc)

/-- The statement. -/
theorem proved : Rows.FnExactPathGetSaid := over
#print axioms proved

end LPathGet
end Go.Proofs.Ytlfmfcocdailgaa.Eng
