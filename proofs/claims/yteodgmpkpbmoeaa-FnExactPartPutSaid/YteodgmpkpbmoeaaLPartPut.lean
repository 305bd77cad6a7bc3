/- FnExactPartPut returns true for all trees and keys: where they are small enough to be looked at, the program's PartPut and the reference's answer alike, the program leaves its arguments as they were, and what it gives shares nothing with them, nor with itself, nor with what it gives next. No condition. -/
import Derived.Test.YteodgmpkpbmoeaaPPut
import Derived.Test.YteodgmpkpbmoeaaArg
import Derived.Test.YteodgmpkpbmoeaaRows
namespace Go.Proofs.Yteodgmpkpbmoeaa.Eng
open Go.RowKit Go.ChangeShapes Go.WideShapes Go.ChangeAt
set_option linter.unusedVariables false
set_option linter.unusedSimpArgs false
set_option maxHeartbeats 1000000
set_option linter.constructorNameAsVariable false
namespace LPartPut

set_option maxHeartbeats 4000000 in
set_option maxRecDepth 100000 in
theorem walk (ta tb : Tr) (key : ByteArray) (hks : key.size ≤ 9223372036854775807) (va vb : Value) (w : World) (ha : Rep Any w ta va) (hb : Rep Any w tb vb) (fa : ta.Fit) (fb : tb.Fit) :
    Calls Try.prog 5 #[va, .string key, vb] w fun e w' => e = .returned (.bool true) ∧ Chg No w w' := by
  obtain ⟨a3, a4, ea, -, -⟩ := ha.form
  subst ea
  obtain ⟨b3, b4, eb, -, -⟩ := hb.form
  subst eb
  refine enter Try.func5 rfl rfl rfl ?_
  have F0 := Fr.start w
  refine Cod.seq fun K1 hK1 => ?_
  refine Cod.region ?_
  refine Ops.step (One.box F0 rfl rfl rfl rfl (ev_t rfl) ?_)
  intro b1 w1 hb1 F1
  change Fr _ _ [blk _ _ [_, _, _, _, _]] _ at F1
  refine Ops.step (One.box F1 rfl rfl rfl rfl (ev_t rfl) ?_)
  intro b2 w2 hb2 F2
  change Fr _ _ [blk _ _ [_, _, _, _, _], blk _ _ [_, _, _, _, _]] _ at F2
  refine Ops.step (One.val rfl rfl rfl (yld_assign rfl ev_c) ?_)
  refine Ops.nil fun a hS => ?_
  refine hK1 _ _ ?_ a hS
  refine Cod.seq fun K2 hK2 => ?_
  refine Cod.seq fun K3 hK3 => ?_
  refine Cod.region ?_
  refine Ops.step (One.val rfl rfl rfl (yld_move rfl (ev_t rfl)) ?_)
  refine Ops.step (One.val rfl rfl rfl (yld_slen st9 rfl (ev_t rfl)) ?_)
  refine Ops.step (One.val rfl rfl rfl (yld_gtr rfl (ev_t rfl) ev_c) ?_)
  refine Ops.nil fun a hS => ?_
  refine hK3 _ _ ?_ a hS
  refine Cod.cond rfl (fun hc21 => ?_) (fun hc21 => ?_)
  · skip
    skip
    refine Cod.seq fun K4 hK4 => ?_
    refine Cod.region ?_
    refine Ops.step (One.val rfl rfl rfl (yld_assign rfl ev_c) ?_)
    refine Ops.nil fun a hS => ?_
    refine hK4 _ _ ?_ a hS
    refine Cod.ret fun a hS => ?_
    try simp only [Exit.then, Exit.inBlock]
    exact ret1 (t := 6) rfl hS rfl ⟨rfl, F2.chg⟩
  · skip
    skip
    refine Cod.skip fun a hS => ?_
    refine hK2 _ _ ?_ a hS
    refine Cod.seq fun K5 hK5 => ?_
    refine Cod.region ?_
    refine Ops.step (One.val rfl rfl rfl (yld_assign rfl ev_c) ?_)
    refine Ops.nil fun a hS => ?_
    refine hK5 _ _ ?_ a hS
    refine Cod.seq fun K6 hK6 => ?_
    refine Cod.region ?_
    refine Ops.step (One.val rfl rfl rfl (yld_loadN ag25 rfl (ev_t rfl) (fun _ => F2.range (m := 5) (cs' := [_, _, _, _, _]) 1 rfl rfl) rfl) ?_)
    refine Ops.step (One.val rfl rfl rfl (yld_move rfl (ev_t rfl)) ?_)
    refine Ops.step (One.call rfl rfl rfl (ent_f rfl (evl2 (ev_t rfl) (ev_t rfl)) (enters en7)) (szVal_ct ta _ _ _ (ha.chg F2.chg) (by omega) (by omega) fa) (fun e w3 hw3 => ?_))
    obtain ⟨rfl, C3⟩ := hw3
    have F3 := F2.call C3
    refine ⟨_, rfl, ?_⟩
    refine Ops.step (One.val rfl rfl rfl (yld_assign rfl (ev_t rfl)) ?_)
    refine Ops.nil fun a hS => ?_
    refine hK6 _ _ ?_ a hS
    refine Cod.seq fun K7 hK7 => ?_
    refine Cod.seq fun K8 hK8 => ?_
    refine Cod.region ?_
    refine Ops.step (One.val rfl rfl rfl (yld_move rfl (ev_t rfl)) ?_)
    refine Ops.step (One.val rfl rfl rfl (yld_lss rfl (ev_t rfl) ev_c) ?_)
    refine Ops.nil fun a hS => ?_
    refine hK8 _ _ ?_ a hS
    refine Cod.cond rfl (fun hc26 => ?_) (fun hc26 => ?_)
    · skip
      skip
      refine Cod.seq fun K9 hK9 => ?_
      refine Cod.region ?_
      refine Ops.step (One.val rfl rfl rfl (yld_assign rfl ev_c) ?_)
      refine Ops.nil fun a hS => ?_
      refine hK9 _ _ ?_ a hS
      refine Cod.ret fun a hS => ?_
      try simp only [Exit.then, Exit.inBlock]
      exact ret1 (t := 6) rfl hS rfl ⟨rfl, F3.chg⟩
    · skip
      obtain ⟨he, hge⟩ := tk_ok (by omega) hc26
      rw [he]
      have hwa : ta.wt ≤ 1048576 := by omega
      have hmka := ta.mkn_list
      refine Cod.skip fun a hS => ?_
      refine hK7 _ _ ?_ a hS
      refine Cod.seq fun K10 hK10 => ?_
      refine Cod.region ?_
      refine Ops.step (One.val rfl rfl rfl (yld_loadN ag25 rfl (ev_t rfl) (fun _ => F3.range (m := 5) (cs' := [_, _, _, _, _]) 0 rfl rfl) rfl) ?_)
      refine Ops.step (One.val rfl rfl rfl (yld_move rfl (ev_t rfl)) ?_)
      refine Ops.step (One.call rfl rfl rfl (ent_f rfl (evl2 (ev_t rfl) (ev_t rfl)) (enters en7)) (szVal_ct tb _ _ _ (hb.chg F3.chg) (by omega) (by omega) fb) (fun e w4 hw4 => ?_))
      obtain ⟨rfl, C4⟩ := hw4
      have F4 := F3.call C4
      refine ⟨_, rfl, ?_⟩
      refine Ops.step (One.val rfl rfl rfl (yld_assign rfl (ev_t rfl)) ?_)
      refine Ops.nil fun a hS => ?_
      refine hK10 _ _ ?_ a hS
      refine Cod.seq fun K11 hK11 => ?_
      refine Cod.seq fun K12 hK12 => ?_
      refine Cod.region ?_
      refine Ops.step (One.val rfl rfl rfl (yld_move rfl (ev_t rfl)) ?_)
      refine Ops.step (One.val rfl rfl rfl (yld_lss rfl (ev_t rfl) ev_c) ?_)
      refine Ops.nil fun a hS => ?_
      refine hK12 _ _ ?_ a hS
      refine Cod.cond rfl (fun hc31 => ?_) (fun hc31 => ?_)
      · skip
        skip
        refine Cod.seq fun K13 hK13 => ?_
        refine Cod.region ?_
        refine Ops.step (One.val rfl rfl rfl (yld_assign rfl ev_c) ?_)
        refine Ops.nil fun a hS => ?_
        refine hK13 _ _ ?_ a hS
        refine Cod.ret fun a hS => ?_
        try simp only [Exit.then, Exit.inBlock]
        exact ret1 (t := 6) rfl hS rfl ⟨rfl, F4.chg⟩
      · skip
        obtain ⟨he2, hge2⟩ := tk_ok (by omega) hc31
        have hwb : tb.wt ≤ 1048576 := by omega
        have hmkb := tb.mkn_list
        have hRb := putR_mkn (key := key) fa fb
        refine Cod.skip fun a hS => ?_
        refine hK11 _ _ ?_ a hS
        refine Cod.cut (fun i : Nat × V5 × (Nat → Prop) => [(1, true, .string key), (3, true, .pointer (some ⟨b1, 0, none⟩)), (5, true, .pointer (some ⟨b2, 0, none⟩)), (8, true, .pointer (some ⟨i.1, 0, none⟩)), (9, true, .bool (putR ta key tb).isSome)]) (fun i w' => Fr No w [blk i.1 31 (enc5 i.2.1), sep i.2.2 ((putR ta key tb).getD zeroT) i.2.1.val, blk b2 25 [.int .i64 tb.kind, .int .i64 tb.num, .string tb.str, b3, b4], blk b1 25 [.int .i64 ta.kind, .int .i64 ta.num, .string ta.str, a3, a4]] w') (fun K14 hK14 => ?_) ?_
        · skip
          have F5 := F4.drew
          refine Cod.draw (C_of F5) (by kernel_rfl) ?_
          refine Hops.take 0 rfl (by kernel_rfl) (fun _ _ _ h => h) rfl rfl rfl F5 (fun w F => (yld_loadN ag25 rfl (ev_t rfl) (fun _ => F.range (m := 5) (cs' := [_, _, _, _, _]) 1 rfl rfl) rfl)) ?_
          refine Hops.take 2 rfl (by kernel_rfl) (fun _ _ _ h => h) rfl rfl rfl F5 (fun w F => (yld_move rfl (ev_t rfl))) ?_
          refine Hops.take 3 rfl (by kernel_rfl) (fun _ _ _ h => h) rfl rfl rfl F5 (fun w F => (yld_loadN ag25 rfl (ev_t rfl) (fun _ => F.range (m := 5) (cs' := [_, _, _, _, _]) 0 rfl rfl) rfl)) ?_
          refine Hops.two 1 9 rfl rfl (by kernel_rfl) ?_ ?_
          · skip
            refine (One.call rfl rfl rfl (ent_f rfl (evl1 (ev_t rfl)) (enters en9)) (toVal_ct ta _ _ (ha.chg F5.chg) (by omega)) (fun e w5 hw5 => ?_))
            obtain ⟨x1, G1, rfl, C5, hs1, hb1⟩ := hw5
            have F6 := F5.new C5 (sep G1 ta x1.val) hs1 hb1
            refine ⟨_, rfl, ?_⟩
            refine ⟨F6.drop1, ?_⟩
            refine Hops.two 4 9 rfl rfl (by kernel_rfl) ?_ ?_
            · skip
              refine (One.call rfl rfl rfl (ent_f rfl (evl1 (ev_t rfl)) (enters en9)) (toVal_ct tb _ _ (hb.chg F6.chg) (by omega)) (fun e w6 hw6 => ?_))
              obtain ⟨x2, G2, rfl, C6, hs2, hb2⟩ := hw6
              have F7 := F6.new C6 (sep G2 tb x2.val) hs2 hb2
              refine ⟨_, rfl, ?_⟩
              refine ⟨(F7.erase 1).drop1, ?_⟩
              refine Hops.two 5 9 rfl rfl (by kernel_rfl) ?_ ?_
              · skip
                refine (One.call rfl rfl rfl (ent_f rfl (evl3 (ev_t rfl) (ev_t rfl) (ev_t rfl)) (enters en21)) (specPartPut_ct ta tb key hks _ _ _ (F7.get 1 rfl).rep (F7.get 0 rfl).rep fa fb hwa hwb) (fun e w7 hw7 => ?_))
                obtain ⟨e1, E1, rfl, C7, hE1, hEb1⟩ := hw7
                have F8 := F7.new C7 (sep E1 ((putR ta key tb).getD zeroT) e1.val) hE1 hEb1
                refine ⟨_, rfl, ?_⟩
                refine ⟨((F8.erase 2).erase 1).drop1, ?_⟩
                refine Hops.take 6 rfl (by kernel_rfl) (fun _ _ _ h => h) rfl rfl rfl ((F8.erase 2).erase 1).drop1 (fun w F => (yld_move rfl (ev_t rfl))) ?_
                refine Hops.take 7 rfl (by kernel_rfl) (fun _ _ _ h => h) rfl rfl rfl ((F8.erase 2).erase 1).drop1 (fun w F => (yld_extract rfl (ev_t rfl) rfl)) ?_
                refine Hops.take 8 rfl (by kernel_rfl) (fun _ _ _ h => h) rfl rfl rfl ((F8.erase 2).erase 1).drop1 (fun w F => (yld_extract rfl (ev_t rfl) rfl)) ?_
                refine Hops.one 9 rfl (by kernel_rfl) (One.alloc F8 zero31 rfl rfl rfl rfl ?_)
                intro b3 w8 hb3 F9
                refine ⟨(((F9.erase 3).erase 2).erase 1).drop1, ?_⟩
                change Fr _ _ [blk _ _ [_, _, _, _, _], _, _, _, blk _ _ [_, _, _, _, _], blk _ _ [_, _, _, _, _]] _ at F9
                refine Hops.one 10 rfl (by kernel_rfl) (One.storeN (vs := [_, _, _, _, _]) F9 0 rfl sz31 rfl rfl rfl (ev_t rfl) (ev_t rfl) rfl rfl hE1.one ?_)
                intro w9 F10
                refine ⟨(((F10.erase 3).erase 2).erase 1).drop1, ?_⟩
                change Fr _ _ [blk _ _ [_, _, _, _, _], _, _, _, blk _ _ [_, _, _, _, _], blk _ _ [_, _, _, _, _]] _ at F10
                refine Hops.one 11 rfl (by kernel_rfl) (One.val rfl rfl rfl (yld_assign rfl (ev_t rfl)) ?_)
                refine ⟨(((F10.erase 3).erase 2).erase 1).drop1, ?_⟩
                refine Hops.nil (by kernel_rfl) fun a hS => ?_
                have F11 := F10.pull 5 rfl
                have F12 := F11.pull 5 rfl
                have F13 := F12.pull 3 rfl
                have F14 := F13.pull 3 rfl
                have F15 := F14.erase 4
                have F16 := F15.erase 4
                exact hK14 (b3, e1, E1) _ a (hS.sub ⟨rfl, rfl, rfl, rfl, rfl, trivial⟩) F16
              · skip
                refine (One.alloc F7 zero31 rfl rfl rfl rfl ?_)
                intro b4 w10 hb4 F17
                refine ⟨((F17.erase 2).erase 1).drop1, ?_⟩
                change Fr _ _ [blk _ _ [_, _, _, _, _], _, _, blk _ _ [_, _, _, _, _], blk _ _ [_, _, _, _, _]] _ at F17
                refine Hops.one 5 rfl (by kernel_rfl) (One.call rfl rfl rfl (ent_f rfl (evl3 (ev_t rfl) (ev_t rfl) (ev_t rfl)) (enters en21)) (specPartPut_ct ta tb key hks _ _ _ (F17.get 2 rfl).rep (F17.get 1 rfl).rep fa fb hwa hwb) (fun e w11 hw11 => ?_))
                obtain ⟨e1, E1, rfl, C11, hE1, hEb1⟩ := hw11
                have F18 := F17.new C11 (sep E1 ((putR ta key tb).getD zeroT) e1.val) hE1 hEb1
                refine ⟨_, rfl, ?_⟩
                refine ⟨(((F18.erase 3).erase 2).erase 1).drop1, ?_⟩
                refine Hops.take 6 rfl (by kernel_rfl) (fun _ _ _ h => h) rfl rfl rfl (((F18.erase 3).erase 2).erase 1).drop1 (fun w F => (yld_move rfl (ev_t rfl))) ?_
                refine Hops.take 7 rfl (by kernel_rfl) (fun _ _ _ h => h) rfl rfl rfl (((F18.erase 3).erase 2).erase 1).drop1 (fun w F => (yld_extract rfl (ev_t rfl) rfl)) ?_
                refine Hops.take 8 rfl (by kernel_rfl) (fun _ _ _ h => h) rfl rfl rfl (((F18.erase 3).erase 2).erase 1).drop1 (fun w F => (yld_extract rfl (ev_t rfl) rfl)) ?_
                refine Hops.one 10 rfl (by kernel_rfl) (One.storeN (vs := [_, _, _, _, _]) F18 1 rfl sz31 rfl rfl rfl (ev_t rfl) (ev_t rfl) rfl rfl hE1.one ?_)
                intro w12 F19
                refine ⟨(((F19.erase 3).erase 2).erase 1).drop1, ?_⟩
                change Fr _ _ [_, blk _ _ [_, _, _, _, _], _, _, blk _ _ [_, _, _, _, _], blk _ _ [_, _, _, _, _]] _ at F19
                refine Hops.one 11 rfl (by kernel_rfl) (One.val rfl rfl rfl (yld_assign rfl (ev_t rfl)) ?_)
                refine ⟨(((F19.erase 3).erase 2).erase 1).drop1, ?_⟩
                refine Hops.nil (by kernel_rfl) fun a hS => ?_
                have F20 := F19.pull 5 rfl
                have F21 := F20.pull 5 rfl
                have F22 := F21.pull 2 rfl
                have F23 := F22.pull 3 rfl
                have F24 := F23.erase 4
                have F25 := F24.erase 4
                exact hK14 (b4, e1, E1) _ a (hS.sub ⟨rfl, rfl, rfl, rfl, rfl, trivial⟩) F25
            · skip
              refine (One.alloc F6 zero31 rfl rfl rfl rfl ?_)
              intro b5 w13 hb5 F26
              refine ⟨(F26.erase 1).drop1, ?_⟩
              change Fr _ _ [blk _ _ [_, _, _, _, _], _, blk _ _ [_, _, _, _, _], blk _ _ [_, _, _, _, _]] _ at F26
              refine Hops.one 4 rfl (by kernel_rfl) (One.call rfl rfl rfl (ent_f rfl (evl1 (ev_t rfl)) (enters en9)) (toVal_ct tb _ _ (hb.chg F26.chg) (by omega)) (fun e w14 hw14 => ?_))
              obtain ⟨x2, G2, rfl, C14, hs2, hb2⟩ := hw14
              have F27 := F26.new C14 (sep G2 tb x2.val) hs2 hb2
              refine ⟨_, rfl, ?_⟩
              refine ⟨((F27.erase 2).erase 1).drop1, ?_⟩
              refine Hops.one 5 rfl (by kernel_rfl) (One.call rfl rfl rfl (ent_f rfl (evl3 (ev_t rfl) (ev_t rfl) (ev_t rfl)) (enters en21)) (specPartPut_ct ta tb key hks _ _ _ (F27.get 2 rfl).rep (F27.get 0 rfl).rep fa fb hwa hwb) (fun e w15 hw15 => ?_))
              obtain ⟨e1, E1, rfl, C15, hE1, hEb1⟩ := hw15
              have F28 := F27.new C15 (sep E1 ((putR ta key tb).getD zeroT) e1.val) hE1 hEb1
              refine ⟨_, rfl, ?_⟩
              refine ⟨(((F28.erase 3).erase 2).erase 1).drop1, ?_⟩
              refine Hops.take 6 rfl (by kernel_rfl) (fun _ _ _ h => h) rfl rfl rfl (((F28.erase 3).erase 2).erase 1).drop1 (fun w F => (yld_move rfl (ev_t rfl))) ?_
              refine Hops.take 7 rfl (by kernel_rfl) (fun _ _ _ h => h) rfl rfl rfl (((F28.erase 3).erase 2).erase 1).drop1 (fun w F => (yld_extract rfl (ev_t rfl) rfl)) ?_
              refine Hops.take 8 rfl (by kernel_rfl) (fun _ _ _ h => h) rfl rfl rfl (((F28.erase 3).erase 2).erase 1).drop1 (fun w F => (yld_extract rfl (ev_t rfl) rfl)) ?_
              refine Hops.one 10 rfl (by kernel_rfl) (One.storeN (vs := [_, _, _, _, _]) F28 2 rfl sz31 rfl rfl rfl (ev_t rfl) (ev_t rfl) rfl rfl hE1.one ?_)
              intro w16 F29
              refine ⟨(((F29.erase 3).erase 2).erase 1).drop1, ?_⟩
              change Fr _ _ [_, _, blk _ _ [_, _, _, _, _], _, blk _ _ [_, _, _, _, _], blk _ _ [_, _, _, _, _]] _ at F29
              refine Hops.one 11 rfl (by kernel_rfl) (One.val rfl rfl rfl (yld_assign rfl (ev_t rfl)) ?_)
              refine ⟨(((F29.erase 3).erase 2).erase 1).drop1, ?_⟩
              refine Hops.nil (by kernel_rfl) fun a hS => ?_
              have F30 := F29.pull 5 rfl
              have F31 := F30.pull 5 rfl
              have F32 := F31.pull 2 rfl
              have F33 := F32.pull 4 rfl
              have F34 := F33.erase 4
              have F35 := F34.erase 4
              exact hK14 (b5, e1, E1) _ a (hS.sub ⟨rfl, rfl, rfl, rfl, rfl, trivial⟩) F35
          · skip
            refine (One.alloc F5 zero31 rfl rfl rfl rfl ?_)
            intro b6 w17 hb6 F36
            refine ⟨F36.drop1, ?_⟩
            change Fr _ _ [blk _ _ [_, _, _, _, _], blk _ _ [_, _, _, _, _], blk _ _ [_, _, _, _, _]] _ at F36
            refine Hops.one 1 rfl (by kernel_rfl) (One.call rfl rfl rfl (ent_f rfl (evl1 (ev_t rfl)) (enters en9)) (toVal_ct ta _ _ (ha.chg F36.chg) (by omega)) (fun e w18 hw18 => ?_))
            obtain ⟨x1, G1, rfl, C18, hs1, hb1⟩ := hw18
            have F37 := F36.new C18 (sep G1 ta x1.val) hs1 hb1
            refine ⟨_, rfl, ?_⟩
            refine ⟨(F37.erase 1).drop1, ?_⟩
            refine Hops.one 4 rfl (by kernel_rfl) (One.call rfl rfl rfl (ent_f rfl (evl1 (ev_t rfl)) (enters en9)) (toVal_ct tb _ _ (hb.chg F37.chg) (by omega)) (fun e w19 hw19 => ?_))
            obtain ⟨x2, G2, rfl, C19, hs2, hb2⟩ := hw19
            have F38 := F37.new C19 (sep G2 tb x2.val) hs2 hb2
            refine ⟨_, rfl, ?_⟩
            refine ⟨((F38.erase 2).erase 1).drop1, ?_⟩
            refine Hops.one 5 rfl (by kernel_rfl) (One.call rfl rfl rfl (ent_f rfl (evl3 (ev_t rfl) (ev_t rfl) (ev_t rfl)) (enters en21)) (specPartPut_ct ta tb key hks _ _ _ (F38.get 1 rfl).rep (F38.get 0 rfl).rep fa fb hwa hwb) (fun e w20 hw20 => ?_))
            obtain ⟨e1, E1, rfl, C20, hE1, hEb1⟩ := hw20
            have F39 := F38.new C20 (sep E1 ((putR ta key tb).getD zeroT) e1.val) hE1 hEb1
            refine ⟨_, rfl, ?_⟩
            refine ⟨(((F39.erase 3).erase 2).erase 1).drop1, ?_⟩
            refine Hops.take 6 rfl (by kernel_rfl) (fun _ _ _ h => h) rfl rfl rfl (((F39.erase 3).erase 2).erase 1).drop1 (fun w F => (yld_move rfl (ev_t rfl))) ?_
            refine Hops.take 7 rfl (by kernel_rfl) (fun _ _ _ h => h) rfl rfl rfl (((F39.erase 3).erase 2).erase 1).drop1 (fun w F => (yld_extract rfl (ev_t rfl) rfl)) ?_
            refine Hops.take 8 rfl (by kernel_rfl) (fun _ _ _ h => h) rfl rfl rfl (((F39.erase 3).erase 2).erase 1).drop1 (fun w F => (yld_extract rfl (ev_t rfl) rfl)) ?_
            refine Hops.one 10 rfl (by kernel_rfl) (One.storeN (vs := [_, _, _, _, _]) F39 3 rfl sz31 rfl rfl rfl (ev_t rfl) (ev_t rfl) rfl rfl hE1.one ?_)
            intro w21 F40
            refine ⟨(((F40.erase 3).erase 2).erase 1).drop1, ?_⟩
            change Fr _ _ [_, _, _, blk _ _ [_, _, _, _, _], blk _ _ [_, _, _, _, _], blk _ _ [_, _, _, _, _]] _ at F40
            refine Hops.one 11 rfl (by kernel_rfl) (One.val rfl rfl rfl (yld_assign rfl (ev_t rfl)) ?_)
            refine ⟨(((F40.erase 3).erase 2).erase 1).drop1, ?_⟩
            refine Hops.nil (by kernel_rfl) fun a hS => ?_
            have F41 := F40.pull 5 rfl
            have F42 := F41.pull 5 rfl
            have F43 := F42.pull 2 rfl
            have F44 := F43.pull 5 rfl
            have F45 := F44.erase 4
            have F46 := F45.erase 4
            exact hK14 (b6, e1, E1) _ a (hS.sub ⟨rfl, rfl, rfl, rfl, rfl, trivial⟩) F46
        · skip
          intro i w22 hW
          obtain ⟨bo, e1, E1⟩ := i
          have F47 := hW
          dsimp only at *
          refine Cod.seq fun K15 hK15 => ?_
          refine Cod.region ?_
          refine Ops.step (One.val rfl rfl rfl (yld_loadN ag25 rfl (ev_t rfl) (fun _ => F47.range (m := 5) (cs' := [_, _, _, _, _]) 3 rfl rfl) rfl) ?_)
          refine Ops.step (One.call rfl rfl rfl (ent_f rfl (evl1 (ev_t rfl)) (enters en9)) (toVal_ct ta _ _ (ha.chg F47.chg) (by omega)) (fun e w23 hw23 => ?_))
          obtain ⟨x3, G3, rfl, C23, hs3, hb3⟩ := hw23
          have F48 := F47.new C23 (sep G3 ta x3.val) hs3 hb3
          refine ⟨_, rfl, ?_⟩
          refine Ops.step (One.alloc F48 zero31 rfl rfl rfl rfl ?_)
          intro b7 w24 hb7 F49
          change Fr _ _ [blk _ _ [_, _, _, _, _], _, blk _ _ [_, _, _, _, _], _, blk _ _ [_, _, _, _, _], blk _ _ [_, _, _, _, _]] _ at F49
          refine Ops.step (One.storeN (vs := [_, _, _, _, _]) F49 0 rfl sz31 rfl rfl rfl (ev_t rfl) (ev_t rfl) rfl rfl hs3.one ?_)
          intro w25 F50
          change Fr _ _ [blk _ _ [_, _, _, _, _], _, blk _ _ [_, _, _, _, _], _, blk _ _ [_, _, _, _, _], blk _ _ [_, _, _, _, _]] _ at F50
          refine Ops.nil fun a hS => ?_
          refine hK15 _ _ ?_ a hS
          refine Cod.seq fun K16 hK16 => ?_
          refine Cod.region ?_
          refine Ops.step (One.val rfl rfl rfl (yld_loadN ag25 rfl (ev_t rfl) (fun _ => F50.range (m := 5) (cs' := [_, _, _, _, _]) 4 rfl rfl) rfl) ?_)
          refine Ops.step (One.call rfl rfl rfl (ent_f rfl (evl1 (ev_t rfl)) (enters en9)) (toVal_ct tb _ _ (hb.chg F50.chg) (by omega)) (fun e w26 hw26 => ?_))
          obtain ⟨x4, G4, rfl, C26, hs4, hb4⟩ := hw26
          have F51 := F50.new C26 (sep G4 tb x4.val) hs4 hb4
          refine ⟨_, rfl, ?_⟩
          refine Ops.step (One.alloc F51 zero31 rfl rfl rfl rfl ?_)
          intro b8 w27 hb8 F52
          change Fr _ _ [blk _ _ [_, _, _, _, _], _, blk _ _ [_, _, _, _, _], _, blk _ _ [_, _, _, _, _], _, blk _ _ [_, _, _, _, _], blk _ _ [_, _, _, _, _]] _ at F52
          refine Ops.step (One.storeN (vs := [_, _, _, _, _]) F52 0 rfl sz31 rfl rfl rfl (ev_t rfl) (ev_t rfl) rfl rfl hs4.one ?_)
          intro w28 F53
          change Fr _ _ [blk _ _ [_, _, _, _, _], _, blk _ _ [_, _, _, _, _], _, blk _ _ [_, _, _, _, _], _, blk _ _ [_, _, _, _, _], blk _ _ [_, _, _, _, _]] _ at F53
          refine Ops.nil fun a hS => ?_
          refine hK16 _ _ ?_ a hS
          refine Cod.seq fun K17 hK17 => ?_
          refine Cod.region ?_
          refine Ops.step (One.val rfl rfl rfl (yld_loadN ag31 rfl (ev_t rfl) (fun _ => F53.range (m := 5) (cs' := [_, _, _, _, _]) 2 rfl rfl) rfl) ?_)
          refine Ops.step (One.val rfl rfl rfl (yld_move rfl (ev_t rfl)) ?_)
          refine Ops.step (One.val rfl rfl rfl (yld_loadN ag31 rfl (ev_t rfl) (fun _ => F53.range (m := 5) (cs' := [_, _, _, _, _]) 0 rfl rfl) rfl) ?_)
          refine Ops.step (One.call rfl rfl rfl (ent_f rfl (evl3 (ev_t rfl) (ev_t rfl) (ev_t rfl)) (enters en22)) (partPut_ct ta tb key hks _ _ _ (F53.get 3 rfl).rep (F53.get 1 rfl).rep fa fb hwa hwb) (fun e w29 hw29 => ?_))
          obtain ⟨e2, E2, rfl, C29, hE2, hEb2⟩ := hw29
          have F54 := F53.new C29 (sep E2 ((putR ta key tb).getD zeroT) e2.val) hE2 hEb2
          refine ⟨_, rfl, ?_⟩
          refine Ops.step (One.val rfl rfl rfl (yld_move rfl (ev_t rfl)) ?_)
          refine Ops.step (One.val rfl rfl rfl (yld_extract rfl (ev_t rfl) rfl) ?_)
          refine Ops.step (One.val rfl rfl rfl (yld_extract rfl (ev_t rfl) rfl) ?_)
          refine Ops.step (One.alloc F54 zero31 rfl rfl rfl rfl ?_)
          intro b9 w30 hb9 F55
          change Fr _ _ [blk _ _ [_, _, _, _, _], _, blk _ _ [_, _, _, _, _], _, blk _ _ [_, _, _, _, _], _, blk _ _ [_, _, _, _, _], _, blk _ _ [_, _, _, _, _], blk _ _ [_, _, _, _, _]] _ at F55
          refine Ops.step (One.storeN (vs := [_, _, _, _, _]) F55 0 rfl sz31 rfl rfl rfl (ev_t rfl) (ev_t rfl) rfl rfl hE2.one ?_)
          intro w31 F56
          change Fr _ _ [blk _ _ [_, _, _, _, _], _, blk _ _ [_, _, _, _, _], _, blk _ _ [_, _, _, _, _], _, blk _ _ [_, _, _, _, _], _, blk _ _ [_, _, _, _, _], blk _ _ [_, _, _, _, _]] _ at F56
          refine Ops.step (One.val rfl rfl rfl (yld_assign rfl (ev_t rfl)) ?_)
          refine Ops.nil fun a hS => ?_
          refine hK17 _ _ ?_ a hS
          refine Cod.seq fun K18 hK18 => ?_
          refine Cod.seq fun K19 hK19 => ?_
          refine Cod.region ?_
          refine Ops.step (One.val rfl rfl rfl (yld_loadN ag31 rfl (ev_t rfl) (fun _ => F56.range (m := 5) (cs' := [_, _, _, _, _]) 0 rfl rfl) rfl) ?_)
          refine Ops.step (One.val rfl rfl rfl (yld_loadN ag31 rfl (ev_t rfl) (fun _ => F56.range (m := 5) (cs' := [_, _, _, _, _]) 6 rfl rfl) rfl) ?_)
          refine Ops.step (One.call rfl rfl rfl (ent_f rfl (evl2 (ev_t rfl) (ev_t rfl)) (enters en12)) (eqVal_ct ((putR ta key tb).getD zeroT) ((putR ta key tb).getD zeroT) _ _ _ (F56.get 1 rfl).rep (F56.get 7 rfl).rep) (fun e w32 hw32 => ?_))
          obtain ⟨rfl, C32⟩ := hw32
          have F57 := F56.call C32
          refine ⟨_, rfl, ?_⟩
          refine Ops.step (One.val rfl rfl rfl (yld_not rfl (ev_t rfl)) ?_)
          refine Ops.step (One.val rfl rfl rfl (yld_move rfl (ev_t rfl)) ?_)
          refine Ops.step (One.val (gd_some rfl rfl) rfl rfl (yld_move rfl (ev_t rfl)) ?_)
          refine Ops.step (One.val (gd_some rfl rfl) rfl rfl (yld_move rfl (ev_t rfl)) ?_)
          refine Ops.step (One.val (gd_some rfl rfl) rfl rfl (yld_bneq Try.underlying4 rfl (ev_g rfl) (ev_g rfl)) ?_)
          refine Ops.step (One.val rfl rfl rfl (yld_or rfl (ev_t rfl) (ev_g rfl)) ?_)
          refine Ops.nil fun a hS => ?_
          refine hK19 _ _ ?_ a hS
          refine Cod.cond rfl (fun hc60 => ?_) (fun hc60 => ?_)
          · skip
            simp at hc60
          · skip
            refine Cod.skip fun a hS => ?_
            refine hK18 _ _ ?_ a hS
            refine Cod.seq fun K20 hK20 => ?_
            refine Cod.seq fun K21 hK21 => ?_
            have F58 := F57.drew
            refine Cod.draw (C_of F58) (by kernel_rfl) ?_
            refine Hops.take 0 rfl (by kernel_rfl) (fun _ _ _ h => h) rfl rfl rfl F58 (fun w F => (yld_loadN ag31 rfl (ev_t rfl) (fun _ => F.range (m := 5) (cs' := [_, _, _, _, _]) 4 rfl rfl) rfl)) ?_
            refine Hops.take 1 rfl (by kernel_rfl) (fun _ _ _ h => h) rfl rfl rfl F58 (fun w F => (yld_loadN ag25 rfl (ev_t rfl) (fun _ => F.range (m := 5) (cs' := [_, _, _, _, _]) 9 rfl rfl) rfl)) ?_
            refine Hops.one 2 rfl (by kernel_rfl) (One.call rfl rfl rfl (ent_f rfl (evl1 (ev_t rfl)) (enters en9)) (toVal_ct ta _ _ (ha.chg F58.chg) (by omega)) (fun e w33 hw33 => ?_))
            obtain ⟨x5, G5, rfl, C33, hs5, hb5⟩ := hw33
            have F59 := F58.new C33 (sep G5 ta x5.val) hs5 hb5
            refine ⟨_, rfl, ?_⟩
            refine ⟨F59.drop1, ?_⟩
            refine Hops.one 3 rfl (by kernel_rfl) (One.call rfl rfl rfl (ent_f rfl (evl2 (ev_t rfl) (ev_t rfl)) (enters en12)) (eqVal_ct ta ta _ _ _ (F59.get 6 rfl).rep (F59.get 0 rfl).rep) (fun e w34 hw34 => ?_))
            obtain ⟨rfl, C34⟩ := hw34
            have F60 := F59.call C34
            refine ⟨_, rfl, ?_⟩
            refine ⟨F60.drop1, ?_⟩
            refine Hops.take 4 rfl (by kernel_rfl) (fun _ _ _ h => h) rfl rfl rfl F60.drop1 (fun w F => (yld_not rfl (ev_t rfl))) ?_
            refine Hops.nil (by kernel_rfl) fun a hS => ?_
            refine hK21 _ _ ?_ a hS
            refine Cod.cond rfl (fun hc65 => ?_) (fun hc65 => ?_)
            · skip
              simp at hc65
            · skip
              refine Cod.skip fun a hS => ?_
              refine hK20 _ _ ?_ a hS
              refine Cod.seq fun K22 hK22 => ?_
              refine Cod.seq fun K23 hK23 => ?_
              have F61 := F60.drew
              refine Cod.draw (C_of F61) (by kernel_rfl) ?_
              refine Hops.take 0 rfl (by kernel_rfl) (fun _ _ _ h => h) rfl rfl rfl F61 (fun w F => (yld_loadN ag31 rfl (ev_t rfl) (fun _ => F.range (m := 5) (cs' := [_, _, _, _, _]) 3 rfl rfl) rfl)) ?_
              refine Hops.take 1 rfl (by kernel_rfl) (fun _ _ _ h => h) rfl rfl rfl F61 (fun w F => (yld_loadN ag25 rfl (ev_t rfl) (fun _ => F.range (m := 5) (cs' := [_, _, _, _, _]) 9 rfl rfl) rfl)) ?_
              refine Hops.one 2 rfl (by kernel_rfl) (One.call rfl rfl rfl (ent_f rfl (evl1 (ev_t rfl)) (enters en9)) (toVal_ct tb _ _ (hb.chg F61.chg) (by omega)) (fun e w35 hw35 => ?_))
              obtain ⟨x6, G6, rfl, C35, hs6, hb6⟩ := hw35
              have F62 := F61.new C35 (sep G6 tb x6.val) hs6 hb6
              refine ⟨_, rfl, ?_⟩
              refine ⟨F62.drop1, ?_⟩
              refine Hops.one 3 rfl (by kernel_rfl) (One.call rfl rfl rfl (ent_f rfl (evl2 (ev_t rfl) (ev_t rfl)) (enters en12)) (eqVal_ct tb tb _ _ _ (F62.get 5 rfl).rep (F62.get 0 rfl).rep) (fun e w36 hw36 => ?_))
              obtain ⟨rfl, C36⟩ := hw36
              have F63 := F62.call C36
              refine ⟨_, rfl, ?_⟩
              refine ⟨F63.drop1, ?_⟩
              refine Hops.take 4 rfl (by kernel_rfl) (fun _ _ _ h => h) rfl rfl rfl F63.drop1 (fun w F => (yld_not rfl (ev_t rfl))) ?_
              refine Hops.nil (by kernel_rfl) fun a hS => ?_
              refine hK23 _ _ ?_ a hS
              refine Cod.cond rfl (fun hc70 => ?_) (fun hc70 => ?_)
              · skip
                simp at hc70
              · skip
                refine Cod.skip fun a hS => ?_
                refine hK22 _ _ ?_ a hS
                refine Cod.seq fun K24 hK24 => ?_
                refine Cod.region ?_
                refine Ops.step (One.val rfl rfl rfl (yld_assign rfl ev_c) ?_)
                refine Ops.nil fun a hS => ?_
                refine hK24 _ _ ?_ a hS
                refine Cod.seq fun K25 hK25 => ?_
                refine Cod.region ?_
                refine Ops.step (One.val rfl rfl rfl (yld_loadN ag31 rfl (ev_t rfl) (fun _ => F63.range (m := 5) (cs' := [_, _, _, _, _]) 6 rfl rfl) rfl) ?_)
                refine Ops.step (One.val rfl rfl rfl (yld_move rfl (ev_t rfl)) ?_)
                refine Ops.step (One.call rfl rfl rfl (ent_f rfl (evl2 (ev_t rfl) (ev_t rfl)) (enters en13)) (markVal_ct ta 1 x3.val _ G3 (F63.get 7 rfl) (by omega) (by omega)) (fun e w37 hw37 => ?_))
                obtain ⟨rfl, C37, hmx3⟩ := hw37
                have F64 := F63.upd 7 rfl C37 (fun _ hk => .inl hk) (sep G3 (Tr.mkT ta _) x3.val) hmx3 (fun _ hk => .inl hk)
                change Fr _ _ [_, _, _, _, _, _, _, _, _, _, _, _] _ at F64
                refine ⟨_, rfl, ?_⟩
                refine Ops.step (One.val rfl rfl rfl (yld_assign rfl (ev_t rfl)) ?_)
                refine Ops.nil fun a hS => ?_
                refine hK25 _ _ ?_ a hS
                refine Cod.seq fun K26 hK26 => ?_
                refine Cod.region ?_
                refine Ops.step (One.val rfl rfl rfl (yld_loadN ag31 rfl (ev_t rfl) (fun _ => F64.range (m := 5) (cs' := [_, _, _, _, _]) 4 rfl rfl) rfl) ?_)
                refine Ops.step (One.val rfl rfl rfl (yld_move rfl (ev_t rfl)) ?_)
                refine Ops.step (One.call rfl rfl rfl (ent_f rfl (evl2 (ev_t rfl) (ev_t rfl)) (enters en13)) (markVal_ct tb _ x4.val _ G4 (F64.get 5 rfl) (by omega) (by omega)) (fun e w38 hw38 => ?_))
                obtain ⟨rfl, C38, hmx4⟩ := hw38
                have F65 := F64.upd 5 rfl C38 (fun _ hk => .inl hk) (sep G4 (Tr.mkT tb _) x4.val) hmx4 (fun _ hk => .inl hk)
                change Fr _ _ [_, _, _, _, _, _, _, _, _, _, _, _] _ at F65
                refine ⟨_, rfl, ?_⟩
                refine Ops.step (One.val rfl rfl rfl (yld_assign rfl (ev_t rfl)) ?_)
                refine Ops.nil fun a hS => ?_
                refine hK26 _ _ ?_ a hS
                refine Cod.seq fun K27 hK27 => ?_
                refine Cod.seq fun K28 hK28 => ?_
                refine Cod.region ?_
                refine Ops.step (One.val rfl rfl rfl (yld_move rfl (ev_t rfl)) ?_)
                refine Ops.step (One.val rfl rfl rfl (yld_lss rfl (ev_t rfl) ev_c) ?_)
                refine Ops.step (One.val rfl rfl rfl (yld_move rfl (ev_t rfl)) ?_)
                refine Ops.step (One.val (gd_some rfl rfl) rfl rfl (yld_loadN ag31 rfl (ev_t rfl) (fun _ => F65.range (m := 5) (cs' := [_, _, _, _, _]) 2 rfl rfl) rfl) ?_)
                refine Ops.step (One.val (gd_some rfl rfl) rfl rfl (yld_loadN ag31 rfl (ev_t rfl) (fun _ => F65.range (m := 5) (cs' := [_, _, _, _, _]) 8 rfl rfl) rfl) ?_)
                refine Ops.step (One.gcall (R := Chg No w38) (gd_some rfl rfl) rfl rfl (ent_f rfl (evl2 (ev_g rfl) (ev_g rfl)) (enters en12)) (Chg.refl _ _) (fun hg => eqVal_ct ((putR ta key tb).getD zeroT) ((putR ta key tb).getD zeroT) _ _ _ (F65.get 3 rfl).rep (F65.get 9 rfl).rep) ?_)
                intro w39 C39
                have F66 := F65.call C39
                refine Ops.step (One.val (gd_some rfl rfl) rfl rfl (yld_not rfl (ev_g rfl)) ?_)
                refine Ops.step (One.val rfl rfl rfl (yld_or rfl (ev_t rfl) (ev_g rfl)) ?_)
                refine Ops.step (One.val rfl rfl rfl (yld_move rfl (ev_t rfl)) ?_)
                refine Ops.step (One.val (gd_some rfl rfl) rfl rfl (yld_move rfl (ev_t rfl)) ?_)
                refine Ops.step (One.val (gd_some rfl rfl) rfl rfl (yld_move rfl (ev_t rfl)) ?_)
                refine Ops.step (One.val (gd_some rfl rfl) rfl rfl (yld_bneq Try.underlying4 rfl (ev_g rfl) (ev_g rfl)) ?_)
                refine Ops.step (One.val rfl rfl rfl (yld_or rfl (ev_t rfl) (ev_g rfl)) ?_)
                refine Ops.nil fun a hS => ?_
                refine hK28 _ _ ?_ a hS
                refine Cod.cond rfl (fun hc89 => ?_) (fun hc89 => ?_)
                · skip
                  (simp at hc89; omega)
                · skip
                  refine Cod.skip fun a hS => ?_
                  refine hK27 _ _ ?_ a hS
                  refine Cod.seq fun K29 hK29 => ?_
                  refine Cod.region ?_
                  refine Ops.step (One.val rfl rfl rfl (yld_assign rfl ev_c) ?_)
                  refine Ops.nil fun a hS => ?_
                  refine hK29 _ _ ?_ a hS
                  refine Cod.seq fun K30 hK30 => ?_
                  refine Cod.region ?_
                  refine Ops.step (One.val rfl rfl rfl (yld_loadN ag31 rfl (ev_t rfl) (fun _ => F66.range (m := 5) (cs' := [_, _, _, _, _]) 2 rfl rfl) rfl) ?_)
                  refine Ops.step (One.val rfl rfl rfl (yld_move rfl (ev_t rfl)) ?_)
                  refine Ops.step (One.call rfl rfl rfl (ent_f rfl (evl2 (ev_t rfl) (ev_t rfl)) (enters en13)) (markVal_ct ((putR ta key tb).getD zeroT) 1 e2.val _ E2 (F66.get 3 rfl) (by omega) (by omega)) (fun e w40 hw40 => ?_))
                  obtain ⟨rfl, C40, hme2⟩ := hw40
                  have F67 := F66.upd 3 rfl C40 (fun _ hk => .inl hk) (sep E2 (Tr.mkT ((putR ta key tb).getD zeroT) _) e2.val) hme2 (fun _ hk => .inl hk)
                  change Fr _ _ [_, _, _, _, _, _, _, _, _, _, _, _] _ at F67
                  refine ⟨_, rfl, ?_⟩
                  refine Ops.step (One.val rfl rfl rfl (yld_assign rfl (ev_t rfl)) ?_)
                  refine Ops.nil fun a hS => ?_
                  refine hK30 _ _ ?_ a hS
                  refine Cod.seq fun K31 hK31 => ?_
                  refine Cod.region ?_
                  refine Ops.step (One.val rfl rfl rfl (yld_assign rfl ev_c) ?_)
                  refine Ops.nil fun a hS => ?_
                  refine hK31 _ _ ?_ a hS
                  refine Cod.seq fun K32 hK32 => ?_
                  refine Cod.region ?_
                  refine Ops.step (One.val rfl rfl rfl (yld_loadN ag31 rfl (ev_t rfl) (fun _ => F67.range (m := 5) (cs' := [_, _, _, _, _]) 2 rfl rfl) rfl) ?_)
                  refine Ops.step (One.val rfl rfl rfl (yld_move rfl (ev_t rfl)) ?_)
                  refine Ops.step (One.call rfl rfl rfl (ent_f rfl (evl2 (ev_t rfl) (ev_t rfl)) (enters en23)) (heldVal_ct ((putR ta key tb).getD zeroT) 1 _ _ (F67.get 3 rfl).rep (by omega) (by omega)) (fun e w41 hw41 => ?_))
                  obtain ⟨rfl, C41⟩ := hw41
                  have F68 := F67.call C41
                  refine ⟨_, rfl, ?_⟩
                  refine Ops.step (One.val rfl rfl rfl (yld_assign rfl (ev_t rfl)) ?_)
                  refine Ops.nil fun a hS => ?_
                  refine hK32 _ _ ?_ a hS
                  refine Cod.seq fun K33 hK33 => ?_
                  refine Cod.seq fun K34 hK34 => ?_
                  refine Cod.region ?_
                  refine Ops.step (One.val rfl rfl rfl (yld_move rfl (ev_t rfl)) ?_)
                  refine Ops.step (One.val rfl rfl rfl (yld_lss rfl (ev_t rfl) ev_c) ?_)
                  refine Ops.nil fun a hS => ?_
                  refine hK34 _ _ ?_ a hS
                  refine Cod.cond rfl (fun hc97 => ?_) (fun hc97 => ?_)
                  · skip
                    (have := of_decide_eq_true hc97; omega)
                  · skip
                    refine Cod.skip fun a hS => ?_
                    refine hK33 _ _ ?_ a hS
                    refine Cod.seq fun K35 hK35 => ?_
                    refine Cod.seq fun K36 hK36 => ?_
                    refine Cod.region ?_
                    refine Ops.step (One.val rfl rfl rfl (yld_move rfl (ev_t rfl)) ?_)
                    refine Ops.step (One.val rfl rfl rfl (yld_move rfl (ev_t rfl)) ?_)
                    refine Ops.step (One.val rfl rfl rfl (yld_neq rfl (ev_t rfl) (ev_t rfl)) ?_)
                    refine Ops.nil fun a hS => ?_
                    refine hK36 _ _ ?_ a hS
                    refine Cod.cond rfl (fun hc100 => ?_) (fun hc100 => ?_)
                    · skip
                      simp at hc100
                    · skip
                      refine Cod.skip fun a hS => ?_
                      refine hK35 _ _ ?_ a hS
                      refine Cod.cut (fun i : Nat × V5 × (Nat → Prop) => [(8, true, .pointer (some ⟨bo, 0, none⟩)), (9, true, .bool (putR ta key tb).isSome), (12, true, .pointer (some ⟨b9, 0, none⟩)), (15, true, .int .i64 (1 + (((putR ta key tb).getD zeroT).keys.length : Int) + ((sumN Tr.mkn ((putR ta key tb).getD zeroT).list : Nat) : Int))), (17, true, .pointer (some ⟨i.1, 0, none⟩)), (18, true, .bool (putR ta key tb).isSome)]) (fun i w' => Fr No w [blk i.1 31 (enc5 i.2.1), sep i.2.2 ((putR ta key tb).getD zeroT) i.2.1.val, blk b9 31 (enc5 e2), sep E2 (Tr.mkT ((putR ta key tb).getD zeroT) 1) e2.val, blk bo 31 (enc5 e1), sep E1 ((putR ta key tb).getD zeroT) e1.val] w') (fun K37 hK37 => ?_) ?_
                      · skip
                        have F69 := F68.drew
                        refine Cod.draw (C_of F69) (by kernel_rfl) ?_
                        refine Hops.take 0 rfl (by kernel_rfl) (fun _ _ _ h => h) rfl rfl rfl F69 (fun w F => (yld_loadN ag25 rfl (ev_t rfl) (fun _ => F.range (m := 5) (cs' := [_, _, _, _, _]) 11 rfl rfl) rfl)) ?_
                        refine Hops.take 2 rfl (by kernel_rfl) (fun _ _ _ h => h) rfl rfl rfl F69 (fun w F => (yld_move rfl (ev_t rfl))) ?_
                        refine Hops.take 3 rfl (by kernel_rfl) (fun _ _ _ h => h) rfl rfl rfl F69 (fun w F => (yld_loadN ag25 rfl (ev_t rfl) (fun _ => F.range (m := 5) (cs' := [_, _, _, _, _]) 10 rfl rfl) rfl)) ?_
                        refine Hops.two 1 9 rfl rfl (by kernel_rfl) ?_ ?_
                        · skip
                          refine (One.call rfl rfl rfl (ent_f rfl (evl1 (ev_t rfl)) (enters en9)) (toVal_ct ta _ _ (ha.chg F69.chg) (by omega)) (fun e w42 hw42 => ?_))
                          obtain ⟨x7, G7, rfl, C42, hs7, hb7⟩ := hw42
                          have F70 := F69.new C42 (sep G7 ta x7.val) hs7 hb7
                          refine ⟨_, rfl, ?_⟩
                          refine ⟨F70.drop1, ?_⟩
                          refine Hops.two 4 9 rfl rfl (by kernel_rfl) ?_ ?_
                          · skip
                            refine (One.call rfl rfl rfl (ent_f rfl (evl1 (ev_t rfl)) (enters en9)) (toVal_ct tb _ _ (hb.chg F70.chg) (by omega)) (fun e w43 hw43 => ?_))
                            obtain ⟨x8, G8, rfl, C43, hs8, hb8⟩ := hw43
                            have F71 := F70.new C43 (sep G8 tb x8.val) hs8 hb8
                            refine ⟨_, rfl, ?_⟩
                            refine ⟨(F71.erase 1).drop1, ?_⟩
                            refine Hops.two 5 9 rfl rfl (by kernel_rfl) ?_ ?_
                            · skip
                              refine (One.call rfl rfl rfl (ent_f rfl (evl3 (ev_t rfl) (ev_t rfl) (ev_t rfl)) (enters en22)) (partPut_ct ta tb key hks _ _ _ (F71.get 1 rfl).rep (F71.get 0 rfl).rep fa fb hwa hwb) (fun e w44 hw44 => ?_))
                              obtain ⟨e3, E3, rfl, C44, hE3, hEb3⟩ := hw44
                              have F72 := F71.new C44 (sep E3 ((putR ta key tb).getD zeroT) e3.val) hE3 hEb3
                              refine ⟨_, rfl, ?_⟩
                              refine ⟨((F72.erase 2).erase 1).drop1, ?_⟩
                              refine Hops.take 6 rfl (by kernel_rfl) (fun _ _ _ h => h) rfl rfl rfl ((F72.erase 2).erase 1).drop1 (fun w F => (yld_move rfl (ev_t rfl))) ?_
                              refine Hops.take 7 rfl (by kernel_rfl) (fun _ _ _ h => h) rfl rfl rfl ((F72.erase 2).erase 1).drop1 (fun w F => (yld_extract rfl (ev_t rfl) rfl)) ?_
                              refine Hops.take 8 rfl (by kernel_rfl) (fun _ _ _ h => h) rfl rfl rfl ((F72.erase 2).erase 1).drop1 (fun w F => (yld_extract rfl (ev_t rfl) rfl)) ?_
                              refine Hops.one 9 rfl (by kernel_rfl) (One.alloc F72 zero31 rfl rfl rfl rfl ?_)
                              intro b10 w45 hb10 F73
                              refine ⟨(((F73.erase 3).erase 2).erase 1).drop1, ?_⟩
                              change Fr _ _ [blk _ _ [_, _, _, _, _], _, _, _, _, _, blk _ _ [_, _, _, _, _], _, blk _ _ [_, _, _, _, _], _, blk _ _ [_, _, _, _, _], _, blk _ _ [_, _, _, _, _], _, blk _ _ [_, _, _, _, _], blk _ _ [_, _, _, _, _]] _ at F73
                              refine Hops.one 10 rfl (by kernel_rfl) (One.storeN (vs := [_, _, _, _, _]) F73 0 rfl sz31 rfl rfl rfl (ev_t rfl) (ev_t rfl) rfl rfl hE3.one ?_)
                              intro w46 F74
                              refine ⟨(((F74.erase 3).erase 2).erase 1).drop1, ?_⟩
                              change Fr _ _ [blk _ _ [_, _, _, _, _], _, _, _, _, _, blk _ _ [_, _, _, _, _], _, blk _ _ [_, _, _, _, _], _, blk _ _ [_, _, _, _, _], _, blk _ _ [_, _, _, _, _], _, blk _ _ [_, _, _, _, _], blk _ _ [_, _, _, _, _]] _ at F74
                              refine Hops.one 11 rfl (by kernel_rfl) (One.val rfl rfl rfl (yld_assign rfl (ev_t rfl)) ?_)
                              refine ⟨(((F74.erase 3).erase 2).erase 1).drop1, ?_⟩
                              refine Hops.nil (by kernel_rfl) fun a hS => ?_
                              have F75 := F74.pull 13 rfl
                              have F76 := F75.pull 13 rfl
                              have F77 := F76.pull 9 rfl
                              have F78 := F77.pull 9 rfl
                              have F79 := F78.pull 5 rfl
                              have F80 := F79.pull 5 rfl
                              have F81 := F80.erase 6
                              have F82 := F81.erase 6
                              have F83 := F82.erase 6
                              have F84 := F83.erase 6
                              have F85 := F84.erase 6
                              have F86 := F85.erase 6
                              have F87 := F86.erase 6
                              have F88 := F87.erase 6
                              have F89 := F88.erase 6
                              have F90 := F89.erase 6
                              exact hK37 (b10, e3, E3) _ a (hS.sub ⟨rfl, rfl, rfl, rfl, rfl, rfl, trivial⟩) F90
                            · skip
                              refine (One.alloc F71 zero31 rfl rfl rfl rfl ?_)
                              intro b11 w47 hb11 F91
                              refine ⟨((F91.erase 2).erase 1).drop1, ?_⟩
                              change Fr _ _ [blk _ _ [_, _, _, _, _], _, _, _, _, blk _ _ [_, _, _, _, _], _, blk _ _ [_, _, _, _, _], _, blk _ _ [_, _, _, _, _], _, blk _ _ [_, _, _, _, _], _, blk _ _ [_, _, _, _, _], blk _ _ [_, _, _, _, _]] _ at F91
                              refine Hops.one 5 rfl (by kernel_rfl) (One.call rfl rfl rfl (ent_f rfl (evl3 (ev_t rfl) (ev_t rfl) (ev_t rfl)) (enters en22)) (partPut_ct ta tb key hks _ _ _ (F91.get 2 rfl).rep (F91.get 1 rfl).rep fa fb hwa hwb) (fun e w48 hw48 => ?_))
                              obtain ⟨e3, E3, rfl, C48, hE3, hEb3⟩ := hw48
                              have F92 := F91.new C48 (sep E3 ((putR ta key tb).getD zeroT) e3.val) hE3 hEb3
                              refine ⟨_, rfl, ?_⟩
                              refine ⟨(((F92.erase 3).erase 2).erase 1).drop1, ?_⟩
                              refine Hops.take 6 rfl (by kernel_rfl) (fun _ _ _ h => h) rfl rfl rfl (((F92.erase 3).erase 2).erase 1).drop1 (fun w F => (yld_move rfl (ev_t rfl))) ?_
                              refine Hops.take 7 rfl (by kernel_rfl) (fun _ _ _ h => h) rfl rfl rfl (((F92.erase 3).erase 2).erase 1).drop1 (fun w F => (yld_extract rfl (ev_t rfl) rfl)) ?_
                              refine Hops.take 8 rfl (by kernel_rfl) (fun _ _ _ h => h) rfl rfl rfl (((F92.erase 3).erase 2).erase 1).drop1 (fun w F => (yld_extract rfl (ev_t rfl) rfl)) ?_
                              refine Hops.one 10 rfl (by kernel_rfl) (One.storeN (vs := [_, _, _, _, _]) F92 1 rfl sz31 rfl rfl rfl (ev_t rfl) (ev_t rfl) rfl rfl hE3.one ?_)
                              intro w49 F93
                              refine ⟨(((F93.erase 3).erase 2).erase 1).drop1, ?_⟩
                              change Fr _ _ [_, blk _ _ [_, _, _, _, _], _, _, _, _, blk _ _ [_, _, _, _, _], _, blk _ _ [_, _, _, _, _], _, blk _ _ [_, _, _, _, _], _, blk _ _ [_, _, _, _, _], _, blk _ _ [_, _, _, _, _], blk _ _ [_, _, _, _, _]] _ at F93
                              refine Hops.one 11 rfl (by kernel_rfl) (One.val rfl rfl rfl (yld_assign rfl (ev_t rfl)) ?_)
                              refine ⟨(((F93.erase 3).erase 2).erase 1).drop1, ?_⟩
                              refine Hops.nil (by kernel_rfl) fun a hS => ?_
                              have F94 := F93.pull 13 rfl
                              have F95 := F94.pull 13 rfl
                              have F96 := F95.pull 9 rfl
                              have F97 := F96.pull 9 rfl
                              have F98 := F97.pull 4 rfl
                              have F99 := F98.pull 5 rfl
                              have F100 := F99.erase 6
                              have F101 := F100.erase 6
                              have F102 := F101.erase 6
                              have F103 := F102.erase 6
                              have F104 := F103.erase 6
                              have F105 := F104.erase 6
                              have F106 := F105.erase 6
                              have F107 := F106.erase 6
                              have F108 := F107.erase 6
                              have F109 := F108.erase 6
                              exact hK37 (b11, e3, E3) _ a (hS.sub ⟨rfl, rfl, rfl, rfl, rfl, rfl, trivial⟩) F109
                          · skip
                            refine (One.alloc F70 zero31 rfl rfl rfl rfl ?_)
                            intro b12 w50 hb12 F110
                            refine ⟨(F110.erase 1).drop1, ?_⟩
                            change Fr _ _ [blk _ _ [_, _, _, _, _], _, _, _, blk _ _ [_, _, _, _, _], _, blk _ _ [_, _, _, _, _], _, blk _ _ [_, _, _, _, _], _, blk _ _ [_, _, _, _, _], _, blk _ _ [_, _, _, _, _], blk _ _ [_, _, _, _, _]] _ at F110
                            refine Hops.one 4 rfl (by kernel_rfl) (One.call rfl rfl rfl (ent_f rfl (evl1 (ev_t rfl)) (enters en9)) (toVal_ct tb _ _ (hb.chg F110.chg) (by omega)) (fun e w51 hw51 => ?_))
                            obtain ⟨x8, G8, rfl, C51, hs8, hb8⟩ := hw51
                            have F111 := F110.new C51 (sep G8 tb x8.val) hs8 hb8
                            refine ⟨_, rfl, ?_⟩
                            refine ⟨((F111.erase 2).erase 1).drop1, ?_⟩
                            refine Hops.one 5 rfl (by kernel_rfl) (One.call rfl rfl rfl (ent_f rfl (evl3 (ev_t rfl) (ev_t rfl) (ev_t rfl)) (enters en22)) (partPut_ct ta tb key hks _ _ _ (F111.get 2 rfl).rep (F111.get 0 rfl).rep fa fb hwa hwb) (fun e w52 hw52 => ?_))
                            obtain ⟨e3, E3, rfl, C52, hE3, hEb3⟩ := hw52
                            have F112 := F111.new C52 (sep E3 ((putR ta key tb).getD zeroT) e3.val) hE3 hEb3
                            refine ⟨_, rfl, ?_⟩
                            refine ⟨(((F112.erase 3).erase 2).erase 1).drop1, ?_⟩
                            refine Hops.take 6 rfl (by kernel_rfl) (fun _ _ _ h => h) rfl rfl rfl (((F112.erase 3).erase 2).erase 1).drop1 (fun w F => (yld_move rfl (ev_t rfl))) ?_
                            refine Hops.take 7 rfl (by kernel_rfl) (fun _ _ _ h => h) rfl rfl rfl (((F112.erase 3).erase 2).erase 1).drop1 (fun w F => (yld_extract rfl (ev_t rfl) rfl)) ?_
                            refine Hops.take 8 rfl (by kernel_rfl) (fun _ _ _ h => h) rfl rfl rfl (((F112.erase 3).erase 2).erase 1).drop1 (fun w F => (yld_extract rfl (ev_t rfl) rfl)) ?_
                            refine Hops.one 10 rfl (by kernel_rfl) (One.storeN (vs := [_, _, _, _, _]) F112 2 rfl sz31 rfl rfl rfl (ev_t rfl) (ev_t rfl) rfl rfl hE3.one ?_)
                            intro w53 F113
                            refine ⟨(((F113.erase 3).erase 2).erase 1).drop1, ?_⟩
                            change Fr _ _ [_, _, blk _ _ [_, _, _, _, _], _, _, _, blk _ _ [_, _, _, _, _], _, blk _ _ [_, _, _, _, _], _, blk _ _ [_, _, _, _, _], _, blk _ _ [_, _, _, _, _], _, blk _ _ [_, _, _, _, _], blk _ _ [_, _, _, _, _]] _ at F113
                            refine Hops.one 11 rfl (by kernel_rfl) (One.val rfl rfl rfl (yld_assign rfl (ev_t rfl)) ?_)
                            refine ⟨(((F113.erase 3).erase 2).erase 1).drop1, ?_⟩
                            refine Hops.nil (by kernel_rfl) fun a hS => ?_
                            have F114 := F113.pull 13 rfl
                            have F115 := F114.pull 13 rfl
                            have F116 := F115.pull 9 rfl
                            have F117 := F116.pull 9 rfl
                            have F118 := F117.pull 4 rfl
                            have F119 := F118.pull 6 rfl
                            have F120 := F119.erase 6
                            have F121 := F120.erase 6
                            have F122 := F121.erase 6
                            have F123 := F122.erase 6
                            have F124 := F123.erase 6
                            have F125 := F124.erase 6
                            have F126 := F125.erase 6
                            have F127 := F126.erase 6
                            have F128 := F127.erase 6
                            have F129 := F128.erase 6
                            exact hK37 (b12, e3, E3) _ a (hS.sub ⟨rfl, rfl, rfl, rfl, rfl, rfl, trivial⟩) F129
                        · skip
                          refine (One.alloc F69 zero31 rfl rfl rfl rfl ?_)
                          intro b13 w54 hb13 F130
                          refine ⟨F130.drop1, ?_⟩
                          change Fr _ _ [blk _ _ [_, _, _, _, _], _, _, blk _ _ [_, _, _, _, _], _, blk _ _ [_, _, _, _, _], _, blk _ _ [_, _, _, _, _], _, blk _ _ [_, _, _, _, _], _, blk _ _ [_, _, _, _, _], blk _ _ [_, _, _, _, _]] _ at F130
                          refine Hops.one 1 rfl (by kernel_rfl) (One.call rfl rfl rfl (ent_f rfl (evl1 (ev_t rfl)) (enters en9)) (toVal_ct ta _ _ (ha.chg F130.chg) (by omega)) (fun e w55 hw55 => ?_))
                          obtain ⟨x7, G7, rfl, C55, hs7, hb7⟩ := hw55
                          have F131 := F130.new C55 (sep G7 ta x7.val) hs7 hb7
                          refine ⟨_, rfl, ?_⟩
                          refine ⟨(F131.erase 1).drop1, ?_⟩
                          refine Hops.one 4 rfl (by kernel_rfl) (One.call rfl rfl rfl (ent_f rfl (evl1 (ev_t rfl)) (enters en9)) (toVal_ct tb _ _ (hb.chg F131.chg) (by omega)) (fun e w56 hw56 => ?_))
                          obtain ⟨x8, G8, rfl, C56, hs8, hb8⟩ := hw56
                          have F132 := F131.new C56 (sep G8 tb x8.val) hs8 hb8
                          refine ⟨_, rfl, ?_⟩
                          refine ⟨((F132.erase 2).erase 1).drop1, ?_⟩
                          refine Hops.one 5 rfl (by kernel_rfl) (One.call rfl rfl rfl (ent_f rfl (evl3 (ev_t rfl) (ev_t rfl) (ev_t rfl)) (enters en22)) (partPut_ct ta tb key hks _ _ _ (F132.get 1 rfl).rep (F132.get 0 rfl).rep fa fb hwa hwb) (fun e w57 hw57 => ?_))
                          obtain ⟨e3, E3, rfl, C57, hE3, hEb3⟩ := hw57
                          have F133 := F132.new C57 (sep E3 ((putR ta key tb).getD zeroT) e3.val) hE3 hEb3
                          refine ⟨_, rfl, ?_⟩
                          refine ⟨(((F133.erase 3).erase 2).erase 1).drop1, ?_⟩
                          refine Hops.take 6 rfl (by kernel_rfl) (fun _ _ _ h => h) rfl rfl rfl (((F133.erase 3).erase 2).erase 1).drop1 (fun w F => (yld_move rfl (ev_t rfl))) ?_
                          refine Hops.take 7 rfl (by kernel_rfl) (fun _ _ _ h => h) rfl rfl rfl (((F133.erase 3).erase 2).erase 1).drop1 (fun w F => (yld_extract rfl (ev_t rfl) rfl)) ?_
                          refine Hops.take 8 rfl (by kernel_rfl) (fun _ _ _ h => h) rfl rfl rfl (((F133.erase 3).erase 2).erase 1).drop1 (fun w F => (yld_extract rfl (ev_t rfl) rfl)) ?_
                          refine Hops.one 10 rfl (by kernel_rfl) (One.storeN (vs := [_, _, _, _, _]) F133 3 rfl sz31 rfl rfl rfl (ev_t rfl) (ev_t rfl) rfl rfl hE3.one ?_)
                          intro w58 F134
                          refine ⟨(((F134.erase 3).erase 2).erase 1).drop1, ?_⟩
                          change Fr _ _ [_, _, _, blk _ _ [_, _, _, _, _], _, _, blk _ _ [_, _, _, _, _], _, blk _ _ [_, _, _, _, _], _, blk _ _ [_, _, _, _, _], _, blk _ _ [_, _, _, _, _], _, blk _ _ [_, _, _, _, _], blk _ _ [_, _, _, _, _]] _ at F134
                          refine Hops.one 11 rfl (by kernel_rfl) (One.val rfl rfl rfl (yld_assign rfl (ev_t rfl)) ?_)
                          refine ⟨(((F134.erase 3).erase 2).erase 1).drop1, ?_⟩
                          refine Hops.nil (by kernel_rfl) fun a hS => ?_
                          have F135 := F134.pull 13 rfl
                          have F136 := F135.pull 13 rfl
                          have F137 := F136.pull 9 rfl
                          have F138 := F137.pull 9 rfl
                          have F139 := F138.pull 4 rfl
                          have F140 := F139.pull 7 rfl
                          have F141 := F140.erase 6
                          have F142 := F141.erase 6
                          have F143 := F142.erase 6
                          have F144 := F143.erase 6
                          have F145 := F144.erase 6
                          have F146 := F145.erase 6
                          have F147 := F146.erase 6
                          have F148 := F147.erase 6
                          have F149 := F148.erase 6
                          have F150 := F149.erase 6
                          exact hK37 (b13, e3, E3) _ a (hS.sub ⟨rfl, rfl, rfl, rfl, rfl, rfl, trivial⟩) F150
                      · skip
                        intro i w59 hW
                        obtain ⟨bh, e3, E3⟩ := i
                        have F151 := hW
                        dsimp only at *
                        refine Cod.seq fun K38 hK38 => ?_
                        refine Cod.seq fun K39 hK39 => ?_
                        refine Cod.region ?_
                        refine Ops.step (One.val rfl rfl rfl (yld_loadN ag31 rfl (ev_t rfl) (fun _ => F151.range (m := 5) (cs' := [_, _, _, _, _]) 0 rfl rfl) rfl) ?_)
                        refine Ops.step (One.val rfl rfl rfl (yld_loadN ag31 rfl (ev_t rfl) (fun _ => F151.range (m := 5) (cs' := [_, _, _, _, _]) 4 rfl rfl) rfl) ?_)
                        refine Ops.step (One.call rfl rfl rfl (ent_f rfl (evl2 (ev_t rfl) (ev_t rfl)) (enters en12)) (eqVal_ct ((putR ta key tb).getD zeroT) ((putR ta key tb).getD zeroT) _ _ _ (F151.get 1 rfl).rep (F151.get 5 rfl).rep) (fun e w60 hw60 => ?_))
                        obtain ⟨rfl, C60⟩ := hw60
                        have F152 := F151.call C60
                        refine ⟨_, rfl, ?_⟩
                        refine Ops.step (One.val rfl rfl rfl (yld_not rfl (ev_t rfl)) ?_)
                        refine Ops.step (One.val rfl rfl rfl (yld_move rfl (ev_t rfl)) ?_)
                        refine Ops.step (One.val (gd_some rfl rfl) rfl rfl (yld_move rfl (ev_t rfl)) ?_)
                        refine Ops.step (One.val (gd_some rfl rfl) rfl rfl (yld_move rfl (ev_t rfl)) ?_)
                        refine Ops.step (One.val (gd_some rfl rfl) rfl rfl (yld_bneq Try.underlying4 rfl (ev_g rfl) (ev_g rfl)) ?_)
                        refine Ops.step (One.val rfl rfl rfl (yld_or rfl (ev_t rfl) (ev_g rfl)) ?_)
                        refine Ops.nil fun a hS => ?_
                        refine hK39 _ _ ?_ a hS
                        refine Cod.cond rfl (fun hc118 => ?_) (fun hc118 => ?_)
                        · skip
                          simp at hc118
                        · skip
                          refine Cod.skip fun a hS => ?_
                          refine hK38 _ _ ?_ a hS
                          refine Cod.seq fun K40 hK40 => ?_
                          refine Cod.region ?_
                          refine Ops.step (One.val rfl rfl rfl (yld_assign rfl ev_c) ?_)
                          refine Ops.nil fun a hS => ?_
                          refine hK40 _ _ ?_ a hS
                          refine Cod.seq fun K41 hK41 => ?_
                          refine Cod.region ?_
                          refine Ops.step (One.val rfl rfl rfl (yld_loadN ag31 rfl (ev_t rfl) (fun _ => F152.range (m := 5) (cs' := [_, _, _, _, _]) 2 rfl rfl) rfl) ?_)
                          refine Ops.step (One.val rfl rfl rfl (yld_move rfl (ev_t rfl)) ?_)
                          refine Ops.step (One.call rfl rfl rfl (ent_f rfl (evl2 (ev_t rfl) (ev_t rfl)) (enters en23)) (heldVal_ct ((putR ta key tb).getD zeroT) 1 _ _ (F152.get 3 rfl).rep (by omega) (by omega)) (fun e w61 hw61 => ?_))
                          obtain ⟨rfl, C61⟩ := hw61
                          have F153 := F152.call C61
                          refine ⟨_, rfl, ?_⟩
                          refine Ops.step (One.val rfl rfl rfl (yld_assign rfl (ev_t rfl)) ?_)
                          refine Ops.nil fun a hS => ?_
                          refine hK41 _ _ ?_ a hS
                          refine Cod.seq fun K42 hK42 => ?_
                          refine Cod.seq fun K43 hK43 => ?_
                          refine Cod.region ?_
                          refine Ops.step (One.val rfl rfl rfl (yld_move rfl (ev_t rfl)) ?_)
                          refine Ops.step (One.val rfl rfl rfl (yld_lss rfl (ev_t rfl) ev_c) ?_)
                          refine Ops.nil fun a hS => ?_
                          refine hK43 _ _ ?_ a hS
                          refine Cod.cond rfl (fun hc123 => ?_) (fun hc123 => ?_)
                          · skip
                            (have := of_decide_eq_true hc123; omega)
                          · skip
                            refine Cod.skip fun a hS => ?_
                            refine hK42 _ _ ?_ a hS
                            refine Cod.seq fun K44 hK44 => ?_
                            refine Cod.seq fun K45 hK45 => ?_
                            refine Cod.region ?_
                            refine Ops.step (One.val rfl rfl rfl (yld_move rfl (ev_t rfl)) ?_)
                            refine Ops.step (One.val rfl rfl rfl (yld_move rfl (ev_t rfl)) ?_)
                            refine Ops.step (One.val rfl rfl rfl (yld_neq rfl (ev_t rfl) (ev_t rfl)) ?_)
                            refine Ops.nil fun a hS => ?_
                            refine hK45 _ _ ?_ a hS
                            refine Cod.cond rfl (fun hc126 => ?_) (fun hc126 => ?_)
                            · skip
                              simp at hc126
                            · skip
                              refine Cod.skip fun a hS => ?_
                              refine hK44 _ _ ?_ a hS
                              refine Cod.seq fun K46 hK46 => ?_
                              refine Cod.region ?_
                              refine Ops.step (One.val rfl rfl rfl (yld_assign rfl ev_c) ?_)
                              refine Ops.nil fun a hS => ?_
                              refine hK46 _ _ ?_ a hS
                              refine Cod.ret fun a hS => ?_
                              try simp only [Exit.then, Exit.inBlock]
                              exact ret1 (t := 6) rfl hS rfl ⟨rfl, F153.chg⟩


theorem ownKnob_none : ownKnob Try.prog.godebug = none := by kernel_rfl
theorem params_ok : ∀ t ∈ Try.f5.params.toList, Try.prog.readableRec t = true ∧ t < Try.prog.types.size := by
  rw [Try.params5]
  intro t ht
  simp only [List.mem_cons, List.not_mem_nil, or_false] at ht
  rcases ht with rfl | rfl | rfl <;> exact ⟨by kernel_rfl, of_decide_eq_true (by kernel_rfl)⟩
set_option maxRecDepth 100000 in
theorem lifted (os : Os) (started : os.Started) (H : Type) (enc : TypeId × Value → H) :
    ReturnsInHanded {} Try.checked os 5 .any (Rows.fnExactPartPutSpec.pre6 enc Try.prog Try.f5 Rows.fnExactPartPutRow.domain false) (Rows.fnExactPartPutSpec.post enc Try.prog Try.f5 false true false false) := by
  refine returnsInHanded_of_change (C := Try.checked) ownKnob_none started (by kernel_rfl) Try.func5
    (ChangeSpec.witness6 (enc := enc) (C := Try.checked) false ⟨#[], #[.agg #[.int .i64 0, .int .i64 0, .string ⟨#[]⟩, .slice none 0 0, .slice none 0 0], .string ⟨#[]⟩, .agg #[.int .i64 0, .int .i64 0, .string ⟨#[]⟩, .slice none 0 0, .slice none 0 0]], []⟩ 8 (by kernel_rfl) (by kernel_rfl) (by kernel_rfl) (by kernel_rfl)) ?_
  intro W base args ds gs before hval0 hW hcnd _
  have hval : ∀ (j : Nat) t v, Try.f5.params[j]? = some t → args[j]? = some v → Value.okWide Try.prog W .any base t v := hval0
  have hW' := hW
  obtain ⟨p, q, hA0, hV, rfl, hfz, hnd⟩ := hW
  have hA : DataW.TrodAll enc Try.prog W 0 (fun _ => true) true Try.f5.params.toList args.toList ds p := hA0
  rw [Try.params5] at hA hval
  obtain ⟨v0, v1, v2, d0, d1, d2, p0, p1, p2, rfl, rfl, rfl, h0, h1, h2⟩ := trodAll_three hA
  obtain ⟨rfl, rfl⟩ := trodVars_none hV
  obtain ⟨ta, ha, fa⟩ := open_tree h0
  obtain ⟨key, rfl, hks⟩ := openS (hval 1 _ v1 rfl rfl) h1
  obtain ⟨tb, hb, fb⟩ := open_tree h2
  refine (walk ta tb key hks v0 v2 W ha hb fa fb).mono fun e W' ⟨he, hc⟩ => ?_
  subst he
  exact ⟨_, rfl, post_chg laidOut rfl params_ok hW' (fun _ _ _ => (trodAll_cons_mk (shut_bool Try.underlying4 _) trodAll_mk0)) rfl rfl hc (ok_one (by kernel_rfl) rfl (okWide_bool_mk Try.underlying4 _))⟩

theorem over : Rows.fnExactPartPutRow.holds Try.pinned (OpenSpec.ofChange Rows.fnExactPartPutSpec) :=
  OpenClaim.holds_of_wide 5 Try.f5 rfl rfl rfl rfl rfl rfl rfl ⟨rfl, rfl, rfl, rfl, rfl⟩ rfl rfl rfl rfl rfl (by kernel_rfl) Try.func5 (by kernel_rfl)
    (of_decide_eq_true (by kernel_rfl)) (by unfold Func.isWrapper; first | (rw [if_pos (by decide +kernel)]; kernel_rfl) | (rw [if_neg (by decide +kernel)]; exact ⟨rfl, rfl⟩))
    (fun os started H enc _ => lifted os started H enc)

/-- The statement. -/
theorem proved : Rows.FnExactPartPutSaid := over
#print axioms proved

end LPartPut
end Go.Proofs.Yteodgmpkpbmoeaa.Eng
