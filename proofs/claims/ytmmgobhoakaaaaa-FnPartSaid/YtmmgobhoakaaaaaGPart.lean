/- FnPart returns true for all bytes: what is put at a key, or set at a place, lies there; all else lies where it lay. No condition. -/
import Derived.Test.YtmmgobhoakaaaaaLawQ
import Derived.Test.YtmmgobhoakaaaaaDraw5
import Derived.Test.YtmmgobhoakaaaaaArgB
import Derived.Test.YtmmgobhoakaaaaaRows
namespace Go.Proofs.Ytmmgobhoakaaaaa.Eng
open Go.RowKit Go.ChangeShapes Go.WideShapes Go.ChangeAt
set_option linter.unusedVariables false
set_option linter.unusedSimpArgs false
set_option maxHeartbeats 1000000
set_option linter.constructorNameAsVariable false
namespace GPart

set_option maxHeartbeats 4000000 in
set_option maxRecDepth 100000 in
theorem walk (code : List UInt8) (v : Value) (w : World) (hp : RepE bCells 1 Any w code v) :
    Calls Try.prog 9 #[v] w fun e w' => e = .returned (.bool true) ∧ Chg No w w' := by
  obtain ⟨A, c, rfl, -⟩ := hp.open
  refine enter Try.func9 rfl rfl rfl ?_
  have F0 := Fr.start w
  refine Cod.seq fun K1 hK1 => ?_
  refine Cod.region ?_
  refine Ops.step (One.val rfl rfl rfl (yld_assign rfl ev_c) ?_)
  refine Ops.nil fun a hS => ?_
  refine hK1 _ _ ?_ a hS
  refine Cod.seq fun K2 hK2 => ?_
  refine Cod.seq fun K3 hK3 => ?_
  refine Cod.region ?_
  refine Ops.step (One.val rfl rfl rfl (yld_move rfl (ev_t rfl)) ?_)
  refine Ops.step (One.val rfl rfl rfl (yld_len sl22 rfl (ev_t rfl)) ?_)
  refine Ops.step (One.val rfl rfl rfl (yld_gtr rfl (ev_t rfl) ev_c) ?_)
  refine Ops.nil fun a hS => ?_
  refine hK3 _ _ ?_ a hS
  refine Cod.cond rfl (fun hc30 => ?_) (fun hc30 => ?_)
  · skip
    refine Cod.seq fun K4 hK4 => ?_
    refine Cod.region ?_
    refine Ops.step (One.val rfl rfl rfl (yld_assign rfl ev_c) ?_)
    refine Ops.nil fun a hS => ?_
    refine hK4 _ _ ?_ a hS
    refine Cod.ret fun a hS => ?_
    try simp only [Exit.then, Exit.inBlock]
    exact ret1 (t := 2) rfl hS rfl ⟨rfl, F0.chg⟩
  · skip
    refine Cod.skip fun a hS => ?_
    refine hK2 _ _ ?_ a hS
    refine Cod.seq fun K5 hK5 => ?_
    refine Cod.region ?_
    refine Ops.step (One.val rfl rfl rfl (yld_move rfl (ev_t rfl)) ?_)
    refine Ops.step (One.call rfl rfl rfl (ent_f rfl (evl1 (ev_t rfl)) (enters en24)) (drawPut_ct code _ _ (hp.chg F0.chg)) (fun e w1 hw1 => ?_))
    obtain ⟨xa, xb, ta, tb, key, rfl, C1, hrsa, hda, hdb, hkey⟩ := hw1
    have hwa := hda.wt
    have hwb := hdb.wt
    obtain ⟨Grsa, hGa⟩ : ∃ G, G = New w w1 := ⟨_, rfl⟩
    rw [← hGa] at hrsa
    obtain ⟨A3a, c3a, A4a, c4a, hxa⟩ := rep_x (rps_get hrsa 0 rfl)
    obtain ⟨A3b, c3b, A4b, c4b, hxb⟩ := rep_x (rps_get hrsa 1 rfl)
    subst hxa
    subst hxb
    have F1 := F0.new C1 (rps Grsa [(ta, (x5 ta.kind ta.num ta.str (.slice A3a ta.keys.length c3a) (.slice A4a ta.list.length c4a)).val), (tb, (x5 tb.kind tb.num tb.str (.slice A3b tb.keys.length c3b) (.slice A4b tb.list.length c4b)).val)]) hrsa (by rw [hGa]; exact New.new)
    refine ⟨_, rfl, ?_⟩
    refine Ops.step (One.val rfl rfl rfl (yld_move rfl (ev_t rfl)) ?_)
    refine Ops.step (One.val rfl rfl rfl (yld_extract rfl (ev_t rfl) rfl) ?_)
    refine Ops.step (One.val rfl rfl rfl (yld_extract rfl (ev_t rfl) rfl) ?_)
    refine Ops.step (One.val rfl rfl rfl (yld_extract rfl (ev_t rfl) rfl) ?_)
    refine Ops.step (One.alloc F1 zero26 rfl rfl rfl rfl ?_)
    intro b1 w2 hb1 F2
    change Fr _ _ [blk _ _ [_, _, _, _, _], _] _ at F2
    refine Ops.step (One.alloc F2 zero26 rfl rfl rfl rfl ?_)
    intro b2 w3 hb2 F3
    change Fr _ _ [blk _ _ [_, _, _, _, _], blk _ _ [_, _, _, _, _], _] _ at F3
    refine Ops.step (One.storeN (vs := [_, _, _, _, _]) F3 1 rfl sz26 rfl rfl rfl (ev_t rfl) (ev_t rfl) rfl rfl (rps_oneC (F3.get 2 rfl) 0 rfl) ?_)
    intro w4 F4
    change Fr _ _ [blk _ _ [_, _, _, _, _], blk _ _ [_, _, _, _, _], _] _ at F4
    refine Ops.step (One.val rfl rfl rfl (yld_assign rfl (ev_t rfl)) ?_)
    refine Ops.step (One.storeN (vs := [_, _, _, _, _]) F4 0 rfl sz26 rfl rfl rfl (ev_t rfl) (ev_t rfl) rfl rfl (rps_oneC (F4.get 2 rfl) 1 rfl) ?_)
    intro w5 F5
    change Fr _ _ [blk _ _ [_, _, _, _, _], blk _ _ [_, _, _, _, _], _] _ at F5
    refine Ops.nil fun a hS => ?_
    refine hK5 _ _ ?_ a hS
    refine Cod.seq fun K6 hK6 => ?_
    refine Cod.region ?_
    refine Ops.step (One.val rfl rfl rfl (yld_loadN ag26 rfl (ev_t rfl) (fun _ => F5.range (m := 5) (cs' := [_, _, _, _, _]) 1 rfl rfl) rfl) ?_)
    refine Ops.step (One.val rfl rfl rfl (yld_move rfl (ev_t rfl)) ?_)
    refine Ops.step (One.val rfl rfl rfl (yld_loadN ag26 rfl (ev_t rfl) (fun _ => F5.range (m := 5) (cs' := [_, _, _, _, _]) 0 rfl rfl) rfl) ?_)
    refine Ops.step (One.call rfl rfl rfl (ent_f rfl (evl3 (ev_t rfl) (ev_t rfl) (ev_t rfl)) (enters en25)) (partPut_ct ta tb key (by omega) _ _ _ (rps_get (F5.get 2 rfl) 0 rfl) (rps_get (F5.get 2 rfl) 1 rfl) hda.fit hdb.fit (by omega) (by omega)) (fun e w6 hw6 => ?_))
    obtain ⟨R1, hR1⟩ : ∃ R, R = putR ta key tb := ⟨_, rfl⟩
    have hO1 : okT (R1.getD zeroT) = true := by rw [hR1]; exact putR_ok ta key tb
    rw [← hR1] at hw6
    obtain ⟨e1, E1, rfl, C6, hE1, hEb1⟩ := hw6
    obtain ⟨A3e1, c3e1, A4e1, c4e1, hxe1⟩ := rep_x hE1.rep
    subst hxe1
    have F6 := F5.new C6 (sep E1 (R1.getD zeroT) (x5 (R1.getD zeroT).kind (R1.getD zeroT).num (R1.getD zeroT).str (.slice A3e1 (R1.getD zeroT).keys.length c3e1) (.slice A4e1 (R1.getD zeroT).list.length c4e1)).val) hE1 hEb1
    refine ⟨_, rfl, ?_⟩
    refine Ops.step (One.val rfl rfl rfl (yld_move rfl (ev_t rfl)) ?_)
    refine Ops.step (One.val rfl rfl rfl (yld_extract rfl (ev_t rfl) rfl) ?_)
    refine Ops.step (One.val rfl rfl rfl (yld_extract rfl (ev_t rfl) rfl) ?_)
    refine Ops.step (One.alloc F6 zero26 rfl rfl rfl rfl ?_)
    intro b3 w7 hb3 F7
    change Fr _ _ [blk _ _ [_, _, _, _, _], _, blk _ _ [_, _, _, _, _], blk _ _ [_, _, _, _, _], _] _ at F7
    refine Ops.step (One.storeN (vs := [_, _, _, _, _]) F7 0 rfl sz26 rfl rfl rfl (ev_t rfl) (ev_t rfl) rfl rfl (Sep.one (x := (x5 (R1.getD zeroT).kind (R1.getD zeroT).num (R1.getD zeroT).str (.slice A3e1 (R1.getD zeroT).keys.length c3e1) (.slice A4e1 (R1.getD zeroT).list.length c4e1))) (F7.get 1 rfl)) ?_)
    intro w8 F8
    change Fr _ _ [blk _ _ [_, _, _, _, _], _, blk _ _ [_, _, _, _, _], blk _ _ [_, _, _, _, _], _] _ at F8
    refine Ops.step (One.val rfl rfl rfl (yld_assign rfl (ev_t rfl)) ?_)
    refine Ops.nil fun a hS => ?_
    refine hK6 _ _ ?_ a hS
    refine Cod.seq fun K7 hK7 => ?_
    refine Cod.region ?_
    refine Ops.step (One.val rfl rfl rfl (yld_loadN ag26 rfl (ev_t rfl) (fun _ => F8.range (m := 5) (cs' := [_, _, _, _, _]) 3 rfl rfl) rfl) ?_)
    refine Ops.step (One.val rfl rfl rfl (yld_move rfl (ev_t rfl)) ?_)
    refine Ops.step (One.val rfl rfl rfl (yld_loadN ag26 rfl (ev_t rfl) (fun _ => F8.range (m := 5) (cs' := [_, _, _, _, _]) 2 rfl rfl) rfl) ?_)
    refine Ops.step (One.call rfl rfl rfl (ent_f rfl (evl3 (ev_t rfl) (ev_t rfl) (ev_t rfl)) (enters en26)) (specPartPut_ct ta tb key (by omega) _ _ _ (rps_get (F8.get 4 rfl) 0 rfl) (rps_get (F8.get 4 rfl) 1 rfl) hda.fit hdb.fit (by omega) (by omega)) (fun e w9 hw9 => ?_))
    rw [← hR1] at hw9
    obtain ⟨e2, E2, rfl, C9, hE2, hEb2⟩ := hw9
    obtain ⟨A3e2, c3e2, A4e2, c4e2, hxe2⟩ := rep_x hE2.rep
    subst hxe2
    have F9 := F8.new C9 (sep E2 (R1.getD zeroT) (x5 (R1.getD zeroT).kind (R1.getD zeroT).num (R1.getD zeroT).str (.slice A3e2 (R1.getD zeroT).keys.length c3e2) (.slice A4e2 (R1.getD zeroT).list.length c4e2)).val) hE2 hEb2
    refine ⟨_, rfl, ?_⟩
    refine Ops.step (One.val rfl rfl rfl (yld_move rfl (ev_t rfl)) ?_)
    refine Ops.step (One.val rfl rfl rfl (yld_extract rfl (ev_t rfl) rfl) ?_)
    refine Ops.step (One.val rfl rfl rfl (yld_extract rfl (ev_t rfl) rfl) ?_)
    refine Ops.step (One.alloc F9 zero26 rfl rfl rfl rfl ?_)
    intro b4 w10 hb4 F10
    change Fr _ _ [blk _ _ [_, _, _, _, _], _, blk _ _ [_, _, _, _, _], _, blk _ _ [_, _, _, _, _], blk _ _ [_, _, _, _, _], _] _ at F10
    refine Ops.step (One.storeN (vs := [_, _, _, _, _]) F10 0 rfl sz26 rfl rfl rfl (ev_t rfl) (ev_t rfl) rfl rfl (Sep.one (x := (x5 (R1.getD zeroT).kind (R1.getD zeroT).num (R1.getD zeroT).str (.slice A3e2 (R1.getD zeroT).keys.length c3e2) (.slice A4e2 (R1.getD zeroT).list.length c4e2))) (F10.get 1 rfl)) ?_)
    intro w11 F11
    change Fr _ _ [blk _ _ [_, _, _, _, _], _, blk _ _ [_, _, _, _, _], _, blk _ _ [_, _, _, _, _], blk _ _ [_, _, _, _, _], _] _ at F11
    refine Ops.step (One.val rfl rfl rfl (yld_assign rfl (ev_t rfl)) ?_)
    refine Ops.nil fun a hS => ?_
    refine hK7 _ _ ?_ a hS
    refine Cod.seq fun K8 hK8 => ?_
    refine Cod.seq fun K9 hK9 => ?_
    refine Cod.region ?_
    refine Ops.step (One.val rfl rfl rfl (yld_move rfl (ev_t rfl)) ?_)
    refine Ops.step (One.val rfl rfl rfl (yld_move rfl (ev_t rfl)) ?_)
    refine Ops.step (One.val rfl rfl rfl (yld_bneq Try.underlying4 rfl (ev_t rfl) (ev_t rfl)) ?_)
    refine Ops.step (One.val rfl rfl rfl (yld_move rfl (ev_t rfl)) ?_)
    refine Ops.step (One.val (gd_some rfl rfl) rfl rfl (yld_loadN ag26 rfl (ev_t rfl) (fun _ => F11.range (m := 5) (cs' := [_, _, _, _, _]) 2 rfl rfl) rfl) ?_)
    refine Ops.step (One.val (gd_some rfl rfl) rfl rfl (yld_loadN ag26 rfl (ev_t rfl) (fun _ => F11.range (m := 5) (cs' := [_, _, _, _, _]) 0 rfl rfl) rfl) ?_)
    refine Ops.step (One.gcall (R := Chg No w11) (gd_some rfl rfl) rfl rfl (ent_f rfl (evl2 (ev_g rfl) (ev_g rfl)) (enters en17)) (Chg.refl _ _) (fun hg => valSame_ct (R1.getD zeroT) (R1.getD zeroT) _ _ _ (F11.get 3 rfl).rep (F11.get 1 rfl).rep) ?_)
    intro w12 C12
    have F12 := F11.call C12
    refine Ops.step (One.val (gd_some rfl rfl) rfl rfl (yld_not rfl (ev_g rfl)) ?_)
    refine Ops.step (One.val rfl rfl rfl (yld_or rfl (ev_t rfl) (ev_g rfl)) ?_)
    refine Ops.nil fun a hS => ?_
    refine hK9 _ _ ?_ a hS
    refine Cod.cond rfl (fun hc59 => ?_) (fun hc59 => ?_)
    · skip
      simp at hc59
    · skip
      skip
      refine Cod.skip fun a hS => ?_
      refine hK8 _ _ ?_ a hS
      refine Cod.cut (fun i : Unit => [(0, true, .slice A code.length c)]) (fun i w' => Fr No w [] w') (fun K10 hK10 => ?_) ?_
      · skip
        refine Cod.seq fun K11 hK11 => ?_
        refine Cod.region ?_
        refine Ops.step (One.val rfl rfl rfl (yld_move rfl (ev_t rfl)) ?_)
        refine Ops.nil fun a hS => ?_
        refine hK11 _ _ ?_ a hS
        refine Cod.cond rfl (fun hc60 => ?_) (fun hc60 => ?_)
        · skip
          have hsome : R1.isSome = true := hc60
          obtain ⟨hpc, hR1e, hoP⟩ := putR_some hR1 hsome
          obtain ⟨hok, -, -, hkd⟩ := putC_facts hpc
          have hkl := put_len hok hkd
          have hl60 := okT_len60 hok
          refine Cod.seq fun K12 hK12 => ?_
          refine Cod.region ?_
          refine Ops.step (One.val rfl rfl rfl (yld_loadN ag26 rfl (ev_t rfl) (fun _ => F12.range (m := 5) (cs' := [_, _, _, _, _]) 2 rfl rfl) rfl) ?_)
          refine Ops.step (One.val rfl rfl rfl (yld_move rfl (ev_t rfl)) ?_)
          refine Ops.step (One.call rfl rfl rfl (ent_f rfl (evl2 (ev_t rfl) (ev_t rfl)) (enters en27)) (partGet_ct (R1.getD zeroT) key (by omega) _ _ (F12.get 3 rfl).rep (okT_fit hO1) (okT_w hO1)) (fun e w13 hw13 => ?_))
          obtain ⟨R2, hR2⟩ : ∃ R, R = partGetR (R1.getD zeroT) key := ⟨_, rfl⟩
          have hO2 : okT (R2.getD zeroT) = true := by rw [hR2]; exact partGetR_ok (R1.getD zeroT) key
          rw [← hR2] at hw13
          obtain ⟨e3, E3, rfl, C13, hE3, hEb3⟩ := hw13
          obtain ⟨A3e3, c3e3, A4e3, c4e3, hxe3⟩ := rep_x hE3.rep
          subst hxe3
          have F13 := F12.new C13 (sep E3 (R2.getD zeroT) (x5 (R2.getD zeroT).kind (R2.getD zeroT).num (R2.getD zeroT).str (.slice A3e3 (R2.getD zeroT).keys.length c3e3) (.slice A4e3 (R2.getD zeroT).list.length c4e3)).val) hE3 hEb3
          refine ⟨_, rfl, ?_⟩
          refine Ops.step (One.val rfl rfl rfl (yld_move rfl (ev_t rfl)) ?_)
          refine Ops.step (One.val rfl rfl rfl (yld_extract rfl (ev_t rfl) rfl) ?_)
          refine Ops.step (One.val rfl rfl rfl (yld_extract rfl (ev_t rfl) rfl) ?_)
          refine Ops.step (One.alloc F13 zero26 rfl rfl rfl rfl ?_)
          intro b5 w14 hb5 F14
          change Fr _ _ [blk _ _ [_, _, _, _, _], _, blk _ _ [_, _, _, _, _], _, blk _ _ [_, _, _, _, _], _, blk _ _ [_, _, _, _, _], blk _ _ [_, _, _, _, _], _] _ at F14
          refine Ops.step (One.storeN (vs := [_, _, _, _, _]) F14 0 rfl sz26 rfl rfl rfl (ev_t rfl) (ev_t rfl) rfl rfl (Sep.one (x := (x5 (R2.getD zeroT).kind (R2.getD zeroT).num (R2.getD zeroT).str (.slice A3e3 (R2.getD zeroT).keys.length c3e3) (.slice A4e3 (R2.getD zeroT).list.length c4e3))) (F14.get 1 rfl)) ?_)
          intro w15 F15
          change Fr _ _ [blk _ _ [_, _, _, _, _], _, blk _ _ [_, _, _, _, _], _, blk _ _ [_, _, _, _, _], _, blk _ _ [_, _, _, _, _], blk _ _ [_, _, _, _, _], _] _ at F15
          refine Ops.step (One.val rfl rfl rfl (yld_assign rfl (ev_t rfl)) ?_)
          refine Ops.nil fun a hS => ?_
          refine hK12 _ _ ?_ a hS
          refine Cod.seq fun K13 hK13 => ?_
          refine Cod.seq fun K14 hK14 => ?_
          refine Cod.region ?_
          refine Ops.step (One.val rfl rfl rfl (yld_move rfl (ev_t rfl)) ?_)
          refine Ops.step (One.val rfl rfl rfl (yld_not rfl (ev_t rfl)) ?_)
          refine Ops.step (One.val rfl rfl rfl (yld_move rfl (ev_t rfl)) ?_)
          refine Ops.step (One.val (gd_some rfl rfl) rfl rfl (yld_loadN ag26 rfl (ev_t rfl) (fun _ => F15.range (m := 5) (cs' := [_, _, _, _, _]) 0 rfl rfl) rfl) ?_)
          refine Ops.step (One.val (gd_some rfl rfl) rfl rfl (yld_loadN ag26 rfl (ev_t rfl) (fun _ => F15.range (m := 5) (cs' := [_, _, _, _, _]) 6 rfl rfl) rfl) ?_)
          refine Ops.step (One.gcall (R := Chg No w15) (gd_some rfl rfl) rfl rfl (ent_f rfl (evl2 (ev_g rfl) (ev_g rfl)) (enters en17)) (Chg.refl _ _) (fun hg => valSame_ct (R2.getD zeroT) tb _ _ _ (F15.get 1 rfl).rep (rps_get (F15.get 8 rfl) 1 rfl)) ?_)
          intro w16 C16
          have F16 := F15.call C16
          refine Ops.step (One.val (gd_some rfl rfl) rfl rfl (yld_not rfl (ev_g rfl)) ?_)
          refine Ops.step (One.val rfl rfl rfl (yld_or rfl (ev_t rfl) (ev_g rfl)) ?_)
          refine Ops.nil fun a hS => ?_
          refine hK14 _ _ ?_ a hS
          refine Cod.cond rfl (fun hc74 => ?_) (fun hc74 => ?_)
          · skip
            exact (no74 hR1 hsome hR2 hc74).elim
          · skip
            obtain ⟨xsA, hxlA, F16⟩ := F16.toRpsE 8 rfl
            refine Cod.skip fun a hS => ?_
            refine hK13 _ _ ?_ a hS
            refine Cod.seq fun K15 hK15 => ?_
            refine Cod.region ?_
            refine Ops.step (One.val rfl rfl rfl (yld_assign rfl ev_c) ?_)
            refine Ops.nil fun a hS => ?_
            refine hK15 _ _ ?_ a hS
            refine Cod.block ?_
            have F17 := F16.pull 8 rfl
            have F18 := F17.pull 8 rfl
            have F19 := F18.pull 7 rfl
            have F20 := F19.pull 7 rfl
            have F21 := F20.erase 4
            have F22 := F21.erase 4
            have F23 := F22.erase 4
            have F24 := F23.erase 4
            have F25 := F24.erase 4
            refine Cod.loop (fun i : Nat => [(0, true, .slice A code.length c), (3, true, .pointer (some ⟨b1, 0, none⟩)), (4, true, .string key), (6, true, .pointer (some ⟨b3, 0, none⟩)), (12, true, .int .i64 (i : Int))]) (fun i w' => i ≤ ta.keys.length ∧ Fr No w [blk b3 26 (enc5 (x5 (R1.getD zeroT).kind (R1.getD zeroT).num (R1.getD zeroT).str (.slice A3e1 (R1.getD zeroT).keys.length c3e1) (.slice A4e1 (R1.getD zeroT).list.length c4e1))), sep E1 (R1.getD zeroT) (x5 (R1.getD zeroT).kind (R1.getD zeroT).num (R1.getD zeroT).str (.slice A3e1 (R1.getD zeroT).keys.length c3e1) (.slice A4e1 (R1.getD zeroT).list.length c4e1)).val, blk b1 26 (enc5 (x5 ta.kind ta.num ta.str (.slice A3a ta.keys.length c3a) (.slice A4a ta.list.length c4a))), rpsE Grsa [(ta, (x5 ta.kind ta.num ta.str (.slice A3a ta.keys.length c3a) (.slice A4a ta.list.length c4a)).val), (tb, (x5 tb.kind tb.num tb.str (.slice A3b tb.keys.length c3b) (.slice A4b tb.list.length c4b)).val)] xsA] w') (fun i => ta.keys.length - i) 0 ⟨rfl, rfl, rfl, rfl, rfl, trivial⟩ ⟨Nat.zero_le _, F25⟩ ?_
            intro i w17 hW K16 hK16
            obtain ⟨ix, hix⟩ : ∃ ix, ix = i := ⟨i, rfl⟩
            subst hix
            obtain ⟨hi0, F26⟩ := hW
            refine Cod.seq fun K17 hK17 => ?_
            refine Cod.seq fun K18 hK18 => ?_
            refine Cod.region ?_
            refine Ops.step (One.val rfl rfl rfl (yld_move rfl (ev_t rfl)) ?_)
            refine Ops.step (One.val rfl rfl rfl (yld_field fi26_3 rfl (ev_t rfl)) ?_)
            refine Ops.step (One.val rfl rfl rfl (yld_load1 on23 rfl (ev_t rfl) (fun _ => F26.cell 2 rfl rfl)) ?_)
            refine Ops.step (One.val rfl rfl rfl (yld_len sl23 rfl (ev_t rfl)) ?_)
            refine Ops.step (One.val rfl rfl rfl (yld_lss rfl (ev_t rfl) (ev_t rfl)) ?_)
            refine Ops.nil fun a hS => ?_
            refine hK18 _ _ ?_ a hS
            refine Cod.cond rfl (fun hc79 => ?_) (fun hc79 => ?_)
            · skip
              have hi : ix < ta.keys.length := by simpa using hc79
              have hil : ix < ta.list.length := by omega
              have hxi : ix < xsA.length := by omega
              have hks := okS_size ((okT_six hok).2.2 ix hi).1
              obtain ⟨kb, ko, hka, -, -⟩ := (rep_s (rpsE_get (F26.get 3 rfl) 0 rfl)).at ix hi
              obtain ⟨yb, yo, hya, -⟩ := rpsE_at (F26.get 3 rfl) ix hxi
              obtain ⟨R3, hR3⟩ : ∃ R, R = partGetR (R1.getD zeroT) (nth ta.keys ix) := ⟨_, rfl⟩
              have hO3 : okT (R3.getD zeroT) = true := by rw [hR3]; exact partGetR_ok _ _
              have e3 : nth ta.keys ix ≠ key → R3 = some (ta.list[ix]) := fun hne => by rw [hR3, hR1e]; exact get_other hok hkd hoP hi hil hne
              refine Cod.skip fun a hS => ?_
              refine hK17 _ _ ?_ a hS
              refine Cod.seq fun K19 hK19 => ?_
              refine Cod.block ?_
              refine Cod.cut (fun i : Nat × V5 × (Nat → Prop) => [(0, true, .slice A code.length c), (3, true, .pointer (some ⟨b1, 0, none⟩)), (4, true, .string key), (6, true, .pointer (some ⟨b3, 0, none⟩)), (12, true, .int .i64 (ix : Int)), (13, true, .pointer (some ⟨i.1, 0, none⟩)), (14, true, .bool R3.isSome)]) (fun i w' => Fr No w [blk i.1 26 (enc5 i.2.1), sep i.2.2 (R3.getD zeroT) i.2.1.val, blk b3 26 (enc5 (x5 (R1.getD zeroT).kind (R1.getD zeroT).num (R1.getD zeroT).str (.slice A3e1 (R1.getD zeroT).keys.length c3e1) (.slice A4e1 (R1.getD zeroT).list.length c4e1))), sep E1 (R1.getD zeroT) (x5 (R1.getD zeroT).kind (R1.getD zeroT).num (R1.getD zeroT).str (.slice A3e1 (R1.getD zeroT).keys.length c3e1) (.slice A4e1 (R1.getD zeroT).list.length c4e1)).val, blk b1 26 (enc5 (x5 ta.kind ta.num ta.str (.slice A3a ta.keys.length c3a) (.slice A4a ta.list.length c4a))), rpsE Grsa [(ta, (x5 ta.kind ta.num ta.str (.slice A3a ta.keys.length c3a) (.slice A4a ta.list.length c4a)).val), (tb, (x5 tb.kind tb.num tb.str (.slice A3b tb.keys.length c3b) (.slice A4b tb.list.length c4b)).val)] xsA] w') (fun K20 hK20 => ?_) ?_
              · skip
                have F27 := F26.drew
                refine Cod.draw (C_of F27) (by kernel_rfl) ?_
                refine Hops.take 0 rfl (by kernel_rfl) (fun _ _ _ h => h) rfl rfl rfl F27 (fun w F => (yld_loadN ag26 rfl (ev_t rfl) (fun _ => F.range (m := 5) (cs' := [_, _, _, _, _]) 0 rfl rfl) rfl)) ?_
                refine Hops.take 1 rfl (by kernel_rfl) (fun _ _ _ h => h) rfl rfl rfl F27 (fun w F => (yld_field fi26_3 rfl (ev_t rfl))) ?_
                refine Hops.take 2 rfl (by kernel_rfl) (fun _ _ _ h => h) rfl rfl rfl F27 (fun w F => (yld_load1 on23 rfl (ev_t rfl) (fun _ => F.cell 2 rfl rfl))) ?_
                refine Hops.take 3 rfl (by kernel_rfl) (fun _ _ _ h => h) rfl rfl rfl F27 (fun w F => (yld_move rfl (ev_t rfl))) ?_
                refine Hops.take 4 rfl (by kernel_rfl) (fun _ _ _ h => h) rfl rfl rfl F27 (fun w F => (yld_indexG (b := kb) (q := ko) (i := ix) sl23 rfl (ev_t rfl) (ev_t rfl) (fun _ => hka) (fun _ => hi))) ?_
                refine Hops.take 5 rfl (by kernel_rfl) (fun _ _ _ h => h) rfl rfl rfl F27 (fun w F => (yld_load1 on9 rfl (ev_t rfl) (fun _ => rangeAt_cell (rs_rng (rep_s (rpsE_get (F.get 3 rfl) 0 rfl)) hka ix hi) (j := 0) rfl))) ?_
                refine Hops.two 6 10 rfl rfl (by kernel_rfl) ?_ ?_
                · skip
                  refine (One.call rfl rfl rfl (ent_f rfl (evl2 (ev_t rfl) (ev_t rfl)) (enters en27)) (partGet_ct (R1.getD zeroT) (nth ta.keys ix) (by omega) _ _ (F27.get 1 rfl).rep (okT_fit hO1) (okT_w hO1)) (fun e w18 hw18 => ?_))
                  rw [← hR3] at hw18
                  obtain ⟨e4, E4, rfl, C18, hE4, hEb4⟩ := hw18
                  obtain ⟨A3e4, c3e4, A4e4, c4e4, hxe4⟩ := rep_x hE4.rep
                  subst hxe4
                  have F28 := F27.new C18 (sep E4 (R3.getD zeroT) (x5 (R3.getD zeroT).kind (R3.getD zeroT).num (R3.getD zeroT).str (.slice A3e4 (R3.getD zeroT).keys.length c3e4) (.slice A4e4 (R3.getD zeroT).list.length c4e4)).val) hE4 hEb4
                  refine ⟨_, rfl, ?_⟩
                  refine ⟨F28.drop1, ?_⟩
                  refine Hops.take 7 rfl (by kernel_rfl) (fun _ _ _ h => h) rfl rfl rfl F28.drop1 (fun w F => (yld_move rfl (ev_t rfl))) ?_
                  refine Hops.take 8 rfl (by kernel_rfl) (fun _ _ _ h => h) rfl rfl rfl F28.drop1 (fun w F => (yld_extract rfl (ev_t rfl) rfl)) ?_
                  refine Hops.take 9 rfl (by kernel_rfl) (fun _ _ _ h => h) rfl rfl rfl F28.drop1 (fun w F => (yld_extract rfl (ev_t rfl) rfl)) ?_
                  refine Hops.one 10 rfl (by kernel_rfl) (One.alloc F28 zero26 rfl rfl rfl rfl ?_)
                  intro b6 w19 hb6 F29
                  refine ⟨(F29.erase 1).drop1, ?_⟩
                  change Fr _ _ [blk _ _ [_, _, _, _, _], _, blk _ _ [_, _, _, _, _], _, blk _ _ [_, _, _, _, _], _] _ at F29
                  refine Hops.one 11 rfl (by kernel_rfl) (One.storeN (vs := [_, _, _, _, _]) F29 0 rfl sz26 rfl rfl rfl (ev_t rfl) (ev_t rfl) rfl rfl (Sep.one (x := (x5 (R3.getD zeroT).kind (R3.getD zeroT).num (R3.getD zeroT).str (.slice A3e4 (R3.getD zeroT).keys.length c3e4) (.slice A4e4 (R3.getD zeroT).list.length c4e4))) (F29.get 1 rfl)) ?_)
                  intro w20 F30
                  refine ⟨(F30.erase 1).drop1, ?_⟩
                  change Fr _ _ [blk _ _ [_, _, _, _, _], _, blk _ _ [_, _, _, _, _], _, blk _ _ [_, _, _, _, _], _] _ at F30
                  refine Hops.one 12 rfl (by kernel_rfl) (One.val rfl rfl rfl (yld_assign rfl (ev_t rfl)) ?_)
                  refine ⟨(F30.erase 1).drop1, ?_⟩
                  refine Hops.nil (by kernel_rfl) fun a hS => ?_
                  have F31 := F30.pull 5 rfl
                  have F32 := F31.pull 5 rfl
                  have F33 := F32.pull 5 rfl
                  have F34 := F33.pull 5 rfl
                  have F35 := F34.pull 5 rfl
                  have F36 := F35.pull 5 rfl
                  exact hK20 (b6, (x5 (R3.getD zeroT).kind (R3.getD zeroT).num (R3.getD zeroT).str (.slice A3e4 (R3.getD zeroT).keys.length c3e4) (.slice A4e4 (R3.getD zeroT).list.length c4e4)), E4) _ a (hS.sub ⟨rfl, rfl, rfl, rfl, rfl, rfl, rfl, trivial⟩) F36
                · skip
                  refine (One.alloc F27 zero26 rfl rfl rfl rfl ?_)
                  intro b7 w21 hb7 F37
                  refine ⟨F37.drop1, ?_⟩
                  change Fr _ _ [blk _ _ [_, _, _, _, _], blk _ _ [_, _, _, _, _], _, blk _ _ [_, _, _, _, _], _] _ at F37
                  refine Hops.one 6 rfl (by kernel_rfl) (One.call rfl rfl rfl (ent_f rfl (evl2 (ev_t rfl) (ev_t rfl)) (enters en27)) (partGet_ct (R1.getD zeroT) (nth ta.keys ix) (by omega) _ _ (F37.get 2 rfl).rep (okT_fit hO1) (okT_w hO1)) (fun e w22 hw22 => ?_))
                  rw [← hR3] at hw22
                  obtain ⟨e5, E5, rfl, C22, hE5, hEb5⟩ := hw22
                  obtain ⟨A3e5, c3e5, A4e5, c4e5, hxe5⟩ := rep_x hE5.rep
                  subst hxe5
                  have F38 := F37.new C22 (sep E5 (R3.getD zeroT) (x5 (R3.getD zeroT).kind (R3.getD zeroT).num (R3.getD zeroT).str (.slice A3e5 (R3.getD zeroT).keys.length c3e5) (.slice A4e5 (R3.getD zeroT).list.length c4e5)).val) hE5 hEb5
                  refine ⟨_, rfl, ?_⟩
                  refine ⟨(F38.erase 1).drop1, ?_⟩
                  refine Hops.take 7 rfl (by kernel_rfl) (fun _ _ _ h => h) rfl rfl rfl (F38.erase 1).drop1 (fun w F => (yld_move rfl (ev_t rfl))) ?_
                  refine Hops.take 8 rfl (by kernel_rfl) (fun _ _ _ h => h) rfl rfl rfl (F38.erase 1).drop1 (fun w F => (yld_extract rfl (ev_t rfl) rfl)) ?_
                  refine Hops.take 9 rfl (by kernel_rfl) (fun _ _ _ h => h) rfl rfl rfl (F38.erase 1).drop1 (fun w F => (yld_extract rfl (ev_t rfl) rfl)) ?_
                  refine Hops.one 11 rfl (by kernel_rfl) (One.storeN (vs := [_, _, _, _, _]) F38 1 rfl sz26 rfl rfl rfl (ev_t rfl) (ev_t rfl) rfl rfl (Sep.one (x := (x5 (R3.getD zeroT).kind (R3.getD zeroT).num (R3.getD zeroT).str (.slice A3e5 (R3.getD zeroT).keys.length c3e5) (.slice A4e5 (R3.getD zeroT).list.length c4e5))) (F38.get 0 rfl)) ?_)
                  intro w23 F39
                  refine ⟨(F39.erase 1).drop1, ?_⟩
                  change Fr _ _ [_, blk _ _ [_, _, _, _, _], blk _ _ [_, _, _, _, _], _, blk _ _ [_, _, _, _, _], _] _ at F39
                  refine Hops.one 12 rfl (by kernel_rfl) (One.val rfl rfl rfl (yld_assign rfl (ev_t rfl)) ?_)
                  refine ⟨(F39.erase 1).drop1, ?_⟩
                  refine Hops.nil (by kernel_rfl) fun a hS => ?_
                  have F40 := F39.pull 5 rfl
                  have F41 := F40.pull 5 rfl
                  have F42 := F41.pull 5 rfl
                  have F43 := F42.pull 5 rfl
                  have F44 := F43.pull 4 rfl
                  have F45 := F44.pull 5 rfl
                  exact hK20 (b7, (x5 (R3.getD zeroT).kind (R3.getD zeroT).num (R3.getD zeroT).str (.slice A3e5 (R3.getD zeroT).keys.length c3e5) (.slice A4e5 (R3.getD zeroT).list.length c4e5)), E5) _ a (hS.sub ⟨rfl, rfl, rfl, rfl, rfl, rfl, rfl, trivial⟩) F45
              · skip
                intro i w24 hW
                obtain ⟨bn, xn, Gn⟩ := i
                have F46 := hW
                dsimp only at *
                refine Cod.seq fun K21 hK21 => ?_
                have F47 := F46.drew
                refine Cod.draw (C_of F47) (by kernel_rfl) ?_
                refine Hops.take 0 rfl (by kernel_rfl) (fun _ _ _ h => h) rfl rfl rfl F47 (fun w F => (yld_field fi26_3 rfl (ev_t rfl))) ?_
                refine Hops.take 1 rfl (by kernel_rfl) (fun _ _ _ h => h) rfl rfl rfl F47 (fun w F => (yld_load1 on23 rfl (ev_t rfl) (fun _ => F.cell 4 rfl rfl))) ?_
                refine Hops.take 2 rfl (by kernel_rfl) (fun _ _ _ h => h) rfl rfl rfl F47 (fun w F => (yld_move rfl (ev_t rfl))) ?_
                refine Hops.take 3 rfl (by kernel_rfl) (fun _ _ _ h => h) rfl rfl rfl F47 (fun w F => (yld_indexG (b := kb) (q := ko) (i := ix) sl23 rfl (ev_t rfl) (ev_t rfl) (fun _ => hka) (fun _ => hi))) ?_
                refine Hops.take 4 rfl (by kernel_rfl) (fun _ _ _ h => h) rfl rfl rfl F47 (fun w F => (yld_load1 on9 rfl (ev_t rfl) (fun _ => rangeAt_cell (rs_rng (rep_s (rpsE_get (F.get 5 rfl) 0 rfl)) hka ix hi) (j := 0) rfl))) ?_
                refine Hops.take 5 rfl (by kernel_rfl) (fun _ _ _ h => h) rfl rfl rfl F47 (fun w F => (yld_move rfl (ev_t rfl))) ?_
                refine Hops.take 6 rfl (by kernel_rfl) (fun _ _ _ h => h) rfl rfl rfl F47 (fun w F => (yld_sneq rfl (ev_t rfl) (ev_t rfl))) ?_
                refine Hops.take 7 rfl (by kernel_rfl) (fun _ _ _ h => h) rfl rfl rfl F47 (fun w F => (yld_move rfl (ev_t rfl))) ?_
                refine Hops.take 8 rfl (by kernel_rfl) (fun _ _ _ h => h) (gd_some rfl rfl) rfl rfl F47 (fun w F => (yld_move rfl (ev_t rfl))) ?_
                refine Hops.take 9 rfl (by kernel_rfl) (fun _ _ _ h => h) (gd_some rfl rfl) rfl rfl F47 (fun w F => (yld_not rfl (ev_g rfl))) ?_
                refine Hops.take 10 rfl (by kernel_rfl) (fun _ _ _ h => h) (gd_some rfl rfl) rfl rfl F47 (fun w F => (yld_move rfl (ev_g rfl))) ?_
                refine Hops.take 11 rfl (by kernel_rfl) (fun _ _ _ h => h) (gd_some rfl rfl) rfl rfl F47 (fun w F => (yld_loadN ag26 rfl (ev_t rfl) (fun _ => F.range (m := 5) (cs' := [_, _, _, _, _]) 0 rfl rfl) rfl)) ?_
                refine Hops.take 12 rfl (by kernel_rfl) (fun _ _ _ h => h) (gd_some rfl rfl) rfl rfl F47 (fun w F => (yld_field fi26_4 rfl (ev_t rfl))) ?_
                refine Hops.take 13 rfl (by kernel_rfl) (fun _ _ _ h => h) (gd_some rfl rfl) rfl rfl F47 (fun w F => (yld_load1 on24 rfl (ev_g rfl) (fun _ => F.cell 4 rfl rfl))) ?_
                refine Hops.take 14 rfl (by kernel_rfl) (fun _ _ _ h => h) (gd_some rfl rfl) rfl rfl F47 (fun w F => (yld_move rfl (ev_t rfl))) ?_
                refine Hops.take 15 rfl (by kernel_rfl) (fun _ _ _ h => h) (gd_some rfl rfl) rfl rfl F47 (fun w F => (yld_indexG (b := yb) (q := yo) (i := ix) sl24 rfl (ev_g rfl) (ev_g rfl) (fun _ => hya) (fun _ => hil))) ?_
                refine Hops.take 16 rfl (by kernel_rfl) (fun _ _ _ h => h) (gd_some rfl rfl) rfl rfl F47 (fun w F => (yld_loadN (cs := [(xsA[ix]'hxi).a, (xsA[ix]'hxi).b, (xsA[ix]'hxi).c, (xsA[ix]'hxi).d, (xsA[ix]'hxi).e]) ag26 rfl (ev_g rfl) (fun _ => rpsE_rng (F.get 5 rfl) hya ix hxi) rfl)) ?_
                have hvs := valSame_ct (R3.getD zeroT) (ta.list[ix]'hil) _ _ w24.drew (F47.get 1 rfl).rep (rpsE_rep (F47.get 5 rfl) ix hil hxi)
                refine Hops.one 17 rfl (by kernel_rfl) (One.gcall (R := Chg No w24.drew) (gd_some rfl rfl) rfl rfl (ent_f rfl (evl2 (ev_g rfl) (ev_g rfl)) (enters en17)) (Chg.refl _ _) (fun hg => hvs) ?_)
                intro w25 C25
                have F48 := F47.call C25
                refine ⟨F48, ?_⟩
                refine Hops.take 18 rfl (by kernel_rfl) (fun _ _ _ h => h) (gd_some rfl rfl) rfl rfl F48 (fun w F => (yld_not rfl (ev_g rfl))) ?_
                refine Hops.take 19 rfl (by kernel_rfl) (fun _ _ _ h => h) (gd_some rfl rfl) rfl rfl F48 (fun w F => (yld_or rfl (ev_g rfl) (ev_g rfl))) ?_
                refine Hops.take 20 rfl (by kernel_rfl) (fun _ _ _ h => h) rfl rfl rfl F48 (fun w F => (yld_and rfl (ev_t rfl) (ev_g rfl))) ?_
                refine Hops.nil (by kernel_rfl) fun a hS => ?_
                refine hK21 _ _ ?_ a hS
                refine Cod.cond rfl (fun hc112 => ?_) (fun hc112 => ?_)
                · skip
                  exact (no112 e3 hc112).elim
                · skip
                  skip
                  refine Cod.skip fun a hS => ?_
                  refine hK19 _ _ ?_ a hS
                  refine Cod.region ?_
                  refine Ops.step (One.val rfl rfl rfl (yld_move rfl (ev_t rfl)) ?_)
                  refine Ops.step (One.val rfl rfl rfl (yld_inc rfl (ev_t rfl) (fun _ => by omega)) ?_)
                  refine Ops.step (One.val rfl rfl rfl (yld_assign rfl (ev_t rfl)) ?_)
                  refine Ops.nil fun a hS => ?_
                  have F49 := F48.pull 5 rfl
                  have F50 := F49.pull 5 rfl
                  have F51 := F50.pull 5 rfl
                  have F52 := F51.pull 5 rfl
                  have F53 := F52.erase 4
                  have F54 := F53.erase 4
                  exact hK16 (ix + 1) _ a (hS.sub ⟨rfl, rfl, rfl, rfl, rfl, trivial⟩) ⟨by omega, F54⟩ (by omega)
            · skip
              skip
              refine Cod.exit fun a hS => ?_
              simp only [Exit.then, Exit.inBlock, ↓reduceIte]
              exact hK10 () _ a (hS.sub ⟨rfl, trivial⟩) F26.none
        · skip
          skip
          refine Cod.skip fun a hS => ?_
          exact hK10 () _ a (hS.sub ⟨rfl, trivial⟩) F12.none
      · skip
        intro i w26 hW
        have F55 := hW
        refine Cod.seq fun K22 hK22 => ?_
        refine Cod.region ?_
        refine Ops.step (One.val rfl rfl rfl (yld_move rfl (ev_t rfl)) ?_)
        refine Ops.step (One.call rfl rfl rfl (ent_f rfl (evl1 (ev_t rfl)) (enters en39)) (drawSet_ct code _ _ (hp.chg F55.chg)) (fun e w27 hw27 => ?_))
        obtain ⟨xp, xq, tp, tq, an, rfl, C27, hrsp, hdp, hdq, han⟩ := hw27
        have hwp := hdp.wt
        have hwq := hdq.wt
        obtain ⟨Grsp, hGp⟩ : ∃ G, G = New w26 w27 := ⟨_, rfl⟩
        rw [← hGp] at hrsp
        obtain ⟨A3p, c3p, A4p, c4p, hxp⟩ := rep_x (rps_get hrsp 0 rfl)
        obtain ⟨A3q, c3q, A4q, c4q, hxq⟩ := rep_x (rps_get hrsp 1 rfl)
        subst hxp
        subst hxq
        have F56 := F55.new C27 (rps Grsp [(tp, (x5 tp.kind tp.num tp.str (.slice A3p tp.keys.length c3p) (.slice A4p tp.list.length c4p)).val), (tq, (x5 tq.kind tq.num tq.str (.slice A3q tq.keys.length c3q) (.slice A4q tq.list.length c4q)).val)]) hrsp (by rw [hGp]; exact New.new)
        refine ⟨_, rfl, ?_⟩
        refine Ops.step (One.val rfl rfl rfl (yld_move rfl (ev_t rfl)) ?_)
        refine Ops.step (One.val rfl rfl rfl (yld_extract rfl (ev_t rfl) rfl) ?_)
        refine Ops.step (One.val rfl rfl rfl (yld_extract rfl (ev_t rfl) rfl) ?_)
        refine Ops.step (One.val rfl rfl rfl (yld_extract rfl (ev_t rfl) rfl) ?_)
        refine Ops.step (One.alloc F56 zero26 rfl rfl rfl rfl ?_)
        intro b8 w28 hb8 F57
        change Fr _ _ [blk _ _ [_, _, _, _, _], _] _ at F57
        refine Ops.step (One.alloc F57 zero26 rfl rfl rfl rfl ?_)
        intro b9 w29 hb9 F58
        change Fr _ _ [blk _ _ [_, _, _, _, _], blk _ _ [_, _, _, _, _], _] _ at F58
        refine Ops.step (One.storeN (vs := [_, _, _, _, _]) F58 1 rfl sz26 rfl rfl rfl (ev_t rfl) (ev_t rfl) rfl rfl (rps_oneC (F58.get 2 rfl) 0 rfl) ?_)
        intro w30 F59
        change Fr _ _ [blk _ _ [_, _, _, _, _], blk _ _ [_, _, _, _, _], _] _ at F59
        refine Ops.step (One.val rfl rfl rfl (yld_assign rfl (ev_t rfl)) ?_)
        refine Ops.step (One.storeN (vs := [_, _, _, _, _]) F59 0 rfl sz26 rfl rfl rfl (ev_t rfl) (ev_t rfl) rfl rfl (rps_oneC (F59.get 2 rfl) 1 rfl) ?_)
        intro w31 F60
        change Fr _ _ [blk _ _ [_, _, _, _, _], blk _ _ [_, _, _, _, _], _] _ at F60
        refine Ops.nil fun a hS => ?_
        refine hK22 _ _ ?_ a hS
        refine Cod.seq fun K23 hK23 => ?_
        refine Cod.region ?_
        refine Ops.step (One.val rfl rfl rfl (yld_loadN ag26 rfl (ev_t rfl) (fun _ => F60.range (m := 5) (cs' := [_, _, _, _, _]) 1 rfl rfl) rfl) ?_)
        refine Ops.step (One.val rfl rfl rfl (yld_move rfl (ev_t rfl)) ?_)
        refine Ops.step (One.val rfl rfl rfl (yld_loadN ag26 rfl (ev_t rfl) (fun _ => F60.range (m := 5) (cs' := [_, _, _, _, _]) 0 rfl rfl) rfl) ?_)
        refine Ops.step (One.call rfl rfl rfl (ent_f rfl (evl3 (ev_t rfl) (ev_t rfl) (ev_t rfl)) (enters en40)) (set_ct tp tq an han _ _ _ (rps_get (F60.get 2 rfl) 0 rfl) (rps_get (F60.get 2 rfl) 1 rfl) hdp.fit hdq.fit (by omega) (by omega)) (fun e w32 hw32 => ?_))
        obtain ⟨R3, hR3⟩ : ∃ R, R = setR tp tq an := ⟨_, rfl⟩
        have hO3 : okT (R3.getD zeroT) = true := by rw [hR3]; exact setR_ok tp tq an
        rw [← hR3] at hw32
        obtain ⟨e6, E6, rfl, C32, hE6, hEb6⟩ := hw32
        obtain ⟨A3e6, c3e6, A4e6, c4e6, hxe6⟩ := rep_x hE6.rep
        subst hxe6
        have F61 := F60.new C32 (sep E6 (R3.getD zeroT) (x5 (R3.getD zeroT).kind (R3.getD zeroT).num (R3.getD zeroT).str (.slice A3e6 (R3.getD zeroT).keys.length c3e6) (.slice A4e6 (R3.getD zeroT).list.length c4e6)).val) hE6 hEb6
        refine ⟨_, rfl, ?_⟩
        refine Ops.step (One.val rfl rfl rfl (yld_move rfl (ev_t rfl)) ?_)
        refine Ops.step (One.val rfl rfl rfl (yld_extract rfl (ev_t rfl) rfl) ?_)
        refine Ops.step (One.val rfl rfl rfl (yld_extract rfl (ev_t rfl) rfl) ?_)
        refine Ops.step (One.alloc F61 zero26 rfl rfl rfl rfl ?_)
        intro b10 w33 hb10 F62
        change Fr _ _ [blk _ _ [_, _, _, _, _], _, blk _ _ [_, _, _, _, _], blk _ _ [_, _, _, _, _], _] _ at F62
        refine Ops.step (One.storeN (vs := [_, _, _, _, _]) F62 0 rfl sz26 rfl rfl rfl (ev_t rfl) (ev_t rfl) rfl rfl (Sep.one (x := (x5 (R3.getD zeroT).kind (R3.getD zeroT).num (R3.getD zeroT).str (.slice A3e6 (R3.getD zeroT).keys.length c3e6) (.slice A4e6 (R3.getD zeroT).list.length c4e6))) (F62.get 1 rfl)) ?_)
        intro w34 F63
        change Fr _ _ [blk _ _ [_, _, _, _, _], _, blk _ _ [_, _, _, _, _], blk _ _ [_, _, _, _, _], _] _ at F63
        refine Ops.step (One.val rfl rfl rfl (yld_assign rfl (ev_t rfl)) ?_)
        refine Ops.nil fun a hS => ?_
        refine hK23 _ _ ?_ a hS
        refine Cod.seq fun K24 hK24 => ?_
        refine Cod.region ?_
        refine Ops.step (One.val rfl rfl rfl (yld_loadN ag26 rfl (ev_t rfl) (fun _ => F63.range (m := 5) (cs' := [_, _, _, _, _]) 3 rfl rfl) rfl) ?_)
        refine Ops.step (One.val rfl rfl rfl (yld_move rfl (ev_t rfl)) ?_)
        refine Ops.step (One.val rfl rfl rfl (yld_loadN ag26 rfl (ev_t rfl) (fun _ => F63.range (m := 5) (cs' := [_, _, _, _, _]) 2 rfl rfl) rfl) ?_)
        refine Ops.step (One.call rfl rfl rfl (ent_f rfl (evl3 (ev_t rfl) (ev_t rfl) (ev_t rfl)) (enters en41)) (specSet_ct tp tq an han _ _ _ (rps_get (F63.get 4 rfl) 0 rfl) (rps_get (F63.get 4 rfl) 1 rfl) hdp.fit hdq.fit (by omega) (by omega)) (fun e w35 hw35 => ?_))
        rw [← hR3] at hw35
        obtain ⟨e7, E7, rfl, C35, hE7, hEb7⟩ := hw35
        obtain ⟨A3e7, c3e7, A4e7, c4e7, hxe7⟩ := rep_x hE7.rep
        subst hxe7
        have F64 := F63.new C35 (sep E7 (R3.getD zeroT) (x5 (R3.getD zeroT).kind (R3.getD zeroT).num (R3.getD zeroT).str (.slice A3e7 (R3.getD zeroT).keys.length c3e7) (.slice A4e7 (R3.getD zeroT).list.length c4e7)).val) hE7 hEb7
        refine ⟨_, rfl, ?_⟩
        refine Ops.step (One.val rfl rfl rfl (yld_move rfl (ev_t rfl)) ?_)
        refine Ops.step (One.val rfl rfl rfl (yld_extract rfl (ev_t rfl) rfl) ?_)
        refine Ops.step (One.val rfl rfl rfl (yld_extract rfl (ev_t rfl) rfl) ?_)
        refine Ops.step (One.alloc F64 zero26 rfl rfl rfl rfl ?_)
        intro b11 w36 hb11 F65
        change Fr _ _ [blk _ _ [_, _, _, _, _], _, blk _ _ [_, _, _, _, _], _, blk _ _ [_, _, _, _, _], blk _ _ [_, _, _, _, _], _] _ at F65
        refine Ops.step (One.storeN (vs := [_, _, _, _, _]) F65 0 rfl sz26 rfl rfl rfl (ev_t rfl) (ev_t rfl) rfl rfl (Sep.one (x := (x5 (R3.getD zeroT).kind (R3.getD zeroT).num (R3.getD zeroT).str (.slice A3e7 (R3.getD zeroT).keys.length c3e7) (.slice A4e7 (R3.getD zeroT).list.length c4e7))) (F65.get 1 rfl)) ?_)
        intro w37 F66
        change Fr _ _ [blk _ _ [_, _, _, _, _], _, blk _ _ [_, _, _, _, _], _, blk _ _ [_, _, _, _, _], blk _ _ [_, _, _, _, _], _] _ at F66
        refine Ops.step (One.val rfl rfl rfl (yld_assign rfl (ev_t rfl)) ?_)
        refine Ops.nil fun a hS => ?_
        refine hK24 _ _ ?_ a hS
        refine Cod.seq fun K25 hK25 => ?_
        refine Cod.seq fun K26 hK26 => ?_
        refine Cod.region ?_
        refine Ops.step (One.val rfl rfl rfl (yld_move rfl (ev_t rfl)) ?_)
        refine Ops.step (One.val rfl rfl rfl (yld_move rfl (ev_t rfl)) ?_)
        refine Ops.step (One.val rfl rfl rfl (yld_bneq Try.underlying4 rfl (ev_t rfl) (ev_t rfl)) ?_)
        refine Ops.step (One.val rfl rfl rfl (yld_move rfl (ev_t rfl)) ?_)
        refine Ops.step (One.val (gd_some rfl rfl) rfl rfl (yld_loadN ag26 rfl (ev_t rfl) (fun _ => F66.range (m := 5) (cs' := [_, _, _, _, _]) 2 rfl rfl) rfl) ?_)
        refine Ops.step (One.val (gd_some rfl rfl) rfl rfl (yld_loadN ag26 rfl (ev_t rfl) (fun _ => F66.range (m := 5) (cs' := [_, _, _, _, _]) 0 rfl rfl) rfl) ?_)
        refine Ops.step (One.gcall (R := Chg No w37) (gd_some rfl rfl) rfl rfl (ent_f rfl (evl2 (ev_g rfl) (ev_g rfl)) (enters en17)) (Chg.refl _ _) (fun hg => valSame_ct (R3.getD zeroT) (R3.getD zeroT) _ _ _ (F66.get 3 rfl).rep (F66.get 1 rfl).rep) ?_)
        intro w38 C38
        have F67 := F66.call C38
        refine Ops.step (One.val (gd_some rfl rfl) rfl rfl (yld_not rfl (ev_g rfl)) ?_)
        refine Ops.step (One.val rfl rfl rfl (yld_or rfl (ev_t rfl) (ev_g rfl)) ?_)
        refine Ops.nil fun a hS => ?_
        refine hK26 _ _ ?_ a hS
        refine Cod.cond rfl (fun hc141 => ?_) (fun hc141 => ?_)
        · skip
          simp at hc141
        · skip
          skip
          refine Cod.skip fun a hS => ?_
          refine hK25 _ _ ?_ a hS
          refine Cod.seq fun K27 hK27 => ?_
          refine Cod.seq fun K28 hK28 => ?_
          refine Cod.region ?_
          refine Ops.step (One.val rfl rfl rfl (yld_move rfl (ev_t rfl)) ?_)
          refine Ops.step (One.val rfl rfl rfl (yld_not rfl (ev_t rfl)) ?_)
          refine Ops.nil fun a hS => ?_
          refine hK28 _ _ ?_ a hS
          refine Cod.cond rfl (fun hc143 => ?_) (fun hc143 => ?_)
          · skip
            have hno : R3 = none := by cases h : R3 <;> simp [h] at hc143 ⊢
            refine Cod.seq fun K29 hK29 => ?_
            refine Cod.region ?_
            refine Ops.step (One.val rfl rfl rfl (yld_field fi26_0 rfl (ev_t rfl)) ?_)
            refine Ops.step (One.val rfl rfl rfl (yld_load1 on3 rfl (ev_t rfl) (fun _ => F67.cell 2 rfl rfl)) ?_)
            refine Ops.step (One.val rfl rfl rfl (yld_eql rfl (ev_t rfl) ev_c) ?_)
            refine Ops.step (One.val rfl rfl rfl (yld_assign rfl (ev_t rfl)) ?_)
            refine Ops.nil fun a hS => ?_
            refine hK29 _ _ ?_ a hS
            refine Cod.ret fun a hS => ?_
            try simp only [Exit.then, Exit.inBlock]
            exact ret1 (t := 2) rfl hS rfl ⟨ret_b (by rw [hno]; rfl), F67.chg⟩
          · skip
            have hsome : R3.isSome = true := by simpa using hc143
            obtain ⟨hsb, hR3e, hoS⟩ := setR_some hR3 hsome
            obtain ⟨hok, -, hkd, han60, hanl⟩ := setB_facts hsb
            have hl60 := okT_len60 hok
            obtain ⟨xsP, hxlP, F67⟩ := F67.toRpsE 6 rfl
            refine Cod.skip fun a hS => ?_
            refine hK27 _ _ ?_ a hS
            refine Cod.seq fun K30 hK30 => ?_
            refine Cod.region ?_
            refine Ops.step (One.val rfl rfl rfl (yld_loadN ag26 rfl (ev_t rfl) (fun _ => F67.range (m := 5) (cs' := [_, _, _, _, _]) 2 rfl rfl) rfl) ?_)
            refine Ops.step (One.val rfl rfl rfl (yld_move rfl (ev_t rfl)) ?_)
            refine Ops.step (One.call rfl rfl rfl (ent_f rfl (evl2 (ev_t rfl) (ev_t rfl)) (enters en42)) (partAt_ct (R3.getD zeroT) an han _ _ (F67.get 3 rfl).rep (okT_fit hO3) (okT_w hO3)) (fun e w39 hw39 => ?_))
            obtain ⟨R4, hR4⟩ : ∃ R, R = partAtR (R3.getD zeroT) an := ⟨_, rfl⟩
            have hO4 : okT (R4.getD zeroT) = true := by rw [hR4]; exact partAtR_ok (R3.getD zeroT) an
            rw [← hR4] at hw39
            obtain ⟨e8, E8, rfl, C39, hE8, hEb8⟩ := hw39
            obtain ⟨A3e8, c3e8, A4e8, c4e8, hxe8⟩ := rep_x hE8.rep
            subst hxe8
            have F68 := F67.new C39 (sep E8 (R4.getD zeroT) (x5 (R4.getD zeroT).kind (R4.getD zeroT).num (R4.getD zeroT).str (.slice A3e8 (R4.getD zeroT).keys.length c3e8) (.slice A4e8 (R4.getD zeroT).list.length c4e8)).val) hE8 hEb8
            refine ⟨_, rfl, ?_⟩
            refine Ops.step (One.val rfl rfl rfl (yld_move rfl (ev_t rfl)) ?_)
            refine Ops.step (One.val rfl rfl rfl (yld_extract rfl (ev_t rfl) rfl) ?_)
            refine Ops.step (One.val rfl rfl rfl (yld_extract rfl (ev_t rfl) rfl) ?_)
            refine Ops.step (One.alloc F68 zero26 rfl rfl rfl rfl ?_)
            intro b12 w40 hb12 F69
            change Fr _ _ [blk _ _ [_, _, _, _, _], _, blk _ _ [_, _, _, _, _], _, blk _ _ [_, _, _, _, _], _, blk _ _ [_, _, _, _, _], blk _ _ [_, _, _, _, _], _] _ at F69
            refine Ops.step (One.storeN (vs := [_, _, _, _, _]) F69 0 rfl sz26 rfl rfl rfl (ev_t rfl) (ev_t rfl) rfl rfl (Sep.one (x := (x5 (R4.getD zeroT).kind (R4.getD zeroT).num (R4.getD zeroT).str (.slice A3e8 (R4.getD zeroT).keys.length c3e8) (.slice A4e8 (R4.getD zeroT).list.length c4e8))) (F69.get 1 rfl)) ?_)
            intro w41 F70
            change Fr _ _ [blk _ _ [_, _, _, _, _], _, blk _ _ [_, _, _, _, _], _, blk _ _ [_, _, _, _, _], _, blk _ _ [_, _, _, _, _], blk _ _ [_, _, _, _, _], _] _ at F70
            refine Ops.step (One.val rfl rfl rfl (yld_assign rfl (ev_t rfl)) ?_)
            refine Ops.nil fun a hS => ?_
            refine hK30 _ _ ?_ a hS
            refine Cod.seq fun K31 hK31 => ?_
            refine Cod.region ?_
            refine Ops.step (One.val rfl rfl rfl (yld_field fi26_4 rfl (ev_t rfl)) ?_)
            refine Ops.step (One.val rfl rfl rfl (yld_load1 on24 rfl (ev_t rfl) (fun _ => F70.cell 4 rfl rfl)) ?_)
            refine Ops.step (One.val rfl rfl rfl (yld_len sl24 rfl (ev_t rfl)) ?_)
            refine Ops.step (One.val rfl rfl rfl (yld_assign rfl (ev_t rfl)) ?_)
            refine Ops.nil fun a hS => ?_
            refine hK31 _ _ ?_ a hS
            refine Cod.seq fun K32 hK32 => ?_
            refine Cod.seq fun K33 hK33 => ?_
            refine Cod.region ?_
            refine Ops.step (One.val rfl rfl rfl (yld_assign rfl ev_c) ?_)
            refine Ops.nil fun a hS => ?_
            refine hK33 _ _ ?_ a hS
            refine Cod.block ?_
            have F71 := F70.pull 8 rfl
            have F72 := F71.pull 8 rfl
            have F73 := F72.pull 8 rfl
            have F74 := F73.pull 4 rfl
            have F75 := F74.pull 4 rfl
            have F76 := F75.pull 8 rfl
            have F77 := F76.pull 8 rfl
            have F78 := F77.erase 7
            have F79 := F78.erase 7
            refine Cod.loop (fun i : Nat => [(15, true, .pointer (some ⟨b8, 0, none⟩)), (16, true, .int .i64 an), (17, true, .pointer (some ⟨b9, 0, none⟩)), (18, true, .pointer (some ⟨b10, 0, none⟩)), (22, true, .pointer (some ⟨b12, 0, none⟩)), (23, true, .bool R4.isSome), (24, true, .int .i64 ((R3.getD zeroT).list.length : Int)), (25, true, .int .i64 (i : Int))]) (fun i w' => i ≤ tp.list.length ∧ Fr No w [blk b10 26 (enc5 (x5 (R3.getD zeroT).kind (R3.getD zeroT).num (R3.getD zeroT).str (.slice A3e6 (R3.getD zeroT).keys.length c3e6) (.slice A4e6 (R3.getD zeroT).list.length c4e6))), sep E6 (R3.getD zeroT) (x5 (R3.getD zeroT).kind (R3.getD zeroT).num (R3.getD zeroT).str (.slice A3e6 (R3.getD zeroT).keys.length c3e6) (.slice A4e6 (R3.getD zeroT).list.length c4e6)).val, blk b12 26 (enc5 (x5 (R4.getD zeroT).kind (R4.getD zeroT).num (R4.getD zeroT).str (.slice A3e8 (R4.getD zeroT).keys.length c3e8) (.slice A4e8 (R4.getD zeroT).list.length c4e8))), sep E8 (R4.getD zeroT) (x5 (R4.getD zeroT).kind (R4.getD zeroT).num (R4.getD zeroT).str (.slice A3e8 (R4.getD zeroT).keys.length c3e8) (.slice A4e8 (R4.getD zeroT).list.length c4e8)).val, blk b9 26 (enc5 (x5 tq.kind tq.num tq.str (.slice A3q tq.keys.length c3q) (.slice A4q tq.list.length c4q))), blk b8 26 (enc5 (x5 tp.kind tp.num tp.str (.slice A3p tp.keys.length c3p) (.slice A4p tp.list.length c4p))), rpsE Grsp [(tp, (x5 tp.kind tp.num tp.str (.slice A3p tp.keys.length c3p) (.slice A4p tp.list.length c4p)).val), (tq, (x5 tq.kind tq.num tq.str (.slice A3q tq.keys.length c3q) (.slice A4q tq.list.length c4q)).val)] xsP] w') (fun i => tp.list.length - i) 0 ⟨rfl, rfl, rfl, rfl, rfl, rfl, rfl, rfl, trivial⟩ ⟨Nat.zero_le _, F79⟩ ?_
            intro i w42 hW K34 hK34
            obtain ⟨ix, hix⟩ : ∃ ix, ix = i := ⟨i, rfl⟩
            subst hix
            obtain ⟨hi0, F80⟩ := hW
            refine Cod.seq fun K35 hK35 => ?_
            refine Cod.seq fun K36 hK36 => ?_
            refine Cod.region ?_
            refine Ops.step (One.val rfl rfl rfl (yld_move rfl (ev_t rfl)) ?_)
            refine Ops.step (One.val rfl rfl rfl (yld_field fi26_4 rfl (ev_t rfl)) ?_)
            refine Ops.step (One.val rfl rfl rfl (yld_load1 on24 rfl (ev_t rfl) (fun _ => F80.cell 5 rfl rfl)) ?_)
            refine Ops.step (One.val rfl rfl rfl (yld_len sl24 rfl (ev_t rfl)) ?_)
            refine Ops.step (One.val rfl rfl rfl (yld_lss rfl (ev_t rfl) (ev_t rfl)) ?_)
            refine Ops.nil fun a hS => ?_
            refine hK36 _ _ ?_ a hS
            refine Cod.cond rfl (fun hc160 => ?_) (fun hc160 => ?_)
            · skip
              have hi : ix < tp.list.length := by simpa using hc160
              have hxi : ix < xsP.length := by omega
              obtain ⟨yb, yo, hya, -⟩ := rpsE_at (F80.get 6 rfl) ix hxi
              refine Cod.skip fun a hS => ?_
              refine hK35 _ _ ?_ a hS
              refine Cod.seq fun K37 hK37 => ?_
              refine Cod.block ?_
              refine Cod.seq fun K38 hK38 => ?_
              refine Cod.region ?_
              refine Ops.step (One.val rfl rfl rfl (yld_loadN ag26 rfl (ev_t rfl) (fun _ => F80.range (m := 5) (cs' := [_, _, _, _, _]) 0 rfl rfl) rfl) ?_)
              refine Ops.step (One.val rfl rfl rfl (yld_move rfl (ev_t rfl)) ?_)
              refine Ops.step (One.call rfl rfl rfl (ent_f rfl (evl2 (ev_t rfl) (ev_t rfl)) (enters en42)) (partAt_ct (R3.getD zeroT) (ix : Int) (by omega) _ _ (F80.get 1 rfl).rep (okT_fit hO3) (okT_w hO3)) (fun e w43 hw43 => ?_))
              obtain ⟨R5, hR5⟩ : ∃ R, R = partAtR (R3.getD zeroT) (ix : Int) := ⟨_, rfl⟩
              have hO5 : okT (R5.getD zeroT) = true := by rw [hR5]; exact partAtR_ok (R3.getD zeroT) (ix : Int)
              rw [← hR5] at hw43
              obtain ⟨e9, E9, rfl, C43, hE9, hEb9⟩ := hw43
              obtain ⟨A3e9, c3e9, A4e9, c4e9, hxe9⟩ := rep_x hE9.rep
              subst hxe9
              have F81 := F80.new C43 (sep E9 (R5.getD zeroT) (x5 (R5.getD zeroT).kind (R5.getD zeroT).num (R5.getD zeroT).str (.slice A3e9 (R5.getD zeroT).keys.length c3e9) (.slice A4e9 (R5.getD zeroT).list.length c4e9)).val) hE9 hEb9
              refine ⟨_, rfl, ?_⟩
              refine Ops.step (One.val rfl rfl rfl (yld_move rfl (ev_t rfl)) ?_)
              refine Ops.step (One.val rfl rfl rfl (yld_extract rfl (ev_t rfl) rfl) ?_)
              refine Ops.step (One.val rfl rfl rfl (yld_extract rfl (ev_t rfl) rfl) ?_)
              refine Ops.step (One.alloc F81 zero26 rfl rfl rfl rfl ?_)
              intro b13 w44 hb13 F82
              change Fr _ _ [blk _ _ [_, _, _, _, _], _, blk _ _ [_, _, _, _, _], _, blk _ _ [_, _, _, _, _], _, blk _ _ [_, _, _, _, _], blk _ _ [_, _, _, _, _], _] _ at F82
              refine Ops.step (One.storeN (vs := [_, _, _, _, _]) F82 0 rfl sz26 rfl rfl rfl (ev_t rfl) (ev_t rfl) rfl rfl (Sep.one (x := (x5 (R5.getD zeroT).kind (R5.getD zeroT).num (R5.getD zeroT).str (.slice A3e9 (R5.getD zeroT).keys.length c3e9) (.slice A4e9 (R5.getD zeroT).list.length c4e9))) (F82.get 1 rfl)) ?_)
              intro w45 F83
              change Fr _ _ [blk _ _ [_, _, _, _, _], _, blk _ _ [_, _, _, _, _], _, blk _ _ [_, _, _, _, _], _, blk _ _ [_, _, _, _, _], blk _ _ [_, _, _, _, _], _] _ at F83
              refine Ops.step (One.val rfl rfl rfl (yld_assign rfl (ev_t rfl)) ?_)
              refine Ops.nil fun a hS => ?_
              refine hK38 _ _ ?_ a hS
              refine Cod.seq fun K39 hK39 => ?_
              have F84 := F83.drew
              refine Cod.draw (C_of F84) (by kernel_rfl) ?_
              refine Hops.take 0 rfl (by kernel_rfl) (fun _ _ _ h => h) rfl rfl rfl F84 (fun w F => (yld_move rfl (ev_t rfl))) ?_
              refine Hops.take 1 rfl (by kernel_rfl) (fun _ _ _ h => h) rfl rfl rfl F84 (fun w F => (yld_move rfl (ev_t rfl))) ?_
              refine Hops.take 2 rfl (by kernel_rfl) (fun _ _ _ h => h) rfl rfl rfl F84 (fun w F => (yld_neq rfl (ev_t rfl) (ev_t rfl))) ?_
              refine Hops.take 3 rfl (by kernel_rfl) (fun _ _ _ h => h) rfl rfl rfl F84 (fun w F => (yld_move rfl (ev_t rfl))) ?_
              refine Hops.take 4 rfl (by kernel_rfl) (fun _ _ _ h => h) (gd_some rfl rfl) rfl rfl F84 (fun w F => (yld_move rfl (ev_t rfl))) ?_
              refine Hops.take 5 rfl (by kernel_rfl) (fun _ _ _ h => h) (gd_some rfl rfl) rfl rfl F84 (fun w F => (yld_move rfl (ev_t rfl))) ?_
              refine Hops.take 6 rfl (by kernel_rfl) (fun _ _ _ h => h) (gd_some rfl rfl) rfl rfl F84 (fun w F => (yld_field fi26_4 rfl (ev_t rfl))) ?_
              refine Hops.take 7 rfl (by kernel_rfl) (fun _ _ _ h => h) (gd_some rfl rfl) rfl rfl F84 (fun w F => (yld_load1 on24 rfl (ev_g rfl) (fun _ => F.cell 7 rfl rfl))) ?_
              refine Hops.take 8 rfl (by kernel_rfl) (fun _ _ _ h => h) (gd_some rfl rfl) rfl rfl F84 (fun w F => (yld_len sl24 rfl (ev_g rfl))) ?_
              refine Hops.take 9 rfl (by kernel_rfl) (fun _ _ _ h => h) (gd_some rfl rfl) rfl rfl F84 (fun w F => (yld_add rfl (ev_g rfl) (ev_g rfl) (fun _ => by omega))) ?_
              refine Hops.take 10 rfl (by kernel_rfl) (fun _ _ _ h => h) (gd_some rfl rfl) rfl rfl F84 (fun w F => (yld_neq rfl (ev_g rfl) (ev_g rfl))) ?_
              refine Hops.take 11 rfl (by kernel_rfl) (fun _ _ _ h => h) rfl rfl rfl F84 (fun w F => (yld_and rfl (ev_t rfl) (ev_g rfl))) ?_
              refine Hops.take 12 rfl (by kernel_rfl) (fun _ _ _ h => h) rfl rfl rfl F84 (fun w F => (yld_move rfl (ev_t rfl))) ?_
              refine Hops.take 13 rfl (by kernel_rfl) (fun _ _ _ h => h) (gd_some rfl rfl) rfl rfl F84 (fun w F => (yld_loadN ag26 rfl (ev_t rfl) (fun _ => F.range (m := 5) (cs' := [_, _, _, _, _]) 0 rfl rfl) rfl)) ?_
              refine Hops.take 14 rfl (by kernel_rfl) (fun _ _ _ h => h) (gd_some rfl rfl) rfl rfl F84 (fun w F => (yld_field fi26_4 rfl (ev_t rfl))) ?_
              refine Hops.take 15 rfl (by kernel_rfl) (fun _ _ _ h => h) (gd_some rfl rfl) rfl rfl F84 (fun w F => (yld_load1 on24 rfl (ev_g rfl) (fun _ => F.cell 7 rfl rfl))) ?_
              refine Hops.take 16 rfl (by kernel_rfl) (fun _ _ _ h => h) (gd_some rfl rfl) rfl rfl F84 (fun w F => (yld_move rfl (ev_t rfl))) ?_
              refine Hops.take 17 rfl (by kernel_rfl) (fun _ _ _ h => h) (gd_some rfl rfl) rfl rfl F84 (fun w F => (yld_indexG (b := yb) (q := yo) (i := ix) sl24 rfl (ev_g rfl) (ev_g rfl) (fun _ => hya) (fun _ => hi))) ?_
              refine Hops.take 18 rfl (by kernel_rfl) (fun _ _ _ h => h) (gd_some rfl rfl) rfl rfl F84 (fun w F => (yld_loadN (cs := [(xsP[ix]'hxi).a, (xsP[ix]'hxi).b, (xsP[ix]'hxi).c, (xsP[ix]'hxi).d, (xsP[ix]'hxi).e]) ag26 rfl (ev_g rfl) (fun _ => rpsE_rng (F.get 8 rfl) hya ix hxi) rfl)) ?_
              have hvs := valSame_ct (R5.getD zeroT) (tp.list[ix]'hi) _ _ w45.drew (F84.get 1 rfl).rep (rpsE_rep (F84.get 8 rfl) ix hi hxi)
              refine Hops.one 19 rfl (by kernel_rfl) (One.gcall (R := Chg No w45.drew) (gd_some rfl rfl) rfl rfl (ent_f rfl (evl2 (ev_g rfl) (ev_g rfl)) (enters en17)) (Chg.refl _ _) (fun hg => hvs) ?_)
              intro w46 C46
              have F85 := F84.call C46
              refine ⟨F85, ?_⟩
              refine Hops.take 20 rfl (by kernel_rfl) (fun _ _ _ h => h) (gd_some rfl rfl) rfl rfl F85 (fun w F => (yld_not rfl (ev_g rfl))) ?_
              refine Hops.take 21 rfl (by kernel_rfl) (fun _ _ _ h => h) rfl rfl rfl F85 (fun w F => (yld_and rfl (ev_t rfl) (ev_g rfl))) ?_
              refine Hops.nil (by kernel_rfl) fun a hS => ?_
              refine hK39 _ _ ?_ a hS
              refine Cod.cond rfl (fun hc190 => ?_) (fun hc190 => ?_)
              · skip
                exact (no190 (fun h1 h2 => by rw [hR5, hR3e]; exact at_other hsb hoS hi h1 h2) hc190).elim
              · skip
                skip
                refine Cod.skip fun a hS => ?_
                refine hK37 _ _ ?_ a hS
                refine Cod.region ?_
                refine Ops.step (One.val rfl rfl rfl (yld_move rfl (ev_t rfl)) ?_)
                refine Ops.step (One.val rfl rfl rfl (yld_inc rfl (ev_t rfl) (fun _ => by omega)) ?_)
                refine Ops.step (One.val rfl rfl rfl (yld_assign rfl (ev_t rfl)) ?_)
                refine Ops.nil fun a hS => ?_
                have F86 := F85.pull 8 rfl
                have F87 := F86.pull 8 rfl
                have F88 := F87.pull 8 rfl
                have F89 := F88.pull 8 rfl
                have F90 := F89.pull 8 rfl
                have F91 := F90.pull 8 rfl
                have F92 := F91.pull 8 rfl
                have F93 := F92.erase 7
                have F94 := F93.erase 7
                exact hK34 (ix + 1) _ a (hS.sub ⟨rfl, rfl, rfl, rfl, rfl, rfl, rfl, rfl, trivial⟩) ⟨by omega, F94⟩ (by omega)
            · skip
              skip
              refine Cod.exit fun a hS => ?_
              simp only [Exit.then, Exit.inBlock, ↓reduceIte]
              refine hK32 _ _ ?_ a hS
              refine Cod.seq fun K40 hK40 => ?_
              refine Cod.region ?_
              refine Ops.step (One.val rfl rfl rfl (yld_move rfl (ev_t rfl)) ?_)
              refine Ops.step (One.val rfl rfl rfl (yld_move rfl (ev_t rfl)) ?_)
              refine Ops.step (One.val (gd_some rfl rfl) rfl rfl (yld_loadN ag26 rfl (ev_t rfl) (fun _ => F80.range (m := 5) (cs' := [_, _, _, _, _]) 2 rfl rfl) rfl) ?_)
              refine Ops.step (One.val (gd_some rfl rfl) rfl rfl (yld_loadN ag26 rfl (ev_t rfl) (fun _ => F80.range (m := 5) (cs' := [_, _, _, _, _]) 4 rfl rfl) rfl) ?_)
              refine Ops.step (One.gcall (R := Chg No w42) (gd_some rfl rfl) rfl rfl (ent_f rfl (evl2 (ev_g rfl) (ev_g rfl)) (enters en17)) (Chg.refl _ _) (fun hg => valSame_ct (R4.getD zeroT) tq _ _ _ (F80.get 3 rfl).rep (rpsE_get (F80.get 6 rfl) 1 rfl)) ?_)
              intro w47 C47
              have F95 := F80.call C47
              refine Ops.step (One.val rfl rfl rfl (yld_and rfl (ev_t rfl) (ev_g rfl)) ?_)
              refine Ops.step (One.val rfl rfl rfl (yld_move rfl (ev_t rfl)) ?_)
              refine Ops.step (One.val (gd_some rfl rfl) rfl rfl (yld_move rfl (ev_t rfl)) ?_)
              refine Ops.step (One.val (gd_some rfl rfl) rfl rfl (yld_field fi26_4 rfl (ev_t rfl)) ?_)
              refine Ops.step (One.val (gd_some rfl rfl) rfl rfl (yld_load1 on24 rfl (ev_g rfl) (fun _ => F95.cell 5 rfl rfl)) ?_)
              refine Ops.step (One.val (gd_some rfl rfl) rfl rfl (yld_len sl24 rfl (ev_g rfl)) ?_)
              refine Ops.step (One.val (gd_some rfl rfl) rfl rfl (yld_geq rfl (ev_g rfl) (ev_g rfl)) ?_)
              refine Ops.step (One.val rfl rfl rfl (yld_and rfl (ev_t rfl) (ev_g rfl)) ?_)
              refine Ops.step (One.val rfl rfl rfl (yld_move rfl (ev_t rfl)) ?_)
              refine Ops.step (One.val (gd_some rfl rfl) rfl rfl (yld_move rfl (ev_t rfl)) ?_)
              refine Ops.step (One.val (gd_some rfl rfl) rfl rfl (yld_lss rfl (ev_g rfl) ev_c) ?_)
              refine Ops.step (One.val (gd_some rfl rfl) rfl rfl (yld_move rfl (ev_g rfl)) ?_)
              refine Ops.step (One.val (gd_some rfl rfl) rfl rfl (yld_move rfl (ev_t rfl)) ?_)
              refine Ops.step (One.val (gd_some rfl rfl) rfl rfl (yld_move rfl (ev_t rfl)) ?_)
              refine Ops.step (One.val (gd_some rfl rfl) rfl rfl (yld_gtr rfl (ev_g rfl) (ev_g rfl)) ?_)
              refine Ops.step (One.val (gd_some rfl rfl) rfl rfl (yld_or rfl (ev_g rfl) (ev_g rfl)) ?_)
              refine Ops.step (One.val rfl rfl rfl (yld_and rfl (ev_t rfl) (ev_g rfl)) ?_)
              refine Ops.step (One.val rfl rfl rfl (yld_assign rfl (ev_t rfl)) ?_)
              refine Ops.nil fun a hS => ?_
              refine hK40 _ _ ?_ a hS
              refine Cod.ret fun a hS => ?_
              try simp only [Exit.then, Exit.inBlock]
              have q1 : R4 = some tq := by rw [hR4, hR3e]; exact at_set hsb hoS
              have q2 : (R3.getD zeroT).list.length = max tp.list.length (setZ tp an + 1) := by rw [hR3e]; exact setL_len _ _ _
              have q3 := setZ_le hsb
              have q4 : decide ((tp.list.length : Int) ≤ ((R3.getD zeroT).list.length : Int)) = true := decide_eq_true (by omega)
              have q5 : (decide (an < 0) || decide (an < ((R3.getD zeroT).list.length : Int))) = true := by
                by_cases h : an < 0
                · simp [h]
                · rw [if_neg h] at q3
                  have : an < ((R3.getD zeroT).list.length : Int) := by omega
                  simp [this]
              exact ret1 (t := 2) rfl hS rfl ⟨ret_b (by rw [q1, q4]; simp only [Option.isSome_some, Option.getD_some, Bool.true_and, decide_true]; exact q5), F95.chg⟩


theorem ownKnob_none : ownKnob Try.prog.godebug = none := by kernel_rfl
theorem params_ok : ∀ t ∈ Try.f9.params.toList, Try.prog.readableRec t = true ∧ t < Try.prog.types.size := by
  rw [Try.params9]
  intro t ht
  simp only [List.mem_cons, List.not_mem_nil, or_false] at ht
  rcases ht with rfl <;> exact ⟨by kernel_rfl, of_decide_eq_true (by kernel_rfl)⟩
set_option maxRecDepth 100000 in
theorem lifted (os : Os) (started : os.Started) (H : Type) (enc : TypeId × Value → H) :
    ReturnsInHanded {} Try.checked os 9 .any (Rows.fnPartSpec.pre6 enc Try.prog Try.f9 Rows.fnPartRow.domain false) (Rows.fnPartSpec.post enc Try.prog Try.f9 false true false false) := by
  refine returnsInHanded_of_change (C := Try.checked) ownKnob_none started (by kernel_rfl) Try.func9
    (ChangeSpec.witness6 (enc := enc) (C := Try.checked) false ⟨#[], #[.slice none 0 0], []⟩ 8 (by kernel_rfl) (by kernel_rfl) (by kernel_rfl) (by kernel_rfl)) ?_
  intro W base args ds gs before hval0 hW hcnd _
  have hval : ∀ (j : Nat) t v, Try.f9.params[j]? = some t → args[j]? = some v → Value.okWide Try.prog W .any base t v := hval0
  have hW' := hW
  obtain ⟨p, q, hA0, hV, rfl, hfz, hnd⟩ := hW
  have hA : DataW.TrodAll enc Try.prog W 0 (fun _ => true) true Try.f9.params.toList args.toList ds p := hA0
  rw [Try.params9] at hA hval
  obtain ⟨v0, d0, rfl, rfl, h0⟩ := trodAll_one hA
  obtain ⟨rfl, rfl⟩ := trodVars_none hV
  obtain ⟨code, hp⟩ := open_bytes (hval 0 _ v0 rfl rfl) h0
  refine (walk code v0 W hp).mono fun e W' ⟨he, hc⟩ => ?_
  subst he
  exact ⟨_, rfl, post_chg laidOut rfl params_ok hW' (fun _ _ _ => (trodAll_cons_mk (shut_bool Try.underlying4 _) trodAll_mk0)) rfl rfl hc (ok_one (by kernel_rfl) rfl (okWide_bool_mk Try.underlying4 _))⟩

theorem over : Rows.fnPartRow.holds Try.pinned (OpenSpec.ofChange Rows.fnPartSpec) :=
  OpenClaim.holds_of_wide 9 Try.f9 rfl rfl rfl rfl rfl rfl rfl ⟨rfl, rfl, rfl, rfl, rfl⟩ rfl rfl rfl rfl rfl (by kernel_rfl) Try.func9 (by kernel_rfl)
    (of_decide_eq_true (by kernel_rfl)) (by unfold Func.isWrapper; first | (rw [if_pos (by decide +kernel)]; kernel_rfl) | (rw [if_neg (by decide +kernel)]; exact ⟨rfl, rfl⟩))
    (fun os started H enc _ => lifted os started H enc)

/-- The statement. -/
theorem proved : Rows.FnPartSaid := over
#print axioms proved

end GPart
end Go.Proofs.Ytmmgobhoakaaaaa.Eng
