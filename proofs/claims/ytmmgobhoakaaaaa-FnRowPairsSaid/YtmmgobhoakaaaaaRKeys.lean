/- Walks of both RowKeys: a row of pairs makes a tree by keys. -/
import Derived.Test.YtmmgobhoakaaaaaRKeysP
namespace Go.Proofs.Ytmmgobhoakaaaaa.Eng
open Go.RowKit
set_option linter.unusedVariables false
set_option linter.unusedSimpArgs false
set_option maxHeartbeats 1000000



set_option maxRecDepth 100000 in
theorem rowKeys_ct (t : Tr) (v : Value) (w : World) (hr : Rep Any w t v) (hf : t.Fit) (hw : t.wt ≤ 1048576) : Calls Try.prog 32 #[v] w (Gives w (rowKeysR t)) := by
  obtain ⟨v3, v4, ev, h3, h4⟩ := hr.form
  subst ev
  obtain ⟨A4, c4, rfl, hn4⟩ := h4.open
  refine enter Try.func32 rfl rfl rfl ?_
  have F0 := Fr.start w
  refine Cod.seq fun K1 hK1 => ?_
  refine Cod.region ?_
  refine Ops.step (One.box F0 rfl rfl rfl rfl (ev_t rfl) ?_)
  intro b1 w1 hb1 F1
  change Fr _ _ [blk _ _ [_, _, _, _, _]] _ at F1
  refine Ops.step (One.alloc F1 zero26 rfl rfl rfl rfl ?_)
  intro b2 w2 hb2 F2
  change Fr _ _ [blk _ _ [_, _, _, _, _], blk _ _ [_, _, _, _, _]] _ at F2
  refine Ops.step (One.val rfl rfl rfl (yld_assign rfl ev_c) ?_)
  refine Ops.nil fun a hS => ?_
  refine hK1 _ _ ?_ a hS
  refine Cod.seq fun K2 hK2 => ?_
  refine Cod.seq fun K3 hK3 => ?_
  refine Cod.region ?_
  refine Ops.step (One.val rfl rfl rfl (yld_loadN ag26 rfl (ev_t rfl) (fun _ => F2.range (m := 5) (cs' := [_, _, _, _, _]) 1 rfl rfl) rfl) ?_)
  refine Ops.step (One.call rfl rfl rfl (ent_f rfl (evl1 (ev_t rfl)) (enters en66)) (isRow_ct t _ _ (hr.chg F2.chg) hf) (fun e w3 hw3 => ?_))
  obtain ⟨rfl, C3⟩ := hw3
  have F3 := F2.call C3
  refine ⟨_, rfl, ?_⟩
  refine Ops.step (One.val rfl rfl rfl (yld_not rfl (ev_t rfl)) ?_)
  refine Ops.nil fun a hS => ?_
  refine hK3 _ _ ?_ a hS
  refine Cod.cond rfl (fun hc9 => ?_) (fun hc9 => ?_)
  · skip
    have hno : rowKeysR t = none := by
      have hc : (!(rowT t)) = true := hc9
      unfold rowKeysR
      cases h1 : rowT t <;> simp [h1] at hc ⊢
    refine Cod.seq fun K4 hK4 => ?_
    refine Cod.region ?_
    refine Ops.step (One.val rfl rfl rfl (yld_build (cells := [.int .i64 0, .int .i64 0, .string ⟨#[]⟩, .slice none 0 0, .slice none 0 0]) rfl (evp0) (by kernel_rfl)) ?_)
    refine Ops.step (One.storeN (vs := [_, _, _, _, _]) F3 0 rfl sz26 rfl rfl rfl (ev_t rfl) (ev_t rfl) rfl rfl rfl ?_)
    intro w4 F4
    change Fr _ _ [blk _ _ [_, _, _, _, _], blk _ _ [_, _, _, _, _]] _ at F4
    refine Ops.step (One.val rfl rfl rfl (yld_assign rfl ev_c) ?_)
    refine Ops.nil fun a hS => ?_
    refine hK4 _ _ ?_ a hS
    refine Cod.ret fun a hS => ?_
    try simp only [Exit.then, Exit.inBlock]
    exact retct (t := 2) (u := 3) (ty := 26) rfl hS ag26 rfl rfl (F4.range (m := 5) (cs' := [_, _, _, _, _]) 0 rfl rfl) rfl ⟨z5, No, by rw [hno]; rfl, F4.chg, by rw [hno]; exact sep_leaf _ 0 0 ⟨#[]⟩, fun k hk => hk.elim⟩
  · skip
    have hrow : rowT t = true := by
      have hc : (!(rowT t)) = false := hc9
      cases h1 : rowT t <;> simp [h1] at hc ⊢
    have hok := rowT_ok hrow
    have hl60 := okT_len60 hok
    refine Cod.skip fun a hS => ?_
    refine hK2 _ _ ?_ a hS
    refine Cod.seq fun K5 hK5 => ?_
    refine Cod.region ?_
    refine Ops.step (One.val rfl rfl rfl (yld_build (cells := [.int .i64 6, .int .i64 0, .string ⟨#[]⟩, .slice none 0 0, .slice none 0 0]) rfl (evp1 ev_c) (by kernel_rfl)) ?_)
    refine Ops.step (One.alloc F3 zero26 rfl rfl rfl rfl ?_)
    intro b3 w5 hb3 F5
    change Fr _ _ [blk _ _ [_, _, _, _, _], blk _ _ [_, _, _, _, _], blk _ _ [_, _, _, _, _]] _ at F5
    refine Ops.step (One.storeN (vs := [_, _, _, _, _]) F5 0 rfl sz26 rfl rfl rfl (ev_t rfl) (ev_t rfl) rfl rfl rfl ?_)
    intro w6 F6
    change Fr _ _ [blk _ _ [_, _, _, _, _], blk _ _ [_, _, _, _, _], blk _ _ [_, _, _, _, _]] _ at F6
    refine Ops.nil fun a hS => ?_
    refine hK5 _ _ ?_ a hS
    refine Cod.seq fun K6 hK6 => ?_
    refine Cod.seq fun K7 hK7 => ?_
    refine Cod.region ?_
    refine Ops.step (One.val rfl rfl rfl (yld_field fi26_4 rfl (ev_t rfl)) ?_)
    refine Ops.step (One.val rfl rfl rfl (yld_load1 on24 rfl (ev_t rfl) (fun _ => F6.cell 2 rfl rfl)) ?_)
    refine Ops.step (One.val rfl rfl rfl (yld_len sl24 rfl (ev_t rfl)) ?_)
    refine Ops.step (One.val rfl rfl rfl (yld_move rfl ev_c) ?_)
    refine Ops.nil fun a hS => ?_
    refine hK7 _ _ ?_ a hS
    refine Cod.block ?_
    refine Cod.loop (fun i : Nat × List ByteArray × List Tr × List V5 × Value × Value => [(2, true, .pointer (some ⟨b2, 0, none⟩)), (4, true, .pointer (some ⟨b3, 0, none⟩)), (13, true, .slice A4 t.list.length c4), (14, true, .int .i64 (t.list.length : Int)), (15, true, .int .i64 (i.1 : Int))]) (fun i w' => i.1 ≤ t.list.length ∧ rkF t.list [] [] = rkF (t.list.drop i.1) i.2.1 i.2.2.1 ∧ Good i.2.1 i.2.2.1 i.1 ∧ AL w i.2.2.1 i.2.2.2.1 ∧ Fr No w [own 26 5 i.2.2.2.2.2 i.2.2.2.1.length (i.2.2.2.1.flatMap enc5), own 9 1 i.2.2.2.2.1 i.2.1.length (i.2.1.flatMap sCells), blk b3 26 [.int .i64 6, .int .i64 0, .string ⟨#[]⟩, i.2.2.2.2.1, i.2.2.2.2.2], blk b2 26 [.int .i64 0, .int .i64 0, .string ⟨#[]⟩, .slice none 0 0, .slice none 0 0], blk b1 26 [.int .i64 t.kind, .int .i64 t.num, .string t.str, v3, .slice A4 t.list.length c4]] w') (fun i => t.list.length - i.1) (0, [], [], [], .slice none 0 0, .slice none 0 0) ⟨rfl, rfl, rfl, rfl, rfl, trivial⟩ ⟨Nat.zero_le _, rfl, Good.nil 0, AL.nil w, (F6.nilRow 9 1).nilRow 26 5⟩ ?_
    intro i w7 hW K8 hK8
    obtain ⟨i, ks, l, ys, ku, lu⟩ := i
    obtain ⟨hi, hrk, hgd, hal, F7⟩ := hW
    dsimp only at *
    obtain ⟨A3, m3, c3, hu3⟩ := own_form (F7.get 1 rfl)
    have hm3 := own_len (F7.get 1 rfl) hu3
    subst hu3
    subst hm3
    obtain ⟨A5, m5, c5, hu5⟩ := own_form (F7.get 0 rfl)
    have hm5 := own_len (F7.get 0 rfl) hu5
    subst hu5
    subst hm5
    have hyl := hal.1
    refine Cod.seq fun K9 hK9 => ?_
    refine Cod.region ?_
    refine Ops.step (One.val rfl rfl rfl (yld_lss rfl (ev_t rfl) (ev_t rfl)) ?_)
    refine Ops.nil fun a hS => ?_
    refine hK9 _ _ ?_ a hS
    refine Cod.seq fun K10 hK10 => ?_
    refine Cod.cond rfl (fun hc16 => ?_) (fun hc16 => ?_)
    · skip
      have hi : i < t.list.length := by simpa using hc16
      obtain ⟨b, o, cs, rfl, -, hlc, hr1, ht⟩ := h4.at i hi
      obtain ⟨kk, nn, ss, kks, ll, hti⟩ := Tr.eta t.list[i]
      have hokp := okT_child hok (List.getElem_mem hi)
      have hfp := hf.list _ (List.getElem_mem hi)
      have hrkd := rk_drop hi ks l
      rw [hti] at ht hokp hfp hrkd
      obtain ⟨u3, u4, ecs, h3', h4'⟩ := ht.open
      have ecs' : cs = [.int .i64 kk, .int .i64 nn, .string ss, u3, u4] := by simpa using ecs
      subst ecs'
      have hone : [Value.int .i64 kk, .int .i64 nn, .string ss, u3, u4].all (·.oneCell') = true := ht.one
      obtain ⟨B4, d4, rfl, hm4⟩ := h4'.open
      obtain ⟨b0, o0, q3, q4, yy, htwo⟩ := two_at h4'
      refine Cod.skip fun a hS => ?_
      refine hK10 _ _ ?_ a hS
      refine Cod.seq fun K11 hK11 => ?_
      refine Cod.block ?_
      refine Cod.seq fun K12 hK12 => ?_
      refine Cod.region ?_
      refine Ops.step (One.val rfl rfl rfl (yld_indexN sl24 rfl (ev_t rfl) (ev_t rfl) (fun _ => by omega)) ?_)
      refine Ops.step (One.val rfl rfl rfl (yld_loadN ag26 rfl (ev_t rfl) (fun _ => rng hr1 F7.chg) rfl) ?_)
      refine Ops.step (One.alloc F7 zero26 rfl rfl rfl rfl ?_)
      intro b4 w8 hb4 F8
      change Fr _ _ [blk _ _ [_, _, _, _, _], _, _, blk _ _ [_, _, _, _, _], blk _ _ [_, _, _, _, _], blk _ _ [_, _, _, _, _]] _ at F8
      refine Ops.step (One.storeN (vs := [_, _, _, _, _]) F8 0 rfl sz26 rfl rfl rfl (ev_t rfl) (ev_t rfl) rfl rfl hone ?_)
      intro w9 F9
      change Fr _ _ [blk _ _ [_, _, _, _, _], _, _, blk _ _ [_, _, _, _, _], blk _ _ [_, _, _, _, _], blk _ _ [_, _, _, _, _]] _ at F9
      refine Ops.nil fun a hS => ?_
      refine hK12 _ _ ?_ a hS
      refine Cod.seq fun K13 hK13 => ?_
      refine Cod.seq fun K14 hK14 => ?_
      refine Cod.region ?_
      refine Ops.step (One.val rfl rfl rfl (yld_field fi26_0 rfl (ev_t rfl)) ?_)
      refine Ops.step (One.val rfl rfl rfl (yld_load1 on3 rfl (ev_t rfl) (fun _ => F9.cell 0 rfl rfl)) ?_)
      refine Ops.step (One.val rfl rfl rfl (yld_neq rfl (ev_t rfl) ev_c) ?_)
      refine Ops.step (One.val rfl rfl rfl (yld_move rfl (ev_t rfl)) ?_)
      refine Ops.step (One.val (gd_some rfl rfl) rfl rfl (yld_field fi26_4 rfl (ev_t rfl)) ?_)
      refine Ops.step (One.val (gd_some rfl rfl) rfl rfl (yld_load1 on24 rfl (ev_g rfl) (fun _ => F9.cell 0 rfl rfl)) ?_)
      refine Ops.step (One.val (gd_some rfl rfl) rfl rfl (yld_len sl24 rfl (ev_g rfl)) ?_)
      refine Ops.step (One.val (gd_some rfl rfl) rfl rfl (yld_neq rfl (ev_g rfl) ev_c) ?_)
      refine Ops.step (One.val rfl rfl rfl (yld_or rfl (ev_t rfl) (ev_g rfl)) ?_)
      refine Ops.step (One.val rfl rfl rfl (yld_move rfl (ev_t rfl)) ?_)
      refine Ops.step (One.val (gd_some rfl rfl) rfl rfl (yld_field fi26_4 rfl (ev_t rfl)) ?_)
      refine Ops.step (One.val (gd_some rfl rfl) rfl rfl (yld_load1 on24 rfl (ev_g rfl) (fun _ => F9.cell 0 rfl rfl)) ?_)
      refine Ops.step (One.val (gd_some rfl rfl) rfl rfl (yld_indexG (b := b0) (q := o0) (i := 0) sl24 rfl (ev_g rfl) ev_c (fun hg => (htwo (by simp [gof] at hg; omega)).1) (fun hg => by simp [gof] at hg; omega)) ?_)
      refine Ops.step (One.val (gd_some rfl rfl) rfl rfl (yld_field fi26_0 rfl (ev_g rfl)) ?_)
      refine Ops.step (One.val (gd_some rfl rfl) rfl rfl (yld_load1 on3 rfl (ev_g rfl) (fun hg => rangeAt_cell (rng (htwo (by simp [gof] at hg; omega)).2.1 F9.chg) (j := 0) rfl)) ?_)
      refine Ops.step (One.val (gd_some rfl rfl) rfl rfl (yld_neq rfl (ev_g rfl) ev_c) ?_)
      refine Ops.step (One.val rfl rfl rfl (yld_or rfl (ev_t rfl) (ev_g rfl)) ?_)
      refine Ops.nil fun a hS => ?_
      refine hK14 _ _ ?_ a hS
      refine Cod.cond rfl (fun hc35 => ?_) (fun hc35 => ?_)
      · skip
        have hnp : ¬ pairB (.mk kk nn ss kks ll) = true := fun hp => by
          unfold pairB at hp
          simp only [Bool.and_eq_true, decide_eq_true_eq] at hp
          obtain ⟨⟨hp1, hp2⟩, hp3⟩ := hp
          change kk = 5 at hp1
          change ll.length = 2 at hp2
          change (ll.getD 0 zeroT).kind = 4 at hp3
          have hc : (((kk != 5) || ((ll.length : Int) != 2)) || ((ll.getD 0 zeroT).kind != 4)) = true := hc35
          rw [hp1, hp2, hp3] at hc
          simp at hc
        have hno : rowKeysR t = none := by
          unfold rowKeysR
          rw [if_pos hrow, hrk, hrkd, if_neg hnp]
          rfl
        refine Cod.seq fun K15 hK15 => ?_
        refine Cod.region ?_
        refine Ops.step (One.val rfl rfl rfl (yld_build (cells := [.int .i64 0, .int .i64 0, .string ⟨#[]⟩, .slice none 0 0, .slice none 0 0]) rfl (evp0) (by kernel_rfl)) ?_)
        refine Ops.step (One.storeN (vs := [_, _, _, _, _]) F9 4 rfl sz26 rfl rfl rfl (ev_t rfl) (ev_t rfl) rfl rfl rfl ?_)
        intro w10 F10
        change Fr _ _ [blk _ _ [_, _, _, _, _], _, _, blk _ _ [_, _, _, _, _], blk _ _ [_, _, _, _, _], blk _ _ [_, _, _, _, _]] _ at F10
        refine Ops.step (One.val rfl rfl rfl (yld_assign rfl ev_c) ?_)
        refine Ops.nil fun a hS => ?_
        refine hK15 _ _ ?_ a hS
        refine Cod.ret fun a hS => ?_
        try simp only [Exit.then, Exit.inBlock]
        exact retct (t := 2) (u := 3) (ty := 26) rfl hS ag26 rfl rfl (F10.range (m := 5) (cs' := [_, _, _, _, _]) 4 rfl rfl) rfl ⟨z5, No, by rw [hno]; rfl, F10.chg, by rw [hno]; exact sep_leaf _ 0 0 ⟨#[]⟩, fun k hk => hk.elim⟩
      · skip
        have hc : (((kk != 5) || ((ll.length : Int) != 2)) || ((ll.getD 0 zeroT).kind != 4)) = false := hc35
        simp only [Bool.or_eq_false_iff, bne_eq_false_iff_eq] at hc
        obtain ⟨⟨hk5, hl2⟩, hk4⟩ := hc
        have hl2 : ll.length = 2 := by omega
        obtain ⟨rfl, hp0, hp1, hyy⟩ := htwo hl2
        rw [if_pos (by unfold pairB; rw [show (Tr.mk kk nn ss kks ll).kind = 5 from hk5, show (Tr.mk kk nn ss kks ll).list.length = 2 from hl2, show ((Tr.mk kk nn ss kks ll).list.getD 0 zeroT).kind = 4 from hk4]; rfl)] at hrkd
        have hgd2 := hgd.step hokp hfp hl2
        have hlek := hgd.le
        refine Cod.skip fun a hS => ?_
        refine hK13 _ _ ?_ a hS
        have F11 := F9.drew
        refine Cod.draw (C_of (F11.erase 3)) (by kernel_rfl) ?_
        refine Hops.take 1 rfl (by kernel_rfl) (fun _ _ _ h => h) rfl rfl rfl (F11.erase 3) (fun w F => (yld_field fi26_4 rfl (ev_t rfl))) ?_
        refine Hops.take 2 rfl (by kernel_rfl) (fun _ _ _ h => h) rfl rfl rfl (F11.erase 3) (fun w F => (yld_load1 on24 rfl (ev_t rfl) (fun _ => F.cell 0 rfl rfl))) ?_
        refine Hops.take 3 rfl (by kernel_rfl) (fun _ _ _ h => h) rfl rfl rfl (F11.erase 3) (fun w F => (yld_indexN (i := 0) sl24 rfl (ev_t rfl) ev_c (fun _ => by omega))) ?_
        refine Hops.take 4 rfl (by kernel_rfl) (fun _ _ _ h => h) rfl rfl rfl (F11.erase 3) (fun w F => (yld_field fi26_2 rfl (ev_t rfl))) ?_
        refine Hops.take 5 rfl (by kernel_rfl) (fun _ _ _ h => h) rfl rfl rfl (F11.erase 3) (fun w F => (yld_load1 on9 rfl (ev_t rfl) (fun _ => rangeAt_cell (rng hp0 F.chg) (j := 2) rfl))) ?_
        refine Hops.take 6 rfl (by kernel_rfl) (fun _ _ _ h => h) rfl rfl rfl (F11.erase 3) (fun w F => (yld_field fi26_4 rfl (ev_t rfl))) ?_
        refine Hops.take 7 rfl (by kernel_rfl) (fun _ _ _ h => h) rfl rfl rfl (F11.erase 3) (fun w F => (yld_load1 on24 rfl (ev_t rfl) (fun _ => F.cell 0 rfl rfl))) ?_
        refine Hops.take 8 rfl (by kernel_rfl) (fun _ _ _ h => h) rfl rfl rfl (F11.erase 3) (fun w F => (yld_indexN (i := 1) sl24 rfl (ev_t rfl) ev_c (fun _ => by omega))) ?_
        refine Hops.take 9 rfl (by kernel_rfl) (fun _ _ _ h => h) rfl rfl rfl (F11.erase 3) (fun w F => (yld_loadN ag26 rfl (ev_t rfl) (fun _ => rng hp1 F.chg) rfl)) ?_
        refine Hops.one 0 rfl (by kernel_rfl) (One.val rfl rfl rfl (yld_loadN ag26 rfl (ev_t rfl) (fun _ => F11.range (m := 5) (cs' := [_, _, _, _, _]) 3 rfl rfl) rfl) ?_)
        refine ⟨(F11.erase 3), ?_⟩
        refine Hops.one 10 rfl (by kernel_rfl) (One.call rfl rfl rfl (ent_f rfl (evl3 (ev_t rfl) (ev_t rfl) (ev_t rfl)) (enters en90)) (put_ct (.mk 6 0 ⟨#[]⟩ ks l) (vOf (.mk kk nn ss kks ll)) (kOf (.mk kk nn ss kks ll)) ys _ yy w _ ⟨A3, c3, A5, c5, by show _ = Value.agg #[_, _, _, _, .slice A5 l.length c5]; rw [← hyl]; rfl, ownS (F11.get 2 rfl), by rw [show (Tr.mk 6 0 ⟨#[]⟩ ks l).list.length = ys.length from hyl.symm]; exact (own_rep (enc := enc5) (sz := 5) (fun _ => rfl) (F11.get 1 rfl)).weak fun _ _ => trivial, hal⟩ hyy hgd.so hgd.len (by show ks.length ≤ _; omega)) (fun e w11 hw11 => ?_))
        obtain ⟨ku2, lu2, ys2, rfl, C11, hok2, hol2, hal2, hkb, hlb, hkl2⟩ := hw11
        have F12 := F11.new2 C11 (own _ 5 lu2 ys2.length _) (own _ 1 ku2 _ _) hol2 hok2 hlb hkb (fun k h1 h2 => hkl2 k h2 h1)
        refine ⟨_, rfl, ?_⟩
        refine ⟨((F12.erase 5).erase 1).drop1, ?_⟩
        refine Hops.one 11 rfl (by kernel_rfl) (One.storeN (vs := [_, _, _, _, _]) F12 5 rfl sz26 rfl rfl rfl (ev_t rfl) (ev_t rfl) rfl rfl (one5 (own_one (F12.get 1 rfl)) (own_one (F12.get 0 rfl))) ?_)
        intro w12 F13
        refine ⟨((F13.erase 5).erase 1).drop1, ?_⟩
        change Fr _ _ [_, _, blk _ _ [_, _, _, _, _], _, _, blk _ _ [_, _, _, _, _], blk _ _ [_, _, _, _, _], blk _ _ [_, _, _, _, _]] _ at F13
        refine Hops.nil (by kernel_rfl) fun a hS => ?_
        refine hK11 _ _ ?_ a hS
        refine Cod.region ?_
        refine Ops.step (One.val rfl rfl rfl (yld_inc rfl (ev_t rfl) (fun _ => by omega)) ?_)
        refine Ops.step (One.val rfl rfl rfl (yld_move rfl (ev_t rfl)) ?_)
        refine Ops.nil fun a hS => ?_
        have F14 := F13.pull 7 rfl
        have F15 := F14.pull 7 rfl
        have F16 := F15.pull 7 rfl
        have F17 := F16.pull 4 rfl
        have F18 := F17.pull 4 rfl
        have F19 := F18.erase 5
        have F20 := F19.erase 5
        have F21 := F20.erase 5
        refine hK8 (i + 1, _, _, ys2, ku2, lu2) _ a (hS.sub ⟨rfl, rfl, rfl, rfl, rfl, trivial⟩) ⟨by show i + 1 ≤ _; omega, by rw [hrk, hrkd]; rfl, hgd2, hal2, F21⟩ (by show t.list.length - (i + 1) < t.list.length - i; omega)
    · skip
      obtain rfl : i = t.list.length := by simp at hc16; omega
      rw [List.drop_length] at hrk
      have hR : rowKeysR t = toldR true (.mk 6 0 ⟨#[]⟩ ks l) := by unfold rowKeysR; rw [if_pos hrow, hrk]; rfl
      obtain ⟨hTf, hTw⟩ := hgd.bd (by omega)
      refine Cod.exit fun a hS => ?_
      simp only [Exit.then, Exit.inBlock, ↓reduceIte]
      refine hK6 _ _ ?_ a hS
      refine Cod.seq fun K16 hK16 => ?_
      refine Cod.region ?_
      refine Ops.step (One.val rfl rfl rfl (yld_loadN ag26 rfl (ev_t rfl) (fun _ => F7.range (m := 5) (cs' := [_, _, _, _, _]) 2 rfl rfl) rfl) ?_)
      refine Ops.step (One.call rfl rfl rfl (ent_f rfl (evl2 (ev_t rfl) ev_c) (enters en75)) (told_ct (.mk 6 0 ⟨#[]⟩ ks l) true _ _ (Rep.close (ownS (F7.get 1 rfl)) ((hal.chg F7.chg).repL (F7.get 0 rfl))) hTf hTw) (fun e w13 hw13 => ?_))
      obtain ⟨x1, G1, rfl, C13, hs1, hb1⟩ := hw13
      have F22 := F7.new C13 (sep G1 _ x1.val) hs1 hb1
      refine ⟨_, rfl, ?_⟩
      refine Ops.step (One.val rfl rfl rfl (yld_extract rfl (ev_t rfl) rfl) ?_)
      refine Ops.step (One.val rfl rfl rfl (yld_extract rfl (ev_t rfl) rfl) ?_)
      refine Ops.step (One.storeN (vs := [_, _, _, _, _]) F22 4 rfl sz26 rfl rfl rfl (ev_t rfl) (ev_t rfl) rfl rfl hs1.one ?_)
      intro w14 F23
      change Fr _ _ [_, _, _, blk _ _ [_, _, _, _, _], blk _ _ [_, _, _, _, _], blk _ _ [_, _, _, _, _]] _ at F23
      refine Ops.step (One.val rfl rfl rfl (yld_assign rfl (ev_t rfl)) ?_)
      refine Ops.nil fun a hS => ?_
      refine hK16 _ _ ?_ a hS
      refine Cod.ret fun a hS => ?_
      try simp only [Exit.then, Exit.inBlock]
      exact retct (t := 2) (u := 3) (ty := 26) rfl hS ag26 rfl rfl (F23.range (m := 5) (cs' := [_, _, _, _, _]) 4 rfl rfl) rfl ⟨x1, G1, by rw [hR]; rfl, F23.chg, by rw [hR]; exact F23.get 0 rfl, fun b hb => (F23.dom _ (List.mem_of_getElem? (i := 0) rfl) b hb).resolve_left id⟩

set_option maxRecDepth 100000 in
theorem specRowKeys_ct (t : Tr) (v : Value) (w : World) (hr : Rep Any w t v) (hf : t.Fit) (hw : t.wt ≤ 1048576) : Calls Try.prog 38 #[v] w (Gives w (rowKeysR t)) := by
  obtain ⟨v3, v4, ev, h3, h4⟩ := hr.form
  subst ev
  obtain ⟨A4, c4, rfl, hn4⟩ := h4.open
  refine enter Try.func38 rfl rfl rfl ?_
  have F0 := Fr.start w
  refine Cod.seq fun K1 hK1 => ?_
  refine Cod.region ?_
  refine Ops.step (One.box F0 rfl rfl rfl rfl (ev_t rfl) ?_)
  intro b1 w1 hb1 F1
  change Fr _ _ [blk _ _ [_, _, _, _, _]] _ at F1
  refine Ops.step (One.alloc F1 zero26 rfl rfl rfl rfl ?_)
  intro b2 w2 hb2 F2
  change Fr _ _ [blk _ _ [_, _, _, _, _], blk _ _ [_, _, _, _, _]] _ at F2
  refine Ops.step (One.val rfl rfl rfl (yld_assign rfl ev_c) ?_)
  refine Ops.nil fun a hS => ?_
  refine hK1 _ _ ?_ a hS
  refine Cod.seq fun K2 hK2 => ?_
  refine Cod.seq fun K3 hK3 => ?_
  refine Cod.region ?_
  refine Ops.step (One.val rfl rfl rfl (yld_loadN ag26 rfl (ev_t rfl) (fun _ => F2.range (m := 5) (cs' := [_, _, _, _, _]) 1 rfl rfl) rfl) ?_)
  refine Ops.step (One.call rfl rfl rfl (ent_f rfl (evl1 (ev_t rfl)) (enters en69)) (l4Row_ct t _ _ (hr.chg F2.chg) hf hw) (fun e w3 hw3 => ?_))
  obtain ⟨rfl, C3⟩ := hw3
  have F3 := F2.call C3
  refine ⟨_, rfl, ?_⟩
  refine Ops.step (One.val rfl rfl rfl (yld_not rfl (ev_t rfl)) ?_)
  refine Ops.nil fun a hS => ?_
  refine hK3 _ _ ?_ a hS
  refine Cod.cond rfl (fun hc9 => ?_) (fun hc9 => ?_)
  · skip
    have hno : rowKeysR t = none := by
      have hc : (!(rowT t)) = true := hc9
      unfold rowKeysR
      cases h1 : rowT t <;> simp [h1] at hc ⊢
    refine Cod.seq fun K4 hK4 => ?_
    refine Cod.region ?_
    refine Ops.step (One.val rfl rfl rfl (yld_build (cells := [.int .i64 0, .int .i64 0, .string ⟨#[]⟩, .slice none 0 0, .slice none 0 0]) rfl (evp0) (by kernel_rfl)) ?_)
    refine Ops.step (One.storeN (vs := [_, _, _, _, _]) F3 0 rfl sz26 rfl rfl rfl (ev_t rfl) (ev_t rfl) rfl rfl rfl ?_)
    intro w4 F4
    change Fr _ _ [blk _ _ [_, _, _, _, _], blk _ _ [_, _, _, _, _]] _ at F4
    refine Ops.step (One.val rfl rfl rfl (yld_assign rfl ev_c) ?_)
    refine Ops.nil fun a hS => ?_
    refine hK4 _ _ ?_ a hS
    refine Cod.ret fun a hS => ?_
    try simp only [Exit.then, Exit.inBlock]
    exact retct (t := 2) (u := 3) (ty := 26) rfl hS ag26 rfl rfl (F4.range (m := 5) (cs' := [_, _, _, _, _]) 0 rfl rfl) rfl ⟨z5, No, by rw [hno]; rfl, F4.chg, by rw [hno]; exact sep_leaf _ 0 0 ⟨#[]⟩, fun k hk => hk.elim⟩
  · skip
    have hrow : rowT t = true := by
      have hc : (!(rowT t)) = false := hc9
      cases h1 : rowT t <;> simp [h1] at hc ⊢
    have hok := rowT_ok hrow
    have hl60 := okT_len60 hok
    refine Cod.skip fun a hS => ?_
    refine hK2 _ _ ?_ a hS
    refine Cod.seq fun K5 hK5 => ?_
    refine Cod.region ?_
    refine Ops.step (One.val rfl rfl rfl (yld_build (cells := [.int .i64 6, .int .i64 0, .string ⟨#[]⟩, .slice none 0 0, .slice none 0 0]) rfl (evp1 ev_c) (by kernel_rfl)) ?_)
    refine Ops.step (One.alloc F3 zero26 rfl rfl rfl rfl ?_)
    intro b3 w5 hb3 F5
    change Fr _ _ [blk _ _ [_, _, _, _, _], blk _ _ [_, _, _, _, _], blk _ _ [_, _, _, _, _]] _ at F5
    refine Ops.step (One.storeN (vs := [_, _, _, _, _]) F5 0 rfl sz26 rfl rfl rfl (ev_t rfl) (ev_t rfl) rfl rfl rfl ?_)
    intro w6 F6
    change Fr _ _ [blk _ _ [_, _, _, _, _], blk _ _ [_, _, _, _, _], blk _ _ [_, _, _, _, _]] _ at F6
    refine Ops.nil fun a hS => ?_
    refine hK5 _ _ ?_ a hS
    refine Cod.seq fun K6 hK6 => ?_
    refine Cod.seq fun K7 hK7 => ?_
    refine Cod.region ?_
    refine Ops.step (One.val rfl rfl rfl (yld_assign rfl ev_c) ?_)
    refine Ops.nil fun a hS => ?_
    refine hK7 _ _ ?_ a hS
    refine Cod.block ?_
    refine Cod.loop (fun i : Nat × List ByteArray × List Tr × List V5 × Value × Value => [(1, true, .pointer (some ⟨b1, 0, none⟩)), (2, true, .pointer (some ⟨b2, 0, none⟩)), (4, true, .pointer (some ⟨b3, 0, none⟩)), (5, true, .int .i64 (i.1 : Int))]) (fun i w' => i.1 ≤ t.list.length ∧ rkF t.list [] [] = rkF (t.list.drop i.1) i.2.1 i.2.2.1 ∧ Good i.2.1 i.2.2.1 i.1 ∧ AL w i.2.2.1 i.2.2.2.1 ∧ Fr No w [own 26 5 i.2.2.2.2.2 i.2.2.2.1.length (i.2.2.2.1.flatMap enc5), own 9 1 i.2.2.2.2.1 i.2.1.length (i.2.1.flatMap sCells), blk b3 26 [.int .i64 6, .int .i64 0, .string ⟨#[]⟩, i.2.2.2.2.1, i.2.2.2.2.2], blk b2 26 [.int .i64 0, .int .i64 0, .string ⟨#[]⟩, .slice none 0 0, .slice none 0 0], blk b1 26 [.int .i64 t.kind, .int .i64 t.num, .string t.str, v3, .slice A4 t.list.length c4]] w') (fun i => t.list.length - i.1) (0, [], [], [], .slice none 0 0, .slice none 0 0) ⟨rfl, rfl, rfl, rfl, trivial⟩ ⟨Nat.zero_le _, rfl, Good.nil 0, AL.nil w, (F6.nilRow 9 1).nilRow 26 5⟩ ?_
    intro i w7 hW K8 hK8
    obtain ⟨i, ks, l, ys, ku, lu⟩ := i
    obtain ⟨hi, hrk, hgd, hal, F7⟩ := hW
    dsimp only at *
    obtain ⟨A3, m3, c3, hu3⟩ := own_form (F7.get 1 rfl)
    have hm3 := own_len (F7.get 1 rfl) hu3
    subst hu3
    subst hm3
    obtain ⟨A5, m5, c5, hu5⟩ := own_form (F7.get 0 rfl)
    have hm5 := own_len (F7.get 0 rfl) hu5
    subst hu5
    subst hm5
    have hyl := hal.1
    refine Cod.seq fun K9 hK9 => ?_
    refine Cod.seq fun K10 hK10 => ?_
    refine Cod.region ?_
    refine Ops.step (One.val rfl rfl rfl (yld_move rfl (ev_t rfl)) ?_)
    refine Ops.step (One.val rfl rfl rfl (yld_field fi26_4 rfl (ev_t rfl)) ?_)
    refine Ops.step (One.val rfl rfl rfl (yld_load1 on24 rfl (ev_t rfl) (fun _ => F7.cell 4 rfl rfl)) ?_)
    refine Ops.step (One.val rfl rfl rfl (yld_len sl24 rfl (ev_t rfl)) ?_)
    refine Ops.step (One.val rfl rfl rfl (yld_lss rfl (ev_t rfl) (ev_t rfl)) ?_)
    refine Ops.nil fun a hS => ?_
    refine hK10 _ _ ?_ a hS
    refine Cod.cond rfl (fun hc16 => ?_) (fun hc16 => ?_)
    · skip
      have hi : i < t.list.length := by simpa using hc16
      obtain ⟨b, o, cs, rfl, -, hlc, hr1, ht⟩ := h4.at i hi
      obtain ⟨kk, nn, ss, kks, ll, hti⟩ := Tr.eta t.list[i]
      have hokp := okT_child hok (List.getElem_mem hi)
      have hfp := hf.list _ (List.getElem_mem hi)
      have hrkd := rk_drop hi ks l
      rw [hti] at ht hokp hfp hrkd
      obtain ⟨u3, u4, ecs, h3', h4'⟩ := ht.open
      have ecs' : cs = [.int .i64 kk, .int .i64 nn, .string ss, u3, u4] := by simpa using ecs
      subst ecs'
      have hone : [Value.int .i64 kk, .int .i64 nn, .string ss, u3, u4].all (·.oneCell') = true := ht.one
      obtain ⟨B4, d4, rfl, hm4⟩ := h4'.open
      obtain ⟨b0, o0, q3, q4, yy, htwo⟩ := two_at h4'
      refine Cod.skip fun a hS => ?_
      refine hK9 _ _ ?_ a hS
      refine Cod.seq fun K11 hK11 => ?_
      refine Cod.block ?_
      refine Cod.seq fun K12 hK12 => ?_
      refine Cod.region ?_
      refine Ops.step (One.val rfl rfl rfl (yld_field fi26_4 rfl (ev_t rfl)) ?_)
      refine Ops.step (One.val rfl rfl rfl (yld_load1 on24 rfl (ev_t rfl) (fun _ => F7.cell 4 rfl rfl)) ?_)
      refine Ops.step (One.val rfl rfl rfl (yld_move rfl (ev_t rfl)) ?_)
      refine Ops.step (One.val rfl rfl rfl (yld_indexN sl24 rfl (ev_t rfl) (ev_t rfl) (fun _ => by omega)) ?_)
      refine Ops.step (One.val rfl rfl rfl (yld_loadN ag26 rfl (ev_t rfl) (fun _ => rng hr1 F7.chg) rfl) ?_)
      refine Ops.step (One.alloc F7 zero26 rfl rfl rfl rfl ?_)
      intro b4 w8 hb4 F8
      change Fr _ _ [blk _ _ [_, _, _, _, _], _, _, blk _ _ [_, _, _, _, _], blk _ _ [_, _, _, _, _], blk _ _ [_, _, _, _, _]] _ at F8
      refine Ops.step (One.storeN (vs := [_, _, _, _, _]) F8 0 rfl sz26 rfl rfl rfl (ev_t rfl) (ev_t rfl) rfl rfl hone ?_)
      intro w9 F9
      change Fr _ _ [blk _ _ [_, _, _, _, _], _, _, blk _ _ [_, _, _, _, _], blk _ _ [_, _, _, _, _], blk _ _ [_, _, _, _, _]] _ at F9
      refine Ops.nil fun a hS => ?_
      refine hK12 _ _ ?_ a hS
      refine Cod.seq fun K13 hK13 => ?_
      refine Cod.seq fun K14 hK14 => ?_
      refine Cod.region ?_
      refine Ops.step (One.val rfl rfl rfl (yld_field fi26_0 rfl (ev_t rfl)) ?_)
      refine Ops.step (One.val rfl rfl rfl (yld_load1 on3 rfl (ev_t rfl) (fun _ => F9.cell 0 rfl rfl)) ?_)
      refine Ops.step (One.val rfl rfl rfl (yld_neq rfl (ev_t rfl) ev_c) ?_)
      refine Ops.step (One.val rfl rfl rfl (yld_move rfl (ev_t rfl)) ?_)
      refine Ops.step (One.val (gd_some rfl rfl) rfl rfl (yld_field fi26_4 rfl (ev_t rfl)) ?_)
      refine Ops.step (One.val (gd_some rfl rfl) rfl rfl (yld_load1 on24 rfl (ev_g rfl) (fun _ => F9.cell 0 rfl rfl)) ?_)
      refine Ops.step (One.val (gd_some rfl rfl) rfl rfl (yld_len sl24 rfl (ev_g rfl)) ?_)
      refine Ops.step (One.val (gd_some rfl rfl) rfl rfl (yld_neq rfl (ev_g rfl) ev_c) ?_)
      refine Ops.step (One.val rfl rfl rfl (yld_or rfl (ev_t rfl) (ev_g rfl)) ?_)
      refine Ops.step (One.val rfl rfl rfl (yld_move rfl (ev_t rfl)) ?_)
      refine Ops.step (One.val (gd_some rfl rfl) rfl rfl (yld_field fi26_4 rfl (ev_t rfl)) ?_)
      refine Ops.step (One.val (gd_some rfl rfl) rfl rfl (yld_load1 on24 rfl (ev_g rfl) (fun _ => F9.cell 0 rfl rfl)) ?_)
      refine Ops.step (One.val (gd_some rfl rfl) rfl rfl (yld_indexG (b := b0) (q := o0) (i := 0) sl24 rfl (ev_g rfl) ev_c (fun hg => (htwo (by simp [gof] at hg; omega)).1) (fun hg => by simp [gof] at hg; omega)) ?_)
      refine Ops.step (One.val (gd_some rfl rfl) rfl rfl (yld_field fi26_0 rfl (ev_g rfl)) ?_)
      refine Ops.step (One.val (gd_some rfl rfl) rfl rfl (yld_load1 on3 rfl (ev_g rfl) (fun hg => rangeAt_cell (rng (htwo (by simp [gof] at hg; omega)).2.1 F9.chg) (j := 0) rfl)) ?_)
      refine Ops.step (One.val (gd_some rfl rfl) rfl rfl (yld_neq rfl (ev_g rfl) ev_c) ?_)
      refine Ops.step (One.val rfl rfl rfl (yld_or rfl (ev_t rfl) (ev_g rfl)) ?_)
      refine Ops.nil fun a hS => ?_
      refine hK14 _ _ ?_ a hS
      refine Cod.cond rfl (fun hc40 => ?_) (fun hc40 => ?_)
      · skip
        have hnp : ¬ pairB (.mk kk nn ss kks ll) = true := fun hp => by
          unfold pairB at hp
          simp only [Bool.and_eq_true, decide_eq_true_eq] at hp
          obtain ⟨⟨hp1, hp2⟩, hp3⟩ := hp
          change kk = 5 at hp1
          change ll.length = 2 at hp2
          change (ll.getD 0 zeroT).kind = 4 at hp3
          have hc : (((kk != 5) || ((ll.length : Int) != 2)) || ((ll.getD 0 zeroT).kind != 4)) = true := hc40
          rw [hp1, hp2, hp3] at hc
          simp at hc
        have hno : rowKeysR t = none := by
          unfold rowKeysR
          rw [if_pos hrow, hrk, hrkd, if_neg hnp]
          rfl
        refine Cod.seq fun K15 hK15 => ?_
        refine Cod.region ?_
        refine Ops.step (One.val rfl rfl rfl (yld_build (cells := [.int .i64 0, .int .i64 0, .string ⟨#[]⟩, .slice none 0 0, .slice none 0 0]) rfl (evp0) (by kernel_rfl)) ?_)
        refine Ops.step (One.storeN (vs := [_, _, _, _, _]) F9 4 rfl sz26 rfl rfl rfl (ev_t rfl) (ev_t rfl) rfl rfl rfl ?_)
        intro w10 F10
        change Fr _ _ [blk _ _ [_, _, _, _, _], _, _, blk _ _ [_, _, _, _, _], blk _ _ [_, _, _, _, _], blk _ _ [_, _, _, _, _]] _ at F10
        refine Ops.step (One.val rfl rfl rfl (yld_assign rfl ev_c) ?_)
        refine Ops.nil fun a hS => ?_
        refine hK15 _ _ ?_ a hS
        refine Cod.ret fun a hS => ?_
        try simp only [Exit.then, Exit.inBlock]
        exact retct (t := 2) (u := 3) (ty := 26) rfl hS ag26 rfl rfl (F10.range (m := 5) (cs' := [_, _, _, _, _]) 4 rfl rfl) rfl ⟨z5, No, by rw [hno]; rfl, F10.chg, by rw [hno]; exact sep_leaf _ 0 0 ⟨#[]⟩, fun k hk => hk.elim⟩
      · skip
        have hc : (((kk != 5) || ((ll.length : Int) != 2)) || ((ll.getD 0 zeroT).kind != 4)) = false := hc40
        simp only [Bool.or_eq_false_iff, bne_eq_false_iff_eq] at hc
        obtain ⟨⟨hk5, hl2⟩, hk4⟩ := hc
        have hl2 : ll.length = 2 := by omega
        obtain ⟨rfl, hp0, hp1, hyy⟩ := htwo hl2
        rw [if_pos (by unfold pairB; rw [show (Tr.mk kk nn ss kks ll).kind = 5 from hk5, show (Tr.mk kk nn ss kks ll).list.length = 2 from hl2, show ((Tr.mk kk nn ss kks ll).list.getD 0 zeroT).kind = 4 from hk4]; rfl)] at hrkd
        have hgd2 := hgd.step hokp hfp hl2
        have hlek := hgd.le
        refine Cod.skip fun a hS => ?_
        refine hK13 _ _ ?_ a hS
        have F11 := F9.drew
        refine Cod.draw (C_of (F11.erase 3)) (by kernel_rfl) ?_
        refine Hops.take 1 rfl (by kernel_rfl) (fun _ _ _ h => h) rfl rfl rfl (F11.erase 3) (fun w F => (yld_field fi26_4 rfl (ev_t rfl))) ?_
        refine Hops.take 2 rfl (by kernel_rfl) (fun _ _ _ h => h) rfl rfl rfl (F11.erase 3) (fun w F => (yld_load1 on24 rfl (ev_t rfl) (fun _ => F.cell 0 rfl rfl))) ?_
        refine Hops.take 3 rfl (by kernel_rfl) (fun _ _ _ h => h) rfl rfl rfl (F11.erase 3) (fun w F => (yld_indexN (i := 0) sl24 rfl (ev_t rfl) ev_c (fun _ => by omega))) ?_
        refine Hops.take 4 rfl (by kernel_rfl) (fun _ _ _ h => h) rfl rfl rfl (F11.erase 3) (fun w F => (yld_field fi26_2 rfl (ev_t rfl))) ?_
        refine Hops.take 5 rfl (by kernel_rfl) (fun _ _ _ h => h) rfl rfl rfl (F11.erase 3) (fun w F => (yld_load1 on9 rfl (ev_t rfl) (fun _ => rangeAt_cell (rng hp0 F.chg) (j := 2) rfl))) ?_
        refine Hops.take 6 rfl (by kernel_rfl) (fun _ _ _ h => h) rfl rfl rfl (F11.erase 3) (fun w F => (yld_field fi26_4 rfl (ev_t rfl))) ?_
        refine Hops.take 7 rfl (by kernel_rfl) (fun _ _ _ h => h) rfl rfl rfl (F11.erase 3) (fun w F => (yld_load1 on24 rfl (ev_t rfl) (fun _ => F.cell 0 rfl rfl))) ?_
        refine Hops.take 8 rfl (by kernel_rfl) (fun _ _ _ h => h) rfl rfl rfl (F11.erase 3) (fun w F => (yld_indexN (i := 1) sl24 rfl (ev_t rfl) ev_c (fun _ => by omega))) ?_
        refine Hops.take 9 rfl (by kernel_rfl) (fun _ _ _ h => h) rfl rfl rfl (F11.erase 3) (fun w F => (yld_loadN ag26 rfl (ev_t rfl) (fun _ => rng hp1 F.chg) rfl)) ?_
        refine Hops.one 0 rfl (by kernel_rfl) (One.val rfl rfl rfl (yld_loadN ag26 rfl (ev_t rfl) (fun _ => F11.range (m := 5) (cs' := [_, _, _, _, _]) 3 rfl rfl) rfl) ?_)
        refine ⟨(F11.erase 3), ?_⟩
        refine Hops.one 10 rfl (by kernel_rfl) (One.call rfl rfl rfl (ent_f rfl (evl3 (ev_t rfl) (ev_t rfl) (ev_t rfl)) (enters en92)) (l2Put_ct (.mk 6 0 ⟨#[]⟩ ks l) (vOf (.mk kk nn ss kks ll)) (kOf (.mk kk nn ss kks ll)) ys _ yy w _ ⟨A3, c3, A5, c5, by show _ = Value.agg #[_, _, _, _, .slice A5 l.length c5]; rw [← hyl]; rfl, ownS (F11.get 2 rfl), by rw [show (Tr.mk 6 0 ⟨#[]⟩ ks l).list.length = ys.length from hyl.symm]; exact (own_rep (enc := enc5) (sz := 5) (fun _ => rfl) (F11.get 1 rfl)).weak fun _ _ => trivial, hal⟩ hyy hgd.so hgd.len (by show ks.length ≤ _; omega)) (fun e w11 hw11 => ?_))
        obtain ⟨ku2, lu2, ys2, rfl, C11, hok2, hol2, hal2, hkb, hlb, hkl2⟩ := hw11
        have F12 := F11.new2 C11 (own _ 5 lu2 ys2.length _) (own _ 1 ku2 _ _) hol2 hok2 hlb hkb (fun k h1 h2 => hkl2 k h2 h1)
        refine ⟨_, rfl, ?_⟩
        refine ⟨((F12.erase 5).erase 1).drop1, ?_⟩
        refine Hops.one 11 rfl (by kernel_rfl) (One.storeN (vs := [_, _, _, _, _]) F12 5 rfl sz26 rfl rfl rfl (ev_t rfl) (ev_t rfl) rfl rfl (one5 (own_one (F12.get 1 rfl)) (own_one (F12.get 0 rfl))) ?_)
        intro w12 F13
        refine ⟨((F13.erase 5).erase 1).drop1, ?_⟩
        change Fr _ _ [_, _, blk _ _ [_, _, _, _, _], _, _, blk _ _ [_, _, _, _, _], blk _ _ [_, _, _, _, _], blk _ _ [_, _, _, _, _]] _ at F13
        refine Hops.nil (by kernel_rfl) fun a hS => ?_
        refine hK11 _ _ ?_ a hS
        refine Cod.region ?_
        refine Ops.step (One.val rfl rfl rfl (yld_move rfl (ev_t rfl)) ?_)
        refine Ops.step (One.val rfl rfl rfl (yld_inc rfl (ev_t rfl) (fun _ => by omega)) ?_)
        refine Ops.step (One.val rfl rfl rfl (yld_assign rfl (ev_t rfl)) ?_)
        refine Ops.nil fun a hS => ?_
        have F14 := F13.pull 7 rfl
        have F15 := F14.pull 7 rfl
        have F16 := F15.pull 7 rfl
        have F17 := F16.pull 4 rfl
        have F18 := F17.pull 4 rfl
        have F19 := F18.erase 5
        have F20 := F19.erase 5
        have F21 := F20.erase 5
        refine hK8 (i + 1, _, _, ys2, ku2, lu2) _ a (hS.sub ⟨rfl, rfl, rfl, rfl, trivial⟩) ⟨by show i + 1 ≤ _; omega, by rw [hrk, hrkd]; rfl, hgd2, hal2, F21⟩ (by show t.list.length - (i + 1) < t.list.length - i; omega)
    · skip
      obtain rfl : i = t.list.length := by simp at hc16; omega
      rw [List.drop_length] at hrk
      have hR : rowKeysR t = toldR true (.mk 6 0 ⟨#[]⟩ ks l) := by unfold rowKeysR; rw [if_pos hrow, hrk]; rfl
      obtain ⟨hTf, hTw⟩ := hgd.bd (by omega)
      refine Cod.exit fun a hS => ?_
      simp only [Exit.then, Exit.inBlock, ↓reduceIte]
      refine hK6 _ _ ?_ a hS
      refine Cod.seq fun K16 hK16 => ?_
      refine Cod.region ?_
      refine Ops.step (One.val rfl rfl rfl (yld_loadN ag26 rfl (ev_t rfl) (fun _ => F7.range (m := 5) (cs' := [_, _, _, _, _]) 2 rfl rfl) rfl) ?_)
      refine Ops.step (One.call rfl rfl rfl (ent_f rfl (evl1 (ev_t rfl)) (enters en79)) (l2Told_ct (.mk 6 0 ⟨#[]⟩ ks l) _ _ (Rep.close (ownS (F7.get 1 rfl)) ((hal.chg F7.chg).repL (F7.get 0 rfl))) hTf hTw) (fun e w13 hw13 => ?_))
      obtain ⟨x1, G1, rfl, C13, hs1, hb1⟩ := hw13
      have F22 := F7.new C13 (sep G1 _ x1.val) hs1 hb1
      refine ⟨_, rfl, ?_⟩
      refine Ops.step (One.val rfl rfl rfl (yld_extract rfl (ev_t rfl) rfl) ?_)
      refine Ops.step (One.val rfl rfl rfl (yld_extract rfl (ev_t rfl) rfl) ?_)
      refine Ops.step (One.storeN (vs := [_, _, _, _, _]) F22 4 rfl sz26 rfl rfl rfl (ev_t rfl) (ev_t rfl) rfl rfl hs1.one ?_)
      intro w14 F23
      change Fr _ _ [_, _, _, blk _ _ [_, _, _, _, _], blk _ _ [_, _, _, _, _], blk _ _ [_, _, _, _, _]] _ at F23
      refine Ops.step (One.val rfl rfl rfl (yld_assign rfl (ev_t rfl)) ?_)
      refine Ops.nil fun a hS => ?_
      refine hK16 _ _ ?_ a hS
      refine Cod.ret fun a hS => ?_
      try simp only [Exit.then, Exit.inBlock]
      exact retct (t := 2) (u := 3) (ty := 26) rfl hS ag26 rfl rfl (F23.range (m := 5) (cs' := [_, _, _, _, _]) 4 rfl rfl) rfl ⟨x1, G1, by rw [hR]; rfl, F23.chg, by rw [hR]; exact F23.get 0 rfl, fun b hb => (F23.dom _ (List.mem_of_getElem? (i := 0) rfl) b hb).resolve_left id⟩

end Go.Proofs.Ytmmgobhoakaaaaa.Eng
