/- The walk of spec.PartAdd where the first tree is one by keys; both cases as one. -/
import Derived.Test.YtodbflfelimppaaAdd
namespace Go.Proofs.Ytodbflfelimppaa.Eng
open Go.RowKit
set_option linter.unusedVariables false
set_option linter.unusedSimpArgs false
set_option maxHeartbeats 1000000


theorem Fr.sepOut2 {X : Nat → Prop} {w0 w : World} {L : List Res} {F : Nat → Prop} {t : Tr} {v : Value} (h : Fr X w0 (sep F t v :: L) w) : ∃ u3 u4 F4, v = (x5 t.kind t.num t.str u3 u4).val ∧ Fr X w0 (sepL F4 t.list u4 :: own 9 1 u3 t.keys.length (t.keys.flatMap sCells) :: L) w := by
  obtain ⟨k, n, s, ks, l⟩ := t
  obtain ⟨u3, u4, F4, e, -, h2⟩ := h.sepOut
  exact ⟨u3, u4, F4, e, h2⟩
theorem Fr.sepLOut {X : Nat → Prop} {w0 w : World} {L : List Res} {F : Nat → Prop} {l : List Tr} {v : Value} (h : Fr X w0 (sepL F l v :: L) w) : ∃ xs Fk, xs.length = l.length ∧ Fr X w0 (own 31 5 v xs.length (xs.flatMap enc5) :: kids Fk l xs :: L) w := by
  have hs : SepL w F l v := h.get 0 rfl
  obtain ⟨xs, Fk, h1, h2, h3, h4, h5, h6⟩ := hs
  rw [← h1] at h2
  refine ⟨xs, Fk, h1, h.tell _ ⟨h2, fun k hk q hq hqk => ?_, h3, fun k hk q hq hqk => h.mem.2.1 k (h5 k hk) q hq hqk, h.mem.2.2⟩ fun r hr k hk => ?_⟩
  · rcases List.mem_cons.1 hq with rfl | hq
    · exact (h4 k hk).2 hqk
    · exact h.mem.2.1 k (h4 k hk).1 q hq hqk
  · rcases List.mem_cons.1 hr with rfl | hr
    · exact ⟨sepL F l v, by simp, (h4 k hk).1⟩
    · rcases List.mem_cons.1 hr with rfl | hr
      · exact ⟨sepL F l v, by simp, h5 k hk⟩
      · exact ⟨r, by simp [hr], hk⟩
theorem Kd.al {w : World} {F : Nat → Prop} {l : List Tr} {xs : List V5} (h : Kd w F l xs) (hl : xs.length = l.length) : AL w l xs := ⟨hl, fun j h1 h2 => by
  obtain ⟨x, G, k1, k2, -⟩ := h
  have e := k1 j h1
  rw [List.getElem?_eq_getElem h2] at e
  rw [Option.some.inj e]
  exact (k2 j h1).rep⟩
theorem leaf_eta {t : Tr} (h : okT t = true) : (t.kind ≠ 3 → t.num = 0) ∧ (t.kind ≠ 4 → t.str = ⟨#[]⟩) ∧ (t.kind ≠ 6 → t.keys = []) ∧ (t.kind < 5 → t.list = []) := by
  obtain ⟨k, n, s, ks, l⟩ := t
  have hp := (Form.iff.1 (okT_node h).1).2.1
  exact ⟨hp.z3, hp.z4, hp.z6, hp.z5⟩

set_option maxRecDepth 100000 in
theorem specAddN_ct (t u : Tr) (v vx : Value) (w : World) (hr : Rep Any w t v) (hx : Rep Any w u vx) (hf : t.Fit) (hfx : u.Fit) (hw : t.wt ≤ 1048576) (hwx : u.wt ≤ 1048576) (hn6 : ¬ t.kind = 6) : Calls Try.prog 41 #[v, vx] w (Gives w (addR t u)) := by
  obtain ⟨v3, v4, ev, h3, h4⟩ := hr.form
  subst ev
  obtain ⟨A3, c3, rfl, hn3⟩ := h3.open
  obtain ⟨A4, c4, rfl, hn4⟩ := h4.open
  obtain ⟨u3, u4, eu, k3, k4⟩ := hx.form
  subst eu
  obtain ⟨B3, d3, rfl, hm3⟩ := k3.open
  obtain ⟨B4, d4, rfl, hm4⟩ := k4.open
  refine enter Try.func41 rfl rfl rfl ?_
  have F0 := Fr.start w
  refine Cod.seq fun K1 hK1 => ?_
  refine Cod.region ?_
  refine Ops.step (One.box F0 rfl rfl rfl rfl (ev_t rfl) ?_)
  intro b1 w1 hb1 F1
  change Fr _ _ [blk _ _ [_, _, _, _, _]] _ at F1
  refine Ops.step (One.box F1 rfl rfl rfl rfl (ev_t rfl) ?_)
  intro b2 w2 hb2 F2
  change Fr _ _ [blk _ _ [_, _, _, _, _], blk _ _ [_, _, _, _, _]] _ at F2
  refine Ops.step (One.alloc F2 zero31 rfl rfl rfl rfl ?_)
  intro b3 w3 hb3 F3
  change Fr _ _ [blk _ _ [_, _, _, _, _], blk _ _ [_, _, _, _, _], blk _ _ [_, _, _, _, _]] _ at F3
  refine Ops.step (One.val rfl rfl rfl (yld_assign rfl ev_c) ?_)
  refine Ops.nil fun a hS => ?_
  refine hK1 _ _ ?_ a hS
  refine Cod.seq fun K2 hK2 => ?_
  refine Cod.block ?_
  refine Cod.seq fun K3 hK3 => ?_
  refine Cod.region ?_
  refine Ops.step (One.val rfl rfl rfl (yld_loadN ag31 rfl (ev_t rfl) (fun _ => F3.range (m := 5) (cs' := [_, _, _, _, _]) 2 rfl rfl) rfl) ?_)
  refine Ops.step (One.call rfl rfl rfl (ent_f rfl (evl1 (ev_t rfl)) (enters en42)) (specOk_ct t _ _ (hr.chg F3.chg) hf hw) (fun e w4 hw4 => ?_))
  obtain ⟨rfl, C4⟩ := hw4
  have F4 := F3.call C4
  refine ⟨_, rfl, ?_⟩
  refine Ops.step (One.val rfl rfl rfl (yld_not rfl (ev_t rfl)) ?_)
  refine Ops.step (One.val rfl rfl rfl (yld_move rfl (ev_t rfl)) ?_)
  refine Ops.step (One.val (gd_some rfl rfl) rfl rfl (yld_loadN ag31 rfl (ev_t rfl) (fun _ => F4.range (m := 5) (cs' := [_, _, _, _, _]) 1 rfl rfl) rfl) ?_)
  refine Ops.step (One.gcall (R := Chg No w4) (gd_some rfl rfl) rfl rfl (ent_f rfl (evl1 (ev_g rfl)) (enters en42)) (Chg.refl _ _) (fun hg => specOk_ct u _ _ (hx.chg F4.chg) hfx hwx) ?_)
  intro w5 C5
  have F5 := F4.call C5
  refine Ops.step (One.val (gd_some rfl rfl) rfl rfl (yld_not rfl (ev_g rfl)) ?_)
  refine Ops.step (One.val rfl rfl rfl (yld_or rfl (ev_t rfl) (ev_g rfl)) ?_)
  refine Ops.step (One.val rfl rfl rfl (yld_assign rfl (ev_t rfl)) ?_)
  refine Ops.nil fun a hS => ?_
  refine hK3 _ _ ?_ a hS
  refine Cod.cond rfl (fun hc8 => ?_) (fun hc8 => ?_)
  · skip
    have hno : addR t u = none := by
      have hc : (!(okT t) || !(okT u)) = true := hc8
      unfold addR
      rw [if_pos]
      intro h
      rw [h.1, h.2] at hc
      simp at hc
    refine Cod.seq fun K4 hK4 => ?_
    refine Cod.region ?_
    refine Ops.step (One.val rfl rfl rfl (yld_build (cells := [.int .i64 0, .int .i64 0, .string ⟨#[]⟩, .slice none 0 0, .slice none 0 0]) rfl (evp0) (by kernel_rfl)) ?_)
    refine Ops.step (One.storeN (vs := [_, _, _, _, _]) F5 0 rfl sz31 rfl rfl rfl (ev_t rfl) (ev_t rfl) rfl rfl rfl ?_)
    intro w6 F6
    change Fr _ _ [blk _ _ [_, _, _, _, _], blk _ _ [_, _, _, _, _], blk _ _ [_, _, _, _, _]] _ at F6
    refine Ops.step (One.val rfl rfl rfl (yld_assign rfl ev_c) ?_)
    refine Ops.nil fun a hS => ?_
    refine hK4 _ _ ?_ a hS
    refine Cod.ret fun a hS => ?_
    try simp only [Exit.then, Exit.inBlock]
    exact retct (t := 4) (u := 5) (ty := 31) rfl hS ag31 rfl rfl (F6.range (m := 5) (cs' := [_, _, _, _, _]) 0 rfl rfl) rfl ⟨z5, No, by rw [hno]; rfl, F6.chg, by rw [hno]; exact sep_leaf _ 0 0 ⟨#[]⟩, fun k hk => hk.elim⟩
  · skip
    have hc : (!(okT t) || !(okT u)) = false := hc8
    have hok : okT t = true := by
      cases h1 : okT t <;> simp [h1] at hc ⊢
    have hoku : okT u = true := by
      cases h1 : okT u <;> simp [h1] at hc ⊢
    have hl60 := okT_len60 hok
    have hlu60 := okT_len60 hoku
    have hnt := okT_num hok
    have hnu := okT_num hoku
    have hst := okS_le (okT_str hok)
    have hsu := okS_le (okT_str hoku)
    refine Cod.seq fun K5 hK5 => ?_
    refine Cod.region ?_
    refine Ops.step (One.val rfl rfl rfl (yld_field fi31_0 rfl (ev_t rfl)) ?_)
    refine Ops.step (One.val rfl rfl rfl (yld_load1 on3 rfl (ev_t rfl) (fun _ => F5.cell 2 rfl rfl)) ?_)
    refine Ops.step (One.val rfl rfl rfl (yld_eql rfl (ev_t rfl) ev_c) ?_)
    refine Ops.step (One.val rfl rfl rfl (yld_assign rfl (ev_t rfl)) ?_)
    refine Ops.nil fun a hS => ?_
    refine hK5 _ _ ?_ a hS
    refine Cod.cond rfl (fun hc18 => ?_) (fun hc18 => ?_)
    · skip
      have hk0 : t.kind = 0 := by simpa using hc18
      have hyes : addR t u = toldR true u := by
        unfold addR
        rw [if_neg (by rw [hok, hoku]; simp), if_pos hk0]
      refine Cod.seq fun K6 hK6 => ?_
      refine Cod.region ?_
      refine Ops.step (One.val rfl rfl rfl (yld_loadN ag31 rfl (ev_t rfl) (fun _ => F5.range (m := 5) (cs' := [_, _, _, _, _]) 1 rfl rfl) rfl) ?_)
      refine Ops.step (One.call rfl rfl rfl (ent_f rfl (evl1 (ev_t rfl)) (enters en73)) (l1Copy_ct u _ _ (hx.chg F5.chg) (by omega)) (fun e w7 hw7 => ?_))
      obtain ⟨y1, Gy1, rfl, C7, hsy1, hby1⟩ := hw7
      have F7 := F5.new C7 (sep Gy1 u y1.val) hsy1 hby1
      refine ⟨_, rfl, ?_⟩
      refine Ops.step (One.storeN (vs := [_, _, _, _, _]) F7 1 rfl sz31 rfl rfl rfl (ev_t rfl) (ev_t rfl) rfl rfl hsy1.one ?_)
      intro w8 F8
      change Fr _ _ [_, blk _ _ [_, _, _, _, _], blk _ _ [_, _, _, _, _], blk _ _ [_, _, _, _, _]] _ at F8
      refine Ops.step (One.val rfl rfl rfl (yld_assign rfl ev_c) ?_)
      refine Ops.nil fun a hS => ?_
      refine hK6 _ _ ?_ a hS
      refine Cod.ret fun a hS => ?_
      try simp only [Exit.then, Exit.inBlock]
      exact retct (t := 4) (u := 5) (ty := 31) rfl hS ag31 rfl rfl (F8.range (m := 5) (cs' := [_, _, _, _, _]) 1 rfl rfl) rfl ⟨y1, Gy1, by rw [hyes, toldR_true hoku]; rfl, F8.chg, by rw [hyes, toldR_true hoku]; exact F8.get 0 rfl, fun b hb => (F8.dom _ (List.mem_of_getElem? (i := 0) rfl) b hb).resolve_left id⟩
    · skip
      have hk0 : ¬ t.kind = 0 := by simpa using hc18
      refine Cod.seq fun K7 hK7 => ?_
      refine Cod.region ?_
      refine Ops.step (One.val rfl rfl rfl (yld_field fi31_0 rfl (ev_t rfl)) ?_)
      refine Ops.step (One.val rfl rfl rfl (yld_load1 on3 rfl (ev_t rfl) (fun _ => F5.cell 1 rfl rfl)) ?_)
      refine Ops.step (One.val rfl rfl rfl (yld_eql rfl (ev_t rfl) ev_c) ?_)
      refine Ops.step (One.val rfl rfl rfl (yld_assign rfl (ev_t rfl)) ?_)
      refine Ops.nil fun a hS => ?_
      refine hK7 _ _ ?_ a hS
      refine Cod.cond rfl (fun hc24 => ?_) (fun hc24 => ?_)
      · skip
        have hu0 : u.kind = 0 := by simpa using hc24
        have hyes : addR t u = toldR true t := by
          unfold addR
          rw [if_neg (by rw [hok, hoku]; simp), if_neg hk0, if_pos hu0]
        refine Cod.seq fun K8 hK8 => ?_
        refine Cod.region ?_
        refine Ops.step (One.val rfl rfl rfl (yld_loadN ag31 rfl (ev_t rfl) (fun _ => F5.range (m := 5) (cs' := [_, _, _, _, _]) 2 rfl rfl) rfl) ?_)
        refine Ops.step (One.call rfl rfl rfl (ent_f rfl (evl1 (ev_t rfl)) (enters en73)) (l1Copy_ct t _ _ (hr.chg F5.chg) (by omega)) (fun e w9 hw9 => ?_))
        obtain ⟨y1, Gy1, rfl, C9, hsy1, hby1⟩ := hw9
        have F9 := F5.new C9 (sep Gy1 t y1.val) hsy1 hby1
        refine ⟨_, rfl, ?_⟩
        refine Ops.step (One.storeN (vs := [_, _, _, _, _]) F9 1 rfl sz31 rfl rfl rfl (ev_t rfl) (ev_t rfl) rfl rfl hsy1.one ?_)
        intro w10 F10
        change Fr _ _ [_, blk _ _ [_, _, _, _, _], blk _ _ [_, _, _, _, _], blk _ _ [_, _, _, _, _]] _ at F10
        refine Ops.step (One.val rfl rfl rfl (yld_assign rfl ev_c) ?_)
        refine Ops.nil fun a hS => ?_
        refine hK8 _ _ ?_ a hS
        refine Cod.ret fun a hS => ?_
        try simp only [Exit.then, Exit.inBlock]
        exact retct (t := 4) (u := 5) (ty := 31) rfl hS ag31 rfl rfl (F10.range (m := 5) (cs' := [_, _, _, _, _]) 1 rfl rfl) rfl ⟨y1, Gy1, by rw [hyes, toldR_true hok]; rfl, F10.chg, by rw [hyes, toldR_true hok]; exact F10.get 0 rfl, fun b hb => (F10.dom _ (List.mem_of_getElem? (i := 0) rfl) b hb).resolve_left id⟩
      · skip
        have hu0 : ¬ u.kind = 0 := by simpa using hc24
        refine Cod.seq fun K9 hK9 => ?_
        refine Cod.region ?_
        refine Ops.step (One.val rfl rfl rfl (yld_field fi31_0 rfl (ev_t rfl)) ?_)
        refine Ops.step (One.val rfl rfl rfl (yld_load1 on3 rfl (ev_t rfl) (fun _ => F5.cell 2 rfl rfl)) ?_)
        refine Ops.step (One.val rfl rfl rfl (yld_field fi31_0 rfl (ev_t rfl)) ?_)
        refine Ops.step (One.val rfl rfl rfl (yld_load1 on3 rfl (ev_t rfl) (fun _ => F5.cell 1 rfl rfl)) ?_)
        refine Ops.step (One.val rfl rfl rfl (yld_neq rfl (ev_t rfl) (ev_t rfl)) ?_)
        refine Ops.step (One.val rfl rfl rfl (yld_assign rfl (ev_t rfl)) ?_)
        refine Ops.nil fun a hS => ?_
        refine hK9 _ _ ?_ a hS
        refine Cod.cond rfl (fun hc30 => ?_) (fun hc30 => ?_)
        · skip
          have hne : t.kind ≠ u.kind := by simpa using hc30
          have hno : addR t u = none := by
            unfold addR
            rw [if_neg (by rw [hok, hoku]; simp), if_neg hk0, if_neg hu0, if_pos hne]
          refine Cod.seq fun K10 hK10 => ?_
          refine Cod.region ?_
          refine Ops.step (One.val rfl rfl rfl (yld_build (cells := [.int .i64 0, .int .i64 0, .string ⟨#[]⟩, .slice none 0 0, .slice none 0 0]) rfl (evp0) (by kernel_rfl)) ?_)
          refine Ops.step (One.storeN (vs := [_, _, _, _, _]) F5 0 rfl sz31 rfl rfl rfl (ev_t rfl) (ev_t rfl) rfl rfl rfl ?_)
          intro w11 F11
          change Fr _ _ [blk _ _ [_, _, _, _, _], blk _ _ [_, _, _, _, _], blk _ _ [_, _, _, _, _]] _ at F11
          refine Ops.step (One.val rfl rfl rfl (yld_assign rfl ev_c) ?_)
          refine Ops.nil fun a hS => ?_
          refine hK10 _ _ ?_ a hS
          refine Cod.ret fun a hS => ?_
          try simp only [Exit.then, Exit.inBlock]
          exact retct (t := 4) (u := 5) (ty := 31) rfl hS ag31 rfl rfl (F11.range (m := 5) (cs' := [_, _, _, _, _]) 0 rfl rfl) rfl ⟨z5, No, by rw [hno]; rfl, F11.chg, by rw [hno]; exact sep_leaf _ 0 0 ⟨#[]⟩, fun k hk => hk.elim⟩
        · skip
          have hke : t.kind = u.kind := by simpa using hc30
          refine Cod.skip fun a hS => ?_
          refine hK2 _ _ ?_ a hS
          refine Cod.seq fun K11 hK11 => ?_
          refine Cod.region ?_
          refine Ops.step (One.val rfl rfl rfl (yld_loadN ag31 rfl (ev_t rfl) (fun _ => F5.range (m := 5) (cs' := [_, _, _, _, _]) 2 rfl rfl) rfl) ?_)
          refine Ops.step (One.call rfl rfl rfl (ent_f rfl (evl1 (ev_t rfl)) (enters en73)) (l1Copy_ct t _ _ (hr.chg F5.chg) (by omega)) (fun e w12 hw12 => ?_))
          obtain ⟨y1, Gy1, rfl, C12, hsy1, hby1⟩ := hw12
          have F12_ := F5.new C12 (sep Gy1 t y1.val) hsy1 hby1
          obtain ⟨u3, u4, F4, hye, F12⟩ := F12_.sepOut2
          obtain rfl := V5.inj hye
          have hone1 := hsy1.one
          refine ⟨_, rfl, ?_⟩
          refine Ops.step (One.alloc F12 zero31 rfl rfl rfl rfl ?_)
          intro b4 w13 hb4 F13
          change Fr _ _ [blk _ _ [_, _, _, _, _], _, _, blk _ _ [_, _, _, _, _], blk _ _ [_, _, _, _, _], blk _ _ [_, _, _, _, _]] _ at F13
          refine Ops.step (One.storeN (vs := [_, _, _, _, _]) F13 0 rfl sz31 rfl rfl rfl (ev_t rfl) (ev_t rfl) rfl rfl hone1 ?_)
          intro w14 F14
          change Fr _ _ [blk _ _ [_, _, _, _, _], _, _, blk _ _ [_, _, _, _, _], blk _ _ [_, _, _, _, _], blk _ _ [_, _, _, _, _]] _ at F14
          refine Ops.nil fun a hS => ?_
          refine hK11 _ _ ?_ a hS
          refine Cod.seq fun K12 hK12 => ?_
          refine Cod.seq fun K13 hK13 => ?_
          refine Cod.region ?_
          refine Ops.step (One.val rfl rfl rfl (yld_field fi31_0 rfl (ev_t rfl)) ?_)
          refine Ops.step (One.val rfl rfl rfl (yld_load1 on3 rfl (ev_t rfl) (fun _ => F14.cell 5 rfl rfl)) ?_)
          refine Ops.nil fun a hS => ?_
          refine hK13 _ _ ?_ a hS
          refine Cod.block ?_
          refine Cod.seq fun K14 hK14 => ?_
          refine Cod.region ?_
          refine Ops.step (One.val rfl rfl rfl (yld_eql rfl (ev_t rfl) ev_c) ?_)
          refine Ops.step (One.val rfl rfl rfl (yld_assign rfl (ev_t rfl)) ?_)
          refine Ops.nil fun a hS => ?_
          refine hK14 _ _ ?_ a hS
          refine Cod.cond rfl (fun hc42 => ?_) (fun hc42 => ?_)
          · skip
            have hk : t.kind = 3 := by simpa using hc42
            obtain ⟨-, z4, z6, z5⟩ := leaf_eta hok
            obtain ⟨TT, hTT⟩ : ∃ TT, TT = Tr.mk t.kind (t.num + u.num) t.str t.keys t.list := ⟨_, rfl⟩
            have hTe : TT = numT (t.num + u.num) := by rw [hTT, z4 (by omega), z6 (by omega), z5 (by omega), hk]; rfl
            have hTf : TT.Fit := by rw [hTe]; exact leaf_fit 3 _ (by decide)
            have hTw : TT.wt ≤ 1048576 := by rw [hTe]; exact leaf_wt 3 _ (by decide)
            have hyes : addR t u = toldR true TT := by
              unfold addR
              rw [if_neg (by rw [hok, hoku]; simp), if_neg hk0, if_neg hu0, if_neg (by omega), if_pos hk, hTe]
            refine Cod.region ?_
            refine Ops.step (One.val rfl rfl rfl (yld_field fi31_1 rfl (ev_t rfl)) ?_)
            refine Ops.step (One.val rfl rfl rfl (yld_load1 on3 rfl (ev_t rfl) (fun _ => F14.cell 5 rfl rfl)) ?_)
            refine Ops.step (One.val rfl rfl rfl (yld_field fi31_1 rfl (ev_t rfl)) ?_)
            refine Ops.step (One.val rfl rfl rfl (yld_load1 on3 rfl (ev_t rfl) (fun _ => F14.cell 4 rfl rfl)) ?_)
            refine Ops.step (One.val rfl rfl rfl (yld_add rfl (ev_t rfl) (ev_t rfl) (fun _ => by omega)) ?_)
            refine Ops.step (One.val rfl rfl rfl (yld_field fi31_1 rfl (ev_t rfl)) ?_)
            refine Ops.step (One.store1 F14 0 rfl sz3 rfl rfl rfl (ev_t rfl) rfl (ev_t rfl) rfl ?_)
            intro w15 F15
            change Fr _ _ [blk _ _ [_, _, _, _, _], _, _, blk _ _ [_, _, _, _, _], blk _ _ [_, _, _, _, _], blk _ _ [_, _, _, _, _]] _ at F15
            refine Ops.nil fun a hS => ?_
            refine hK12 _ _ ?_ a hS
            refine Cod.seq fun K15 hK15 => ?_
            refine Cod.region ?_
            refine Ops.step (One.val rfl rfl rfl (yld_loadN ag31 rfl (ev_t rfl) (fun _ => F15.range (m := 5) (cs' := [_, _, _, _, _]) 0 rfl rfl) rfl) ?_)
            refine Ops.step (One.call rfl rfl rfl (ent_f rfl (evl1 (ev_t rfl)) (enters en91)) (l2Told_ct TT _ _ (by rw [hTT]; exact Rep.close (ownS (F15.get 2 rfl)) ((F15.get 1 rfl : SepL _ _ _ _).rep)) hTf hTw) (fun e w16 hw16 => ?_))
            obtain ⟨x1, G1, rfl, C16, hs1, hb1⟩ := hw16
            have F16 := F15.new C16 (sep G1 _ x1.val) hs1 hb1
            refine ⟨_, rfl, ?_⟩
            refine Ops.step (One.val rfl rfl rfl (yld_extract rfl (ev_t rfl) rfl) ?_)
            refine Ops.step (One.val rfl rfl rfl (yld_extract rfl (ev_t rfl) rfl) ?_)
            refine Ops.step (One.storeN (vs := [_, _, _, _, _]) F16 4 rfl sz31 rfl rfl rfl (ev_t rfl) (ev_t rfl) rfl rfl hs1.one ?_)
            intro w17 F17
            change Fr _ _ [_, blk _ _ [_, _, _, _, _], _, _, blk _ _ [_, _, _, _, _], blk _ _ [_, _, _, _, _], blk _ _ [_, _, _, _, _]] _ at F17
            refine Ops.step (One.val rfl rfl rfl (yld_assign rfl (ev_t rfl)) ?_)
            refine Ops.nil fun a hS => ?_
            refine hK15 _ _ ?_ a hS
            refine Cod.ret fun a hS => ?_
            try simp only [Exit.then, Exit.inBlock]
            exact retct (t := 4) (u := 5) (ty := 31) rfl hS ag31 rfl rfl (F17.range (m := 5) (cs' := [_, _, _, _, _]) 4 rfl rfl) rfl ⟨x1, G1, by rw [hyes]; rfl, F17.chg, by rw [hyes]; exact F17.get 0 rfl, fun b hb => (F17.dom _ (List.mem_of_getElem? (i := 0) rfl) b hb).resolve_left id⟩
          · skip
            have hk3 : ¬ t.kind = 3 := by simpa using hc42
            refine Cod.seq fun K16 hK16 => ?_
            refine Cod.region ?_
            refine Ops.step (One.val rfl rfl rfl (yld_eql rfl (ev_t rfl) ev_c) ?_)
            refine Ops.step (One.val rfl rfl rfl (yld_assign rfl (ev_t rfl)) ?_)
            refine Ops.nil fun a hS => ?_
            refine hK16 _ _ ?_ a hS
            refine Cod.cond rfl (fun hc50 => ?_) (fun hc50 => ?_)
            · skip
              have hk : t.kind = 4 := by simpa using hc50
              have hsz : (t.str ++ u.str).size ≤ 100 := by rw [ByteArray.size_append]; omega
              obtain ⟨z3, -, z6, z5⟩ := leaf_eta hok
              obtain ⟨TT, hTT⟩ : ∃ TT, TT = Tr.mk t.kind t.num (t.str ++ u.str) t.keys t.list := ⟨_, rfl⟩
              have hTe : TT = strT' (t.str ++ u.str) := by rw [hTT, z3 (by omega), z6 (by omega), z5 (by omega), hk]; rfl
              have hTf : TT.Fit := by rw [hTe]; exact leaf_fit 4 0 hsz
              have hTw : TT.wt ≤ 1048576 := by rw [hTe]; exact leaf_wt 4 0 hsz
              have hyes : addR t u = toldR true TT := by
                unfold addR
                rw [if_neg (by rw [hok, hoku]; simp), if_neg hk0, if_neg hu0, if_neg (by omega), if_neg hk3, if_pos hk, hTe]
              refine Cod.region ?_
              refine Ops.step (One.val rfl rfl rfl (yld_field fi31_2 rfl (ev_t rfl)) ?_)
              refine Ops.step (One.val rfl rfl rfl (yld_load1 on9 rfl (ev_t rfl) (fun _ => F14.cell 5 rfl rfl)) ?_)
              refine Ops.step (One.val rfl rfl rfl (yld_field fi31_2 rfl (ev_t rfl)) ?_)
              refine Ops.step (One.val rfl rfl rfl (yld_load1 on9 rfl (ev_t rfl) (fun _ => F14.cell 4 rfl rfl)) ?_)
              refine Ops.step (One.val rfl rfl rfl (yld_sadd rfl (ev_t rfl) (ev_t rfl) (fun _ => by omega)) ?_)
              refine Ops.step (One.val rfl rfl rfl (yld_field fi31_2 rfl (ev_t rfl)) ?_)
              refine Ops.step (One.store1 F14 0 rfl sz9 rfl rfl rfl (ev_t rfl) rfl (ev_t rfl) rfl ?_)
              intro w18 F18
              change Fr _ _ [blk _ _ [_, _, _, _, _], _, _, blk _ _ [_, _, _, _, _], blk _ _ [_, _, _, _, _], blk _ _ [_, _, _, _, _]] _ at F18
              refine Ops.nil fun a hS => ?_
              refine hK12 _ _ ?_ a hS
              refine Cod.seq fun K17 hK17 => ?_
              refine Cod.region ?_
              refine Ops.step (One.val rfl rfl rfl (yld_loadN ag31 rfl (ev_t rfl) (fun _ => F18.range (m := 5) (cs' := [_, _, _, _, _]) 0 rfl rfl) rfl) ?_)
              refine Ops.step (One.call rfl rfl rfl (ent_f rfl (evl1 (ev_t rfl)) (enters en91)) (l2Told_ct TT _ _ (by rw [hTT]; exact Rep.close (ownS (F18.get 2 rfl)) ((F18.get 1 rfl : SepL _ _ _ _).rep)) hTf hTw) (fun e w19 hw19 => ?_))
              obtain ⟨x1, G1, rfl, C19, hs1, hb1⟩ := hw19
              have F19 := F18.new C19 (sep G1 _ x1.val) hs1 hb1
              refine ⟨_, rfl, ?_⟩
              refine Ops.step (One.val rfl rfl rfl (yld_extract rfl (ev_t rfl) rfl) ?_)
              refine Ops.step (One.val rfl rfl rfl (yld_extract rfl (ev_t rfl) rfl) ?_)
              refine Ops.step (One.storeN (vs := [_, _, _, _, _]) F19 4 rfl sz31 rfl rfl rfl (ev_t rfl) (ev_t rfl) rfl rfl hs1.one ?_)
              intro w20 F20
              change Fr _ _ [_, blk _ _ [_, _, _, _, _], _, _, blk _ _ [_, _, _, _, _], blk _ _ [_, _, _, _, _], blk _ _ [_, _, _, _, _]] _ at F20
              refine Ops.step (One.val rfl rfl rfl (yld_assign rfl (ev_t rfl)) ?_)
              refine Ops.nil fun a hS => ?_
              refine hK17 _ _ ?_ a hS
              refine Cod.ret fun a hS => ?_
              try simp only [Exit.then, Exit.inBlock]
              exact retct (t := 4) (u := 5) (ty := 31) rfl hS ag31 rfl rfl (F20.range (m := 5) (cs' := [_, _, _, _, _]) 4 rfl rfl) rfl ⟨x1, G1, by rw [hyes]; rfl, F20.chg, by rw [hyes]; exact F20.get 0 rfl, fun b hb => (F20.dom _ (List.mem_of_getElem? (i := 0) rfl) b hb).resolve_left id⟩
            · skip
              have hk4 : ¬ t.kind = 4 := by simpa using hc50
              refine Cod.seq fun K18 hK18 => ?_
              refine Cod.region ?_
              refine Ops.step (One.val rfl rfl rfl (yld_eql rfl (ev_t rfl) ev_c) ?_)
              refine Ops.step (One.val rfl rfl rfl (yld_assign rfl (ev_t rfl)) ?_)
              refine Ops.nil fun a hS => ?_
              refine hK18 _ _ ?_ a hS
              refine Cod.cond rfl (fun hc58 => ?_) (fun hc58 => ?_)
              · skip
                have hk : t.kind = 5 := by simpa using hc58
                obtain ⟨z3, z4, z6, -⟩ := leaf_eta hok
                obtain ⟨xu, hxu, halu⟩ := k4.v5
                obtain ⟨hTf0, hTw0⟩ := row_bd hok hoku hf hfx
                have hxul := halu.1
                obtain ⟨TT, hTT⟩ : ∃ TT, TT = Tr.mk t.kind t.num t.str t.keys (t.list ++ u.list) := ⟨_, rfl⟩
                have hTe : TT = .mk 5 0 ⟨#[]⟩ [] (t.list ++ u.list) := by rw [hTT, z3 (by omega), z4 (by omega), z6 (by omega), hk]
                have hTf : TT.Fit := by rw [hTe]; exact hTf0
                have hTw : TT.wt ≤ 1048576 := by rw [hTe]; exact hTw0
                have hyes : addR t u = toldR true TT := by
                  unfold addR
                  rw [if_neg (by rw [hok, hoku]; simp), if_neg hk0, if_neg hu0, if_neg (by omega), if_neg hk3, if_neg hk4, if_pos hk, hTe]
                obtain ⟨xs1, Fk1, hxl1, F14⟩ := (F14.pull 1 rfl).sepLOut
                refine Cod.region ?_
                refine Ops.step (One.val rfl rfl rfl (yld_field fi31_4 rfl (ev_t rfl)) ?_)
                refine Ops.step (One.val rfl rfl rfl (yld_load1 on29 rfl (ev_t rfl) (fun _ => F14.cell 2 rfl rfl)) ?_)
                refine Ops.step (One.val rfl rfl rfl (yld_field fi31_4 rfl (ev_t rfl)) ?_)
                refine Ops.step (One.val rfl rfl rfl (yld_load1 on29 rfl (ev_t rfl) (fun _ => F14.cell 5 rfl rfl)) ?_)
                refine Ops.step (One.append (enc := enc5) xu F14 0 rfl sl29 zero31 rfl rfl (fun _ => rfl) rfl rfl rfl rfl (ev_t rfl) (ev_t rfl) (hxu.chg F14.chg) halu.cells (by omega) (by omega) ?_)
                intro u5 w21 hu5 F21
                change Fr _ _ [_, _, blk _ _ [_, _, _, _, _], _, blk _ _ [_, _, _, _, _], blk _ _ [_, _, _, _, _], blk _ _ [_, _, _, _, _]] _ at F21
                refine Ops.step (One.val rfl rfl rfl (yld_field fi31_4 rfl (ev_t rfl)) ?_)
                refine Ops.step (One.store1 F21 2 rfl sz29 rfl rfl rfl (ev_t rfl) rfl (ev_t rfl) (own_one (F21.get 0 rfl)) ?_)
                intro w22 F22
                change Fr _ _ [_, _, blk _ _ [_, _, _, _, _], _, blk _ _ [_, _, _, _, _], blk _ _ [_, _, _, _, _], blk _ _ [_, _, _, _, _]] _ at F22
                refine Ops.nil fun a hS => ?_
                refine hK12 _ _ ?_ a hS
                refine Cod.seq fun K19 hK19 => ?_
                refine Cod.region ?_
                refine Ops.step (One.val rfl rfl rfl (yld_loadN ag31 rfl (ev_t rfl) (fun _ => F22.range (m := 5) (cs' := [_, _, _, _, _]) 2 rfl rfl) rfl) ?_)
                refine Ops.step (One.call rfl rfl rfl (ent_f rfl (evl1 (ev_t rfl)) (enters en91)) (l2Told_ct TT _ _ (by rw [hTT]; exact Rep.close (ownS (F22.get 3 rfl)) ((((F22.get 1 rfl : Kd _ _ _ _).al hxl1).append (halu.chg F22.chg)).repL (F22.get 0 rfl))) hTf hTw) (fun e w23 hw23 => ?_))
                obtain ⟨x1, G1, rfl, C23, hs1, hb1⟩ := hw23
                have F23 := F22.new C23 (sep G1 _ x1.val) hs1 hb1
                refine ⟨_, rfl, ?_⟩
                refine Ops.step (One.val rfl rfl rfl (yld_extract rfl (ev_t rfl) rfl) ?_)
                refine Ops.step (One.val rfl rfl rfl (yld_extract rfl (ev_t rfl) rfl) ?_)
                refine Ops.step (One.storeN (vs := [_, _, _, _, _]) F23 5 rfl sz31 rfl rfl rfl (ev_t rfl) (ev_t rfl) rfl rfl hs1.one ?_)
                intro w24 F24
                change Fr _ _ [_, _, _, blk _ _ [_, _, _, _, _], _, blk _ _ [_, _, _, _, _], blk _ _ [_, _, _, _, _], blk _ _ [_, _, _, _, _]] _ at F24
                refine Ops.step (One.val rfl rfl rfl (yld_assign rfl (ev_t rfl)) ?_)
                refine Ops.nil fun a hS => ?_
                refine hK19 _ _ ?_ a hS
                refine Cod.ret fun a hS => ?_
                try simp only [Exit.then, Exit.inBlock]
                exact retct (t := 4) (u := 5) (ty := 31) rfl hS ag31 rfl rfl (F24.range (m := 5) (cs' := [_, _, _, _, _]) 5 rfl rfl) rfl ⟨x1, G1, by rw [hyes]; rfl, F24.chg, by rw [hyes]; exact F24.get 0 rfl, fun b hb => (F24.dom _ (List.mem_of_getElem? (i := 0) rfl) b hb).resolve_left id⟩
              · skip
                have hk5 : ¬ t.kind = 5 := by simpa using hc58
                refine Cod.seq fun K20 hK20 => ?_
                refine Cod.region ?_
                refine Ops.step (One.val rfl rfl rfl (yld_eql rfl (ev_t rfl) ev_c) ?_)
                refine Ops.step (One.val rfl rfl rfl (yld_assign rfl (ev_t rfl)) ?_)
                refine Ops.nil fun a hS => ?_
                refine hK20 _ _ ?_ a hS
                refine Cod.cond rfl (fun hc66 => ?_) (fun hc66 => ?_)
                · skip
                  exact absurd (by simpa using hc66) hn6
                · skip
                  have hno : addR t u = none := by
                    unfold addR
                    rw [if_neg (by rw [hok, hoku]; simp), if_neg hk0, if_neg hu0, if_neg (by omega), if_neg hk3, if_neg hk4, if_neg hk5, if_neg hn6]
                  refine Cod.seq fun K21 hK21 => ?_
                  refine Cod.region ?_
                  refine Ops.step (One.val rfl rfl rfl (yld_build (cells := [.int .i64 0, .int .i64 0, .string ⟨#[]⟩, .slice none 0 0, .slice none 0 0]) rfl (evp0) (by kernel_rfl)) ?_)
                  refine Ops.step (One.storeN (vs := [_, _, _, _, _]) F14 3 rfl sz31 rfl rfl rfl (ev_t rfl) (ev_t rfl) rfl rfl rfl ?_)
                  intro w25 F25
                  change Fr _ _ [blk _ _ [_, _, _, _, _], _, _, blk _ _ [_, _, _, _, _], blk _ _ [_, _, _, _, _], blk _ _ [_, _, _, _, _]] _ at F25
                  refine Ops.step (One.val rfl rfl rfl (yld_assign rfl ev_c) ?_)
                  refine Ops.nil fun a hS => ?_
                  refine hK21 _ _ ?_ a hS
                  refine Cod.ret fun a hS => ?_
                  try simp only [Exit.then, Exit.inBlock]
                  exact retct (t := 4) (u := 5) (ty := 31) rfl hS ag31 rfl rfl (F25.range (m := 5) (cs' := [_, _, _, _, _]) 3 rfl rfl) rfl ⟨z5, No, by rw [hno]; rfl, F25.chg, by rw [hno]; exact sep_leaf _ 0 0 ⟨#[]⟩, fun k hk => hk.elim⟩


theorem Fr.chgB {w1 w : World} {L : List Res} {b1 b2 b3 t1 t2 t3 : Nat} {c1 c2 c3 : List Value} (F : Fr (fun k => k = b1 ∨ k = b2 ∨ k = b3) w1 L w) (i j k : Nat) (hi : L[i]? = some (blk b1 t1 c1)) (hj : L[j]? = some (blk b2 t2 c2)) (hk : L[k]? = some (blk b3 t3 c3)) (h1 : (blk b1 t1 c1).is w1) (h2 : (blk b2 t2 c2).is w1) (h3 : (blk b3 t3 c3).is w1) : Chg No w1 w := by
  have c := F.chg
  have g1 : w.heap[b1]? = _ := F.get i hi
  have g2 : w.heap[b2]? = _ := F.get j hj
  have g3 : w.heap[b3]? = _ := F.get k hk
  refine ⟨c.os, c.tape, c.output, c.size, fun q hq _ => ?_⟩
  by_cases hX : q = b1 ∨ q = b2 ∨ q = b3
  · rcases hX with rfl | rfl | rfl
    · exact g1.trans (Eq.symm h1)
    · exact g2.trans (Eq.symm h2)
    · exact g3.trans (Eq.symm h3)
  · exact c.block q hq hX

set_option maxRecDepth 100000 in
theorem specAdd6_ct (t u : Tr) (v vx : Value) (w : World) (hr : Rep Any w t v) (hx : Rep Any w u vx) (hf : t.Fit) (hfx : u.Fit) (hw : t.wt ≤ 1048576) (hwx : u.wt ≤ 1048576) (hk : t.kind = 6) : Calls Try.prog 41 #[v, vx] w (Gives w (addR t u)) := by
  obtain ⟨v3, v4, ev, h3, h4⟩ := hr.form
  subst ev
  obtain ⟨A3, c3, rfl, hn3⟩ := h3.open
  obtain ⟨A4, c4, rfl, hn4⟩ := h4.open
  obtain ⟨u3, u4, eu, k3, k4⟩ := hx.form
  subst eu
  obtain ⟨B3, d3, rfl, hm3⟩ := k3.open
  obtain ⟨B4, d4, rfl, hm4⟩ := k4.open
  refine enter Try.func41 rfl rfl rfl ?_
  have F0 := Fr.start w
  refine Cod.seq fun K1 hK1 => ?_
  refine Cod.region ?_
  refine Ops.step (One.box F0 rfl rfl rfl rfl (ev_t rfl) ?_)
  intro b1 w1 hb1 F1
  change Fr _ _ [blk _ _ [_, _, _, _, _]] _ at F1
  refine Ops.step (One.box F1 rfl rfl rfl rfl (ev_t rfl) ?_)
  intro b2 w2 hb2 F2
  change Fr _ _ [blk _ _ [_, _, _, _, _], blk _ _ [_, _, _, _, _]] _ at F2
  refine Ops.step (One.alloc F2 zero31 rfl rfl rfl rfl ?_)
  intro b3 w3 hb3 F3
  change Fr _ _ [blk _ _ [_, _, _, _, _], blk _ _ [_, _, _, _, _], blk _ _ [_, _, _, _, _]] _ at F3
  refine Ops.step (One.val rfl rfl rfl (yld_assign rfl ev_c) ?_)
  refine Ops.nil fun a hS => ?_
  refine hK1 _ _ ?_ a hS
  refine Cod.seq fun K2 hK2 => ?_
  refine Cod.block ?_
  refine Cod.seq fun K3 hK3 => ?_
  refine Cod.region ?_
  refine Ops.step (One.val rfl rfl rfl (yld_loadN ag31 rfl (ev_t rfl) (fun _ => F3.range (m := 5) (cs' := [_, _, _, _, _]) 2 rfl rfl) rfl) ?_)
  refine Ops.step (One.call rfl rfl rfl (ent_f rfl (evl1 (ev_t rfl)) (enters en42)) (specOk_ct t _ _ (hr.chg F3.chg) hf hw) (fun e w4 hw4 => ?_))
  obtain ⟨rfl, C4⟩ := hw4
  have F4 := F3.call C4
  refine ⟨_, rfl, ?_⟩
  refine Ops.step (One.val rfl rfl rfl (yld_not rfl (ev_t rfl)) ?_)
  refine Ops.step (One.val rfl rfl rfl (yld_move rfl (ev_t rfl)) ?_)
  refine Ops.step (One.val (gd_some rfl rfl) rfl rfl (yld_loadN ag31 rfl (ev_t rfl) (fun _ => F4.range (m := 5) (cs' := [_, _, _, _, _]) 1 rfl rfl) rfl) ?_)
  refine Ops.step (One.gcall (R := Chg No w4) (gd_some rfl rfl) rfl rfl (ent_f rfl (evl1 (ev_g rfl)) (enters en42)) (Chg.refl _ _) (fun hg => specOk_ct u _ _ (hx.chg F4.chg) hfx hwx) ?_)
  intro w5 C5
  have F5 := F4.call C5
  refine Ops.step (One.val (gd_some rfl rfl) rfl rfl (yld_not rfl (ev_g rfl)) ?_)
  refine Ops.step (One.val rfl rfl rfl (yld_or rfl (ev_t rfl) (ev_g rfl)) ?_)
  refine Ops.step (One.val rfl rfl rfl (yld_assign rfl (ev_t rfl)) ?_)
  refine Ops.nil fun a hS => ?_
  refine hK3 _ _ ?_ a hS
  refine Cod.cond rfl (fun hc8 => ?_) (fun hc8 => ?_)
  · skip
    have hno : addR t u = none := by
      have hc : (!(okT t) || !(okT u)) = true := hc8
      unfold addR
      rw [if_pos]
      intro h
      rw [h.1, h.2] at hc
      simp at hc
    refine Cod.seq fun K4 hK4 => ?_
    refine Cod.region ?_
    refine Ops.step (One.val rfl rfl rfl (yld_build (cells := [.int .i64 0, .int .i64 0, .string ⟨#[]⟩, .slice none 0 0, .slice none 0 0]) rfl (evp0) (by kernel_rfl)) ?_)
    refine Ops.step (One.storeN (vs := [_, _, _, _, _]) F5 0 rfl sz31 rfl rfl rfl (ev_t rfl) (ev_t rfl) rfl rfl rfl ?_)
    intro w6 F6
    change Fr _ _ [blk _ _ [_, _, _, _, _], blk _ _ [_, _, _, _, _], blk _ _ [_, _, _, _, _]] _ at F6
    refine Ops.step (One.val rfl rfl rfl (yld_assign rfl ev_c) ?_)
    refine Ops.nil fun a hS => ?_
    refine hK4 _ _ ?_ a hS
    refine Cod.ret fun a hS => ?_
    try simp only [Exit.then, Exit.inBlock]
    exact retct (t := 4) (u := 5) (ty := 31) rfl hS ag31 rfl rfl (F6.range (m := 5) (cs' := [_, _, _, _, _]) 0 rfl rfl) rfl ⟨z5, No, by rw [hno]; rfl, F6.chg, by rw [hno]; exact sep_leaf _ 0 0 ⟨#[]⟩, fun k hk => hk.elim⟩
  · skip
    have hc : (!(okT t) || !(okT u)) = false := hc8
    have hok : okT t = true := by
      cases h1 : okT t <;> simp [h1] at hc ⊢
    have hoku : okT u = true := by
      cases h1 : okT u <;> simp [h1] at hc ⊢
    have hl60 := okT_len60 hok
    have hlu60 := okT_len60 hoku
    have hnt := okT_num hok
    have hnu := okT_num hoku
    have hst := okS_le (okT_str hok)
    have hsu := okS_le (okT_str hoku)
    refine Cod.seq fun K5 hK5 => ?_
    refine Cod.region ?_
    refine Ops.step (One.val rfl rfl rfl (yld_field fi31_0 rfl (ev_t rfl)) ?_)
    refine Ops.step (One.val rfl rfl rfl (yld_load1 on3 rfl (ev_t rfl) (fun _ => F5.cell 2 rfl rfl)) ?_)
    refine Ops.step (One.val rfl rfl rfl (yld_eql rfl (ev_t rfl) ev_c) ?_)
    refine Ops.step (One.val rfl rfl rfl (yld_assign rfl (ev_t rfl)) ?_)
    refine Ops.nil fun a hS => ?_
    refine hK5 _ _ ?_ a hS
    refine Cod.cond rfl (fun hc18 => ?_) (fun hc18 => ?_)
    · skip
      (simp at hc18; omega)
    · skip
      have hk0 : ¬ t.kind = 0 := by simpa using hc18
      refine Cod.seq fun K6 hK6 => ?_
      refine Cod.region ?_
      refine Ops.step (One.val rfl rfl rfl (yld_field fi31_0 rfl (ev_t rfl)) ?_)
      refine Ops.step (One.val rfl rfl rfl (yld_load1 on3 rfl (ev_t rfl) (fun _ => F5.cell 1 rfl rfl)) ?_)
      refine Ops.step (One.val rfl rfl rfl (yld_eql rfl (ev_t rfl) ev_c) ?_)
      refine Ops.step (One.val rfl rfl rfl (yld_assign rfl (ev_t rfl)) ?_)
      refine Ops.nil fun a hS => ?_
      refine hK6 _ _ ?_ a hS
      refine Cod.cond rfl (fun hc24 => ?_) (fun hc24 => ?_)
      · skip
        have hu0 : u.kind = 0 := by simpa using hc24
        have hyes : addR t u = toldR true t := by
          unfold addR
          rw [if_neg (by rw [hok, hoku]; simp), if_neg hk0, if_pos hu0]
        refine Cod.seq fun K7 hK7 => ?_
        refine Cod.region ?_
        refine Ops.step (One.val rfl rfl rfl (yld_loadN ag31 rfl (ev_t rfl) (fun _ => F5.range (m := 5) (cs' := [_, _, _, _, _]) 2 rfl rfl) rfl) ?_)
        refine Ops.step (One.call rfl rfl rfl (ent_f rfl (evl1 (ev_t rfl)) (enters en73)) (l1Copy_ct t _ _ (hr.chg F5.chg) (by omega)) (fun e w7 hw7 => ?_))
        obtain ⟨y1, Gy1, rfl, C7, hsy1, hby1⟩ := hw7
        have F7 := F5.new C7 (sep Gy1 t y1.val) hsy1 hby1
        refine ⟨_, rfl, ?_⟩
        refine Ops.step (One.storeN (vs := [_, _, _, _, _]) F7 1 rfl sz31 rfl rfl rfl (ev_t rfl) (ev_t rfl) rfl rfl hsy1.one ?_)
        intro w8 F8
        change Fr _ _ [_, blk _ _ [_, _, _, _, _], blk _ _ [_, _, _, _, _], blk _ _ [_, _, _, _, _]] _ at F8
        refine Ops.step (One.val rfl rfl rfl (yld_assign rfl ev_c) ?_)
        refine Ops.nil fun a hS => ?_
        refine hK7 _ _ ?_ a hS
        refine Cod.ret fun a hS => ?_
        try simp only [Exit.then, Exit.inBlock]
        exact retct (t := 4) (u := 5) (ty := 31) rfl hS ag31 rfl rfl (F8.range (m := 5) (cs' := [_, _, _, _, _]) 1 rfl rfl) rfl ⟨y1, Gy1, by rw [hyes, toldR_true hok]; rfl, F8.chg, by rw [hyes, toldR_true hok]; exact F8.get 0 rfl, fun b hb => (F8.dom _ (List.mem_of_getElem? (i := 0) rfl) b hb).resolve_left id⟩
      · skip
        have hu0 : ¬ u.kind = 0 := by simpa using hc24
        refine Cod.seq fun K8 hK8 => ?_
        refine Cod.region ?_
        refine Ops.step (One.val rfl rfl rfl (yld_field fi31_0 rfl (ev_t rfl)) ?_)
        refine Ops.step (One.val rfl rfl rfl (yld_load1 on3 rfl (ev_t rfl) (fun _ => F5.cell 2 rfl rfl)) ?_)
        refine Ops.step (One.val rfl rfl rfl (yld_field fi31_0 rfl (ev_t rfl)) ?_)
        refine Ops.step (One.val rfl rfl rfl (yld_load1 on3 rfl (ev_t rfl) (fun _ => F5.cell 1 rfl rfl)) ?_)
        refine Ops.step (One.val rfl rfl rfl (yld_neq rfl (ev_t rfl) (ev_t rfl)) ?_)
        refine Ops.step (One.val rfl rfl rfl (yld_assign rfl (ev_t rfl)) ?_)
        refine Ops.nil fun a hS => ?_
        refine hK8 _ _ ?_ a hS
        refine Cod.cond rfl (fun hc30 => ?_) (fun hc30 => ?_)
        · skip
          have hne : t.kind ≠ u.kind := by simpa using hc30
          have hno : addR t u = none := by
            unfold addR
            rw [if_neg (by rw [hok, hoku]; simp), if_neg hk0, if_neg hu0, if_pos hne]
          refine Cod.seq fun K9 hK9 => ?_
          refine Cod.region ?_
          refine Ops.step (One.val rfl rfl rfl (yld_build (cells := [.int .i64 0, .int .i64 0, .string ⟨#[]⟩, .slice none 0 0, .slice none 0 0]) rfl (evp0) (by kernel_rfl)) ?_)
          refine Ops.step (One.storeN (vs := [_, _, _, _, _]) F5 0 rfl sz31 rfl rfl rfl (ev_t rfl) (ev_t rfl) rfl rfl rfl ?_)
          intro w9 F9
          change Fr _ _ [blk _ _ [_, _, _, _, _], blk _ _ [_, _, _, _, _], blk _ _ [_, _, _, _, _]] _ at F9
          refine Ops.step (One.val rfl rfl rfl (yld_assign rfl ev_c) ?_)
          refine Ops.nil fun a hS => ?_
          refine hK9 _ _ ?_ a hS
          refine Cod.ret fun a hS => ?_
          try simp only [Exit.then, Exit.inBlock]
          exact retct (t := 4) (u := 5) (ty := 31) rfl hS ag31 rfl rfl (F9.range (m := 5) (cs' := [_, _, _, _, _]) 0 rfl rfl) rfl ⟨z5, No, by rw [hno]; rfl, F9.chg, by rw [hno]; exact sep_leaf _ 0 0 ⟨#[]⟩, fun k hk => hk.elim⟩
        · skip
          have hke : t.kind = u.kind := by simpa using hc30
          refine Cod.skip fun a hS => ?_
          refine hK2 _ _ ?_ a hS
          refine Cod.seq fun K10 hK10 => ?_
          refine Cod.region ?_
          refine Ops.step (One.val rfl rfl rfl (yld_loadN ag31 rfl (ev_t rfl) (fun _ => F5.range (m := 5) (cs' := [_, _, _, _, _]) 2 rfl rfl) rfl) ?_)
          refine Ops.step (One.call rfl rfl rfl (ent_f rfl (evl1 (ev_t rfl)) (enters en73)) (l1Copy_ct t _ _ (hr.chg F5.chg) (by omega)) (fun e w10 hw10 => ?_))
          obtain ⟨y1, Gy1, rfl, C10, hsy1, hby1⟩ := hw10
          have hFB := F5.call C10
          have hBw : Chg No w w10 := hFB.chg
          have F10 : Fr (fun k => k = b1 ∨ k = b2 ∨ k = b3) w10 [blk b3 31 [.int .i64 0, .int .i64 0, .string ⟨#[]⟩, .slice none 0 0, .slice none 0 0], blk b2 31 [.int .i64 u.kind, .int .i64 u.num, .string u.str, .slice B3 u.keys.length d3, .slice B4 u.list.length d4], blk b1 31 [.int .i64 t.kind, .int .i64 t.num, .string t.str, .slice A3 t.keys.length c3, .slice A4 t.list.length c4]] w10 := ⟨Chg.refl _ _, hFB.mem, fun r hr k hk => by
            rcases (by simpa using hr : r = _ ∨ r = _ ∨ r = _) with rfl | rfl | rfl
            · exact .inl (.inr (.inr hk))
            · exact .inl (.inr (.inl hk))
            · exact .inl (.inl hk)⟩
          have hq1 := hFB.get 2 rfl
          have hq2 := hFB.get 1 rfl
          have hq3 := hFB.get 0 rfl
          have hd1 : w.heap.size ≤ b1 := (hFB.dom _ (List.mem_of_getElem? (i := 2) rfl) b1 rfl).resolve_left id
          have hd2 : w.heap.size ≤ b2 := (hFB.dom _ (List.mem_of_getElem? (i := 1) rfl) b2 rfl).resolve_left id
          have hd3 : w.heap.size ≤ b3 := (hFB.dom _ (List.mem_of_getElem? (i := 0) rfl) b3 rfl).resolve_left id
          have hone1 := hsy1.one
          obtain ⟨u3, u4, ey, g3, g4⟩ := hsy1.rep.form
          obtain rfl := V5.inj (show y1.val = (x5 t.kind t.num t.str u3 u4).val from ey)
          obtain ⟨C3, e3, rfl, -⟩ := g3.open
          obtain ⟨ys0, hys0, halt⟩ := g4.v5
          obtain ⟨C4, e4, rfl, -⟩ := g4.open
          have hyl0 := halt.1
          refine ⟨_, rfl, ?_⟩
          refine Ops.step (One.alloc F10 zero31 rfl rfl rfl rfl ?_)
          intro b4 w11 hb4 F11
          change Fr _ _ [blk _ _ [_, _, _, _, _], blk _ _ [_, _, _, _, _], blk _ _ [_, _, _, _, _], blk _ _ [_, _, _, _, _]] _ at F11
          refine Ops.step (One.storeN (vs := [_, _, _, _, _]) F11 0 rfl sz31 rfl rfl rfl (ev_t rfl) (ev_t rfl) rfl rfl hone1 ?_)
          intro w12 F12
          change Fr _ _ [blk _ _ [_, _, _, _, _], blk _ _ [_, _, _, _, _], blk _ _ [_, _, _, _, _], blk _ _ [_, _, _, _, _]] _ at F12
          refine Ops.nil fun a hS => ?_
          refine hK10 _ _ ?_ a hS
          refine Cod.seq fun K11 hK11 => ?_
          refine Cod.seq fun K12 hK12 => ?_
          refine Cod.region ?_
          refine Ops.step (One.val rfl rfl rfl (yld_field fi31_0 rfl (ev_t rfl)) ?_)
          refine Ops.step (One.val rfl rfl rfl (yld_load1 on3 rfl (ev_t rfl) (fun _ => F12.cell 3 rfl rfl)) ?_)
          refine Ops.nil fun a hS => ?_
          refine hK12 _ _ ?_ a hS
          refine Cod.block ?_
          refine Cod.seq fun K13 hK13 => ?_
          refine Cod.region ?_
          refine Ops.step (One.val rfl rfl rfl (yld_eql rfl (ev_t rfl) ev_c) ?_)
          refine Ops.step (One.val rfl rfl rfl (yld_assign rfl (ev_t rfl)) ?_)
          refine Ops.nil fun a hS => ?_
          refine hK13 _ _ ?_ a hS
          refine Cod.cond rfl (fun hc42 => ?_) (fun hc42 => ?_)
          · skip
            (simp at hc42; omega)
          · skip
            refine Cod.seq fun K14 hK14 => ?_
            refine Cod.region ?_
            refine Ops.step (One.val rfl rfl rfl (yld_eql rfl (ev_t rfl) ev_c) ?_)
            refine Ops.step (One.val rfl rfl rfl (yld_assign rfl (ev_t rfl)) ?_)
            refine Ops.nil fun a hS => ?_
            refine hK14 _ _ ?_ a hS
            refine Cod.cond rfl (fun hc50 => ?_) (fun hc50 => ?_)
            · skip
              (simp at hc50; omega)
            · skip
              refine Cod.seq fun K15 hK15 => ?_
              refine Cod.region ?_
              refine Ops.step (One.val rfl rfl rfl (yld_eql rfl (ev_t rfl) ev_c) ?_)
              refine Ops.step (One.val rfl rfl rfl (yld_assign rfl (ev_t rfl)) ?_)
              refine Ops.nil fun a hS => ?_
              refine hK15 _ _ ?_ a hS
              refine Cod.cond rfl (fun hc58 => ?_) (fun hc58 => ?_)
              · skip
                (simp at hc58; omega)
              · skip
                refine Cod.seq fun K16 hK16 => ?_
                refine Cod.region ?_
                refine Ops.step (One.val rfl rfl rfl (yld_eql rfl (ev_t rfl) ev_c) ?_)
                refine Ops.step (One.val rfl rfl rfl (yld_assign rfl (ev_t rfl)) ?_)
                refine Ops.nil fun a hS => ?_
                refine hK16 _ _ ?_ a hS
                refine Cod.cond rfl (fun hc66 => ?_) (fun hc66 => ?_)
                · skip
                  have hku : u.kind = 6 := by omega
                  have hlen := okT_len hoku hku
                  have hlent := okT_len hok hk
                  have hte := key_eta2 hok hk
                  have hgd0 := good_of hok hk hf
                  have hyes : addR t u = toldR true (addKL u.keys u.list t.keys t.list) := by
                    unfold addR
                    rw [if_neg (by rw [hok, hoku]; simp), if_neg hk0, if_neg hu0, if_neg (by omega), if_neg (by omega), if_neg (by omega), if_neg (by omega), if_pos hk]
                  rw [hk, hte.1, hte.2] at F12
                  refine Cod.seq fun K17 hK17 => ?_
                  refine Cod.region ?_
                  refine Ops.step (One.val rfl rfl rfl (yld_assign rfl ev_c) ?_)
                  refine Ops.nil fun a hS => ?_
                  refine hK17 _ _ ?_ a hS
                  refine Cod.block ?_
                  refine Cod.loop (fun i : Nat × List ByteArray × List Tr × List V5 × Value × Value => [(3, true, .pointer (some ⟨b2, 0, none⟩)), (4, true, .pointer (some ⟨b3, 0, none⟩)), (6, true, .pointer (some ⟨b4, 0, none⟩)), (7, true, .int .i64 (i.1 : Int))]) (fun i w' => i.1 ≤ u.keys.length ∧ addKL u.keys u.list t.keys t.list = addKL (u.keys.drop i.1) (u.list.drop i.1) i.2.1 i.2.2.1 ∧ Good i.2.1 i.2.2.1 (t.keys.length + i.1) ∧ AL w10 i.2.2.1 i.2.2.2.1 ∧ Fr (fun k => k = b1 ∨ k = b2 ∨ k = b3) w10 [nrow w10 enc5 5 enc5_pos i.2.2.2.1 i.2.2.2.2.2, nrow w10 sCells 1 sC_pos i.2.1 i.2.2.2.2.1, blk b4 31 [.int .i64 6, .int .i64 0, .string ⟨#[]⟩, i.2.2.2.2.1, i.2.2.2.2.2], blk b3 31 [.int .i64 0, .int .i64 0, .string ⟨#[]⟩, .slice none 0 0, .slice none 0 0], blk b2 31 [.int .i64 u.kind, .int .i64 u.num, .string u.str, .slice B3 u.keys.length d3, .slice B4 u.list.length d4], blk b1 31 [.int .i64 t.kind, .int .i64 t.num, .string t.str, .slice A3 t.keys.length c3, .slice A4 t.list.length c4]] w') (fun i => u.keys.length - i.1) (0, t.keys, t.list, ys0, .slice C3 t.keys.length e3, .slice C4 t.list.length e4) ⟨rfl, rfl, rfl, rfl, trivial⟩ ⟨Nat.zero_le _, rfl, hgd0, halt, by rw [hk, hte.1, hte.2]; exact (F12.new (Chg.refl _ _) (nrow w10 sCells 1 sC_pos t.keys (.slice C3 t.keys.length e3)) (.inl g3) (nrow_fp g3 sC_pos)).new (Chg.refl _ _) (nrow w10 enc5 5 enc5_pos ys0 (.slice C4 t.list.length e4)) (.inl hys0) (nrow_fp hys0 enc5_pos)⟩ ?_
                  intro i w13 hW K18 hK18
                  obtain ⟨ix, ks, l, ys, ku, lu⟩ := i
                  obtain ⟨hi0, hak, hgd, hal, F13⟩ := hW
                  dsimp only at *
                  have hcB := F13.chgB 5 4 3 rfl rfl rfl hq1 hq2 hq3
                  have hrk := nrow_rep (F13.get 1 rfl) hcB
                  have hrl := nrow_rep (F13.get 0 rfl) hcB
                  obtain ⟨A6, c6, rfl, -⟩ := hrk.open
                  obtain ⟨A7, c7, rfl, -⟩ := hrl.open
                  have hyl := hal.1
                  have hgl := hgd.len
                  have hgle := hgd.le
                  refine Cod.seq fun K19 hK19 => ?_
                  refine Cod.seq fun K20 hK20 => ?_
                  refine Cod.region ?_
                  refine Ops.step (One.val rfl rfl rfl (yld_move rfl (ev_t rfl)) ?_)
                  refine Ops.step (One.val rfl rfl rfl (yld_field fi31_3 rfl (ev_t rfl)) ?_)
                  refine Ops.step (One.val rfl rfl rfl (yld_load1 on22 rfl (ev_t rfl) (fun _ => F13.cell 4 rfl rfl)) ?_)
                  refine Ops.step (One.val rfl rfl rfl (yld_len sl22 rfl (ev_t rfl)) ?_)
                  refine Ops.step (One.val rfl rfl rfl (yld_lss rfl (ev_t rfl) (ev_t rfl)) ?_)
                  refine Ops.nil fun a hS => ?_
                  refine hK20 _ _ ?_ a hS
                  refine Cod.cond rfl (fun hc72 => ?_) (fun hc72 => ?_)
                  · skip
                    have hi : ix < u.keys.length := by simpa using hc72
                    have hil : ix < u.list.length := by omega
                    obtain ⟨kb, ko, hkB, -, hkr⟩ := k3.at ix hi
                    obtain ⟨lb, lo, xu, hlB, -, hlr, hxu⟩ := at5 k4 ix hil
                    have hgd2 := hgd.put (key := u.keys[ix]) (x := u.list[ix]) (okT_keys hoku _ (List.getElem_mem hi)) (okT_child hoku (List.getElem_mem hil)) (hfx.list _ (List.getElem_mem hil))
                    refine Cod.skip fun a hS => ?_
                    refine hK19 _ _ ?_ a hS
                    refine Cod.seq fun K21 hK21 => ?_
                    refine Cod.block ?_
                    have F14 := F13.drew
                    refine Cod.draw (C_of (F14.erase 2)) (by kernel_rfl) ?_
                    refine Hops.take 1 rfl (by kernel_rfl) (fun _ _ _ h => h) rfl rfl rfl (F14.erase 2) (fun w F => (yld_field fi31_3 rfl (ev_t rfl))) ?_
                    refine Hops.take 2 rfl (by kernel_rfl) (fun _ _ _ h => h) rfl rfl rfl (F14.erase 2) (fun w F => (yld_load1 on22 rfl (ev_t rfl) (fun _ => F.cell 3 rfl rfl))) ?_
                    refine Hops.take 3 rfl (by kernel_rfl) (fun _ _ _ h => h) rfl rfl rfl (F14.erase 2) (fun w F => (yld_move rfl (ev_t rfl))) ?_
                    refine Hops.take 4 rfl (by kernel_rfl) (fun _ _ _ h => h) rfl rfl rfl (F14.erase 2) (fun w F => (yld_indexG (b := kb) (q := ko) (i := ix) sl22 rfl (ev_t rfl) (ev_t rfl) (fun _ => hkB) (fun _ => hi))) ?_
                    refine Hops.take 5 rfl (by kernel_rfl) (fun _ _ _ h => h) rfl rfl rfl (F14.erase 2) (fun w F => (yld_load1 on9 rfl (ev_t rfl) (fun _ => rangeAt_cell (rng hkr (hBw.trans (F.chgB 4 3 2 rfl rfl rfl hq1 hq2 hq3))) (j := 0) rfl))) ?_
                    refine Hops.take 6 rfl (by kernel_rfl) (fun _ _ _ h => h) rfl rfl rfl (F14.erase 2) (fun w F => (yld_field fi31_4 rfl (ev_t rfl))) ?_
                    refine Hops.take 7 rfl (by kernel_rfl) (fun _ _ _ h => h) rfl rfl rfl (F14.erase 2) (fun w F => (yld_load1 on29 rfl (ev_t rfl) (fun _ => F.cell 3 rfl rfl))) ?_
                    refine Hops.take 8 rfl (by kernel_rfl) (fun _ _ _ h => h) rfl rfl rfl (F14.erase 2) (fun w F => (yld_move rfl (ev_t rfl))) ?_
                    refine Hops.take 9 rfl (by kernel_rfl) (fun _ _ _ h => h) rfl rfl rfl (F14.erase 2) (fun w F => (yld_indexG (b := lb) (q := lo) (i := ix) sl29 rfl (ev_t rfl) (ev_t rfl) (fun _ => hlB) (fun _ => hil))) ?_
                    refine Hops.take 10 rfl (by kernel_rfl) (fun _ _ _ h => h) rfl rfl rfl (F14.erase 2) (fun w F => (yld_loadN (cs := [xu.a, xu.b, xu.c, xu.d, xu.e]) ag31 rfl (ev_t rfl) (fun _ => rng hlr (hBw.trans (F.chgB 4 3 2 rfl rfl rfl hq1 hq2 hq3))) rfl)) ?_
                    refine Hops.one 0 rfl (by kernel_rfl) (One.val rfl rfl rfl (yld_loadN ag31 rfl (ev_t rfl) (fun _ => F14.range (m := 5) (cs' := [_, _, _, _, _]) 2 rfl rfl) rfl) ?_)
                    refine ⟨(F14.erase 2), ?_⟩
                    refine Hops.one 11 rfl (by kernel_rfl) (One.call rfl rfl rfl (ent_f rfl (evl3 (ev_t rfl) (ev_t rfl) (ev_t rfl)) (enters en104)) (l2Put_ct (.mk 6 0 ⟨#[]⟩ ks l) (u.list[ix]) (u.keys[ix]) ys _ xu w10 _ ⟨A6, c6, A7, c7, by show _ = Value.agg #[_, _, _, _, .slice A7 l.length c7]; rw [← hyl]; rfl, nrow_rep (F14.get 1 rfl) ((F14.chgB 5 4 3 rfl rfl rfl hq1 hq2 hq3)), by rw [show (Tr.mk 6 0 ⟨#[]⟩ ks l).list.length = ys.length from hyl.symm]; exact nrow_rep (F14.get 0 rfl) ((F14.chgB 5 4 3 rfl rfl rfl hq1 hq2 hq3)), hal⟩ (hxu.chg hBw) hgd.so hgd.len (by show ks.length ≤ _; omega)) (fun e w14 hw14 => ?_))
                    obtain ⟨ku2, lu2, ys2, rfl, C14, hok2, hol2, hal2, hkb, hlb, hkl2⟩ := hw14
                    have hsz := F14.chg.size
                    have F15 := F14.new2 C14 (nrow w10 enc5 5 enc5_pos ys2 lu2) (nrow w10 sCells 1 sC_pos _ ku2) (nrow_new (enc := enc5) (sz := 5) (fun _ => rfl) enc5_pos hol2 rfl fun k hk => by have := hlb k hk; omega) (nrow_new (enc := sCells) (sz := 1) (fun _ => rfl) sC_pos hok2 rfl fun k hk => by have := hkb k hk; omega) (fun k hk => hlb k hk.1) (fun k hk => hkb k hk.1) (fun k h1 h2 => hkl2 k h2.1 h1.1)
                    refine ⟨_, rfl, ?_⟩
                    refine ⟨((F15.erase 4).erase 1).drop1, ?_⟩
                    refine Hops.one 12 rfl (by kernel_rfl) (One.storeN (vs := [_, _, _, _, _]) F15 4 rfl sz31 rfl rfl rfl (ev_t rfl) (ev_t rfl) rfl rfl (one5 (nrow_one (F15.get 1 rfl)) (nrow_one (F15.get 0 rfl))) ?_)
                    intro w15 F16
                    refine ⟨((F16.erase 4).erase 1).drop1, ?_⟩
                    change Fr _ _ [_, _, _, _, blk _ _ [_, _, _, _, _], blk _ _ [_, _, _, _, _], blk _ _ [_, _, _, _, _], blk _ _ [_, _, _, _, _]] _ at F16
                    refine Hops.nil (by kernel_rfl) fun a hS => ?_
                    refine hK21 _ _ ?_ a hS
                    refine Cod.region ?_
                    refine Ops.step (One.val rfl rfl rfl (yld_move rfl (ev_t rfl)) ?_)
                    refine Ops.step (One.val rfl rfl rfl (yld_inc rfl (ev_t rfl) (fun _ => by omega)) ?_)
                    refine Ops.step (One.val rfl rfl rfl (yld_assign rfl (ev_t rfl)) ?_)
                    refine Ops.nil fun a hS => ?_
                    have F17 := F16.pull 7 rfl
                    have F18 := F17.pull 7 rfl
                    have F19 := F18.pull 7 rfl
                    have F20 := F19.pull 7 rfl
                    have F21 := F20.pull 5 rfl
                    have F22 := F21.pull 5 rfl
                    have F23 := F22.erase 6
                    have F24 := F23.erase 6
                    refine hK18 (ix + 1, _, _, ys2, ku2, lu2) _ a (hS.sub ⟨rfl, rfl, rfl, rfl, trivial⟩) ⟨by show ix + 1 ≤ _; omega, by rw [hak, addKL_drop hi hil]; rfl, hgd2, hal2, F24⟩ (by show u.keys.length - (ix + 1) < u.keys.length - ix; omega)
                  · skip
                    obtain rfl : ix = u.keys.length := by simp at hc72; omega
                    rw [addKL_end] at hak
                    obtain ⟨hTf, hTw⟩ := hgd.bd2 (by omega)
                    refine Cod.exit fun a hS => ?_
                    simp only [Exit.then, Exit.inBlock, ↓reduceIte]
                    refine hK11 _ _ ?_ a hS
                    refine Cod.seq fun K22 hK22 => ?_
                    refine Cod.region ?_
                    refine Ops.step (One.val rfl rfl rfl (yld_loadN ag31 rfl (ev_t rfl) (fun _ => F13.range (m := 5) (cs' := [_, _, _, _, _]) 2 rfl rfl) rfl) ?_)
                    refine Ops.step (One.call rfl rfl rfl (ent_f rfl (evl1 (ev_t rfl)) (enters en91)) (l2Told_ct (.mk 6 0 ⟨#[]⟩ ks l) _ _ (Rep.close (nrow_rep (F13.get 1 rfl) (F13.chgB 5 4 3 rfl rfl rfl hq1 hq2 hq3)) (repL_ofE (nrow_rep (F13.get 0 rfl) (F13.chgB 5 4 3 rfl rfl rfl hq1 hq2 hq3)) ⟨hal.1, (hal.chg (F13.chgB 5 4 3 rfl rfl rfl hq1 hq2 hq3)).2⟩)) hTf hTw) (fun e w16 hw16 => ?_))
                    obtain ⟨x1, G1, rfl, C16, hs1, hb1⟩ := hw16
                    have F25 := F13.new C16 (sep G1 _ x1.val) hs1 hb1
                    refine ⟨_, rfl, ?_⟩
                    refine Ops.step (One.val rfl rfl rfl (yld_extract rfl (ev_t rfl) rfl) ?_)
                    refine Ops.step (One.val rfl rfl rfl (yld_extract rfl (ev_t rfl) rfl) ?_)
                    refine Ops.step (One.storeN (vs := [_, _, _, _, _]) F25 4 rfl sz31 rfl rfl rfl (ev_t rfl) (ev_t rfl) rfl rfl hs1.one ?_)
                    intro w17 F26
                    change Fr _ _ [_, _, _, blk _ _ [_, _, _, _, _], blk _ _ [_, _, _, _, _], blk _ _ [_, _, _, _, _], blk _ _ [_, _, _, _, _]] _ at F26
                    refine Ops.step (One.val rfl rfl rfl (yld_assign rfl (ev_t rfl)) ?_)
                    refine Ops.nil fun a hS => ?_
                    refine hK22 _ _ ?_ a hS
                    refine Cod.ret fun a hS => ?_
                    try simp only [Exit.then, Exit.inBlock]
                    rw [hak] at hyes
                    have hsz := hBw.size
                    have hcE : Chg No w w17 := hBw.trans2 F26.chg (fun _ _ h => h) fun q hq hX => by rcases hX with rfl | rfl | rfl <;> omega
                    exact retct (t := 4) (u := 5) (ty := 31) rfl hS ag31 rfl rfl (F26.range (m := 5) (cs' := [_, _, _, _, _]) 4 rfl rfl) rfl ⟨x1, G1, by rw [hyes]; rfl, hcE, by rw [hyes]; exact F26.get 0 rfl, fun b hb => by rcases F26.dom _ (List.mem_of_getElem? (i := 0) rfl) b hb with (rfl | rfl | rfl) | h <;> omega⟩
                · skip
                  (simp at hc66; omega)


theorem specPartAdd_ct (t u : Tr) (v vx : Value) (w : World) (hr : Rep Any w t v) (hx : Rep Any w u vx) (hf : t.Fit) (hfx : u.Fit) (hw : t.wt ≤ 1048576) (hwx : u.wt ≤ 1048576) : Calls Try.prog 41 #[v, vx] w (Gives w (addR t u)) := by
  by_cases hk : t.kind = 6
  · exact specAdd6_ct t u v vx w hr hx hf hfx hw hwx hk
  · exact specAddN_ct t u v vx w hr hx hf hfx hw hwx hk

end Go.Proofs.Ytodbflfelimppaa.Eng
