/- Walks of both PartLen: a tree's length is a number. -/
import Derived.Test.YtmmgobhoakaaaaaCom
import Derived.Test.YtmmgobhoakaaaaaOrd0
namespace Go.Proofs.Ytmmgobhoakaaaaa.Eng
open Go.RowKit
set_option linter.unusedVariables false
set_option linter.unusedSimpArgs false
set_option maxHeartbeats 1000000


noncomputable def lenR (t : Tr) : Option Tr := if okT t = true then (if t.kind = 0 then some (numT 0) else if t.kind = 3 then some (numT (if t.num < 0 then -t.num else t.num)) else if t.kind = 4 then some (numT t.str.size) else if t.kind = 5 ∨ t.kind = 6 then some (numT t.list.length) else none) else none
theorem okT_num {t : Tr} (h : okT t = true) : -1000000 ≤ t.num ∧ t.num ≤ 1000000 := by
  obtain ⟨k, n, s, ks, l⟩ := t
  have := (Form.iff.1 (okT_node h).1).2.1
  exact ⟨this.n0, this.n1⟩
theorem lenR_leaf (t : Tr) : ((lenR t).getD zeroT).keys.length + sumN Tr.mkn ((lenR t).getD zeroT).list = 0 := by
  unfold lenR
  repeat' split
  all_goals rfl

set_option maxRecDepth 100000 in
theorem specLen_ct (t : Tr) (v : Value) (w : World) (hr : Rep Any w t v) (hf : t.Fit) (hw : t.wt ≤ 1048576) : Calls Try.prog 60 #[v] w (Gives w (lenR t)) := by
  obtain ⟨v3, v4, ev, h3, h4⟩ := hr.form
  subst ev
  obtain ⟨A3, c3, rfl, hn3⟩ := h3.open
  obtain ⟨A4, c4, rfl, hn4⟩ := h4.open
  refine enter Try.func60 rfl rfl rfl ?_
  have F0 := Fr.start w
  refine Cod.seq fun K1 hK1 => ?_
  refine Cod.region ?_
  refine Ops.step (One.box F0 rfl rfl rfl rfl (ev_t rfl) ?_)
  intro b1 w1 hb1 F1
  change Fr _ _ [blk _ _ [_, _, _, _, _]] _ at F1
  refine Ops.step (One.alloc F1 zero26 rfl rfl rfl rfl ?_)
  intro b2 w2 hb2 F2
  change Fr _ _ [blk _ _ [_, _, _, _, _], blk _ _ [_, _, _, _, _]] _ at F2
  refine Ops.step (One.val rfl rfl rfl (yld_assign rfl ev_c) ?_)
  refine Ops.nil fun a hS => ?_
  refine hK1 _ _ ?_ a hS
  refine Cod.seq fun K2 hK2 => ?_
  refine Cod.seq fun K3 hK3 => ?_
  refine Cod.region ?_
  refine Ops.step (One.val rfl rfl rfl (yld_loadN ag26 rfl (ev_t rfl) (fun _ => F2.range (m := 5) (cs' := [_, _, _, _, _]) 1 rfl rfl) rfl) ?_)
  refine Ops.step (One.call rfl rfl rfl (ent_f rfl (evl1 (ev_t rfl)) (enters en35)) (specOk_ct t _ _ (hr.chg F2.chg) hf hw) (fun e w3 hw3 => ?_))
  obtain ⟨rfl, C3⟩ := hw3
  have F3 := F2.call C3
  refine ⟨_, rfl, ?_⟩
  refine Ops.step (One.val rfl rfl rfl (yld_not rfl (ev_t rfl)) ?_)
  refine Ops.nil fun a hS => ?_
  refine hK3 _ _ ?_ a hS
  refine Cod.cond rfl (fun hc6 => ?_) (fun hc6 => ?_)
  · skip
    have hno : lenR t = none := by
      have hc : (!(okT t)) = true := hc6
      unfold lenR
      cases h1 : okT t <;> simp [h1] at hc ⊢
    refine Cod.seq fun K4 hK4 => ?_
    refine Cod.region ?_
    refine Ops.step (One.val rfl rfl rfl (yld_build (cells := [.int .i64 0, .int .i64 0, .string ⟨#[]⟩, .slice none 0 0, .slice none 0 0]) rfl (evp0) (by kernel_rfl)) ?_)
    refine Ops.step (One.storeN (vs := [_, _, _, _, _]) F3 0 rfl sz26 rfl rfl rfl (ev_t rfl) (ev_t rfl) rfl rfl rfl ?_)
    intro w4 F4
    change Fr _ _ [blk _ _ [_, _, _, _, _], blk _ _ [_, _, _, _, _]] _ at F4
    refine Ops.step (One.val rfl rfl rfl (yld_assign rfl ev_c) ?_)
    refine Ops.nil fun a hS => ?_
    refine hK4 _ _ ?_ a hS
    refine Cod.ret fun a hS => ?_
    try simp only [Exit.then, Exit.inBlock]
    exact retct (t := 2) (u := 3) (ty := 26) rfl hS ag26 rfl rfl (F4.range (m := 5) (cs' := [_, _, _, _, _]) 0 rfl rfl) rfl ⟨z5, No, by rw [hno]; rfl, F4.chg, by rw [hno]; exact sep_leaf _ 0 0 ⟨#[]⟩, fun k hk => hk.elim⟩
  · skip
    have hok : okT t = true := by
      have hc : (!(okT t)) = false := hc6
      cases h1 : okT t <;> simp [h1] at hc ⊢
    have hnr := okT_num hok
    refine Cod.skip fun a hS => ?_
    refine hK2 _ _ ?_ a hS
    refine Cod.seq fun K5 hK5 => ?_
    refine Cod.seq fun K6 hK6 => ?_
    refine Cod.region ?_
    refine Ops.step (One.val rfl rfl rfl (yld_field fi26_0 rfl (ev_t rfl)) ?_)
    refine Ops.step (One.val rfl rfl rfl (yld_load1 on3 rfl (ev_t rfl) (fun _ => F3.cell 1 rfl rfl)) ?_)
    refine Ops.nil fun a hS => ?_
    refine hK6 _ _ ?_ a hS
    refine Cod.block ?_
    refine Cod.seq fun K7 hK7 => ?_
    refine Cod.region ?_
    refine Ops.step (One.val rfl rfl rfl (yld_eql rfl (ev_t rfl) ev_c) ?_)
    refine Ops.step (One.val rfl rfl rfl (yld_assign rfl (ev_t rfl)) ?_)
    refine Ops.nil fun a hS => ?_
    refine hK7 _ _ ?_ a hS
    refine Cod.cond rfl (fun hc10 => ?_) (fun hc10 => ?_)
    · skip
      have hk : t.kind = 0 := by simpa using hc10
      have hyes : lenR t = some (numT 0) := by unfold lenR; rw [if_pos hok, if_pos hk]
      refine Cod.seq fun K8 hK8 => ?_
      refine Cod.region ?_
      refine Ops.step (One.call rfl rfl rfl (ent_f rfl (evl1 ev_c) (enters en117)) (l2Num_ct (0) _) (fun e w5 hw5 => ?_))
      obtain ⟨rfl, C5⟩ := hw5
      have F5 := F3.call C5
      refine ⟨_, rfl, ?_⟩
      refine Ops.step (One.storeN (vs := [_, _, _, _, _]) F5 0 rfl sz26 rfl rfl rfl (ev_t rfl) (ev_t rfl) rfl rfl rfl ?_)
      intro w6 F6
      change Fr _ _ [blk _ _ [_, _, _, _, _], blk _ _ [_, _, _, _, _]] _ at F6
      refine Ops.step (One.val rfl rfl rfl (yld_assign rfl ev_c) ?_)
      refine Ops.nil fun a hS => ?_
      refine hK8 _ _ ?_ a hS
      refine Cod.ret fun a hS => ?_
      try simp only [Exit.then, Exit.inBlock]
      exact retct (t := 2) (u := 3) (ty := 26) rfl hS ag26 rfl rfl (F6.range (m := 5) (cs' := [_, _, _, _, _]) 0 rfl rfl) rfl ⟨x5 3 (0) ⟨#[]⟩ (.slice none 0 0) (.slice none 0 0), No, by rw [hyes]; rfl, F6.chg, by rw [hyes]; exact sep_leaf _ 3 (0) ⟨#[]⟩, fun k hk => hk.elim⟩
    · skip
      have hk0 : t.kind ≠ 0 := by simpa using hc10
      refine Cod.seq fun K9 hK9 => ?_
      refine Cod.region ?_
      refine Ops.step (One.val rfl rfl rfl (yld_eql rfl (ev_t rfl) ev_c) ?_)
      refine Ops.step (One.val rfl rfl rfl (yld_assign rfl (ev_t rfl)) ?_)
      refine Ops.nil fun a hS => ?_
      refine hK9 _ _ ?_ a hS
      refine Cod.cond rfl (fun hc13 => ?_) (fun hc13 => ?_)
      · skip
        have hk : t.kind = 3 := by simpa using hc13
        have hyes : lenR t = some (numT (if t.num < 0 then -t.num else t.num)) := by unfold lenR; rw [if_pos hok, if_neg hk0, if_pos hk]
        have hmx : (if -t.num < t.num then t.num else -t.num) = (if t.num < 0 then -t.num else t.num) := by split <;> split <;> omega
        refine Cod.seq fun K10 hK10 => ?_
        refine Cod.region ?_
        refine Ops.step (One.val rfl rfl rfl (yld_field fi26_1 rfl (ev_t rfl)) ?_)
        refine Ops.step (One.val rfl rfl rfl (yld_load1 on3 rfl (ev_t rfl) (fun _ => F3.cell 1 rfl rfl)) ?_)
        refine Ops.step (One.val rfl rfl rfl (yld_field fi26_1 rfl (ev_t rfl)) ?_)
        refine Ops.step (One.val rfl rfl rfl (yld_load1 on3 rfl (ev_t rfl) (fun _ => F3.cell 1 rfl rfl)) ?_)
        refine Ops.step (One.val rfl rfl rfl (yld_neg rfl (ev_t rfl) (fun _ => by omega)) ?_)
        refine Ops.step (One.call rfl rfl rfl (ent_f rfl (evl2 (ev_t rfl) (ev_t rfl)) (enters en112)) (l1Max_ct _ _ _) (fun e w7 hw7 => ?_))
        obtain ⟨rfl, C7⟩ := hw7
        have F7 := F3.call C7
        refine ⟨_, rfl, ?_⟩
        refine Ops.step (One.call rfl rfl rfl (ent_f rfl (evl1 (ev_t rfl)) (enters en117)) (l2Num_ct (_) _) (fun e w8 hw8 => ?_))
        obtain ⟨rfl, C8⟩ := hw8
        have F8 := F7.call C8
        refine ⟨_, rfl, ?_⟩
        refine Ops.step (One.storeN (vs := [_, _, _, _, _]) F8 0 rfl sz26 rfl rfl rfl (ev_t rfl) (ev_t rfl) rfl rfl rfl ?_)
        intro w9 F9
        change Fr _ _ [blk _ _ [_, _, _, _, _], blk _ _ [_, _, _, _, _]] _ at F9
        refine Ops.step (One.val rfl rfl rfl (yld_assign rfl ev_c) ?_)
        refine Ops.nil fun a hS => ?_
        refine hK10 _ _ ?_ a hS
        refine Cod.ret fun a hS => ?_
        try simp only [Exit.then, Exit.inBlock]
        exact retct (t := 2) (u := 3) (ty := 26) rfl hS ag26 rfl rfl (F9.range (m := 5) (cs' := [_, _, _, _, _]) 0 rfl rfl) rfl ⟨x5 3 (if -t.num < t.num then t.num else -t.num) ⟨#[]⟩ (.slice none 0 0) (.slice none 0 0), No, by rw [hyes, ← hmx]; rfl, F9.chg, by rw [hyes, ← hmx]; exact sep_leaf _ 3 (if -t.num < t.num then t.num else -t.num) ⟨#[]⟩, fun k hk => hk.elim⟩
      · skip
        have hk3 : t.kind ≠ 3 := by simpa using hc13
        refine Cod.seq fun K11 hK11 => ?_
        refine Cod.region ?_
        refine Ops.step (One.val rfl rfl rfl (yld_eql rfl (ev_t rfl) ev_c) ?_)
        refine Ops.step (One.val rfl rfl rfl (yld_assign rfl (ev_t rfl)) ?_)
        refine Ops.nil fun a hS => ?_
        refine hK11 _ _ ?_ a hS
        refine Cod.cond rfl (fun hc22 => ?_) (fun hc22 => ?_)
        · skip
          have hk : t.kind = 4 := by simpa using hc22
          have hyes : lenR t = some (numT t.str.size) := by unfold lenR; rw [if_pos hok, if_neg hk0, if_neg hk3, if_pos hk]
          refine Cod.seq fun K12 hK12 => ?_
          refine Cod.region ?_
          refine Ops.step (One.val rfl rfl rfl (yld_field fi26_2 rfl (ev_t rfl)) ?_)
          refine Ops.step (One.val rfl rfl rfl (yld_load1 on9 rfl (ev_t rfl) (fun _ => F3.cell 1 rfl rfl)) ?_)
          refine Ops.step (One.val rfl rfl rfl (yld_slen st9 rfl (ev_t rfl)) ?_)
          refine Ops.step (One.call rfl rfl rfl (ent_f rfl (evl1 (ev_t rfl)) (enters en117)) (l2Num_ct (_) _) (fun e w10 hw10 => ?_))
          obtain ⟨rfl, C10⟩ := hw10
          have F10 := F3.call C10
          refine ⟨_, rfl, ?_⟩
          refine Ops.step (One.storeN (vs := [_, _, _, _, _]) F10 0 rfl sz26 rfl rfl rfl (ev_t rfl) (ev_t rfl) rfl rfl rfl ?_)
          intro w11 F11
          change Fr _ _ [blk _ _ [_, _, _, _, _], blk _ _ [_, _, _, _, _]] _ at F11
          refine Ops.step (One.val rfl rfl rfl (yld_assign rfl ev_c) ?_)
          refine Ops.nil fun a hS => ?_
          refine hK12 _ _ ?_ a hS
          refine Cod.ret fun a hS => ?_
          try simp only [Exit.then, Exit.inBlock]
          exact retct (t := 2) (u := 3) (ty := 26) rfl hS ag26 rfl rfl (F11.range (m := 5) (cs' := [_, _, _, _, _]) 0 rfl rfl) rfl ⟨x5 3 ((t.str.size : Int)) ⟨#[]⟩ (.slice none 0 0) (.slice none 0 0), No, by rw [hyes]; rfl, F11.chg, by rw [hyes]; exact sep_leaf _ 3 ((t.str.size : Int)) ⟨#[]⟩, fun k hk => hk.elim⟩
        · skip
          have hk4 : t.kind ≠ 4 := by simpa using hc22
          refine Cod.seq fun K13 hK13 => ?_
          refine Cod.seq fun K14 hK14 => ?_
          refine Cod.region ?_
          refine Ops.step (One.val rfl rfl rfl (yld_eql rfl (ev_t rfl) ev_c) ?_)
          refine Ops.step (One.val rfl rfl rfl (yld_assign rfl (ev_t rfl)) ?_)
          refine Ops.nil fun a hS => ?_
          refine hK14 _ _ ?_ a hS
          refine Cod.cond rfl (fun hc28 => ?_) (fun hc28 => ?_)
          · skip
            have hk : t.kind = 5 ∨ t.kind = 6 := by left; simpa using hc28
            refine Cod.skip fun a hS => ?_
            refine hK13 _ _ ?_ a hS
            refine Cod.cond rfl (fun hc28_1 => ?_) (fun hc28_1 => ?_)
            · skip
              have hyes : lenR t = some (numT t.list.length) := by unfold lenR; rw [if_pos hok, if_neg hk0, if_neg hk3, if_neg hk4, if_pos hk]
              refine Cod.seq fun K15 hK15 => ?_
              refine Cod.region ?_
              refine Ops.step (One.val rfl rfl rfl (yld_field fi26_4 rfl (ev_t rfl)) ?_)
              refine Ops.step (One.val rfl rfl rfl (yld_load1 on24 rfl (ev_t rfl) (fun _ => F3.cell 1 rfl rfl)) ?_)
              refine Ops.step (One.val rfl rfl rfl (yld_len sl24 rfl (ev_t rfl)) ?_)
              refine Ops.step (One.call rfl rfl rfl (ent_f rfl (evl1 (ev_t rfl)) (enters en117)) (l2Num_ct (_) _) (fun e w12 hw12 => ?_))
              obtain ⟨rfl, C12⟩ := hw12
              have F12 := F3.call C12
              refine ⟨_, rfl, ?_⟩
              refine Ops.step (One.storeN (vs := [_, _, _, _, _]) F12 0 rfl sz26 rfl rfl rfl (ev_t rfl) (ev_t rfl) rfl rfl rfl ?_)
              intro w13 F13
              change Fr _ _ [blk _ _ [_, _, _, _, _], blk _ _ [_, _, _, _, _]] _ at F13
              refine Ops.step (One.val rfl rfl rfl (yld_assign rfl ev_c) ?_)
              refine Ops.nil fun a hS => ?_
              refine hK15 _ _ ?_ a hS
              refine Cod.ret fun a hS => ?_
              try simp only [Exit.then, Exit.inBlock]
              exact retct (t := 2) (u := 3) (ty := 26) rfl hS ag26 rfl rfl (F13.range (m := 5) (cs' := [_, _, _, _, _]) 0 rfl rfl) rfl ⟨x5 3 ((t.list.length : Int)) ⟨#[]⟩ (.slice none 0 0) (.slice none 0 0), No, by rw [hyes]; rfl, F13.chg, by rw [hyes]; exact sep_leaf _ 3 ((t.list.length : Int)) ⟨#[]⟩, fun k hk => hk.elim⟩
            · skip
              rw [hc28] at hc28_1; cases hc28_1
          · skip
            have hk5 : t.kind ≠ 5 := by simpa using hc28
            refine Cod.region ?_
            refine Ops.step (One.val rfl rfl rfl (yld_eql rfl (ev_t rfl) ev_c) ?_)
            refine Ops.step (One.val rfl rfl rfl (yld_assign rfl (ev_t rfl)) ?_)
            refine Ops.nil fun a hS => ?_
            refine hK13 _ _ ?_ a hS
            refine Cod.cond rfl (fun hc28 => ?_) (fun hc28 => ?_)
            · skip
              have hk : t.kind = 5 ∨ t.kind = 6 := by right; simpa using hc28
              have hyes : lenR t = some (numT t.list.length) := by unfold lenR; rw [if_pos hok, if_neg hk0, if_neg hk3, if_neg hk4, if_pos hk]
              refine Cod.seq fun K16 hK16 => ?_
              refine Cod.region ?_
              refine Ops.step (One.val rfl rfl rfl (yld_field fi26_4 rfl (ev_t rfl)) ?_)
              refine Ops.step (One.val rfl rfl rfl (yld_load1 on24 rfl (ev_t rfl) (fun _ => F3.cell 1 rfl rfl)) ?_)
              refine Ops.step (One.val rfl rfl rfl (yld_len sl24 rfl (ev_t rfl)) ?_)
              refine Ops.step (One.call rfl rfl rfl (ent_f rfl (evl1 (ev_t rfl)) (enters en117)) (l2Num_ct (_) _) (fun e w14 hw14 => ?_))
              obtain ⟨rfl, C14⟩ := hw14
              have F14 := F3.call C14
              refine ⟨_, rfl, ?_⟩
              refine Ops.step (One.storeN (vs := [_, _, _, _, _]) F14 0 rfl sz26 rfl rfl rfl (ev_t rfl) (ev_t rfl) rfl rfl rfl ?_)
              intro w15 F15
              change Fr _ _ [blk _ _ [_, _, _, _, _], blk _ _ [_, _, _, _, _]] _ at F15
              refine Ops.step (One.val rfl rfl rfl (yld_assign rfl ev_c) ?_)
              refine Ops.nil fun a hS => ?_
              refine hK16 _ _ ?_ a hS
              refine Cod.ret fun a hS => ?_
              try simp only [Exit.then, Exit.inBlock]
              exact retct (t := 2) (u := 3) (ty := 26) rfl hS ag26 rfl rfl (F15.range (m := 5) (cs' := [_, _, _, _, _]) 0 rfl rfl) rfl ⟨x5 3 ((t.list.length : Int)) ⟨#[]⟩ (.slice none 0 0) (.slice none 0 0), No, by rw [hyes]; rfl, F15.chg, by rw [hyes]; exact sep_leaf _ 3 ((t.list.length : Int)) ⟨#[]⟩, fun k hk => hk.elim⟩
            · skip
              have hno : lenR t = none := by
                have hk6 : t.kind ≠ 6 := by simpa using hc28
                unfold lenR
                rw [if_pos hok, if_neg hk0, if_neg hk3, if_neg hk4, if_neg (by simp [hk5, hk6])]
              refine Cod.skip fun a hS => ?_
              refine hK5 _ _ ?_ a hS
              refine Cod.seq fun K17 hK17 => ?_
              refine Cod.region ?_
              refine Ops.step (One.val rfl rfl rfl (yld_build (cells := [.int .i64 0, .int .i64 0, .string ⟨#[]⟩, .slice none 0 0, .slice none 0 0]) rfl (evp0) (by kernel_rfl)) ?_)
              refine Ops.step (One.storeN (vs := [_, _, _, _, _]) F3 0 rfl sz26 rfl rfl rfl (ev_t rfl) (ev_t rfl) rfl rfl rfl ?_)
              intro w16 F16
              change Fr _ _ [blk _ _ [_, _, _, _, _], blk _ _ [_, _, _, _, _]] _ at F16
              refine Ops.step (One.val rfl rfl rfl (yld_assign rfl ev_c) ?_)
              refine Ops.nil fun a hS => ?_
              refine hK17 _ _ ?_ a hS
              refine Cod.ret fun a hS => ?_
              try simp only [Exit.then, Exit.inBlock]
              exact retct (t := 2) (u := 3) (ty := 26) rfl hS ag26 rfl rfl (F16.range (m := 5) (cs' := [_, _, _, _, _]) 0 rfl rfl) rfl ⟨z5, No, by rw [hno]; rfl, F16.chg, by rw [hno]; exact sep_leaf _ 0 0 ⟨#[]⟩, fun k hk => hk.elim⟩

set_option maxRecDepth 100000 in
theorem len_ct (t : Tr) (v : Value) (w : World) (hr : Rep Any w t v) (hf : t.Fit) (hw : t.wt ≤ 1048576) : Calls Try.prog 59 #[v] w (Gives w (lenR t)) := by
  obtain ⟨v3, v4, ev, h3, h4⟩ := hr.form
  subst ev
  obtain ⟨A3, c3, rfl, hn3⟩ := h3.open
  obtain ⟨A4, c4, rfl, hn4⟩ := h4.open
  refine enter Try.func59 rfl rfl rfl ?_
  have F0 := Fr.start w
  refine Cod.seq fun K1 hK1 => ?_
  refine Cod.region ?_
  refine Ops.step (One.box F0 rfl rfl rfl rfl (ev_t rfl) ?_)
  intro b1 w1 hb1 F1
  change Fr _ _ [blk _ _ [_, _, _, _, _]] _ at F1
  refine Ops.step (One.alloc F1 zero26 rfl rfl rfl rfl ?_)
  intro b2 w2 hb2 F2
  change Fr _ _ [blk _ _ [_, _, _, _, _], blk _ _ [_, _, _, _, _]] _ at F2
  refine Ops.step (One.val rfl rfl rfl (yld_assign rfl ev_c) ?_)
  refine Ops.nil fun a hS => ?_
  refine hK1 _ _ ?_ a hS
  refine Cod.seq fun K2 hK2 => ?_
  refine Cod.seq fun K3 hK3 => ?_
  refine Cod.region ?_
  refine Ops.step (One.val rfl rfl rfl (yld_loadN ag26 rfl (ev_t rfl) (fun _ => F2.range (m := 5) (cs' := [_, _, _, _, _]) 1 rfl rfl) rfl) ?_)
  refine Ops.step (One.call rfl rfl rfl (ent_f rfl (evl1 (ev_t rfl)) (enters en36)) (valOk_ct t _ _ (hr.chg F2.chg) hf) (fun e w3 hw3 => ?_))
  obtain ⟨rfl, C3⟩ := hw3
  have F3 := F2.call C3
  refine ⟨_, rfl, ?_⟩
  refine Ops.step (One.val rfl rfl rfl (yld_not rfl (ev_t rfl)) ?_)
  refine Ops.nil fun a hS => ?_
  refine hK3 _ _ ?_ a hS
  refine Cod.cond rfl (fun hc6 => ?_) (fun hc6 => ?_)
  · skip
    have hno : lenR t = none := by
      have hc : (!(okT t)) = true := hc6
      unfold lenR
      cases h1 : okT t <;> simp [h1] at hc ⊢
    refine Cod.seq fun K4 hK4 => ?_
    refine Cod.region ?_
    refine Ops.step (One.val rfl rfl rfl (yld_build (cells := [.int .i64 0, .int .i64 0, .string ⟨#[]⟩, .slice none 0 0, .slice none 0 0]) rfl (evp0) (by kernel_rfl)) ?_)
    refine Ops.step (One.storeN (vs := [_, _, _, _, _]) F3 0 rfl sz26 rfl rfl rfl (ev_t rfl) (ev_t rfl) rfl rfl rfl ?_)
    intro w4 F4
    change Fr _ _ [blk _ _ [_, _, _, _, _], blk _ _ [_, _, _, _, _]] _ at F4
    refine Ops.step (One.val rfl rfl rfl (yld_assign rfl ev_c) ?_)
    refine Ops.nil fun a hS => ?_
    refine hK4 _ _ ?_ a hS
    refine Cod.ret fun a hS => ?_
    try simp only [Exit.then, Exit.inBlock]
    exact retct (t := 2) (u := 3) (ty := 26) rfl hS ag26 rfl rfl (F4.range (m := 5) (cs' := [_, _, _, _, _]) 0 rfl rfl) rfl ⟨z5, No, by rw [hno]; rfl, F4.chg, by rw [hno]; exact sep_leaf _ 0 0 ⟨#[]⟩, fun k hk => hk.elim⟩
  · skip
    have hok : okT t = true := by
      have hc : (!(okT t)) = false := hc6
      cases h1 : okT t <;> simp [h1] at hc ⊢
    have hnr := okT_num hok
    refine Cod.skip fun a hS => ?_
    refine hK2 _ _ ?_ a hS
    refine Cod.seq fun K5 hK5 => ?_
    refine Cod.seq fun K6 hK6 => ?_
    refine Cod.region ?_
    refine Ops.step (One.val rfl rfl rfl (yld_field fi26_0 rfl (ev_t rfl)) ?_)
    refine Ops.step (One.val rfl rfl rfl (yld_load1 on3 rfl (ev_t rfl) (fun _ => F3.cell 1 rfl rfl)) ?_)
    refine Ops.nil fun a hS => ?_
    refine hK6 _ _ ?_ a hS
    refine Cod.block ?_
    refine Cod.seq fun K7 hK7 => ?_
    refine Cod.region ?_
    refine Ops.step (One.val rfl rfl rfl (yld_eql rfl (ev_t rfl) ev_c) ?_)
    refine Ops.step (One.val rfl rfl rfl (yld_assign rfl (ev_t rfl)) ?_)
    refine Ops.nil fun a hS => ?_
    refine hK7 _ _ ?_ a hS
    refine Cod.cond rfl (fun hc10 => ?_) (fun hc10 => ?_)
    · skip
      have hk : t.kind = 0 := by simpa using hc10
      have hyes : lenR t = some (numT 0) := by unfold lenR; rw [if_pos hok, if_pos hk]
      refine Cod.seq fun K8 hK8 => ?_
      refine Cod.region ?_
      refine Ops.step (One.call rfl rfl rfl (ent_f rfl (evl1 ev_c) (enters en95)) (num_ct (0) _) (fun e w5 hw5 => ?_))
      obtain ⟨rfl, C5⟩ := hw5
      have F5 := F3.call C5
      refine ⟨_, rfl, ?_⟩
      refine Ops.step (One.storeN (vs := [_, _, _, _, _]) F5 0 rfl sz26 rfl rfl rfl (ev_t rfl) (ev_t rfl) rfl rfl rfl ?_)
      intro w6 F6
      change Fr _ _ [blk _ _ [_, _, _, _, _], blk _ _ [_, _, _, _, _]] _ at F6
      refine Ops.step (One.val rfl rfl rfl (yld_assign rfl ev_c) ?_)
      refine Ops.nil fun a hS => ?_
      refine hK8 _ _ ?_ a hS
      refine Cod.ret fun a hS => ?_
      try simp only [Exit.then, Exit.inBlock]
      exact retct (t := 2) (u := 3) (ty := 26) rfl hS ag26 rfl rfl (F6.range (m := 5) (cs' := [_, _, _, _, _]) 0 rfl rfl) rfl ⟨x5 3 (0) ⟨#[]⟩ (.slice none 0 0) (.slice none 0 0), No, by rw [hyes]; rfl, F6.chg, by rw [hyes]; exact sep_leaf _ 3 (0) ⟨#[]⟩, fun k hk => hk.elim⟩
    · skip
      have hk0 : t.kind ≠ 0 := by simpa using hc10
      refine Cod.seq fun K9 hK9 => ?_
      refine Cod.region ?_
      refine Ops.step (One.val rfl rfl rfl (yld_eql rfl (ev_t rfl) ev_c) ?_)
      refine Ops.step (One.val rfl rfl rfl (yld_assign rfl (ev_t rfl)) ?_)
      refine Ops.nil fun a hS => ?_
      refine hK9 _ _ ?_ a hS
      refine Cod.cond rfl (fun hc13 => ?_) (fun hc13 => ?_)
      · skip
        have hk : t.kind = 3 := by simpa using hc13
        have hyes : lenR t = some (numT (if t.num < 0 then -t.num else t.num)) := by unfold lenR; rw [if_pos hok, if_neg hk0, if_pos hk]
        have hmx : (if t.num < -t.num then -t.num else t.num) = (if t.num < 0 then -t.num else t.num) := by split <;> split <;> omega
        refine Cod.seq fun K10 hK10 => ?_
        refine Cod.region ?_
        refine Ops.step (One.val rfl rfl rfl (yld_field fi26_1 rfl (ev_t rfl)) ?_)
        refine Ops.step (One.val rfl rfl rfl (yld_load1 on3 rfl (ev_t rfl) (fun _ => F3.cell 1 rfl rfl)) ?_)
        refine Ops.step (One.val rfl rfl rfl (yld_field fi26_1 rfl (ev_t rfl)) ?_)
        refine Ops.step (One.val rfl rfl rfl (yld_load1 on3 rfl (ev_t rfl) (fun _ => F3.cell 1 rfl rfl)) ?_)
        refine Ops.step (One.val rfl rfl rfl (yld_neg rfl (ev_t rfl) (fun _ => by omega)) ?_)
        refine Ops.step (One.val rfl rfl rfl (yld_max rfl (ev_t rfl) (ev_t rfl)) ?_)
        refine Ops.step (One.call rfl rfl rfl (ent_f rfl (evl1 (ev_t rfl)) (enters en95)) (num_ct (_) _) (fun e w7 hw7 => ?_))
        obtain ⟨rfl, C7⟩ := hw7
        have F7 := F3.call C7
        refine ⟨_, rfl, ?_⟩
        refine Ops.step (One.storeN (vs := [_, _, _, _, _]) F7 0 rfl sz26 rfl rfl rfl (ev_t rfl) (ev_t rfl) rfl rfl rfl ?_)
        intro w8 F8
        change Fr _ _ [blk _ _ [_, _, _, _, _], blk _ _ [_, _, _, _, _]] _ at F8
        refine Ops.step (One.val rfl rfl rfl (yld_assign rfl ev_c) ?_)
        refine Ops.nil fun a hS => ?_
        refine hK10 _ _ ?_ a hS
        refine Cod.ret fun a hS => ?_
        try simp only [Exit.then, Exit.inBlock]
        exact retct (t := 2) (u := 3) (ty := 26) rfl hS ag26 rfl rfl (F8.range (m := 5) (cs' := [_, _, _, _, _]) 0 rfl rfl) rfl ⟨x5 3 (if t.num < -t.num then -t.num else t.num) ⟨#[]⟩ (.slice none 0 0) (.slice none 0 0), No, by rw [hyes, ← hmx]; rfl, F8.chg, by rw [hyes, ← hmx]; exact sep_leaf _ 3 (if t.num < -t.num then -t.num else t.num) ⟨#[]⟩, fun k hk => hk.elim⟩
      · skip
        have hk3 : t.kind ≠ 3 := by simpa using hc13
        refine Cod.seq fun K11 hK11 => ?_
        refine Cod.region ?_
        refine Ops.step (One.val rfl rfl rfl (yld_eql rfl (ev_t rfl) ev_c) ?_)
        refine Ops.step (One.val rfl rfl rfl (yld_assign rfl (ev_t rfl)) ?_)
        refine Ops.nil fun a hS => ?_
        refine hK11 _ _ ?_ a hS
        refine Cod.cond rfl (fun hc22 => ?_) (fun hc22 => ?_)
        · skip
          have hk : t.kind = 4 := by simpa using hc22
          have hyes : lenR t = some (numT t.str.size) := by unfold lenR; rw [if_pos hok, if_neg hk0, if_neg hk3, if_pos hk]
          refine Cod.seq fun K12 hK12 => ?_
          refine Cod.region ?_
          refine Ops.step (One.val rfl rfl rfl (yld_field fi26_2 rfl (ev_t rfl)) ?_)
          refine Ops.step (One.val rfl rfl rfl (yld_load1 on9 rfl (ev_t rfl) (fun _ => F3.cell 1 rfl rfl)) ?_)
          refine Ops.step (One.val rfl rfl rfl (yld_slen st9 rfl (ev_t rfl)) ?_)
          refine Ops.step (One.call rfl rfl rfl (ent_f rfl (evl1 (ev_t rfl)) (enters en95)) (num_ct (_) _) (fun e w9 hw9 => ?_))
          obtain ⟨rfl, C9⟩ := hw9
          have F9 := F3.call C9
          refine ⟨_, rfl, ?_⟩
          refine Ops.step (One.storeN (vs := [_, _, _, _, _]) F9 0 rfl sz26 rfl rfl rfl (ev_t rfl) (ev_t rfl) rfl rfl rfl ?_)
          intro w10 F10
          change Fr _ _ [blk _ _ [_, _, _, _, _], blk _ _ [_, _, _, _, _]] _ at F10
          refine Ops.step (One.val rfl rfl rfl (yld_assign rfl ev_c) ?_)
          refine Ops.nil fun a hS => ?_
          refine hK12 _ _ ?_ a hS
          refine Cod.ret fun a hS => ?_
          try simp only [Exit.then, Exit.inBlock]
          exact retct (t := 2) (u := 3) (ty := 26) rfl hS ag26 rfl rfl (F10.range (m := 5) (cs' := [_, _, _, _, _]) 0 rfl rfl) rfl ⟨x5 3 ((t.str.size : Int)) ⟨#[]⟩ (.slice none 0 0) (.slice none 0 0), No, by rw [hyes]; rfl, F10.chg, by rw [hyes]; exact sep_leaf _ 3 ((t.str.size : Int)) ⟨#[]⟩, fun k hk => hk.elim⟩
        · skip
          have hk4 : t.kind ≠ 4 := by simpa using hc22
          refine Cod.seq fun K13 hK13 => ?_
          refine Cod.seq fun K14 hK14 => ?_
          refine Cod.region ?_
          refine Ops.step (One.val rfl rfl rfl (yld_eql rfl (ev_t rfl) ev_c) ?_)
          refine Ops.step (One.val rfl rfl rfl (yld_assign rfl (ev_t rfl)) ?_)
          refine Ops.nil fun a hS => ?_
          refine hK14 _ _ ?_ a hS
          refine Cod.cond rfl (fun hc28 => ?_) (fun hc28 => ?_)
          · skip
            have hk : t.kind = 5 ∨ t.kind = 6 := by left; simpa using hc28
            refine Cod.skip fun a hS => ?_
            refine hK13 _ _ ?_ a hS
            refine Cod.cond rfl (fun hc28_1 => ?_) (fun hc28_1 => ?_)
            · skip
              have hyes : lenR t = some (numT t.list.length) := by unfold lenR; rw [if_pos hok, if_neg hk0, if_neg hk3, if_neg hk4, if_pos hk]
              refine Cod.seq fun K15 hK15 => ?_
              refine Cod.region ?_
              refine Ops.step (One.val rfl rfl rfl (yld_field fi26_4 rfl (ev_t rfl)) ?_)
              refine Ops.step (One.val rfl rfl rfl (yld_load1 on24 rfl (ev_t rfl) (fun _ => F3.cell 1 rfl rfl)) ?_)
              refine Ops.step (One.val rfl rfl rfl (yld_len sl24 rfl (ev_t rfl)) ?_)
              refine Ops.step (One.call rfl rfl rfl (ent_f rfl (evl1 (ev_t rfl)) (enters en95)) (num_ct (_) _) (fun e w11 hw11 => ?_))
              obtain ⟨rfl, C11⟩ := hw11
              have F11 := F3.call C11
              refine ⟨_, rfl, ?_⟩
              refine Ops.step (One.storeN (vs := [_, _, _, _, _]) F11 0 rfl sz26 rfl rfl rfl (ev_t rfl) (ev_t rfl) rfl rfl rfl ?_)
              intro w12 F12
              change Fr _ _ [blk _ _ [_, _, _, _, _], blk _ _ [_, _, _, _, _]] _ at F12
              refine Ops.step (One.val rfl rfl rfl (yld_assign rfl ev_c) ?_)
              refine Ops.nil fun a hS => ?_
              refine hK15 _ _ ?_ a hS
              refine Cod.ret fun a hS => ?_
              try simp only [Exit.then, Exit.inBlock]
              exact retct (t := 2) (u := 3) (ty := 26) rfl hS ag26 rfl rfl (F12.range (m := 5) (cs' := [_, _, _, _, _]) 0 rfl rfl) rfl ⟨x5 3 ((t.list.length : Int)) ⟨#[]⟩ (.slice none 0 0) (.slice none 0 0), No, by rw [hyes]; rfl, F12.chg, by rw [hyes]; exact sep_leaf _ 3 ((t.list.length : Int)) ⟨#[]⟩, fun k hk => hk.elim⟩
            · skip
              rw [hc28] at hc28_1; cases hc28_1
          · skip
            have hk5 : t.kind ≠ 5 := by simpa using hc28
            refine Cod.region ?_
            refine Ops.step (One.val rfl rfl rfl (yld_eql rfl (ev_t rfl) ev_c) ?_)
            refine Ops.step (One.val rfl rfl rfl (yld_assign rfl (ev_t rfl)) ?_)
            refine Ops.nil fun a hS => ?_
            refine hK13 _ _ ?_ a hS
            refine Cod.cond rfl (fun hc28 => ?_) (fun hc28 => ?_)
            · skip
              have hk : t.kind = 5 ∨ t.kind = 6 := by right; simpa using hc28
              have hyes : lenR t = some (numT t.list.length) := by unfold lenR; rw [if_pos hok, if_neg hk0, if_neg hk3, if_neg hk4, if_pos hk]
              refine Cod.seq fun K16 hK16 => ?_
              refine Cod.region ?_
              refine Ops.step (One.val rfl rfl rfl (yld_field fi26_4 rfl (ev_t rfl)) ?_)
              refine Ops.step (One.val rfl rfl rfl (yld_load1 on24 rfl (ev_t rfl) (fun _ => F3.cell 1 rfl rfl)) ?_)
              refine Ops.step (One.val rfl rfl rfl (yld_len sl24 rfl (ev_t rfl)) ?_)
              refine Ops.step (One.call rfl rfl rfl (ent_f rfl (evl1 (ev_t rfl)) (enters en95)) (num_ct (_) _) (fun e w13 hw13 => ?_))
              obtain ⟨rfl, C13⟩ := hw13
              have F13 := F3.call C13
              refine ⟨_, rfl, ?_⟩
              refine Ops.step (One.storeN (vs := [_, _, _, _, _]) F13 0 rfl sz26 rfl rfl rfl (ev_t rfl) (ev_t rfl) rfl rfl rfl ?_)
              intro w14 F14
              change Fr _ _ [blk _ _ [_, _, _, _, _], blk _ _ [_, _, _, _, _]] _ at F14
              refine Ops.step (One.val rfl rfl rfl (yld_assign rfl ev_c) ?_)
              refine Ops.nil fun a hS => ?_
              refine hK16 _ _ ?_ a hS
              refine Cod.ret fun a hS => ?_
              try simp only [Exit.then, Exit.inBlock]
              exact retct (t := 2) (u := 3) (ty := 26) rfl hS ag26 rfl rfl (F14.range (m := 5) (cs' := [_, _, _, _, _]) 0 rfl rfl) rfl ⟨x5 3 ((t.list.length : Int)) ⟨#[]⟩ (.slice none 0 0) (.slice none 0 0), No, by rw [hyes]; rfl, F14.chg, by rw [hyes]; exact sep_leaf _ 3 ((t.list.length : Int)) ⟨#[]⟩, fun k hk => hk.elim⟩
            · skip
              have hno : lenR t = none := by
                have hk6 : t.kind ≠ 6 := by simpa using hc28
                unfold lenR
                rw [if_pos hok, if_neg hk0, if_neg hk3, if_neg hk4, if_neg (by simp [hk5, hk6])]
              refine Cod.skip fun a hS => ?_
              refine hK5 _ _ ?_ a hS
              refine Cod.seq fun K17 hK17 => ?_
              refine Cod.region ?_
              refine Ops.step (One.val rfl rfl rfl (yld_build (cells := [.int .i64 0, .int .i64 0, .string ⟨#[]⟩, .slice none 0 0, .slice none 0 0]) rfl (evp0) (by kernel_rfl)) ?_)
              refine Ops.step (One.storeN (vs := [_, _, _, _, _]) F3 0 rfl sz26 rfl rfl rfl (ev_t rfl) (ev_t rfl) rfl rfl rfl ?_)
              intro w15 F15
              change Fr _ _ [blk _ _ [_, _, _, _, _], blk _ _ [_, _, _, _, _]] _ at F15
              refine Ops.step (One.val rfl rfl rfl (yld_assign rfl ev_c) ?_)
              refine Ops.nil fun a hS => ?_
              refine hK17 _ _ ?_ a hS
              refine Cod.ret fun a hS => ?_
              try simp only [Exit.then, Exit.inBlock]
              exact retct (t := 2) (u := 3) (ty := 26) rfl hS ag26 rfl rfl (F15.range (m := 5) (cs' := [_, _, _, _, _]) 0 rfl rfl) rfl ⟨z5, No, by rw [hno]; rfl, F15.chg, by rw [hno]; exact sep_leaf _ 0 0 ⟨#[]⟩, fun k hk => hk.elim⟩

end Go.Proofs.Ytmmgobhoakaaaaa.Eng
