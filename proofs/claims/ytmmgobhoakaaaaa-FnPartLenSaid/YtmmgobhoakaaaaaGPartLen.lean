/- FnPartLen returns true for all bytes: the lengths of two texts or rows add up; the keys of a tree stand in their order; a length is a number and not below nothing. No condition. -/
import Derived.Test.YtmmgobhoakaaaaaAdd
import Derived.Test.YtmmgobhoakaaaaaOrd
import Derived.Test.YtmmgobhoakaaaaaDraw6
import Derived.Test.YtmmgobhoakaaaaaArgB
import Derived.Test.YtmmgobhoakaaaaaRows
namespace Go.Proofs.Ytmmgobhoakaaaaa.Eng
open Go.RowKit Go.ChangeShapes Go.WideShapes Go.ChangeAt
set_option linter.unusedVariables false
set_option linter.unusedSimpArgs false
set_option maxHeartbeats 1000000
set_option linter.constructorNameAsVariable false
namespace GPartLen


theorem add_len {t u : Tr} {r a b c : Option Tr} (hr : r = addR t u) (h : r.isSome = true) (hk : t.kind = u.kind) (h45 : t.kind = 4 ∨ t.kind = 5) (ha : a = lenR t) (hb : b = lenR u) (hc : c = lenR (r.getD zeroT)) : (a.getD zeroT).num + (b.getD zeroT).num = (c.getD zeroT).num := by
  have hok : okT t = true ∧ okT u = true := by
    subst hr
    unfold addR at h
    split at h
    · cases h
    · rename_i hh
      cases h1 : okT t <;> cases h2 : okT u <;> simp [h1, h2] at hh ⊢
  rcases h45 with h4 | h5
  · have e1 : lenR t = some (numT t.str.size) := by
      unfold lenR
      rw [if_pos hok.1, if_neg (by omega), if_neg (by omega), if_pos h4]
    have e2 : lenR u = some (numT u.str.size) := by
      unfold lenR
      rw [if_pos hok.2, if_neg (by omega), if_neg (by omega), if_pos (by omega)]
    have er : addR t u = toldR true (strT' (t.str ++ u.str)) := by
      unfold addR
      rw [if_neg (by rw [hok.1, hok.2]; simp), if_neg (by omega), if_neg (by omega), if_neg (by omega), if_neg (by omega), if_pos h4]
    rw [er] at hr
    subst hr
    unfold toldR at h hc
    split at h
    · rename_i ho
      have ho : okT (strT' (t.str ++ u.str)) = true := by simpa using ho
      rw [if_pos (by simpa using ho)] at hc
      have e3 : lenR (strT' (t.str ++ u.str)) = some (numT (t.str ++ u.str).size) := by
        unfold lenR
        rw [if_pos ho, if_neg (by show ¬ (4 : Int) = 0; omega), if_neg (by show ¬ (4 : Int) = 3; omega), if_pos (by rfl)]
        rfl
      rw [ha, hb, hc, e1, e2]
      show ((t.str.size : Nat) : Int) + ((u.str.size : Nat) : Int) = ((lenR (strT' (t.str ++ u.str))).getD zeroT).num
      rw [e3, ByteArray.size_append]
      show _ = (((t.str.size + u.str.size : Nat)) : Int)
      omega
    · cases h
  · have e1 : lenR t = some (numT t.list.length) := by
      unfold lenR
      rw [if_pos hok.1, if_neg (by omega), if_neg (by omega), if_neg (by omega), if_pos (by omega)]
    have e2 : lenR u = some (numT u.list.length) := by
      unfold lenR
      rw [if_pos hok.2, if_neg (by omega), if_neg (by omega), if_neg (by omega), if_pos (by omega)]
    have er : addR t u = toldR true (.mk 5 0 ⟨#[]⟩ [] (t.list ++ u.list)) := by
      unfold addR
      rw [if_neg (by rw [hok.1, hok.2]; simp), if_neg (by omega), if_neg (by omega), if_neg (by omega), if_neg (by omega), if_neg (by omega), if_pos h5]
    rw [er] at hr
    subst hr
    unfold toldR at h hc
    split at h
    · rename_i ho
      have ho : okT (.mk 5 0 ⟨#[]⟩ [] (t.list ++ u.list)) = true := by simpa using ho
      rw [if_pos (by simpa using ho)] at hc
      have e3 : lenR (.mk 5 0 ⟨#[]⟩ [] (t.list ++ u.list)) = some (numT (t.list ++ u.list).length) := by
        unfold lenR
        rw [if_pos ho, if_neg (by show ¬ (5 : Int) = 0; omega), if_neg (by show ¬ (5 : Int) = 3; omega), if_neg (by show ¬ (5 : Int) = 4; omega), if_pos (by left; rfl)]
        rfl
      rw [ha, hb, hc, e1, e2]
      show ((t.list.length : Nat) : Int) + ((u.list.length : Nat) : Int) = ((lenR (.mk 5 0 ⟨#[]⟩ [] (t.list ++ u.list))).getD zeroT).num
      rw [e3, List.length_append]
      show _ = (((t.list.length + u.list.length : Nat)) : Int)
      omega
    · cases h
theorem num_rng {r : Option Tr} (h : okT (r.getD zeroT) = true) : -1000000 ≤ (r.getD zeroT).num ∧ (r.getD zeroT).num ≤ 1000000 := okT_num h
theorem keys_at {t : Tr} {r : Option Tr} (hr : r = keysR t) (h : r.isSome = true) : okT t = true ∧ 5 ≤ t.kind ∧ (r.getD zeroT).list = keysL t t.list.length := by
  subst hr
  unfold keysR at h ⊢
  split at h
  · rename_i hh
    exact ⟨hh.1, hh.2, by rw [if_pos hh]; rfl⟩
  · cases h
theorem key_ord {t : Tr} (h : okT t = true) (h5 : 5 ≤ t.kind) {i : Nat} (hi : i + 1 < t.list.length) : (keyT t i).ord (keyT t (i + 1)) = -1 := by
  unfold keyT
  by_cases hk : t.kind = 5
  · rw [if_pos hk, if_pos hk]
    show (Tr.mk 3 (i : Int) ⟨#[]⟩ [] []).ord (.mk 3 ((i + 1 : Nat) : Int) ⟨#[]⟩ [] []) = -1
    have e : cmpI (i : Int) ((i + 1 : Nat) : Int) = -1 := by unfold cmpI; rw [if_pos (by omega)]
    rw [Tr.ord_mk, cmpI_self, e]
    rfl
  · rw [if_neg hk, if_neg hk]
    have h6 : t.kind = 6 := by have := (okT_six h).1; omega
    have hl := okT_len h h6
    have hlt := ((okT_six h).2.2 (i + 1) (by omega)).2 (by omega)
    rw [Nat.add_sub_cancel] at hlt
    show (Tr.mk 4 0 (nth t.keys i) [] []).ord (.mk 4 0 (nth t.keys (i + 1)) [] []) = -1
    have e : cmpS (nth t.keys i) (nth t.keys (i + 1)) = -1 := by unfold cmpS; rw [if_pos hlt]
    rw [Tr.ord_mk, cmpI_self, cmpI_self, e]
    rfl
theorem len_num {t : Tr} {r : Option Tr} (hr : r = lenR t) : ((!r.isSome) || (((r.getD zeroT).kind == 3) && decide (0 ≤ (r.getD zeroT).num))) = true := by
  have aux : ∀ n : Int, 0 ≤ n → ((!(some (numT n)).isSome) || ((((some (numT n)).getD zeroT).kind == 3) && decide (0 ≤ ((some (numT n)).getD zeroT).num))) = true := fun n hn => by
    show (false || (((3 : Int) == 3) && decide (0 ≤ n))) = true
    simp [hn]
  subst hr
  unfold lenR
  repeat' split
  all_goals first | rfl | exact aux _ (by omega)

set_option maxHeartbeats 4000000 in
set_option maxRecDepth 100000 in
theorem walk (code : List UInt8) (v : Value) (w : World) (hp : RepE bCells 1 Any w code v) :
    Calls Try.prog 13 #[v] w fun e w' => e = .returned (.bool true) ∧ Chg No w w' := by
  obtain ⟨A, c, rfl, -⟩ := hp.open
  refine enter Try.func13 rfl rfl rfl ?_
  have F0 := Fr.start w
  refine Cod.seq fun K1 hK1 => ?_
  refine Cod.region ?_
  refine Ops.step (One.val rfl rfl rfl (yld_assign rfl ev_c) ?_)
  refine Ops.nil fun a hS => ?_
  refine hK1 _ _ ?_ a hS
  refine Cod.seq fun K2 hK2 => ?_
  refine Cod.seq fun K3 hK3 => ?_
  refine Cod.region ?_
  refine Ops.step (One.val rfl rfl rfl (yld_move rfl (ev_t rfl)) ?_)
  refine Ops.step (One.val rfl rfl rfl (yld_len sl22 rfl (ev_t rfl)) ?_)
  refine Ops.step (One.val rfl rfl rfl (yld_gtr rfl (ev_t rfl) ev_c) ?_)
  refine Ops.nil fun a hS => ?_
  refine hK3 _ _ ?_ a hS
  refine Cod.cond rfl (fun hc23 => ?_) (fun hc23 => ?_)
  · skip
    refine Cod.seq fun K4 hK4 => ?_
    refine Cod.region ?_
    refine Ops.step (One.val rfl rfl rfl (yld_assign rfl ev_c) ?_)
    refine Ops.nil fun a hS => ?_
    refine hK4 _ _ ?_ a hS
    refine Cod.ret fun a hS => ?_
    try simp only [Exit.then, Exit.inBlock]
    exact ret1 (t := 2) rfl hS rfl ⟨rfl, F0.chg⟩
  · skip
    refine Cod.skip fun a hS => ?_
    refine hK2 _ _ ?_ a hS
    refine Cod.seq fun K5 hK5 => ?_
    refine Cod.region ?_
    refine Ops.step (One.val rfl rfl rfl (yld_move rfl (ev_t rfl)) ?_)
    refine Ops.step (One.call rfl rfl rfl (ent_f rfl (evl1 (ev_t rfl)) (enters en33)) (drawAdd_ct code _ _ (hp.chg F0.chg)) (fun e w1 hw1 => ?_))
    obtain ⟨xa, xb, ta, tb, rfl, C1, hrsa, hda, hdb⟩ := hw1
    have hwa := hda.wt
    have hwb := hdb.wt
    obtain ⟨Grsa, hGa⟩ : ∃ G, G = New w w1 := ⟨_, rfl⟩
    rw [← hGa] at hrsa
    obtain ⟨A3a, c3a, A4a, c4a, hxa⟩ := rep_x (rps_get hrsa 0 rfl)
    obtain ⟨A3b, c3b, A4b, c4b, hxb⟩ := rep_x (rps_get hrsa 1 rfl)
    subst hxa
    subst hxb
    have F1 := F0.new C1 (rps Grsa [(ta, (x5 ta.kind ta.num ta.str (.slice A3a ta.keys.length c3a) (.slice A4a ta.list.length c4a)).val), (tb, (x5 tb.kind tb.num tb.str (.slice A3b tb.keys.length c3b) (.slice A4b tb.list.length c4b)).val)]) hrsa (by rw [hGa]; exact New.new)
    refine ⟨_, rfl, ?_⟩
    refine Ops.step (One.val rfl rfl rfl (yld_move rfl (ev_t rfl)) ?_)
    refine Ops.step (One.val rfl rfl rfl (yld_extract rfl (ev_t rfl) rfl) ?_)
    refine Ops.step (One.val rfl rfl rfl (yld_extract rfl (ev_t rfl) rfl) ?_)
    refine Ops.step (One.alloc F1 zero26 rfl rfl rfl rfl ?_)
    intro b1 w2 hb1 F2
    change Fr _ _ [blk _ _ [_, _, _, _, _], _] _ at F2
    refine Ops.step (One.alloc F2 zero26 rfl rfl rfl rfl ?_)
    intro b2 w3 hb2 F3
    change Fr _ _ [blk _ _ [_, _, _, _, _], blk _ _ [_, _, _, _, _], _] _ at F3
    refine Ops.step (One.storeN (vs := [_, _, _, _, _]) F3 1 rfl sz26 rfl rfl rfl (ev_t rfl) (ev_t rfl) rfl rfl (rps_oneC (F3.get 2 rfl) 0 rfl) ?_)
    intro w4 F4
    change Fr _ _ [blk _ _ [_, _, _, _, _], blk _ _ [_, _, _, _, _], _] _ at F4
    refine Ops.step (One.storeN (vs := [_, _, _, _, _]) F4 0 rfl sz26 rfl rfl rfl (ev_t rfl) (ev_t rfl) rfl rfl (rps_oneC (F4.get 2 rfl) 1 rfl) ?_)
    intro w5 F5
    change Fr _ _ [blk _ _ [_, _, _, _, _], blk _ _ [_, _, _, _, _], _] _ at F5
    refine Ops.nil fun a hS => ?_
    refine hK5 _ _ ?_ a hS
    refine Cod.seq fun K6 hK6 => ?_
    refine Cod.region ?_
    refine Ops.step (One.val rfl rfl rfl (yld_move rfl (ev_t rfl)) ?_)
    refine Ops.step (One.call rfl rfl rfl (ent_f rfl (evl1 (ev_t rfl)) (enters en58)) (drawLen_ct code _ _ (hp.chg F5.chg)) (fun e w6 hw6 => ?_))
    obtain ⟨xc, tc, rfl, C6, hrsc, hdc⟩ := hw6
    have hwc := hdc.wt
    obtain ⟨Grsc, hGc⟩ : ∃ G, G = New w5 w6 := ⟨_, rfl⟩
    rw [← hGc] at hrsc
    obtain ⟨A3c, c3c, A4c, c4c, hxc⟩ := rep_x (rps_get hrsc 0 rfl)
    subst hxc
    have F6 := F5.new C6 (rps Grsc [(tc, (x5 tc.kind tc.num tc.str (.slice A3c tc.keys.length c3c) (.slice A4c tc.list.length c4c)).val)]) hrsc (by rw [hGc]; exact New.new)
    refine ⟨_, rfl, ?_⟩
    refine Ops.step (One.alloc F6 zero26 rfl rfl rfl rfl ?_)
    intro b3 w7 hb3 F7
    change Fr _ _ [blk _ _ [_, _, _, _, _], _, blk _ _ [_, _, _, _, _], blk _ _ [_, _, _, _, _], _] _ at F7
    refine Ops.step (One.storeN (vs := [_, _, _, _, _]) F7 0 rfl sz26 rfl rfl rfl (ev_t rfl) (ev_t rfl) rfl rfl (rps_oneC (F7.get 1 rfl) 0 rfl) ?_)
    intro w8 F8
    change Fr _ _ [blk _ _ [_, _, _, _, _], _, blk _ _ [_, _, _, _, _], blk _ _ [_, _, _, _, _], _] _ at F8
    refine Ops.nil fun a hS => ?_
    refine hK6 _ _ ?_ a hS
    refine Cod.seq fun K7 hK7 => ?_
    refine Cod.region ?_
    refine Ops.step (One.val rfl rfl rfl (yld_loadN ag26 rfl (ev_t rfl) (fun _ => F8.range (m := 5) (cs' := [_, _, _, _, _]) 3 rfl rfl) rfl) ?_)
    refine Ops.step (One.val rfl rfl rfl (yld_loadN ag26 rfl (ev_t rfl) (fun _ => F8.range (m := 5) (cs' := [_, _, _, _, _]) 2 rfl rfl) rfl) ?_)
    refine Ops.step (One.call rfl rfl rfl (ent_f rfl (evl2 (ev_t rfl) (ev_t rfl)) (enters en31)) (partAdd_ct ta tb _ _ _ (rps_get (F8.get 4 rfl) 0 rfl) (rps_get (F8.get 4 rfl) 1 rfl) hda.fit hdb.fit (by omega) (by omega)) (fun e w9 hw9 => ?_))
    obtain ⟨R1, hR1⟩ : ∃ R, R = addR ta tb := ⟨_, rfl⟩
    have hO1 : okT (R1.getD zeroT) = true := by rw [hR1]; exact addR_ok ta tb
    rw [← hR1] at hw9
    obtain ⟨e1, E1, rfl, C9, hE1, hEb1⟩ := hw9
    obtain ⟨A3e1, c3e1, A4e1, c4e1, hxe1⟩ := rep_x hE1.rep
    subst hxe1
    have F9 := F8.new C9 (sep E1 (R1.getD zeroT) (x5 (R1.getD zeroT).kind (R1.getD zeroT).num (R1.getD zeroT).str (.slice A3e1 (R1.getD zeroT).keys.length c3e1) (.slice A4e1 (R1.getD zeroT).list.length c4e1)).val) hE1 hEb1
    refine ⟨_, rfl, ?_⟩
    refine Ops.step (One.val rfl rfl rfl (yld_move rfl (ev_t rfl)) ?_)
    refine Ops.step (One.val rfl rfl rfl (yld_extract rfl (ev_t rfl) rfl) ?_)
    refine Ops.step (One.val rfl rfl rfl (yld_extract rfl (ev_t rfl) rfl) ?_)
    refine Ops.step (One.alloc F9 zero26 rfl rfl rfl rfl ?_)
    intro b4 w10 hb4 F10
    change Fr _ _ [blk _ _ [_, _, _, _, _], _, blk _ _ [_, _, _, _, _], _, blk _ _ [_, _, _, _, _], blk _ _ [_, _, _, _, _], _] _ at F10
    refine Ops.step (One.storeN (vs := [_, _, _, _, _]) F10 0 rfl sz26 rfl rfl rfl (ev_t rfl) (ev_t rfl) rfl rfl (Sep.one (x := (x5 (R1.getD zeroT).kind (R1.getD zeroT).num (R1.getD zeroT).str (.slice A3e1 (R1.getD zeroT).keys.length c3e1) (.slice A4e1 (R1.getD zeroT).list.length c4e1))) (F10.get 1 rfl)) ?_)
    intro w11 F11
    change Fr _ _ [blk _ _ [_, _, _, _, _], _, blk _ _ [_, _, _, _, _], _, blk _ _ [_, _, _, _, _], blk _ _ [_, _, _, _, _], _] _ at F11
    refine Ops.step (One.val rfl rfl rfl (yld_assign rfl (ev_t rfl)) ?_)
    refine Ops.nil fun a hS => ?_
    refine hK7 _ _ ?_ a hS
    refine Cod.seq fun K8 hK8 => ?_
    refine Cod.region ?_
    refine Ops.step (One.val rfl rfl rfl (yld_loadN ag26 rfl (ev_t rfl) (fun _ => F11.range (m := 5) (cs' := [_, _, _, _, _]) 2 rfl rfl) rfl) ?_)
    refine Ops.step (One.call rfl rfl rfl (ent_f rfl (evl1 (ev_t rfl)) (enters en59)) (len_ct tc _ _ (rps_get (F11.get 3 rfl) 0 rfl) hdc.fit (by omega)) (fun e w12 hw12 => ?_))
    obtain ⟨R2, hR2⟩ : ∃ R, R = lenR tc := ⟨_, rfl⟩
    have hO2 : okT (R2.getD zeroT) = true := by rw [hR2]; exact lenR_ok _ hdc.fit
    rw [← hR2] at hw12
    obtain ⟨e2, E2, rfl, C12, hE2, hEb2⟩ := hw12
    obtain ⟨A3e2, c3e2, A4e2, c4e2, hxe2⟩ := rep_x hE2.rep
    subst hxe2
    have F12 := F11.new C12 (sep E2 (R2.getD zeroT) (x5 (R2.getD zeroT).kind (R2.getD zeroT).num (R2.getD zeroT).str (.slice A3e2 (R2.getD zeroT).keys.length c3e2) (.slice A4e2 (R2.getD zeroT).list.length c4e2)).val) hE2 hEb2
    refine ⟨_, rfl, ?_⟩
    refine Ops.step (One.val rfl rfl rfl (yld_move rfl (ev_t rfl)) ?_)
    refine Ops.step (One.val rfl rfl rfl (yld_extract rfl (ev_t rfl) rfl) ?_)
    refine Ops.step (One.val rfl rfl rfl (yld_extract rfl (ev_t rfl) rfl) ?_)
    refine Ops.step (One.alloc F12 zero26 rfl rfl rfl rfl ?_)
    intro b5 w13 hb5 F13
    change Fr _ _ [blk _ _ [_, _, _, _, _], _, blk _ _ [_, _, _, _, _], _, blk _ _ [_, _, _, _, _], _, blk _ _ [_, _, _, _, _], blk _ _ [_, _, _, _, _], _] _ at F13
    refine Ops.step (One.storeN (vs := [_, _, _, _, _]) F13 0 rfl sz26 rfl rfl rfl (ev_t rfl) (ev_t rfl) rfl rfl (Sep.one (x := (x5 (R2.getD zeroT).kind (R2.getD zeroT).num (R2.getD zeroT).str (.slice A3e2 (R2.getD zeroT).keys.length c3e2) (.slice A4e2 (R2.getD zeroT).list.length c4e2))) (F13.get 1 rfl)) ?_)
    intro w14 F14
    change Fr _ _ [blk _ _ [_, _, _, _, _], _, blk _ _ [_, _, _, _, _], _, blk _ _ [_, _, _, _, _], _, blk _ _ [_, _, _, _, _], blk _ _ [_, _, _, _, _], _] _ at F14
    refine Ops.step (One.val rfl rfl rfl (yld_assign rfl (ev_t rfl)) ?_)
    refine Ops.nil fun a hS => ?_
    refine hK8 _ _ ?_ a hS
    refine Cod.seq fun K9 hK9 => ?_
    refine Cod.region ?_
    refine Ops.step (One.val rfl rfl rfl (yld_loadN ag26 rfl (ev_t rfl) (fun _ => F14.range (m := 5) (cs' := [_, _, _, _, _]) 4 rfl rfl) rfl) ?_)
    refine Ops.step (One.call rfl rfl rfl (ent_f rfl (evl1 (ev_t rfl)) (enters en60)) (specLen_ct tc _ _ (rps_get (F14.get 5 rfl) 0 rfl) hdc.fit (by omega)) (fun e w15 hw15 => ?_))
    rw [← hR2] at hw15
    obtain ⟨e3, E3, rfl, C15, hE3, hEb3⟩ := hw15
    obtain ⟨A3e3, c3e3, A4e3, c4e3, hxe3⟩ := rep_x hE3.rep
    subst hxe3
    have F15 := F14.new C15 (sep E3 (R2.getD zeroT) (x5 (R2.getD zeroT).kind (R2.getD zeroT).num (R2.getD zeroT).str (.slice A3e3 (R2.getD zeroT).keys.length c3e3) (.slice A4e3 (R2.getD zeroT).list.length c4e3)).val) hE3 hEb3
    refine ⟨_, rfl, ?_⟩
    refine Ops.step (One.val rfl rfl rfl (yld_move rfl (ev_t rfl)) ?_)
    refine Ops.step (One.val rfl rfl rfl (yld_extract rfl (ev_t rfl) rfl) ?_)
    refine Ops.step (One.val rfl rfl rfl (yld_extract rfl (ev_t rfl) rfl) ?_)
    refine Ops.step (One.alloc F15 zero26 rfl rfl rfl rfl ?_)
    intro b6 w16 hb6 F16
    change Fr _ _ [blk _ _ [_, _, _, _, _], _, blk _ _ [_, _, _, _, _], _, blk _ _ [_, _, _, _, _], _, blk _ _ [_, _, _, _, _], _, blk _ _ [_, _, _, _, _], blk _ _ [_, _, _, _, _], _] _ at F16
    refine Ops.step (One.storeN (vs := [_, _, _, _, _]) F16 0 rfl sz26 rfl rfl rfl (ev_t rfl) (ev_t rfl) rfl rfl (Sep.one (x := (x5 (R2.getD zeroT).kind (R2.getD zeroT).num (R2.getD zeroT).str (.slice A3e3 (R2.getD zeroT).keys.length c3e3) (.slice A4e3 (R2.getD zeroT).list.length c4e3))) (F16.get 1 rfl)) ?_)
    intro w17 F17
    change Fr _ _ [blk _ _ [_, _, _, _, _], _, blk _ _ [_, _, _, _, _], _, blk _ _ [_, _, _, _, _], _, blk _ _ [_, _, _, _, _], _, blk _ _ [_, _, _, _, _], blk _ _ [_, _, _, _, _], _] _ at F17
    refine Ops.step (One.val rfl rfl rfl (yld_assign rfl (ev_t rfl)) ?_)
    refine Ops.nil fun a hS => ?_
    refine hK9 _ _ ?_ a hS
    refine Cod.seq fun K10 hK10 => ?_
    refine Cod.seq fun K11 hK11 => ?_
    refine Cod.region ?_
    refine Ops.step (One.val rfl rfl rfl (yld_move rfl (ev_t rfl)) ?_)
    refine Ops.step (One.val rfl rfl rfl (yld_move rfl (ev_t rfl)) ?_)
    refine Ops.step (One.val rfl rfl rfl (yld_bneq Try.underlying4 rfl (ev_t rfl) (ev_t rfl)) ?_)
    refine Ops.step (One.val rfl rfl rfl (yld_move rfl (ev_t rfl)) ?_)
    refine Ops.step (One.val (gd_some rfl rfl) rfl rfl (yld_loadN ag26 rfl (ev_t rfl) (fun _ => F17.range (m := 5) (cs' := [_, _, _, _, _]) 2 rfl rfl) rfl) ?_)
    refine Ops.step (One.val (gd_some rfl rfl) rfl rfl (yld_loadN ag26 rfl (ev_t rfl) (fun _ => F17.range (m := 5) (cs' := [_, _, _, _, _]) 0 rfl rfl) rfl) ?_)
    refine Ops.step (One.gcall (R := Chg No w17) (gd_some rfl rfl) rfl rfl (ent_f rfl (evl2 (ev_g rfl) (ev_g rfl)) (enters en17)) (Chg.refl _ _) (fun hg => valSame_ct (R2.getD zeroT) (R2.getD zeroT) _ _ _ (F17.get 3 rfl).rep (F17.get 1 rfl).rep) ?_)
    intro w18 C18
    have F18 := F17.call C18
    refine Ops.step (One.val (gd_some rfl rfl) rfl rfl (yld_not rfl (ev_g rfl)) ?_)
    refine Ops.step (One.val rfl rfl rfl (yld_or rfl (ev_t rfl) (ev_g rfl)) ?_)
    refine Ops.nil fun a hS => ?_
    refine hK11 _ _ ?_ a hS
    refine Cod.cond rfl (fun hc55 => ?_) (fun hc55 => ?_)
    · skip
      simp at hc55
    · skip
      skip
      refine Cod.skip fun a hS => ?_
      refine hK10 _ _ ?_ a hS
      refine Cod.cut (fun i : Unit => [(5, true, .pointer (some ⟨b3, 0, none⟩)), (8, true, .pointer (some ⟨b5, 0, none⟩)), (9, true, .bool R2.isSome)]) (fun i w' => Fr No w [blk b5 26 (enc5 (x5 (R2.getD zeroT).kind (R2.getD zeroT).num (R2.getD zeroT).str (.slice A3e2 (R2.getD zeroT).keys.length c3e2) (.slice A4e2 (R2.getD zeroT).list.length c4e2))), sep E2 (R2.getD zeroT) (x5 (R2.getD zeroT).kind (R2.getD zeroT).num (R2.getD zeroT).str (.slice A3e2 (R2.getD zeroT).keys.length c3e2) (.slice A4e2 (R2.getD zeroT).list.length c4e2)).val, blk b3 26 (enc5 (x5 tc.kind tc.num tc.str (.slice A3c tc.keys.length c3c) (.slice A4c tc.list.length c4c))), rps Grsc [(tc, (x5 tc.kind tc.num tc.str (.slice A3c tc.keys.length c3c) (.slice A4c tc.list.length c4c)).val)]] w') (fun K12 hK12 => ?_) ?_
      · skip
        refine Cod.seq fun K13 hK13 => ?_
        refine Cod.region ?_
        refine Ops.step (One.val rfl rfl rfl (yld_move rfl (ev_t rfl)) ?_)
        refine Ops.step (One.val rfl rfl rfl (yld_move rfl (ev_t rfl)) ?_)
        refine Ops.step (One.val (gd_some rfl rfl) rfl rfl (yld_field fi26_0 rfl (ev_t rfl)) ?_)
        refine Ops.step (One.val (gd_some rfl rfl) rfl rfl (yld_load1 on3 rfl (ev_g rfl) (fun _ => F18.cell 9 rfl rfl)) ?_)
        refine Ops.step (One.val (gd_some rfl rfl) rfl rfl (yld_field fi26_0 rfl (ev_t rfl)) ?_)
        refine Ops.step (One.val (gd_some rfl rfl) rfl rfl (yld_load1 on3 rfl (ev_g rfl) (fun _ => F18.cell 8 rfl rfl)) ?_)
        refine Ops.step (One.val (gd_some rfl rfl) rfl rfl (yld_eql rfl (ev_g rfl) (ev_g rfl)) ?_)
        refine Ops.step (One.val rfl rfl rfl (yld_and rfl (ev_t rfl) (ev_g rfl)) ?_)
        refine Ops.step (One.val rfl rfl rfl (yld_move rfl (ev_t rfl)) ?_)
        refine Ops.step (One.val (gd_some rfl rfl) rfl rfl (yld_field fi26_0 rfl (ev_t rfl)) ?_)
        refine Ops.step (One.val (gd_some rfl rfl) rfl rfl (yld_load1 on3 rfl (ev_g rfl) (fun _ => F18.cell 9 rfl rfl)) ?_)
        refine Ops.step (One.val (gd_some rfl rfl) rfl rfl (yld_eql rfl (ev_g rfl) ev_c) ?_)
        refine Ops.step (One.val (gd_some rfl rfl) rfl rfl (yld_move rfl (ev_g rfl)) ?_)
        refine Ops.step (One.val (gd_some rfl rfl) rfl rfl (yld_field fi26_0 rfl (ev_t rfl)) ?_)
        refine Ops.step (One.val (gd_some rfl rfl) rfl rfl (yld_load1 on3 rfl (ev_g rfl) (fun _ => F18.cell 9 rfl rfl)) ?_)
        refine Ops.step (One.val (gd_some rfl rfl) rfl rfl (yld_eql rfl (ev_g rfl) ev_c) ?_)
        refine Ops.step (One.val (gd_some rfl rfl) rfl rfl (yld_or rfl (ev_g rfl) (ev_g rfl)) ?_)
        refine Ops.step (One.val rfl rfl rfl (yld_and rfl (ev_t rfl) (ev_g rfl)) ?_)
        refine Ops.nil fun a hS => ?_
        refine hK13 _ _ ?_ a hS
        refine Cod.cond rfl (fun hc73 => ?_) (fun hc73 => ?_)
        · skip
          have hq : R1.isSome = true ∧ ta.kind = tb.kind ∧ (ta.kind = 4 ∨ ta.kind = 5) := by
            have h := hc73
            simp at h
            exact ⟨h.1.1, h.1.2, h.2⟩
          refine Cod.seq fun K14 hK14 => ?_
          refine Cod.region ?_
          refine Ops.step (One.val rfl rfl rfl (yld_loadN ag26 rfl (ev_t rfl) (fun _ => F18.range (m := 5) (cs' := [_, _, _, _, _]) 9 rfl rfl) rfl) ?_)
          refine Ops.step (One.call rfl rfl rfl (ent_f rfl (evl1 (ev_t rfl)) (enters en59)) (len_ct ta _ _ (rps_get (F18.get 10 rfl) 0 rfl) hda.fit (by omega)) (fun e w19 hw19 => ?_))
          obtain ⟨R3, hR3⟩ : ∃ R, R = lenR ta := ⟨_, rfl⟩
          have hO3 : okT (R3.getD zeroT) = true := by rw [hR3]; exact lenR_ok _ hda.fit
          rw [← hR3] at hw19
          obtain ⟨e4, E4, rfl, C19, hE4, hEb4⟩ := hw19
          obtain ⟨A3e4, c3e4, A4e4, c4e4, hxe4⟩ := rep_x hE4.rep
          subst hxe4
          have F19 := F18.new C19 (sep E4 (R3.getD zeroT) (x5 (R3.getD zeroT).kind (R3.getD zeroT).num (R3.getD zeroT).str (.slice A3e4 (R3.getD zeroT).keys.length c3e4) (.slice A4e4 (R3.getD zeroT).list.length c4e4)).val) hE4 hEb4
          refine ⟨_, rfl, ?_⟩
          refine Ops.step (One.val rfl rfl rfl (yld_move rfl (ev_t rfl)) ?_)
          refine Ops.step (One.val rfl rfl rfl (yld_extract rfl (ev_t rfl) rfl) ?_)
          refine Ops.step (One.val rfl rfl rfl (yld_extract rfl (ev_t rfl) rfl) ?_)
          refine Ops.step (One.alloc F19 zero26 rfl rfl rfl rfl ?_)
          intro b7 w20 hb7 F20
          change Fr _ _ [blk _ _ [_, _, _, _, _], _, blk _ _ [_, _, _, _, _], _, blk _ _ [_, _, _, _, _], _, blk _ _ [_, _, _, _, _], _, blk _ _ [_, _, _, _, _], _, blk _ _ [_, _, _, _, _], blk _ _ [_, _, _, _, _], _] _ at F20
          refine Ops.step (One.storeN (vs := [_, _, _, _, _]) F20 0 rfl sz26 rfl rfl rfl (ev_t rfl) (ev_t rfl) rfl rfl (Sep.one (x := (x5 (R3.getD zeroT).kind (R3.getD zeroT).num (R3.getD zeroT).str (.slice A3e4 (R3.getD zeroT).keys.length c3e4) (.slice A4e4 (R3.getD zeroT).list.length c4e4))) (F20.get 1 rfl)) ?_)
          intro w21 F21
          change Fr _ _ [blk _ _ [_, _, _, _, _], _, blk _ _ [_, _, _, _, _], _, blk _ _ [_, _, _, _, _], _, blk _ _ [_, _, _, _, _], _, blk _ _ [_, _, _, _, _], _, blk _ _ [_, _, _, _, _], blk _ _ [_, _, _, _, _], _] _ at F21
          refine Ops.step (One.val rfl rfl rfl (yld_assign rfl (ev_t rfl)) ?_)
          refine Ops.nil fun a hS => ?_
          refine hK14 _ _ ?_ a hS
          refine Cod.seq fun K15 hK15 => ?_
          refine Cod.region ?_
          refine Ops.step (One.val rfl rfl rfl (yld_loadN ag26 rfl (ev_t rfl) (fun _ => F21.range (m := 5) (cs' := [_, _, _, _, _]) 10 rfl rfl) rfl) ?_)
          refine Ops.step (One.call rfl rfl rfl (ent_f rfl (evl1 (ev_t rfl)) (enters en59)) (len_ct tb _ _ (rps_get (F21.get 12 rfl) 1 rfl) hdb.fit (by omega)) (fun e w22 hw22 => ?_))
          obtain ⟨R4, hR4⟩ : ∃ R, R = lenR tb := ⟨_, rfl⟩
          have hO4 : okT (R4.getD zeroT) = true := by rw [hR4]; exact lenR_ok _ hdb.fit
          rw [← hR4] at hw22
          obtain ⟨e5, E5, rfl, C22, hE5, hEb5⟩ := hw22
          obtain ⟨A3e5, c3e5, A4e5, c4e5, hxe5⟩ := rep_x hE5.rep
          subst hxe5
          have F22 := F21.new C22 (sep E5 (R4.getD zeroT) (x5 (R4.getD zeroT).kind (R4.getD zeroT).num (R4.getD zeroT).str (.slice A3e5 (R4.getD zeroT).keys.length c3e5) (.slice A4e5 (R4.getD zeroT).list.length c4e5)).val) hE5 hEb5
          refine ⟨_, rfl, ?_⟩
          refine Ops.step (One.val rfl rfl rfl (yld_move rfl (ev_t rfl)) ?_)
          refine Ops.step (One.val rfl rfl rfl (yld_extract rfl (ev_t rfl) rfl) ?_)
          refine Ops.step (One.val rfl rfl rfl (yld_extract rfl (ev_t rfl) rfl) ?_)
          refine Ops.step (One.alloc F22 zero26 rfl rfl rfl rfl ?_)
          intro b8 w23 hb8 F23
          change Fr _ _ [blk _ _ [_, _, _, _, _], _, blk _ _ [_, _, _, _, _], _, blk _ _ [_, _, _, _, _], _, blk _ _ [_, _, _, _, _], _, blk _ _ [_, _, _, _, _], _, blk _ _ [_, _, _, _, _], _, blk _ _ [_, _, _, _, _], blk _ _ [_, _, _, _, _], _] _ at F23
          refine Ops.step (One.storeN (vs := [_, _, _, _, _]) F23 0 rfl sz26 rfl rfl rfl (ev_t rfl) (ev_t rfl) rfl rfl (Sep.one (x := (x5 (R4.getD zeroT).kind (R4.getD zeroT).num (R4.getD zeroT).str (.slice A3e5 (R4.getD zeroT).keys.length c3e5) (.slice A4e5 (R4.getD zeroT).list.length c4e5))) (F23.get 1 rfl)) ?_)
          intro w24 F24
          change Fr _ _ [blk _ _ [_, _, _, _, _], _, blk _ _ [_, _, _, _, _], _, blk _ _ [_, _, _, _, _], _, blk _ _ [_, _, _, _, _], _, blk _ _ [_, _, _, _, _], _, blk _ _ [_, _, _, _, _], _, blk _ _ [_, _, _, _, _], blk _ _ [_, _, _, _, _], _] _ at F24
          refine Ops.step (One.val rfl rfl rfl (yld_assign rfl (ev_t rfl)) ?_)
          refine Ops.nil fun a hS => ?_
          refine hK15 _ _ ?_ a hS
          refine Cod.seq fun K16 hK16 => ?_
          refine Cod.region ?_
          refine Ops.step (One.val rfl rfl rfl (yld_loadN ag26 rfl (ev_t rfl) (fun _ => F24.range (m := 5) (cs' := [_, _, _, _, _]) 8 rfl rfl) rfl) ?_)
          refine Ops.step (One.call rfl rfl rfl (ent_f rfl (evl1 (ev_t rfl)) (enters en59)) (len_ct (R1.getD zeroT) _ _ (F24.get 9 rfl).rep (okT_fit hO1) (okT_w hO1)) (fun e w25 hw25 => ?_))
          obtain ⟨R5, hR5⟩ : ∃ R, R = lenR (R1.getD zeroT) := ⟨_, rfl⟩
          have hO5 : okT (R5.getD zeroT) = true := by rw [hR5]; exact lenR_ok _ (okT_fit hO1)
          rw [← hR5] at hw25
          obtain ⟨e6, E6, rfl, C25, hE6, hEb6⟩ := hw25
          obtain ⟨A3e6, c3e6, A4e6, c4e6, hxe6⟩ := rep_x hE6.rep
          subst hxe6
          have F25 := F24.new C25 (sep E6 (R5.getD zeroT) (x5 (R5.getD zeroT).kind (R5.getD zeroT).num (R5.getD zeroT).str (.slice A3e6 (R5.getD zeroT).keys.length c3e6) (.slice A4e6 (R5.getD zeroT).list.length c4e6)).val) hE6 hEb6
          refine ⟨_, rfl, ?_⟩
          refine Ops.step (One.val rfl rfl rfl (yld_move rfl (ev_t rfl)) ?_)
          refine Ops.step (One.val rfl rfl rfl (yld_extract rfl (ev_t rfl) rfl) ?_)
          refine Ops.step (One.val rfl rfl rfl (yld_extract rfl (ev_t rfl) rfl) ?_)
          refine Ops.step (One.alloc F25 zero26 rfl rfl rfl rfl ?_)
          intro b9 w26 hb9 F26
          change Fr _ _ [blk _ _ [_, _, _, _, _], _, blk _ _ [_, _, _, _, _], _, blk _ _ [_, _, _, _, _], _, blk _ _ [_, _, _, _, _], _, blk _ _ [_, _, _, _, _], _, blk _ _ [_, _, _, _, _], _, blk _ _ [_, _, _, _, _], _, blk _ _ [_, _, _, _, _], blk _ _ [_, _, _, _, _], _] _ at F26
          refine Ops.step (One.storeN (vs := [_, _, _, _, _]) F26 0 rfl sz26 rfl rfl rfl (ev_t rfl) (ev_t rfl) rfl rfl (Sep.one (x := (x5 (R5.getD zeroT).kind (R5.getD zeroT).num (R5.getD zeroT).str (.slice A3e6 (R5.getD zeroT).keys.length c3e6) (.slice A4e6 (R5.getD zeroT).list.length c4e6))) (F26.get 1 rfl)) ?_)
          intro w27 F27
          change Fr _ _ [blk _ _ [_, _, _, _, _], _, blk _ _ [_, _, _, _, _], _, blk _ _ [_, _, _, _, _], _, blk _ _ [_, _, _, _, _], _, blk _ _ [_, _, _, _, _], _, blk _ _ [_, _, _, _, _], _, blk _ _ [_, _, _, _, _], _, blk _ _ [_, _, _, _, _], blk _ _ [_, _, _, _, _], _] _ at F27
          refine Ops.step (One.val rfl rfl rfl (yld_assign rfl (ev_t rfl)) ?_)
          refine Ops.nil fun a hS => ?_
          refine hK16 _ _ ?_ a hS
          refine Cod.seq fun K17 hK17 => ?_
          have n3 := num_rng hO3
          have n4 := num_rng hO4
          refine Cod.region ?_
          refine Ops.step (One.val rfl rfl rfl (yld_field fi26_1 rfl (ev_t rfl)) ?_)
          refine Ops.step (One.val rfl rfl rfl (yld_load1 on3 rfl (ev_t rfl) (fun _ => F27.cell 4 rfl rfl)) ?_)
          refine Ops.step (One.val rfl rfl rfl (yld_field fi26_1 rfl (ev_t rfl)) ?_)
          refine Ops.step (One.val rfl rfl rfl (yld_load1 on3 rfl (ev_t rfl) (fun _ => F27.cell 2 rfl rfl)) ?_)
          refine Ops.step (One.val rfl rfl rfl (yld_add rfl (ev_t rfl) (ev_t rfl) (fun _ => by omega)) ?_)
          refine Ops.step (One.val rfl rfl rfl (yld_field fi26_1 rfl (ev_t rfl)) ?_)
          refine Ops.step (One.val rfl rfl rfl (yld_load1 on3 rfl (ev_t rfl) (fun _ => F27.cell 0 rfl rfl)) ?_)
          refine Ops.step (One.val rfl rfl rfl (yld_neq rfl (ev_t rfl) (ev_t rfl)) ?_)
          refine Ops.nil fun a hS => ?_
          refine hK17 _ _ ?_ a hS
          refine Cod.cond rfl (fun hc96 => ?_) (fun hc96 => ?_)
          · skip
            exact absurd (add_len hR1 hq.1 hq.2.1 hq.2.2 hR3 hR4 hR5) (by simpa using hc96)
          · skip
            skip
            refine Cod.skip fun a hS => ?_
            have F28 := F27.pull 13 rfl
            have F29 := F28.pull 13 rfl
            have F30 := F29.pull 11 rfl
            have F31 := F30.pull 11 rfl
            have F32 := F31.erase 4
            have F33 := F32.erase 4
            have F34 := F33.erase 4
            have F35 := F34.erase 4
            have F36 := F35.erase 4
            have F37 := F36.erase 4
            have F38 := F37.erase 4
            have F39 := F38.erase 4
            have F40 := F39.erase 4
            have F41 := F40.erase 4
            have F42 := F41.erase 4
            have F43 := F42.erase 4
            have F44 := F43.erase 4
            exact hK12 () _ a (hS.sub ⟨rfl, rfl, rfl, trivial⟩) F44
        · skip
          skip
          refine Cod.skip fun a hS => ?_
          have F45 := F18.pull 7 rfl
          have F46 := F45.pull 7 rfl
          have F47 := F46.pull 5 rfl
          have F48 := F47.pull 5 rfl
          have F49 := F48.erase 4
          have F50 := F49.erase 4
          have F51 := F50.erase 4
          have F52 := F51.erase 4
          have F53 := F52.erase 4
          have F54 := F53.erase 4
          have F55 := F54.erase 4
          exact hK12 () _ a (hS.sub ⟨rfl, rfl, rfl, trivial⟩) F55
      · skip
        intro i w28 hW
        have F56 := hW
        refine Cod.seq fun K18 hK18 => ?_
        refine Cod.region ?_
        refine Ops.step (One.val rfl rfl rfl (yld_loadN ag26 rfl (ev_t rfl) (fun _ => F56.range (m := 5) (cs' := [_, _, _, _, _]) 2 rfl rfl) rfl) ?_)
        refine Ops.step (One.call rfl rfl rfl (ent_f rfl (evl1 (ev_t rfl)) (enters en56)) (keys_ct tc _ _ (rps_get (F56.get 3 rfl) 0 rfl) hdc.fit (by omega)) (fun e w29 hw29 => ?_))
        obtain ⟨R6, hR6⟩ : ∃ R, R = keysR tc := ⟨_, rfl⟩
        have hO6 : okT (R6.getD zeroT) = true := by rw [hR6]; exact keysR_ok _ hdc.fit
        rw [← hR6] at hw29
        obtain ⟨e7, E7, rfl, C29, hE7, hEb7⟩ := hw29
        obtain ⟨A3e7, c3e7, A4e7, c4e7, hxe7⟩ := rep_x hE7.rep
        subst hxe7
        have F57 := F56.new C29 (sep E7 (R6.getD zeroT) (x5 (R6.getD zeroT).kind (R6.getD zeroT).num (R6.getD zeroT).str (.slice A3e7 (R6.getD zeroT).keys.length c3e7) (.slice A4e7 (R6.getD zeroT).list.length c4e7)).val) hE7 hEb7
        refine ⟨_, rfl, ?_⟩
        refine Ops.step (One.val rfl rfl rfl (yld_move rfl (ev_t rfl)) ?_)
        refine Ops.step (One.val rfl rfl rfl (yld_extract rfl (ev_t rfl) rfl) ?_)
        refine Ops.step (One.val rfl rfl rfl (yld_extract rfl (ev_t rfl) rfl) ?_)
        refine Ops.step (One.alloc F57 zero26 rfl rfl rfl rfl ?_)
        intro b10 w30 hb10 F58
        change Fr _ _ [blk _ _ [_, _, _, _, _], _, blk _ _ [_, _, _, _, _], _, blk _ _ [_, _, _, _, _], _] _ at F58
        refine Ops.step (One.storeN (vs := [_, _, _, _, _]) F58 0 rfl sz26 rfl rfl rfl (ev_t rfl) (ev_t rfl) rfl rfl (Sep.one (x := (x5 (R6.getD zeroT).kind (R6.getD zeroT).num (R6.getD zeroT).str (.slice A3e7 (R6.getD zeroT).keys.length c3e7) (.slice A4e7 (R6.getD zeroT).list.length c4e7))) (F58.get 1 rfl)) ?_)
        intro w31 F59
        change Fr _ _ [blk _ _ [_, _, _, _, _], _, blk _ _ [_, _, _, _, _], _, blk _ _ [_, _, _, _, _], _] _ at F59
        refine Ops.step (One.val rfl rfl rfl (yld_assign rfl (ev_t rfl)) ?_)
        refine Ops.nil fun a hS => ?_
        refine hK18 _ _ ?_ a hS
        refine Cod.seq fun K19 hK19 => ?_
        refine Cod.seq fun K20 hK20 => ?_
        refine Cod.region ?_
        refine Ops.step (One.val rfl rfl rfl (yld_assign rfl ev_c) ?_)
        refine Ops.nil fun a hS => ?_
        refine hK20 _ _ ?_ a hS
        refine Cod.block ?_
        have F60 := F59.pull 3 rfl
        have F61 := F60.pull 3 rfl
        have F62 := F61.pull 3 rfl
        have F63 := F62.pull 3 rfl
        have F64 := F63.erase 4
        have F65 := F64.erase 4
        refine Cod.loop (fun i : Nat => [(8, true, .pointer (some ⟨b5, 0, none⟩)), (9, true, .bool R2.isSome), (18, true, .pointer (some ⟨b10, 0, none⟩)), (19, true, .bool R6.isSome), (20, true, .int .i64 ((i + 1 : Nat) : Int))]) (fun i w' => i + 1 ≤ (R6.getD zeroT).list.length + 1 ∧ Fr No w [blk b10 26 (enc5 (x5 (R6.getD zeroT).kind (R6.getD zeroT).num (R6.getD zeroT).str (.slice A3e7 (R6.getD zeroT).keys.length c3e7) (.slice A4e7 (R6.getD zeroT).list.length c4e7))), sep E7 (R6.getD zeroT) (x5 (R6.getD zeroT).kind (R6.getD zeroT).num (R6.getD zeroT).str (.slice A3e7 (R6.getD zeroT).keys.length c3e7) (.slice A4e7 (R6.getD zeroT).list.length c4e7)).val, blk b5 26 (enc5 (x5 (R2.getD zeroT).kind (R2.getD zeroT).num (R2.getD zeroT).str (.slice A3e2 (R2.getD zeroT).keys.length c3e2) (.slice A4e2 (R2.getD zeroT).list.length c4e2))), sep E2 (R2.getD zeroT) (x5 (R2.getD zeroT).kind (R2.getD zeroT).num (R2.getD zeroT).str (.slice A3e2 (R2.getD zeroT).keys.length c3e2) (.slice A4e2 (R2.getD zeroT).list.length c4e2)).val] w') (fun i => (R6.getD zeroT).list.length + 1 - i) 0 ⟨rfl, rfl, rfl, rfl, rfl, trivial⟩ ⟨by omega, F65⟩ ?_
        intro i w32 hW K21 hK21
        obtain ⟨ix, hix⟩ : ∃ ix, ix = i := ⟨i, rfl⟩
        subst hix
        obtain ⟨hi0, F66⟩ := hW
        refine Cod.seq fun K22 hK22 => ?_
        refine Cod.seq fun K23 hK23 => ?_
        refine Cod.region ?_
        refine Ops.step (One.val rfl rfl rfl (yld_move rfl (ev_t rfl)) ?_)
        refine Ops.step (One.val rfl rfl rfl (yld_field fi26_4 rfl (ev_t rfl)) ?_)
        refine Ops.step (One.val rfl rfl rfl (yld_load1 on24 rfl (ev_t rfl) (fun _ => F66.cell 0 rfl rfl)) ?_)
        refine Ops.step (One.val rfl rfl rfl (yld_len sl24 rfl (ev_t rfl)) ?_)
        refine Ops.step (One.val rfl rfl rfl (yld_lss rfl (ev_t rfl) (ev_t rfl)) ?_)
        refine Ops.step (One.val rfl rfl rfl (yld_move rfl (ev_t rfl)) ?_)
        refine Ops.step (One.val (gd_some rfl rfl) rfl rfl (yld_move rfl (ev_t rfl)) ?_)
        refine Ops.step (One.val rfl rfl rfl (yld_and rfl (ev_t rfl) (ev_g rfl)) ?_)
        refine Ops.nil fun a hS => ?_
        refine hK23 _ _ ?_ a hS
        refine Cod.cond rfl (fun hc109 => ?_) (fun hc109 => ?_)
        · skip
          have hi : ix + 1 < (R6.getD zeroT).list.length ∧ R6.isSome = true := by
            have h := hc109
            simp at h
            exact ⟨by omega, h.2⟩
          have hcnt := okT_len60 hO6
          obtain ⟨hok, hk5, hkl⟩ := keys_at hR6 hi.2
          have hil : ix + 1 < tc.list.length := by have := hi.1; rw [hkl, keysL_len] at this; exact this
          refine Cod.skip fun a hS => ?_
          refine hK22 _ _ ?_ a hS
          refine Cod.seq fun K24 hK24 => ?_
          refine Cod.block ?_
          refine Cod.seq fun K25 hK25 => ?_
          have F67 := F66.drew
          obtain ⟨kb, ko, y1, hka, -, hr1, ht1⟩ := at5 (rep_l (F67.get 1 rfl).rep) ix (by omega)
          obtain ⟨kb2, ko2, y2, hka2, -, hr2, ht2⟩ := at5 (rep_l (F67.get 1 rfl).rep) (ix + 1) hi.1
          obtain ⟨rfl, rfl⟩ : kb = kb2 ∧ ko = ko2 := by rw [hka] at hka2; simpa using hka2
          simp only [hkl, keysL_get] at ht1 ht2
          have hsub : ((ix + 1 : Nat) : Int) - 1 = (ix : Int) := by omega
          refine Cod.draw (C_of F67) (by kernel_rfl) ?_
          refine Hops.take 0 rfl (by kernel_rfl) (fun _ _ _ h => h) rfl rfl rfl F67 (fun w F => (yld_field fi26_4 rfl (ev_t rfl))) ?_
          refine Hops.take 1 rfl (by kernel_rfl) (fun _ _ _ h => h) rfl rfl rfl F67 (fun w F => (yld_load1 on24 rfl (ev_t rfl) (fun _ => F.cell 0 rfl rfl))) ?_
          refine Hops.take 2 rfl (by kernel_rfl) (fun _ _ _ h => h) rfl rfl rfl F67 (fun w F => (yld_move rfl (ev_t rfl))) ?_
          refine Hops.take 3 rfl (by kernel_rfl) (fun _ _ _ h => h) rfl rfl rfl F67 (fun w F => (yld_sub rfl (ev_t rfl) ev_c (fun _ => by omega))) ?_
          rw [hsub]
          refine Hops.take 4 rfl (by kernel_rfl) (fun _ _ _ h => h) rfl rfl rfl F67 (fun w F => (yld_indexG (b := kb) (q := ko) (i := ix) sl24 rfl (ev_t rfl) (ev_t rfl) (fun _ => hka) (fun _ => by omega))) ?_
          refine Hops.take 6 rfl (by kernel_rfl) (fun _ _ _ h => h) rfl rfl rfl F67 (fun w F => (yld_field fi26_4 rfl (ev_t rfl))) ?_
          refine Hops.take 7 rfl (by kernel_rfl) (fun _ _ _ h => h) rfl rfl rfl F67 (fun w F => (yld_load1 on24 rfl (ev_t rfl) (fun _ => F.cell 0 rfl rfl))) ?_
          refine Hops.take 8 rfl (by kernel_rfl) (fun _ _ _ h => h) rfl rfl rfl F67 (fun w F => (yld_move rfl (ev_t rfl))) ?_
          refine Hops.take 9 rfl (by kernel_rfl) (fun _ _ _ h => h) rfl rfl rfl F67 (fun w F => (yld_indexG (b := kb) (q := ko) (i := ix + 1) sl24 rfl (ev_t rfl) (ev_t rfl) (fun _ => hka) (fun _ => hi.1))) ?_
          refine Hops.two 5 10 rfl rfl (by kernel_rfl) ?_ ?_
          · skip
            refine (One.val rfl rfl rfl (yld_loadN (cs := [y1.a, y1.b, y1.c, y1.d, y1.e]) ag26 rfl (ev_t rfl) (fun _ => hr1) rfl) ?_)
            refine ⟨F67, ?_⟩
            refine Hops.one 10 rfl (by kernel_rfl) (One.val rfl rfl rfl (yld_loadN (cs := [y2.a, y2.b, y2.c, y2.d, y2.e]) ag26 rfl (ev_t rfl) (fun _ => hr2) rfl) ?_)
            refine ⟨F67, ?_⟩
            refine Hops.one 11 rfl (by kernel_rfl) (One.call rfl rfl rfl (ent_f rfl (evl2 (ev_t rfl) (ev_t rfl)) (enters en23)) (valOrd_ct (keyT tc ix) (keyT tc (ix + 1)) y1.val y2.val _ ht1 ht2) (fun e w33 hw33 => ?_))
            obtain ⟨rfl, C33⟩ := hw33
            have F68 := F67.call C33
            refine ⟨_, rfl, ?_⟩
            refine ⟨F68, ?_⟩
            refine Hops.take 12 rfl (by kernel_rfl) (fun _ _ _ h => h) rfl rfl rfl F68 (fun w F => (yld_neq rfl (ev_t rfl) ev_c)) ?_
            refine Hops.nil (by kernel_rfl) fun a hS => ?_
            refine hK25 _ _ ?_ a hS
            refine Cod.cond rfl (fun hc124 => ?_) (fun hc124 => ?_)
            · skip
              (rw [key_ord hok hk5 hil] at hc124; simp at hc124)
            · skip
              skip
              refine Cod.skip fun a hS => ?_
              refine hK24 _ _ ?_ a hS
              refine Cod.region ?_
              refine Ops.step (One.val rfl rfl rfl (yld_move rfl (ev_t rfl)) ?_)
              refine Ops.step (One.val rfl rfl rfl (yld_inc rfl (ev_t rfl) (fun _ => by omega)) ?_)
              refine Ops.step (One.val rfl rfl rfl (yld_assign rfl (ev_t rfl)) ?_)
              refine Ops.nil fun a hS => ?_
              have F69 := F68.pull 3 rfl
              have F70 := F69.pull 3 rfl
              have F71 := F70.pull 3 rfl
              have F72 := F71.pull 3 rfl
              exact hK21 (ix + 1) _ a (hS.sub ⟨rfl, rfl, rfl, rfl, rfl, trivial⟩) ⟨by omega, F72⟩ (by omega)
          · skip
            refine (One.val rfl rfl rfl (yld_loadN (cs := [y2.a, y2.b, y2.c, y2.d, y2.e]) ag26 rfl (ev_t rfl) (fun _ => hr2) rfl) ?_)
            refine ⟨F67, ?_⟩
            refine Hops.one 5 rfl (by kernel_rfl) (One.val rfl rfl rfl (yld_loadN (cs := [y1.a, y1.b, y1.c, y1.d, y1.e]) ag26 rfl (ev_t rfl) (fun _ => hr1) rfl) ?_)
            refine ⟨F67, ?_⟩
            refine Hops.one 11 rfl (by kernel_rfl) (One.call rfl rfl rfl (ent_f rfl (evl2 (ev_t rfl) (ev_t rfl)) (enters en23)) (valOrd_ct (keyT tc ix) (keyT tc (ix + 1)) y1.val y2.val _ ht1 ht2) (fun e w34 hw34 => ?_))
            obtain ⟨rfl, C34⟩ := hw34
            have F73 := F67.call C34
            refine ⟨_, rfl, ?_⟩
            refine ⟨F73, ?_⟩
            refine Hops.take 12 rfl (by kernel_rfl) (fun _ _ _ h => h) rfl rfl rfl F73 (fun w F => (yld_neq rfl (ev_t rfl) ev_c)) ?_
            refine Hops.nil (by kernel_rfl) fun a hS => ?_
            refine hK25 _ _ ?_ a hS
            refine Cod.cond rfl (fun hc124 => ?_) (fun hc124 => ?_)
            · skip
              (rw [key_ord hok hk5 hil] at hc124; simp at hc124)
            · skip
              skip
              refine Cod.skip fun a hS => ?_
              refine hK24 _ _ ?_ a hS
              refine Cod.region ?_
              refine Ops.step (One.val rfl rfl rfl (yld_move rfl (ev_t rfl)) ?_)
              refine Ops.step (One.val rfl rfl rfl (yld_inc rfl (ev_t rfl) (fun _ => by omega)) ?_)
              refine Ops.step (One.val rfl rfl rfl (yld_assign rfl (ev_t rfl)) ?_)
              refine Ops.nil fun a hS => ?_
              have F74 := F73.pull 3 rfl
              have F75 := F74.pull 3 rfl
              have F76 := F75.pull 3 rfl
              have F77 := F76.pull 3 rfl
              exact hK21 (ix + 1) _ a (hS.sub ⟨rfl, rfl, rfl, rfl, rfl, trivial⟩) ⟨by omega, F77⟩ (by omega)
        · skip
          skip
          refine Cod.exit fun a hS => ?_
          simp only [Exit.then, Exit.inBlock, ↓reduceIte]
          refine hK19 _ _ ?_ a hS
          refine Cod.seq fun K26 hK26 => ?_
          refine Cod.region ?_
          refine Ops.step (One.val rfl rfl rfl (yld_move rfl (ev_t rfl)) ?_)
          refine Ops.step (One.val rfl rfl rfl (yld_not rfl (ev_t rfl)) ?_)
          refine Ops.step (One.val rfl rfl rfl (yld_move rfl (ev_t rfl)) ?_)
          refine Ops.step (One.val (gd_some rfl rfl) rfl rfl (yld_field fi26_0 rfl (ev_t rfl)) ?_)
          refine Ops.step (One.val (gd_some rfl rfl) rfl rfl (yld_load1 on3 rfl (ev_g rfl) (fun _ => F66.cell 2 rfl rfl)) ?_)
          refine Ops.step (One.val (gd_some rfl rfl) rfl rfl (yld_eql rfl (ev_g rfl) ev_c) ?_)
          refine Ops.step (One.val (gd_some rfl rfl) rfl rfl (yld_move rfl (ev_g rfl)) ?_)
          refine Ops.step (One.val (gd_some rfl rfl) rfl rfl (yld_field fi26_1 rfl (ev_t rfl)) ?_)
          refine Ops.step (One.val (gd_some rfl rfl) rfl rfl (yld_load1 on3 rfl (ev_g rfl) (fun _ => F66.cell 2 rfl rfl)) ?_)
          refine Ops.step (One.val (gd_some rfl rfl) rfl rfl (yld_geq rfl (ev_g rfl) ev_c) ?_)
          refine Ops.step (One.val (gd_some rfl rfl) rfl rfl (yld_and rfl (ev_g rfl) (ev_g rfl)) ?_)
          refine Ops.step (One.val rfl rfl rfl (yld_or rfl (ev_t rfl) (ev_g rfl)) ?_)
          refine Ops.step (One.val rfl rfl rfl (yld_assign rfl (ev_t rfl)) ?_)
          refine Ops.nil fun a hS => ?_
          refine hK26 _ _ ?_ a hS
          refine Cod.ret fun a hS => ?_
          try simp only [Exit.then, Exit.inBlock]
          exact ret1 (t := 2) rfl hS rfl ⟨ret_b (len_num hR2), F66.chg⟩


theorem ownKnob_none : ownKnob Try.prog.godebug = none := by kernel_rfl
theorem params_ok : ∀ t ∈ Try.f13.params.toList, Try.prog.readableRec t = true ∧ t < Try.prog.types.size := by
  rw [Try.params13]
  intro t ht
  simp only [List.mem_cons, List.not_mem_nil, or_false] at ht
  rcases ht with rfl <;> exact ⟨by kernel_rfl, of_decide_eq_true (by kernel_rfl)⟩
set_option maxRecDepth 100000 in
theorem lifted (os : Os) (started : os.Started) (H : Type) (enc : TypeId × Value → H) :
    ReturnsInHanded {} Try.checked os 13 .any (Rows.fnPartLenSpec.pre6 enc Try.prog Try.f13 Rows.fnPartLenRow.domain false) (Rows.fnPartLenSpec.post enc Try.prog Try.f13 false true false false) := by
  refine returnsInHanded_of_change (C := Try.checked) ownKnob_none started (by kernel_rfl) Try.func13
    (ChangeSpec.witness6 (enc := enc) (C := Try.checked) false ⟨#[], #[.slice none 0 0], []⟩ 8 (by kernel_rfl) (by kernel_rfl) (by kernel_rfl) (by kernel_rfl)) ?_
  intro W base args ds gs before hval0 hW hcnd _
  have hval : ∀ (j : Nat) t v, Try.f13.params[j]? = some t → args[j]? = some v → Value.okWide Try.prog W .any base t v := hval0
  have hW' := hW
  obtain ⟨p, q, hA0, hV, rfl, hfz, hnd⟩ := hW
  have hA : DataW.TrodAll enc Try.prog W 0 (fun _ => true) true Try.f13.params.toList args.toList ds p := hA0
  rw [Try.params13] at hA hval
  obtain ⟨v0, d0, rfl, rfl, h0⟩ := trodAll_one hA
  obtain ⟨rfl, rfl⟩ := trodVars_none hV
  obtain ⟨code, hp⟩ := open_bytes (hval 0 _ v0 rfl rfl) h0
  refine (walk code v0 W hp).mono fun e W' ⟨he, hc⟩ => ?_
  subst he
  exact ⟨_, rfl, post_chg laidOut rfl params_ok hW' (fun _ _ _ => (trodAll_cons_mk (shut_bool Try.underlying4 _) trodAll_mk0)) rfl rfl hc (ok_one (by kernel_rfl) rfl (okWide_bool_mk Try.underlying4 _))⟩

theorem over : Rows.fnPartLenRow.holds Try.pinned (OpenSpec.ofChange Rows.fnPartLenSpec) :=
  OpenClaim.holds_of_wide 13 Try.f13 rfl rfl rfl rfl rfl rfl rfl ⟨rfl, rfl, rfl, rfl, rfl⟩ rfl rfl rfl rfl rfl (by kernel_rfl) Try.func13 (by kernel_rfl)
    (of_decide_eq_true (by kernel_rfl)) (by unfold Func.isWrapper; first | (rw [if_pos (by decide +kernel)]; kernel_rfl) | (rw [if_neg (by decide +kernel)]; exact ⟨rfl, rfl⟩))
    (fun os started H enc _ => lifted os started H enc)

/-- The statement. -/
theorem proved : Rows.FnPartLenSaid := over
#print axioms proved

end GPartLen
end Go.Proofs.Ytmmgobhoakaaaaa.Eng
