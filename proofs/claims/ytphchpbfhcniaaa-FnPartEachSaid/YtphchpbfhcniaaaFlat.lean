/- Walks of both RowFlat: a row whose elements that are rows are opened once. -/
import Derived.Test.YtphchpbfhcniaaaCom
namespace Go.Proofs.Ytphchpbfhcniaaa.Eng
open Go.RowKit
set_option linter.unusedVariables false
set_option linter.unusedSimpArgs false
set_option maxHeartbeats 1000000


def flatL (l : List Tr) : List Tr := l.flatMap fun x => if x.kind = 5 then x.list else [x]
noncomputable def flatR (t : Tr) : Option Tr := if rowT t = true then toldR true (.mk 5 0 ⟨#[]⟩ [] (flatL t.list)) else none
theorem flat_wt : ∀ l : List Tr, (flatL l).length + sumN Tr.wt (flatL l) ≤ l.length + sumN Tr.wt l
  | [] => by simp [flatL, sumN]
  | x :: l => by
    have h1 := flat_wt l
    have h2 := x.wt_list
    unfold flatL at h1 ⊢
    rw [List.flatMap_cons, List.length_append, sumN_append, sumN_cons, List.length_cons]
    split
    · omega
    · simp [sumN] at h1 ⊢; omega
theorem flat_fit {l : List Tr} (h : ∀ x ∈ l, x.Fit) : ∀ x ∈ flatL l, x.Fit := fun x hx => by
  unfold flatL at hx
  obtain ⟨y, hy, hxy⟩ := List.mem_flatMap.1 hx
  split at hxy
  · exact (h y hy).list x hxy
  · obtain rfl := List.mem_singleton.1 hxy; exact h x hy
theorem flat_step (l : List Tr) (i : Nat) (h : i < l.length) : flatL (l.take (i + 1)) = flatL (l.take i) ++ (if l[i].kind = 5 then l[i].list else [l[i]]) := by
  unfold flatL
  rw [List.take_succ_eq_append_getElem h, List.flatMap_append]
  simp
theorem flat_le (l : List Tr) (i : Nat) : (flatL (l.take i)).length ≤ l.length + sumN Tr.wt l := by
  have h1 := flat_wt (l.take i)
  have h2 := sumN_take_le Tr.wt l i
  have h3 : (l.take i).length ≤ l.length := by simp; omega
  omega
theorem flatR_mkn (t : Tr) : ((flatR t).getD zeroT).keys.length + sumN Tr.mkn ((flatR t).getD zeroT).list ≤ 3 * t.wt + 3 := by
  unfold flatR
  split
  · have h1 := told_mkn (.mk 5 0 ⟨#[]⟩ [] (flatL t.list))
    have h2 := flat_wt t.list
    have h3 := t.wt_list
    rw [Tr.wt_mk] at h1
    have h4 : sumN ByteArray.size [] = 0 := rfl
    have h5 : (⟨#[]⟩ : ByteArray).size = 0 := rfl
    simp only [List.length_nil] at h1
    omega
  · show 0 + 0 ≤ _
    omega

set_option maxRecDepth 100000 in
theorem specFlat_ct (t : Tr) (v : Value) (w : World) (hr : Rep Any w t v) (hf : t.Fit) (hw : t.wt ≤ 1048576) : Calls Try.prog 19 #[v] w (Gives w (flatR t)) := by
  obtain ⟨v3, v4, ev, h3, h4⟩ := hr.form
  subst ev
  obtain ⟨A4, c4, rfl, hn4⟩ := h4.open
  have hwl := t.wt_list
  have hft := flat_wt t.list
  have hfit := flat_fit hf.list
  refine enter Try.func19 rfl rfl rfl ?_
  have F0 := Fr.start w
  refine Cod.seq fun K1 hK1 => ?_
  refine Cod.region ?_
  refine Ops.step (One.box F0 rfl rfl rfl rfl (ev_t rfl) ?_)
  intro b1 w1 hb1 F1
  change Fr _ _ [blk _ _ [_, _, _, _, _]] _ at F1
  refine Ops.step (One.alloc F1 zero26 rfl rfl rfl rfl ?_)
  intro b2 w2 hb2 F2
  change Fr _ _ [blk _ _ [_, _, _, _, _], blk _ _ [_, _, _, _, _]] _ at F2
  refine Ops.step (One.val rfl rfl rfl (yld_assign rfl ev_c) ?_)
  refine Ops.nil fun a hS => ?_
  refine hK1 _ _ ?_ a hS
  refine Cod.seq fun K2 hK2 => ?_
  refine Cod.seq fun K3 hK3 => ?_
  refine Cod.region ?_
  refine Ops.step (One.val rfl rfl rfl (yld_loadN ag26 rfl (ev_t rfl) (fun _ => F2.range (m := 5) (cs' := [_, _, _, _, _]) 1 rfl rfl) rfl) ?_)
  refine Ops.step (One.call rfl rfl rfl (ent_f rfl (evl1 (ev_t rfl)) (enters en56)) (l4Row_ct t _ _ (hr.chg F2.chg) hf hw) (fun e w3 hw3 => ?_))
  obtain ⟨rfl, C3⟩ := hw3
  have F3 := F2.call C3
  refine ⟨_, rfl, ?_⟩
  refine Ops.step (One.val rfl rfl rfl (yld_not rfl (ev_t rfl)) ?_)
  refine Ops.nil fun a hS => ?_
  refine hK3 _ _ ?_ a hS
  refine Cod.cond rfl (fun hc8 => ?_) (fun hc8 => ?_)
  · skip
    have hno : flatR t = none := by
      have hc : (!(rowT t)) = true := hc8
      unfold flatR
      cases h1 : rowT t <;> simp [h1] at hc ⊢
    refine Cod.seq fun K4 hK4 => ?_
    refine Cod.region ?_
    refine Ops.step (One.val rfl rfl rfl (yld_build (cells := [.int .i64 0, .int .i64 0, .string ⟨#[]⟩, .slice none 0 0, .slice none 0 0]) rfl (evp0) (by kernel_rfl)) ?_)
    refine Ops.step (One.storeN (vs := [_, _, _, _, _]) F3 0 rfl sz26 rfl rfl rfl (ev_t rfl) (ev_t rfl) rfl rfl rfl ?_)
    intro w4 F4
    change Fr _ _ [blk _ _ [_, _, _, _, _], blk _ _ [_, _, _, _, _]] _ at F4
    refine Ops.step (One.val rfl rfl rfl (yld_assign rfl ev_c) ?_)
    refine Ops.nil fun a hS => ?_
    refine hK4 _ _ ?_ a hS
    refine Cod.ret fun a hS => ?_
    try simp only [Exit.then, Exit.inBlock]
    exact retct (t := 2) (u := 3) (ty := 26) rfl hS ag26 rfl rfl (F4.range (m := 5) (cs' := [_, _, _, _, _]) 0 rfl rfl) rfl ⟨z5, No, by rw [hno]; rfl, F4.chg, by rw [hno]; exact sep_leaf _ 0 0 ⟨#[]⟩, fun k hk => hk.elim⟩
  · skip
    have hyes : flatR t = toldR true (.mk 5 0 ⟨#[]⟩ [] (flatL t.list)) := by
      have hc : (!(rowT t)) = false := hc8
      unfold flatR
      cases h1 : rowT t <;> simp [h1] at hc ⊢
    refine Cod.skip fun a hS => ?_
    refine hK2 _ _ ?_ a hS
    refine Cod.seq fun K5 hK5 => ?_
    refine Cod.region ?_
    refine Ops.step (One.buildNil enc5 F3 sl24 rfl rfl rfl rfl ?_)
    intro b3 w5 hb3 F5
    refine Ops.step (One.val rfl rfl rfl (yld_assign rfl (ev_t rfl)) ?_)
    refine Ops.nil fun a hS => ?_
    refine hK5 _ _ ?_ a hS
    refine Cod.seq fun K6 hK6 => ?_
    refine Cod.seq fun K7 hK7 => ?_
    refine Cod.region ?_
    refine Ops.step (One.val rfl rfl rfl (yld_assign rfl ev_c) ?_)
    refine Ops.nil fun a hS => ?_
    refine hK7 _ _ ?_ a hS
    refine Cod.block ?_
    refine Cod.loop (fun i : Nat × List V5 × Value => [(1, true, .pointer (some ⟨b1, 0, none⟩)), (2, true, .pointer (some ⟨b2, 0, none⟩)), (4, true, i.2.2), (5, true, .int .i64 (i.1 : Int))]) (fun i w' => i.1 ≤ t.list.length ∧ AL w (flatL (t.list.take i.1)) i.2.1 ∧ Fr No w [own 26 5 i.2.2 i.2.1.length (i.2.1.flatMap enc5), blk b2 26 [.int .i64 0, .int .i64 0, .string ⟨#[]⟩, .slice none 0 0, .slice none 0 0], blk b1 26 [.int .i64 t.kind, .int .i64 t.num, .string t.str, v3, .slice A4 t.list.length c4]] w') (fun i => t.list.length - i.1) (0, [], .slice (some ⟨b3, 0, none⟩) 0 0) ⟨rfl, rfl, rfl, rfl, trivial⟩ ⟨Nat.zero_le _, AL.nil w, F5⟩ ?_
    intro i w6 hW K8 hK8
    obtain ⟨i, xs, u⟩ := i
    obtain ⟨hi, hal, F6⟩ := hW
    dsimp only at *
    refine Cod.seq fun K9 hK9 => ?_
    refine Cod.seq fun K10 hK10 => ?_
    refine Cod.region ?_
    refine Ops.step (One.val rfl rfl rfl (yld_move rfl (ev_t rfl)) ?_)
    refine Ops.step (One.val rfl rfl rfl (yld_field fi26_4 rfl (ev_t rfl)) ?_)
    refine Ops.step (One.val rfl rfl rfl (yld_load1 on24 rfl (ev_t rfl) (fun _ => F6.cell 2 rfl rfl)) ?_)
    refine Ops.step (One.val rfl rfl rfl (yld_len sl24 rfl (ev_t rfl)) ?_)
    refine Ops.step (One.val rfl rfl rfl (yld_lss rfl (ev_t rfl) (ev_t rfl)) ?_)
    refine Ops.nil fun a hS => ?_
    refine hK10 _ _ ?_ a hS
    refine Cod.cond rfl (fun hc15 => ?_) (fun hc15 => ?_)
    · skip
      have hi : i < t.list.length := by simpa using hc15
      obtain ⟨b, o, cs, rfl, -, hlc, hr1, ht⟩ := h4.at i hi
      obtain ⟨kk, nn, ss, kks, ll, hti⟩ := Tr.eta t.list[i]
      rw [hti] at ht
      obtain ⟨u3, u4, ecs, h3', h4'⟩ := ht.open
      have ecs' : cs = [.int .i64 kk, .int .i64 nn, .string ss, u3, u4] := by simpa using ecs
      subst ecs'
      have hone : [Value.int .i64 kk, .int .i64 nn, .string ss, u3, u4].all (·.oneCell') = true := ht.one
      obtain ⟨B4, d4, rfl, hm4⟩ := h4'.open
      have hfs := flat_step t.list i hi
      have hfl := flat_le t.list (i + 1)
      refine Cod.skip fun a hS => ?_
      refine hK9 _ _ ?_ a hS
      refine Cod.seq fun K11 hK11 => ?_
      refine Cod.block ?_
      refine Cod.seq fun K12 hK12 => ?_
      refine Cod.region ?_
      refine Ops.step (One.val rfl rfl rfl (yld_field fi26_4 rfl (ev_t rfl)) ?_)
      refine Ops.step (One.val rfl rfl rfl (yld_load1 on24 rfl (ev_t rfl) (fun _ => F6.cell 2 rfl rfl)) ?_)
      refine Ops.step (One.val rfl rfl rfl (yld_move rfl (ev_t rfl)) ?_)
      refine Ops.step (One.val rfl rfl rfl (yld_indexN sl24 rfl (ev_t rfl) (ev_t rfl) (fun _ => by omega)) ?_)
      refine Ops.step (One.val rfl rfl rfl (yld_field fi26_0 rfl (ev_t rfl)) ?_)
      refine Ops.step (One.val rfl rfl rfl (yld_load1 on3 rfl (ev_t rfl) (fun _ => rangeAt_cell (rng hr1 F6.chg) (j := 0) rfl)) ?_)
      refine Ops.step (One.val rfl rfl rfl (yld_eql rfl (ev_t rfl) ev_c) ?_)
      refine Ops.nil fun a hS => ?_
      refine hK12 _ _ ?_ a hS
      refine Cod.cond rfl (fun hc24 => ?_) (fun hc24 => ?_)
      · skip
        have hk : kk = 5 := by simpa using hc24
        obtain ⟨nw, hre, hnw⟩ := h4'.v5
        have hal2 : AL w (flatL (t.list.take (i + 1))) (xs ++ nw) := by
          rw [hfs, hti]
          show AL w (flatL (t.list.take i) ++ (if kk = 5 then ll else _)) _
          rw [if_pos hk]
          exact hal.append hnw
        have hl2 : xs.length + nw.length ≤ 1048576 := by have := hal2.1; rw [List.length_append] at this; omega
        refine Cod.region ?_
        refine Ops.step (One.val rfl rfl rfl (yld_move rfl (ev_t rfl)) ?_)
        refine Ops.step (One.val rfl rfl rfl (yld_field fi26_4 rfl (ev_t rfl)) ?_)
        refine Ops.step (One.val rfl rfl rfl (yld_load1 on24 rfl (ev_t rfl) (fun _ => F6.cell 2 rfl rfl)) ?_)
        refine Ops.step (One.val rfl rfl rfl (yld_move rfl (ev_t rfl)) ?_)
        refine Ops.step (One.val rfl rfl rfl (yld_indexN sl24 rfl (ev_t rfl) (ev_t rfl) (fun _ => by omega)) ?_)
        refine Ops.step (One.val rfl rfl rfl (yld_field fi26_4 rfl (ev_t rfl)) ?_)
        refine Ops.step (One.val rfl rfl rfl (yld_load1 on24 rfl (ev_t rfl) (fun _ => rangeAt_cell (rng hr1 F6.chg) (j := 4) rfl)) ?_)
        refine Ops.step (One.append (enc := enc5) nw F6 0 rfl sl24 zero26 rfl rfl (fun _ => rfl) rfl rfl rfl rfl (ev_t rfl) (ev_t rfl) (hre.chg F6.chg) hnw.cells (by omega) (by omega) ?_)
        intro u2 w7 hu2 F7
        change Fr _ _ [_, blk _ _ [_, _, _, _, _], blk _ _ [_, _, _, _, _]] _ at F7
        refine Ops.step (One.val rfl rfl rfl (yld_assign rfl (ev_t rfl)) ?_)
        refine Ops.nil fun a hS => ?_
        refine hK11 _ _ ?_ a hS
        refine Cod.region ?_
        refine Ops.step (One.val rfl rfl rfl (yld_move rfl (ev_t rfl)) ?_)
        refine Ops.step (One.val rfl rfl rfl (yld_inc rfl (ev_t rfl) (fun _ => by omega)) ?_)
        refine Ops.step (One.val rfl rfl rfl (yld_assign rfl (ev_t rfl)) ?_)
        refine Ops.nil fun a hS => ?_
        refine hK8 (i + 1, _, u2) _ a (hS.sub ⟨rfl, rfl, rfl, rfl, trivial⟩) ⟨by show i + 1 ≤ _; omega, hal2, F7⟩ (by show t.list.length - (i + 1) < t.list.length - i; omega)
      · skip
        have hk : kk ≠ 5 := by simpa using hc24
        have hal2 : AL w (flatL (t.list.take (i + 1))) (xs ++ [x5 kk nn ss u3 (.slice B4 ll.length d4)]) := by
          rw [hfs, hti]
          show AL w (flatL (t.list.take i) ++ (if kk = 5 then ll else [Tr.mk kk nn ss kks ll])) _
          rw [if_neg hk]
          exact hal.append (AL.one ht)
        have hl2 : xs.length + 1 ≤ 1048576 := by have := hal2.1; rw [List.length_append] at this; simp at this; omega
        refine Cod.region ?_
        refine Ops.step (One.val rfl rfl rfl (yld_move rfl (ev_t rfl)) ?_)
        refine Ops.step (One.val rfl rfl rfl (yld_field fi26_4 rfl (ev_t rfl)) ?_)
        refine Ops.step (One.val rfl rfl rfl (yld_load1 on24 rfl (ev_t rfl) (fun _ => F6.cell 2 rfl rfl)) ?_)
        refine Ops.step (One.val rfl rfl rfl (yld_move rfl (ev_t rfl)) ?_)
        refine Ops.step (One.val rfl rfl rfl (yld_indexN sl24 rfl (ev_t rfl) (ev_t rfl) (fun _ => by omega)) ?_)
        refine Ops.step (One.val rfl rfl rfl (yld_loadN ag26 rfl (ev_t rfl) (fun _ => rng hr1 F6.chg) rfl) ?_)
        refine Ops.step (One.buildSlice (cells := (enc5 (x5 kk nn ss u3 (.slice B4 ll.length d4)))) F6 sl24 zero26 rfl rfl rfl rfl (evp1 (ev_t rfl)) rfl rfl (by kernel_rfl) ?_)
        intro b4 w8 hb4 F8
        refine Ops.step (One.append (enc := enc5) [x5 kk nn ss u3 (.slice B4 ll.length d4)] F8 1 rfl sl24 zero26 rfl rfl (fun _ => rfl) rfl rfl rfl rfl (ev_t rfl) (ev_t rfl) ((blk_rep (enc := enc5) (sz := 5) (xs := [x5 kk nn ss u3 (.slice B4 ll.length d4)]) (fun _ => rfl) (F8.get 0 rfl) (by simp) (by simp)).weak fun _ _ => trivial) (one_all hone) (by simp; omega) (by simp; omega) ?_)
        intro u2 w9 hu2 F9
        change Fr _ _ [_, _, blk _ _ [_, _, _, _, _], blk _ _ [_, _, _, _, _]] _ at F9
        refine Ops.step (One.val rfl rfl rfl (yld_assign rfl (ev_t rfl)) ?_)
        refine Ops.nil fun a hS => ?_
        refine hK11 _ _ ?_ a hS
        refine Cod.region ?_
        refine Ops.step (One.val rfl rfl rfl (yld_move rfl (ev_t rfl)) ?_)
        refine Ops.step (One.val rfl rfl rfl (yld_inc rfl (ev_t rfl) (fun _ => by omega)) ?_)
        refine Ops.step (One.val rfl rfl rfl (yld_assign rfl (ev_t rfl)) ?_)
        refine Ops.nil fun a hS => ?_
        refine hK8 (i + 1, _, u2) _ a (hS.sub ⟨rfl, rfl, rfl, rfl, trivial⟩) ⟨by show i + 1 ≤ _; omega, hal2, F9.drop1⟩ (by show t.list.length - (i + 1) < t.list.length - i; omega)
    · skip
      obtain rfl : i = t.list.length := by simp at hc15; omega
      rw [List.take_length] at hal
      refine Cod.exit fun a hS => ?_
      simp only [Exit.then, Exit.inBlock, ↓reduceIte]
      refine hK6 _ _ ?_ a hS
      refine Cod.seq fun K13 hK13 => ?_
      refine Cod.region ?_
      refine Ops.step (One.val rfl rfl rfl (yld_move rfl (ev_t rfl)) ?_)
      refine Ops.step (One.call rfl rfl rfl (ent_f rfl (evl1 (ev_t rfl)) (enters en58)) (l4Of_ct u _ (own_form (F6.get 0 rfl))) (fun e w10 hw10 => ?_))
      obtain ⟨rfl, C10⟩ := hw10
      have F10 := F6.call C10
      refine ⟨_, rfl, ?_⟩
      refine Ops.step (One.call rfl rfl rfl (ent_f rfl (evl1 (ev_t rfl)) (enters en57)) (l2Told_ct (.mk 5 0 ⟨#[]⟩ [] (flatL t.list)) _ _ (Rep.close (RepE.nil _ _) ((hal.chg F10.chg).repL (F10.get 0 rfl))) (.mk (Nat.zero_le _) (by simp) hfit) (by rw [row_wt]; omega)) (fun e w11 hw11 => ?_))
      obtain ⟨x1, G1, rfl, C11, hs1, hb1⟩ := hw11
      have F11 := F10.new C11 (sep G1 _ x1.val) hs1 hb1
      refine ⟨_, rfl, ?_⟩
      refine Ops.step (One.val rfl rfl rfl (yld_extract rfl (ev_t rfl) rfl) ?_)
      refine Ops.step (One.val rfl rfl rfl (yld_extract rfl (ev_t rfl) rfl) ?_)
      refine Ops.step (One.storeN (vs := [_, _, _, _, _]) F11 2 rfl sz26 rfl rfl rfl (ev_t rfl) (ev_t rfl) rfl rfl hs1.one ?_)
      intro w12 F12
      change Fr _ _ [_, _, blk _ _ [_, _, _, _, _], blk _ _ [_, _, _, _, _]] _ at F12
      refine Ops.step (One.val rfl rfl rfl (yld_assign rfl (ev_t rfl)) ?_)
      refine Ops.nil fun a hS => ?_
      refine hK13 _ _ ?_ a hS
      refine Cod.ret fun a hS => ?_
      try simp only [Exit.then, Exit.inBlock]
      exact retct (t := 2) (u := 3) (ty := 26) rfl hS ag26 rfl rfl (F12.range (m := 5) (cs' := [_, _, _, _, _]) 2 rfl rfl) rfl ⟨x1, G1, by rw [hyes]; rfl, F12.chg, by rw [hyes]; exact F12.get 0 rfl, fun b hb => (F12.dom _ (List.mem_of_getElem? (i := 0) rfl) b hb).resolve_left id⟩

set_option maxRecDepth 100000 in
theorem flat_ct (t : Tr) (v : Value) (w : World) (hr : Rep Any w t v) (hf : t.Fit) (hw : t.wt ≤ 1048576) : Calls Try.prog 18 #[v] w (Gives w (flatR t)) := by
  obtain ⟨v3, v4, ev, h3, h4⟩ := hr.form
  subst ev
  obtain ⟨A4, c4, rfl, hn4⟩ := h4.open
  have hwl := t.wt_list
  have hft := flat_wt t.list
  have hfit := flat_fit hf.list
  refine enter Try.func18 rfl rfl rfl ?_
  have F0 := Fr.start w
  refine Cod.seq fun K1 hK1 => ?_
  refine Cod.region ?_
  refine Ops.step (One.box F0 rfl rfl rfl rfl (ev_t rfl) ?_)
  intro b1 w1 hb1 F1
  change Fr _ _ [blk _ _ [_, _, _, _, _]] _ at F1
  refine Ops.step (One.alloc F1 zero26 rfl rfl rfl rfl ?_)
  intro b2 w2 hb2 F2
  change Fr _ _ [blk _ _ [_, _, _, _, _], blk _ _ [_, _, _, _, _]] _ at F2
  refine Ops.step (One.val rfl rfl rfl (yld_assign rfl ev_c) ?_)
  refine Ops.nil fun a hS => ?_
  refine hK1 _ _ ?_ a hS
  refine Cod.seq fun K2 hK2 => ?_
  refine Cod.seq fun K3 hK3 => ?_
  refine Cod.region ?_
  refine Ops.step (One.val rfl rfl rfl (yld_loadN ag26 rfl (ev_t rfl) (fun _ => F2.range (m := 5) (cs' := [_, _, _, _, _]) 1 rfl rfl) rfl) ?_)
  refine Ops.step (One.call rfl rfl rfl (ent_f rfl (evl1 (ev_t rfl)) (enters en53)) (isRow_ct t _ _ (hr.chg F2.chg) hf) (fun e w3 hw3 => ?_))
  obtain ⟨rfl, C3⟩ := hw3
  have F3 := F2.call C3
  refine ⟨_, rfl, ?_⟩
  refine Ops.step (One.val rfl rfl rfl (yld_not rfl (ev_t rfl)) ?_)
  refine Ops.nil fun a hS => ?_
  refine hK3 _ _ ?_ a hS
  refine Cod.cond rfl (fun hc9 => ?_) (fun hc9 => ?_)
  · skip
    have hno : flatR t = none := by
      have hc : (!(rowT t)) = true := hc9
      unfold flatR
      cases h1 : rowT t <;> simp [h1] at hc ⊢
    refine Cod.seq fun K4 hK4 => ?_
    refine Cod.region ?_
    refine Ops.step (One.val rfl rfl rfl (yld_build (cells := [.int .i64 0, .int .i64 0, .string ⟨#[]⟩, .slice none 0 0, .slice none 0 0]) rfl (evp0) (by kernel_rfl)) ?_)
    refine Ops.step (One.storeN (vs := [_, _, _, _, _]) F3 0 rfl sz26 rfl rfl rfl (ev_t rfl) (ev_t rfl) rfl rfl rfl ?_)
    intro w4 F4
    change Fr _ _ [blk _ _ [_, _, _, _, _], blk _ _ [_, _, _, _, _]] _ at F4
    refine Ops.step (One.val rfl rfl rfl (yld_assign rfl ev_c) ?_)
    refine Ops.nil fun a hS => ?_
    refine hK4 _ _ ?_ a hS
    refine Cod.ret fun a hS => ?_
    try simp only [Exit.then, Exit.inBlock]
    exact retct (t := 2) (u := 3) (ty := 26) rfl hS ag26 rfl rfl (F4.range (m := 5) (cs' := [_, _, _, _, _]) 0 rfl rfl) rfl ⟨z5, No, by rw [hno]; rfl, F4.chg, by rw [hno]; exact sep_leaf _ 0 0 ⟨#[]⟩, fun k hk => hk.elim⟩
  · skip
    have hyes : flatR t = toldR true (.mk 5 0 ⟨#[]⟩ [] (flatL t.list)) := by
      have hc : (!(rowT t)) = false := hc9
      unfold flatR
      cases h1 : rowT t <;> simp [h1] at hc ⊢
    refine Cod.skip fun a hS => ?_
    refine hK2 _ _ ?_ a hS
    refine Cod.seq fun K5 hK5 => ?_
    refine Cod.region ?_
    refine Ops.step (One.buildNil enc5 F3 sl24 rfl rfl rfl rfl ?_)
    intro b3 w5 hb3 F5
    refine Ops.step (One.val rfl rfl rfl (yld_assign rfl (ev_t rfl)) ?_)
    refine Ops.nil fun a hS => ?_
    refine hK5 _ _ ?_ a hS
    refine Cod.seq fun K6 hK6 => ?_
    refine Cod.seq fun K7 hK7 => ?_
    refine Cod.region ?_
    refine Ops.step (One.val rfl rfl rfl (yld_field fi26_4 rfl (ev_t rfl)) ?_)
    refine Ops.step (One.val rfl rfl rfl (yld_load1 on24 rfl (ev_t rfl) (fun _ => F5.cell 2 rfl rfl)) ?_)
    refine Ops.step (One.val rfl rfl rfl (yld_len sl24 rfl (ev_t rfl)) ?_)
    refine Ops.step (One.val rfl rfl rfl (yld_move rfl ev_c) ?_)
    refine Ops.nil fun a hS => ?_
    refine hK7 _ _ ?_ a hS
    refine Cod.block ?_
    refine Cod.loop (fun i : Nat × List V5 × Value => [(2, true, .pointer (some ⟨b2, 0, none⟩)), (4, true, i.2.2), (13, true, .slice A4 t.list.length c4), (14, true, .int .i64 (t.list.length : Int)), (15, true, .int .i64 (i.1 : Int))]) (fun i w' => i.1 ≤ t.list.length ∧ AL w (flatL (t.list.take i.1)) i.2.1 ∧ Fr No w [own 26 5 i.2.2 i.2.1.length (i.2.1.flatMap enc5), blk b2 26 [.int .i64 0, .int .i64 0, .string ⟨#[]⟩, .slice none 0 0, .slice none 0 0], blk b1 26 [.int .i64 t.kind, .int .i64 t.num, .string t.str, v3, .slice A4 t.list.length c4]] w') (fun i => t.list.length - i.1) (0, [], .slice (some ⟨b3, 0, none⟩) 0 0) ⟨rfl, rfl, rfl, rfl, rfl, trivial⟩ ⟨Nat.zero_le _, AL.nil w, F5⟩ ?_
    intro i w6 hW K8 hK8
    obtain ⟨i, xs, u⟩ := i
    obtain ⟨hi, hal, F6⟩ := hW
    dsimp only at *
    refine Cod.seq fun K9 hK9 => ?_
    refine Cod.region ?_
    refine Ops.step (One.val rfl rfl rfl (yld_lss rfl (ev_t rfl) (ev_t rfl)) ?_)
    refine Ops.nil fun a hS => ?_
    refine hK9 _ _ ?_ a hS
    refine Cod.seq fun K10 hK10 => ?_
    refine Cod.cond rfl (fun hc16 => ?_) (fun hc16 => ?_)
    · skip
      have hi : i < t.list.length := by simpa using hc16
      obtain ⟨b, o, cs, rfl, -, hlc, hr1, ht⟩ := h4.at i hi
      obtain ⟨kk, nn, ss, kks, ll, hti⟩ := Tr.eta t.list[i]
      rw [hti] at ht
      obtain ⟨u3, u4, ecs, h3', h4'⟩ := ht.open
      have ecs' : cs = [.int .i64 kk, .int .i64 nn, .string ss, u3, u4] := by simpa using ecs
      subst ecs'
      have hone : [Value.int .i64 kk, .int .i64 nn, .string ss, u3, u4].all (·.oneCell') = true := ht.one
      obtain ⟨B4, d4, rfl, hm4⟩ := h4'.open
      have hfs := flat_step t.list i hi
      have hfl := flat_le t.list (i + 1)
      refine Cod.skip fun a hS => ?_
      refine hK10 _ _ ?_ a hS
      refine Cod.seq fun K11 hK11 => ?_
      refine Cod.block ?_
      refine Cod.seq fun K12 hK12 => ?_
      refine Cod.region ?_
      refine Ops.step (One.val rfl rfl rfl (yld_indexN sl24 rfl (ev_t rfl) (ev_t rfl) (fun _ => by omega)) ?_)
      refine Ops.step (One.val rfl rfl rfl (yld_loadN ag26 rfl (ev_t rfl) (fun _ => rng hr1 F6.chg) rfl) ?_)
      refine Ops.step (One.alloc F6 zero26 rfl rfl rfl rfl ?_)
      intro b4 w7 hb4 F7
      change Fr _ _ [blk _ _ [_, _, _, _, _], _, blk _ _ [_, _, _, _, _], blk _ _ [_, _, _, _, _]] _ at F7
      refine Ops.step (One.storeN (vs := [_, _, _, _, _]) F7 0 rfl sz26 rfl rfl rfl (ev_t rfl) (ev_t rfl) rfl rfl hone ?_)
      intro w8 F8
      change Fr _ _ [blk _ _ [_, _, _, _, _], _, blk _ _ [_, _, _, _, _], blk _ _ [_, _, _, _, _]] _ at F8
      refine Ops.nil fun a hS => ?_
      refine hK12 _ _ ?_ a hS
      refine Cod.seq fun K13 hK13 => ?_
      refine Cod.region ?_
      refine Ops.step (One.val rfl rfl rfl (yld_field fi26_0 rfl (ev_t rfl)) ?_)
      refine Ops.step (One.val rfl rfl rfl (yld_load1 on3 rfl (ev_t rfl) (fun _ => F8.cell 0 rfl rfl)) ?_)
      refine Ops.step (One.val rfl rfl rfl (yld_eql rfl (ev_t rfl) ev_c) ?_)
      refine Ops.nil fun a hS => ?_
      refine hK13 _ _ ?_ a hS
      refine Cod.cond rfl (fun hc21 => ?_) (fun hc21 => ?_)
      · skip
        have hk : kk = 5 := by simpa using hc21
        obtain ⟨nw, hre, hnw⟩ := h4'.v5
        have hal2 : AL w (flatL (t.list.take (i + 1))) (xs ++ nw) := by
          rw [hfs, hti]
          show AL w (flatL (t.list.take i) ++ (if kk = 5 then ll else _)) _
          rw [if_pos hk]
          exact hal.append hnw
        have hl2 : xs.length + nw.length ≤ 1048576 := by have := hal2.1; rw [List.length_append] at this; omega
        refine Cod.region ?_
        refine Ops.step (One.val rfl rfl rfl (yld_move rfl (ev_t rfl)) ?_)
        refine Ops.step (One.val rfl rfl rfl (yld_field fi26_4 rfl (ev_t rfl)) ?_)
        refine Ops.step (One.val rfl rfl rfl (yld_load1 on24 rfl (ev_t rfl) (fun _ => F8.cell 0 rfl rfl)) ?_)
        refine Ops.step (One.append (enc := enc5) nw F8 1 rfl sl24 zero26 rfl rfl (fun _ => rfl) rfl rfl rfl rfl (ev_t rfl) (ev_t rfl) (hre.chg F8.chg) hnw.cells (by omega) (by omega) ?_)
        intro u2 w9 hu2 F9
        change Fr _ _ [blk _ _ [_, _, _, _, _], _, blk _ _ [_, _, _, _, _], blk _ _ [_, _, _, _, _]] _ at F9
        refine Ops.step (One.val rfl rfl rfl (yld_assign rfl (ev_t rfl)) ?_)
        refine Ops.nil fun a hS => ?_
        refine hK11 _ _ ?_ a hS
        refine Cod.region ?_
        refine Ops.step (One.val rfl rfl rfl (yld_inc rfl (ev_t rfl) (fun _ => by omega)) ?_)
        refine Ops.step (One.val rfl rfl rfl (yld_move rfl (ev_t rfl)) ?_)
        refine Ops.nil fun a hS => ?_
        refine hK8 (i + 1, _, u2) _ a (hS.sub ⟨rfl, rfl, rfl, rfl, rfl, trivial⟩) ⟨by show i + 1 ≤ _; omega, hal2, F9.drop1⟩ (by show t.list.length - (i + 1) < t.list.length - i; omega)
      · skip
        have hk : kk ≠ 5 := by simpa using hc21
        have hal2 : AL w (flatL (t.list.take (i + 1))) (xs ++ [x5 kk nn ss u3 (.slice B4 ll.length d4)]) := by
          rw [hfs, hti]
          show AL w (flatL (t.list.take i) ++ (if kk = 5 then ll else [Tr.mk kk nn ss kks ll])) _
          rw [if_neg hk]
          exact hal.append (AL.one ht)
        have hl2 : xs.length + 1 ≤ 1048576 := by have := hal2.1; rw [List.length_append] at this; simp at this; omega
        refine Cod.region ?_
        refine Ops.step (One.val rfl rfl rfl (yld_move rfl (ev_t rfl)) ?_)
        refine Ops.step (One.val rfl rfl rfl (yld_loadN ag26 rfl (ev_t rfl) (fun _ => F8.range (m := 5) (cs' := [_, _, _, _, _]) 0 rfl rfl) rfl) ?_)
        refine Ops.step (One.buildSlice (cells := (enc5 (x5 kk nn ss u3 (.slice B4 ll.length d4)))) F8 sl24 zero26 rfl rfl rfl rfl (evp1 (ev_t rfl)) rfl rfl (by kernel_rfl) ?_)
        intro b5 w10 hb5 F10
        refine Ops.step (One.append (enc := enc5) [x5 kk nn ss u3 (.slice B4 ll.length d4)] F10 2 rfl sl24 zero26 rfl rfl (fun _ => rfl) rfl rfl rfl rfl (ev_t rfl) (ev_t rfl) ((blk_rep (enc := enc5) (sz := 5) (xs := [x5 kk nn ss u3 (.slice B4 ll.length d4)]) (fun _ => rfl) (F10.get 0 rfl) (by simp) (by simp)).weak fun _ _ => trivial) (one_all hone) (by simp; omega) (by simp; omega) ?_)
        intro u2 w11 hu2 F11
        change Fr _ _ [_, blk _ _ [_, _, _, _, _], _, blk _ _ [_, _, _, _, _], blk _ _ [_, _, _, _, _]] _ at F11
        refine Ops.step (One.val rfl rfl rfl (yld_assign rfl (ev_t rfl)) ?_)
        refine Ops.nil fun a hS => ?_
        refine hK11 _ _ ?_ a hS
        refine Cod.region ?_
        refine Ops.step (One.val rfl rfl rfl (yld_inc rfl (ev_t rfl) (fun _ => by omega)) ?_)
        refine Ops.step (One.val rfl rfl rfl (yld_move rfl (ev_t rfl)) ?_)
        refine Ops.nil fun a hS => ?_
        refine hK8 (i + 1, _, u2) _ a (hS.sub ⟨rfl, rfl, rfl, rfl, rfl, trivial⟩) ⟨by show i + 1 ≤ _; omega, hal2, F11.drop1.drop1⟩ (by show t.list.length - (i + 1) < t.list.length - i; omega)
    · skip
      obtain rfl : i = t.list.length := by simp at hc16; omega
      rw [List.take_length] at hal
      refine Cod.exit fun a hS => ?_
      simp only [Exit.then, Exit.inBlock, ↓reduceIte]
      refine hK6 _ _ ?_ a hS
      refine Cod.seq fun K14 hK14 => ?_
      refine Cod.region ?_
      refine Ops.step (One.val rfl rfl rfl (yld_move rfl (ev_t rfl)) ?_)
      refine Ops.step (One.call rfl rfl rfl (ent_f rfl (evl1 (ev_t rfl)) (enters en55)) (row_ct u _ (own_form (F6.get 0 rfl))) (fun e w12 hw12 => ?_))
      obtain ⟨rfl, C12⟩ := hw12
      have F12 := F6.call C12
      refine ⟨_, rfl, ?_⟩
      refine Ops.step (One.call rfl rfl rfl (ent_f rfl (evl2 (ev_t rfl) ev_c) (enters en54)) (told_ct (.mk 5 0 ⟨#[]⟩ [] (flatL t.list)) true _ _ (Rep.close (RepE.nil _ _) ((hal.chg F12.chg).repL (F12.get 0 rfl))) (.mk (Nat.zero_le _) (by simp) hfit) (by rw [row_wt]; omega)) (fun e w13 hw13 => ?_))
      obtain ⟨x1, G1, rfl, C13, hs1, hb1⟩ := hw13
      have F13 := F12.new C13 (sep G1 _ x1.val) hs1 hb1
      refine ⟨_, rfl, ?_⟩
      refine Ops.step (One.val rfl rfl rfl (yld_extract rfl (ev_t rfl) rfl) ?_)
      refine Ops.step (One.val rfl rfl rfl (yld_extract rfl (ev_t rfl) rfl) ?_)
      refine Ops.step (One.storeN (vs := [_, _, _, _, _]) F13 2 rfl sz26 rfl rfl rfl (ev_t rfl) (ev_t rfl) rfl rfl hs1.one ?_)
      intro w14 F14
      change Fr _ _ [_, _, blk _ _ [_, _, _, _, _], blk _ _ [_, _, _, _, _]] _ at F14
      refine Ops.step (One.val rfl rfl rfl (yld_assign rfl (ev_t rfl)) ?_)
      refine Ops.nil fun a hS => ?_
      refine hK14 _ _ ?_ a hS
      refine Cod.ret fun a hS => ?_
      try simp only [Exit.then, Exit.inBlock]
      exact retct (t := 2) (u := 3) (ty := 26) rfl hS ag26 rfl rfl (F14.range (m := 5) (cs' := [_, _, _, _, _]) 2 rfl rfl) rfl ⟨x1, G1, by rw [hyes]; rfl, F14.chg, by rw [hyes]; exact F14.get 0 rfl, fun b hb => (F14.dom _ (List.mem_of_getElem? (i := 0) rfl) b hb).resolve_left id⟩

end Go.Proofs.Ytphchpbfhcniaaa.Eng
