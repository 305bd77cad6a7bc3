/- Walks of both PartPut: a tree is put at a key of a tree by keys. -/
import Derived.Test.YtodbflfelimppaaPut
import Derived.Test.YtodbflfelimppaaTold
import Derived.Test.YtodbflfelimppaaTxt
namespace Go.Proofs.Ytodbflfelimppaa.Eng
open Go.RowKit
set_option linter.unusedVariables false
set_option linter.unusedSimpArgs false
set_option maxHeartbeats 1000000


noncomputable def putC (t x : Tr) (key : ByteArray) : Bool := okT t && okT x && okS key && (decide (t.kind = 0) || decide (t.kind = 6))
noncomputable def putR (t : Tr) (key : ByteArray) (x : Tr) : Option Tr := if putC t x key = true then toldR true (putT t key x) else none
theorem putC_facts {t x : Tr} {key : ByteArray} (h : putC t x key = true) : okT t = true ∧ okT x = true ∧ okS key = true ∧ (t.kind = 0 ∨ t.kind = 6) := by
  unfold putC at h
  simp only [Bool.and_eq_true, Bool.or_eq_true, decide_eq_true_eq] at h
  obtain ⟨⟨⟨h1, h2⟩, h3⟩, h4⟩ := h
  exact ⟨h1, h2, h3, h4⟩
theorem okT_sorted {t : Tr} (h : okT t = true) : Sorted t.keys := fun i h0 hi => ((okT_six h).2.2 i hi).2 h0
theorem okT_keys {t : Tr} (h : okT t = true) : ∀ y ∈ t.keys, okS y = true := fun y hy => by
  obtain ⟨i, hi, rfl⟩ := List.getElem_of_mem hy
  have := ((okT_six h).2.2 i hi).1
  rwa [nth_eq hi] at this
theorem put_len {t : Tr} (h : okT t = true) (hk : t.kind = 0 ∨ t.kind = 6) : t.keys.length = t.list.length := by
  rcases hk with hk | hk
  · rw [okT_zero h hk]; rfl
  · exact okT_len h hk
theorem putK_mem {ks : List ByteArray} {key y : ByteArray} (h : y ∈ putK ks key) : y ∈ ks ∨ y = key := by
  unfold putK at h
  split at h
  · exact .inl h
  · rcases List.mem_append.1 h with h | h
    · exact .inl (List.mem_of_mem_take h)
    · rcases List.mem_cons.1 h with h | h
      · exact .inr h
      · exact .inl (List.mem_of_mem_drop h)
theorem putL_mem {α : Type} {ks : List ByteArray} {l : List α} {key : ByteArray} {x y : α} (h : y ∈ putL ks l key x) : y ∈ l ∨ y = x := by
  unfold putL at h
  split at h
  · exact List.mem_or_eq_of_mem_set h
  · rcases List.mem_append.1 h with h | h
    · exact .inl (List.mem_of_mem_take h)
    · rcases List.mem_cons.1 h with h | h
      · exact .inr h
      · exact .inl (List.mem_of_mem_drop h)
theorem putK_le (ks : List ByteArray) (key : ByteArray) : (putK ks key).length ≤ ks.length + 1 := by
  have := posK_le ks key
  unfold putK
  split
  · omega
  · simp; omega
theorem putL_le {α : Type} (ks : List ByteArray) (l : List α) (key : ByteArray) (x : α) : (putL ks l key x).length ≤ l.length + 1 := by
  unfold putL
  split
  · simp
  · simp; omega
theorem okS_le {s : ByteArray} (h : okS s = true) : s.size ≤ 12 := by unfold okS at h; simp at h; exact h.2
theorem putT_bd {t x : Tr} {key : ByteArray} (hf : t.Fit) (hfx : x.Fit) (h1 : okT t = true) (h2 : okT x = true) (h3 : okS key = true) (hk : t.kind = 0 ∨ t.kind = 6) : (putT t key x).Fit ∧ (putT t key x).wt ≤ 1048576 := by
  have hl := okT_len60 h1
  have hkl := put_len h1 hk
  have hlen := putL_le t.keys t.list key x
  have hklen := putK_le t.keys key
  have hkk : ∀ y ∈ putK t.keys key, okS y = true := fun y hy => by
    rcases putK_mem hy with hy | rfl
    · exact okT_keys h1 y hy
    · exact h3
  refine ⟨.mk (Nat.zero_le _) (fun y hy => by have := okS_le (hkk y hy); omega) fun y hy => ?_, ?_⟩
  · rcases putL_mem hy with hy | rfl
    · exact hf.list y hy
    · exact hfx
  · have hb := sumNb (f := Tr.wt) (b := 1560) (l := putL t.keys t.list key x) fun y hy => by
      rcases putL_mem hy with hy | rfl
      · exact okT_wt (okT_child h1 hy)
      · exact okT_wt h2
    have hb2 := sumNb (f := ByteArray.size) (b := 12) (l := putK t.keys key) fun y hy => okS_le (hkk y hy)
    unfold putT
    rw [Tr.wt_mk]
    show 0 + (_ + _) + _ ≤ _
    omega
theorem putR_mkn {t x : Tr} {key : ByteArray} (hf : t.Fit) (hfx : x.Fit) : ((putR t key x).getD zeroT).keys.length + sumN Tr.mkn ((putR t key x).getD zeroT).list ≤ 3 * 1048576 + 3 := by
  unfold putR
  split
  · rename_i h
    obtain ⟨h1, h2, h3, h4⟩ := putC_facts h
    have h5 := (putT_bd hf hfx h1 h2 h3 h4).2
    unfold toldR
    split
    · exact wt_mkn _ _ h5
    · show 0 + 0 ≤ _
      omega
  · show 0 + 0 ≤ _
    omega
theorem rep_x5 {F : Nat → Prop} {w : World} {t : Tr} {v : Value} (h : Rep F w t v) : ∃ A3 c3 A4 c4, v = (x5 t.kind t.num t.str (.slice A3 t.keys.length c3) (.slice A4 t.list.length c4)).val := by
  obtain ⟨v3, v4, rfl, h3, h4⟩ := h.form
  obtain ⟨A3, c3, rfl, -⟩ := h3.open
  obtain ⟨A4, c4, rfl, -⟩ := h4.open
  exact ⟨_, _, _, _, rfl⟩


theorem PutIn.chg {w0 w w' : World} {t : Tr} {v : Value} {xs : List V5} (h : PutIn w0 w t v xs) (hc : Chg No w w') : PutIn w0 w' t v xs := by
  obtain ⟨A3, c3, A4, c4, e, h1, h2, h3⟩ := h
  exact ⟨A3, c3, A4, c4, e, h1.chg hc, h2.chg hc, h3⟩

set_option maxRecDepth 100000 in
theorem partPut_ct (t x : Tr) (key : ByteArray) (hks : key.size ≤ 9223372036854775807) (v vx : Value) (w : World) (hr : Rep Any w t v) (hx : Rep Any w x vx) (hf : t.Fit) (hfx : x.Fit) (hw : t.wt ≤ 1048576) (hwx : x.wt ≤ 1048576) : Calls Try.prog 138 #[v, .string key, vx] w (Gives w (putR t key x)) := by
  obtain ⟨v3, v4, ev, h3, h4⟩ := hr.form
  subst ev
  obtain ⟨A3, c3, A4, c4, ex⟩ := rep_x5 hx
  obtain ⟨xx, rfl⟩ : ∃ y : V5, vx = y.val := ⟨_, ex⟩
  refine enter Try.func138 rfl rfl rfl ?_
  have F0 := Fr.start w
  refine Cod.seq fun K1 hK1 => ?_
  refine Cod.region ?_
  refine Ops.step (One.box F0 rfl rfl rfl rfl (ev_t rfl) ?_)
  intro b1 w1 hb1 F1
  change Fr _ _ [blk _ _ [_, _, _, _, _]] _ at F1
  refine Ops.step (One.box F1 rfl rfl rfl rfl (ev_t rfl) ?_)
  intro b2 w2 hb2 F2
  change Fr _ _ [blk _ _ [_, _, _, _, _], blk _ _ [_, _, _, _, _]] _ at F2
  refine Ops.step (One.alloc F2 zero31 rfl rfl rfl rfl ?_)
  intro b3 w3 hb3 F3
  change Fr _ _ [blk _ _ [_, _, _, _, _], blk _ _ [_, _, _, _, _], blk _ _ [_, _, _, _, _]] _ at F3
  refine Ops.step (One.val rfl rfl rfl (yld_assign rfl ev_c) ?_)
  refine Ops.nil fun a hS => ?_
  refine hK1 _ _ ?_ a hS
  refine Cod.seq fun K2 hK2 => ?_
  refine Cod.seq fun K3 hK3 => ?_
  refine Cod.region ?_
  refine Ops.step (One.val rfl rfl rfl (yld_loadN ag31 rfl (ev_t rfl) (fun _ => F3.range (m := 5) (cs' := [_, _, _, _, _]) 2 rfl rfl) rfl) ?_)
  refine Ops.step (One.call rfl rfl rfl (ent_f rfl (evl1 (ev_t rfl)) (enters en43)) (valOk_ct t _ _ (hr.chg F3.chg) hf) (fun e w4 hw4 => ?_))
  obtain ⟨rfl, C4⟩ := hw4
  have F4 := F3.call C4
  refine ⟨_, rfl, ?_⟩
  refine Ops.step (One.val rfl rfl rfl (yld_not rfl (ev_t rfl)) ?_)
  refine Ops.step (One.val rfl rfl rfl (yld_move rfl (ev_t rfl)) ?_)
  refine Ops.step (One.val (gd_some rfl rfl) rfl rfl (yld_move rfl (ev_t rfl)) ?_)
  refine Ops.step (One.gcall (R := Chg No w4) (gd_some rfl rfl) rfl rfl (ent_f rfl (evl1 (ev_g rfl)) (enters en76)) (Chg.refl _ _) (fun hg => textOk_ct key _ hks) ?_)
  intro w5 C5
  have F5 := F4.call C5
  refine Ops.step (One.val (gd_some rfl rfl) rfl rfl (yld_not rfl (ev_g rfl)) ?_)
  refine Ops.step (One.val rfl rfl rfl (yld_or rfl (ev_t rfl) (ev_g rfl)) ?_)
  refine Ops.step (One.val rfl rfl rfl (yld_move rfl (ev_t rfl)) ?_)
  refine Ops.step (One.val (gd_some rfl rfl) rfl rfl (yld_loadN ag31 rfl (ev_t rfl) (fun _ => F5.range (m := 5) (cs' := [_, _, _, _, _]) 1 rfl rfl) rfl) ?_)
  refine Ops.step (One.gcall (R := Chg No w5) (gd_some rfl rfl) rfl rfl (ent_f rfl (evl1 (ev_g rfl)) (enters en43)) (Chg.refl _ _) (fun hg => valOk_ct x _ _ (hx.chg F5.chg) hfx) ?_)
  intro w6 C6
  have F6 := F5.call C6
  refine Ops.step (One.val (gd_some rfl rfl) rfl rfl (yld_not rfl (ev_g rfl)) ?_)
  refine Ops.step (One.val rfl rfl rfl (yld_or rfl (ev_t rfl) (ev_g rfl)) ?_)
  refine Ops.step (One.val rfl rfl rfl (yld_move rfl (ev_t rfl)) ?_)
  refine Ops.step (One.val (gd_some rfl rfl) rfl rfl (yld_field fi31_0 rfl (ev_t rfl)) ?_)
  refine Ops.step (One.val (gd_some rfl rfl) rfl rfl (yld_load1 on3 rfl (ev_g rfl) (fun _ => F6.cell 2 rfl rfl)) ?_)
  refine Ops.step (One.val (gd_some rfl rfl) rfl rfl (yld_neq rfl (ev_g rfl) ev_c) ?_)
  refine Ops.step (One.val (gd_some rfl rfl) rfl rfl (yld_move rfl (ev_g rfl)) ?_)
  refine Ops.step (One.val (gd_some rfl rfl) rfl rfl (yld_field fi31_0 rfl (ev_t rfl)) ?_)
  refine Ops.step (One.val (gd_some rfl rfl) rfl rfl (yld_load1 on3 rfl (ev_g rfl) (fun _ => F6.cell 2 rfl rfl)) ?_)
  refine Ops.step (One.val (gd_some rfl rfl) rfl rfl (yld_neq rfl (ev_g rfl) ev_c) ?_)
  refine Ops.step (One.val (gd_some rfl rfl) rfl rfl (yld_and rfl (ev_g rfl) (ev_g rfl)) ?_)
  refine Ops.step (One.val rfl rfl rfl (yld_or rfl (ev_t rfl) (ev_g rfl)) ?_)
  refine Ops.nil fun a hS => ?_
  refine hK3 _ _ ?_ a hS
  refine Cod.cond rfl (fun hc30 => ?_) (fun hc30 => ?_)
  · skip
    have hno : putR t key x = none := by
      have hc : (((!(okT t) || !(okS key)) || !(okT x)) || ((t.kind != 6) && (t.kind != 0))) = true := hc30
      unfold putR
      rw [if_neg]
      intro hb
      obtain ⟨h1, h2, h3, h4⟩ := putC_facts hb
      rw [h1, h2, h3] at hc
      simp at hc
      omega
    refine Cod.seq fun K4 hK4 => ?_
    refine Cod.region ?_
    refine Ops.step (One.val rfl rfl rfl (yld_build (cells := [.int .i64 0, .int .i64 0, .string ⟨#[]⟩, .slice none 0 0, .slice none 0 0]) rfl (evp0) (by kernel_rfl)) ?_)
    refine Ops.step (One.storeN (vs := [_, _, _, _, _]) F6 0 rfl sz31 rfl rfl rfl (ev_t rfl) (ev_t rfl) rfl rfl rfl ?_)
    intro w7 F7
    change Fr _ _ [blk _ _ [_, _, _, _, _], blk _ _ [_, _, _, _, _], blk _ _ [_, _, _, _, _]] _ at F7
    refine Ops.step (One.val rfl rfl rfl (yld_assign rfl ev_c) ?_)
    refine Ops.nil fun a hS => ?_
    refine hK4 _ _ ?_ a hS
    refine Cod.ret fun a hS => ?_
    try simp only [Exit.then, Exit.inBlock]
    exact retct (t := 6) (u := 7) (ty := 31) rfl hS ag31 rfl rfl (F7.range (m := 5) (cs' := [_, _, _, _, _]) 0 rfl rfl) rfl ⟨z5, No, by rw [hno]; rfl, F7.chg, by rw [hno]; exact sep_leaf _ 0 0 ⟨#[]⟩, fun k hk => hk.elim⟩
  · skip
    have hc : (((!(okT t) || !(okS key)) || !(okT x)) || ((t.kind != 6) && (t.kind != 0))) = false := hc30
    have hB : putC t x key = true := by
      unfold putC
      cases h1 : okT t <;> cases h2 : okT x <;> cases h3 : okS key <;> rw [h1, h2, h3] at hc <;> simp at hc ⊢
      omega
    have hyes : putR t key x = toldR true (putT t key x) := by
      unfold putR
      rw [if_pos hB]
    obtain ⟨hok, hokx, hoks, hkind⟩ := putC_facts hB
    obtain ⟨hTf, hTw⟩ := putT_bd hf hfx hok hokx hoks hkind
    have hl60 := okT_len60 hok
    have hkl := put_len hok hkind
    obtain ⟨TT, hTT⟩ : ∃ TT, TT = putT t key x := ⟨_, rfl⟩
    rw [← hTT] at hyes hTf hTw
    generalize putR t key x = RR at *
    refine Cod.skip fun a hS => ?_
    refine hK2 _ _ ?_ a hS
    refine Cod.seq fun K5 hK5 => ?_
    refine Cod.region ?_
    refine Ops.step (One.val rfl rfl rfl (yld_loadN ag31 rfl (ev_t rfl) (fun _ => F6.range (m := 5) (cs' := [_, _, _, _, _]) 2 rfl rfl) rfl) ?_)
    refine Ops.step (One.val rfl rfl rfl (yld_move rfl (ev_t rfl)) ?_)
    refine Ops.step (One.val rfl rfl rfl (yld_loadN ag31 rfl (ev_t rfl) (fun _ => F6.range (m := 5) (cs' := [_, _, _, _, _]) 1 rfl rfl) rfl) ?_)
    obtain ⟨xs0, hin00⟩ := PutIn.of hr
    have hin0 := hin00.chg F6.chg
    refine Ops.step (One.call rfl rfl rfl (ent_f rfl (evl3 (ev_t rfl) (ev_t rfl) (ev_t rfl)) (enters en103)) (put_ct t x key xs0 _ xx w _ hin0 hx (okT_sorted hok) hkl (by omega)) (fun e w8 hw8 => ?_))
    obtain ⟨yy, rfl, C8, hy0⟩ := hw8.rep F6.chg
    have hy : Rep Any w8 TT yy.val := by rw [hTT]; exact hy0
    have F8 := F6.call C8
    refine ⟨_, rfl, ?_⟩
    refine Ops.step (One.call rfl rfl rfl (ent_f rfl (evl2 (ev_t rfl) ev_c) (enters en70)) (told_ct TT true _ _ hy hTf hTw) (fun e w9 hw9 => ?_))
    obtain ⟨x1, G1, rfl, C9, hs1, hb1⟩ := hw9
    have F9 := F8.new C9 (sep G1 _ x1.val) hs1 hb1
    refine ⟨_, rfl, ?_⟩
    refine Ops.step (One.val rfl rfl rfl (yld_extract rfl (ev_t rfl) rfl) ?_)
    refine Ops.step (One.val rfl rfl rfl (yld_extract rfl (ev_t rfl) rfl) ?_)
    refine Ops.step (One.storeN (vs := [_, _, _, _, _]) F9 1 rfl sz31 rfl rfl rfl (ev_t rfl) (ev_t rfl) rfl rfl hs1.one ?_)
    intro w10 F10
    change Fr _ _ [_, blk _ _ [_, _, _, _, _], blk _ _ [_, _, _, _, _], blk _ _ [_, _, _, _, _]] _ at F10
    refine Ops.step (One.val rfl rfl rfl (yld_assign rfl (ev_t rfl)) ?_)
    refine Ops.nil fun a hS => ?_
    refine hK5 _ _ ?_ a hS
    refine Cod.ret fun a hS => ?_
    try simp only [Exit.then, Exit.inBlock]
    exact retct (t := 6) (u := 7) (ty := 31) rfl hS ag31 rfl rfl (F10.range (m := 5) (cs' := [_, _, _, _, _]) 1 rfl rfl) rfl ⟨x1, G1, by rw [hyes]; rfl, F10.chg, by rw [hyes]; exact F10.get 0 rfl, fun b hb => (F10.dom _ (List.mem_of_getElem? (i := 0) rfl) b hb).resolve_left id⟩

end Go.Proofs.Ytodbflfelimppaa.Eng
