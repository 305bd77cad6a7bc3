/- Walks of both PartGet: a part of a tree, by its key. -/
import Derived.Test.YtodbflfelimppaaAt
namespace Go.Proofs.Ytodbflfelimppaa.Eng
open Go.RowKit
set_option linter.unusedVariables false
set_option linter.unusedSimpArgs false
set_option maxHeartbeats 1000000


def keyZ (ks : List ByteArray) (key : ByteArray) : Int := if ks.findIdx (fun x => decide (x = key)) < ks.length then ((ks.findIdx (fun x => decide (x = key)) : Nat) : Int) else -1
theorem keyZ_at {ks : List ByteArray} {key : ByteArray} (i : Nat) (hi : i < ks.length) (h : ks[i] = key) (hall : ∀ j (hj : j < ks.length), j < i → ks[j] ≠ key) : keyZ ks key = (i : Int) := by
  have : ks.findIdx (fun x => decide (x = key)) = i := (List.findIdx_eq hi).2 ⟨by simpa using h, fun j hj => by simpa using hall j (by omega) hj⟩
  unfold keyZ
  rw [this, if_pos hi]
theorem keyZ_no {ks : List ByteArray} {key : ByteArray} (hall : ∀ j (hj : j < ks.length), ks[j] ≠ key) : keyZ ks key = -1 := by
  unfold keyZ
  rw [if_neg]
  intro h
  have := List.findIdx_getElem (w := h)
  exact hall _ h (by simpa using this)
theorem keyZ_lt {ks : List ByteArray} {key : ByteArray} (h : 0 ≤ keyZ ks key) : (keyZ ks key).toNat < ks.length := by
  unfold keyZ at h ⊢
  split at h
  · rename_i h1; rw [if_pos h1]; simpa using h1
  · omega
def getT (t : Tr) (key : ByteArray) : Option Tr := if t.kind = 0 then some zeroT else if t.kind ≠ 6 then none else if h : 0 ≤ keyZ t.keys key ∧ (keyZ t.keys key).toNat < t.list.length then some t.list[(keyZ t.keys key).toNat] else some zeroT
theorem getT_in {t x : Tr} {key : ByteArray} (hx : getT t key = some x) : x = zeroT ∨ x ∈ t.list := by
  unfold getT at hx
  repeat' split at hx
  · exact .inl (Option.some.inj hx).symm
  · cases hx
  · obtain rfl := Option.some.inj hx; exact .inr (List.getElem_mem _)
  · exact .inl (Option.some.inj hx).symm
noncomputable def partGetR (t : Tr) (key : ByteArray) : Option Tr := if (okT t && okS key) = true then getT t key else none
theorem partGet_mkn {t : Tr} {key : ByteArray} (hf : t.Fit) : ((partGetR t key).getD zeroT).keys.length + sumN Tr.mkn ((partGetR t key).getD zeroT).list ≤ 3 * t.wt + 3 := by
  unfold partGetR
  split
  · rename_i hok
    have hok' : okT t = true := by
      cases h : okT t <;> simp [h] at hok ⊢
    exact wt_mkn _ _ (getD_bounds (fun x hx => getT_in hx) hf hok').2.1
  · show 0 + 0 ≤ _
    omega

set_option maxRecDepth 100000 in
theorem l2Key_ct (t : Tr) (key : ByteArray) (v : Value) (w : World) (hr : Rep Any w t v) : Calls Try.prog 152 #[v, .string key] w fun e w' => e = .returned (.int .i64 (keyZ t.keys key)) ∧ Chg No w w' := by
  obtain ⟨v3, v4, ev, h3, h4⟩ := hr.form
  subst ev
  obtain ⟨A3, c3, rfl, hn3⟩ := h3.open
  generalize hks : t.keys = ks at *
  refine enter Try.func152 rfl rfl rfl ?_
  have F0 := Fr.start w
  refine Cod.seq fun K1 hK1 => ?_
  refine Cod.region ?_
  refine Ops.step (One.box F0 rfl rfl rfl rfl (ev_t rfl) ?_)
  intro b1 w1 hb1 F1
  change Fr _ _ [blk _ _ [_, _, _, _, _]] _ at F1
  refine Ops.step (One.val rfl rfl rfl (yld_assign rfl ev_c) ?_)
  refine Ops.nil fun a hS => ?_
  refine hK1 _ _ ?_ a hS
  refine Cod.seq fun K2 hK2 => ?_
  refine Cod.seq fun K3 hK3 => ?_
  refine Cod.region ?_
  refine Ops.step (One.val rfl rfl rfl (yld_assign rfl ev_c) ?_)
  refine Ops.nil fun a hS => ?_
  refine hK3 _ _ ?_ a hS
  refine Cod.block ?_
  refine Cod.loop (fun i : Nat => [(1, true, .string key), (2, true, .pointer (some ⟨b1, 0, none⟩)), (5, true, .int .i64 (i : Int))]) (fun i w' => i ≤ ks.length ∧ (∀ j (hj : j < ks.length), j < i → ks[j] ≠ key) ∧ Fr No w [blk b1 31 [.int .i64 t.kind, .int .i64 t.num, .string t.str, .slice A3 ks.length c3, v4]] w') (fun i => ks.length - i) 0 ⟨rfl, rfl, rfl, trivial⟩ ⟨Nat.zero_le _, fun j _ h => by omega, F1⟩ ?_
  intro i w2 hW K4 hK4
  obtain ⟨hi, hall, F2⟩ := hW
  refine Cod.seq fun K5 hK5 => ?_
  refine Cod.seq fun K6 hK6 => ?_
  refine Cod.region ?_
  refine Ops.step (One.val rfl rfl rfl (yld_move rfl (ev_t rfl)) ?_)
  refine Ops.step (One.val rfl rfl rfl (yld_field fi31_3 rfl (ev_t rfl)) ?_)
  refine Ops.step (One.val rfl rfl rfl (yld_load1 on22 rfl (ev_t rfl) (fun _ => F2.cell 0 rfl rfl)) ?_)
  refine Ops.step (One.val rfl rfl rfl (yld_len sl22 rfl (ev_t rfl)) ?_)
  refine Ops.step (One.val rfl rfl rfl (yld_lss rfl (ev_t rfl) (ev_t rfl)) ?_)
  refine Ops.nil fun a hS => ?_
  refine hK6 _ _ ?_ a hS
  refine Cod.cond rfl (fun hc10 => ?_) (fun hc10 => ?_)
  · skip
    have hi : i < ks.length := by simpa using hc10
    obtain ⟨b, o, rfl, -, hr1⟩ := h3.at i hi
    refine Cod.skip fun a hS => ?_
    refine hK5 _ _ ?_ a hS
    refine Cod.seq fun K7 hK7 => ?_
    refine Cod.block ?_
    refine Cod.seq fun K8 hK8 => ?_
    refine Cod.region ?_
    refine Ops.step (One.val rfl rfl rfl (yld_field fi31_3 rfl (ev_t rfl)) ?_)
    refine Ops.step (One.val rfl rfl rfl (yld_load1 on22 rfl (ev_t rfl) (fun _ => F2.cell 0 rfl rfl)) ?_)
    refine Ops.step (One.val rfl rfl rfl (yld_move rfl (ev_t rfl)) ?_)
    refine Ops.step (One.val rfl rfl rfl (yld_indexN sl22 rfl (ev_t rfl) (ev_t rfl) (fun _ => by omega)) ?_)
    refine Ops.step (One.val rfl rfl rfl (yld_load1 on9 rfl (ev_t rfl) (fun _ => rangeAt_cell (rng hr1 F2.chg) (j := 0) rfl)) ?_)
    refine Ops.step (One.val rfl rfl rfl (yld_move rfl (ev_t rfl)) ?_)
    refine Ops.step (One.val rfl rfl rfl (yld_seql rfl (ev_t rfl) (ev_t rfl)) ?_)
    refine Ops.nil fun a hS => ?_
    refine hK8 _ _ ?_ a hS
    refine Cod.cond rfl (fun hc19 => ?_) (fun hc19 => ?_)
    · skip
      have heq : ks[i] = key := by simpa [eq_comm] using hc19
      have hyes := keyZ_at i hi heq hall
      refine Cod.seq fun K9 hK9 => ?_
      refine Cod.region ?_
      refine Ops.step (One.val rfl rfl rfl (yld_move rfl (ev_t rfl)) ?_)
      refine Ops.step (One.val rfl rfl rfl (yld_assign rfl (ev_t rfl)) ?_)
      refine Ops.nil fun a hS => ?_
      refine hK9 _ _ ?_ a hS
      refine Cod.ret fun a hS => ?_
      try simp only [Exit.then, Exit.inBlock]
      exact ret1 (t := 4) rfl hS rfl ⟨by rw [hyes], F2.chg⟩
    · skip
      have hne : ks[i] ≠ key := by simpa [eq_comm] using hc19
      refine Cod.skip fun a hS => ?_
      refine hK7 _ _ ?_ a hS
      refine Cod.region ?_
      refine Ops.step (One.val rfl rfl rfl (yld_move rfl (ev_t rfl)) ?_)
      refine Ops.step (One.val rfl rfl rfl (yld_inc rfl (ev_t rfl) (fun _ => by omega)) ?_)
      refine Ops.step (One.val rfl rfl rfl (yld_assign rfl (ev_t rfl)) ?_)
      refine Ops.nil fun a hS => ?_
      exact hK4 (i + 1) _ a (hS.sub ⟨rfl, rfl, rfl, trivial⟩) ⟨by omega, fun j h1 hji => if h : j = i then (by subst h; exact hne) else hall j h1 (by omega), F2⟩ (by omega)
  · skip
    have hno : keyZ ks key = -1 := keyZ_no fun j hj => hall j hj (by simp at hc10; omega)
    refine Cod.exit fun a hS => ?_
    simp only [Exit.then, Exit.inBlock, ↓reduceIte]
    refine hK2 _ _ ?_ a hS
    refine Cod.seq fun K10 hK10 => ?_
    refine Cod.region ?_
    refine Ops.step (One.val rfl rfl rfl (yld_assign rfl ev_c) ?_)
    refine Ops.nil fun a hS => ?_
    refine hK10 _ _ ?_ a hS
    refine Cod.ret fun a hS => ?_
    try simp only [Exit.then, Exit.inBlock]
    exact ret1 (t := 4) rfl hS rfl ⟨by rw [hno], F2.chg⟩

set_option maxRecDepth 100000 in
theorem index_ct (ks : List ByteArray) (key : ByteArray) (v : Value) (w : World) (h3 : RepS Any w ks v) : Calls Try.prog 122 #[v, .string key] w fun e w' => e = .returned (.int .i64 (keyZ ks key)) ∧ Chg No w w' := by
  obtain ⟨A3, c3, rfl, hn3⟩ := h3.open
  refine enter Try.func122 rfl rfl rfl ?_
  have F0 := Fr.start w
  refine Cod.seq fun K1 hK1 => ?_
  refine Cod.region ?_
  refine Ops.step (One.val rfl rfl rfl (yld_assign rfl ev_c) ?_)
  refine Ops.nil fun a hS => ?_
  refine hK1 _ _ ?_ a hS
  refine Cod.seq fun K2 hK2 => ?_
  refine Cod.seq fun K3 hK3 => ?_
  refine Cod.region ?_
  refine Ops.step (One.val rfl rfl rfl (yld_move rfl (ev_t rfl)) ?_)
  refine Ops.step (One.val rfl rfl rfl (yld_len sl22 rfl (ev_t rfl)) ?_)
  refine Ops.step (One.val rfl rfl rfl (yld_move rfl ev_c) ?_)
  refine Ops.nil fun a hS => ?_
  refine hK3 _ _ ?_ a hS
  refine Cod.block ?_
  refine Cod.loop (fun i : Nat => [(0, true, .slice A3 ks.length c3), (1, true, .string key), (7, true, .int .i64 (ks.length : Int)), (8, true, .int .i64 (i : Int))]) (fun i w' => i ≤ ks.length ∧ (∀ j (hj : j < ks.length), j < i → ks[j] ≠ key) ∧ Fr No w [] w') (fun i => ks.length - i) 0 ⟨rfl, rfl, rfl, rfl, trivial⟩ ⟨Nat.zero_le _, fun j _ h => by omega, F0⟩ ?_
  intro i w1 hW K4 hK4
  obtain ⟨hi, hall, F1⟩ := hW
  refine Cod.seq fun K5 hK5 => ?_
  refine Cod.region ?_
  refine Ops.step (One.val rfl rfl rfl (yld_lss rfl (ev_t rfl) (ev_t rfl)) ?_)
  refine Ops.nil fun a hS => ?_
  refine hK5 _ _ ?_ a hS
  refine Cod.seq fun K6 hK6 => ?_
  refine Cod.cond rfl (fun hc9 => ?_) (fun hc9 => ?_)
  · skip
    have hi : i < ks.length := by simpa using hc9
    obtain ⟨b, o, rfl, -, hr1⟩ := h3.at i hi
    refine Cod.skip fun a hS => ?_
    refine hK6 _ _ ?_ a hS
    refine Cod.seq fun K7 hK7 => ?_
    refine Cod.block ?_
    refine Cod.seq fun K8 hK8 => ?_
    refine Cod.region ?_
    refine Ops.step (One.val rfl rfl rfl (yld_move rfl (ev_t rfl)) ?_)
    refine Ops.step (One.val rfl rfl rfl (yld_assign rfl (ev_t rfl)) ?_)
    refine Ops.nil fun a hS => ?_
    refine hK8 _ _ ?_ a hS
    refine Cod.seq fun K9 hK9 => ?_
    refine Cod.region ?_
    refine Ops.step (One.val rfl rfl rfl (yld_move rfl (ev_t rfl)) ?_)
    refine Ops.step (One.val rfl rfl rfl (yld_move rfl (ev_t rfl)) ?_)
    refine Ops.step (One.val rfl rfl rfl (yld_move rfl (ev_t rfl)) ?_)
    refine Ops.step (One.val rfl rfl rfl (yld_indexN sl22 rfl (ev_t rfl) (ev_t rfl) (fun _ => by omega)) ?_)
    refine Ops.step (One.val rfl rfl rfl (yld_load1 on9 rfl (ev_t rfl) (fun _ => rangeAt_cell (rng hr1 F1.chg) (j := 0) rfl)) ?_)
    refine Ops.step (One.val rfl rfl rfl (yld_seql rfl (ev_t rfl) (ev_t rfl)) ?_)
    refine Ops.nil fun a hS => ?_
    refine hK9 _ _ ?_ a hS
    refine Cod.cond rfl (fun hc16 => ?_) (fun hc16 => ?_)
    · skip
      have heq : ks[i] = key := by simpa [eq_comm] using hc16
      have hyes := keyZ_at i hi heq hall
      refine Cod.seq fun K10 hK10 => ?_
      refine Cod.region ?_
      refine Ops.step (One.val rfl rfl rfl (yld_move rfl (ev_t rfl)) ?_)
      refine Ops.step (One.val rfl rfl rfl (yld_assign rfl (ev_t rfl)) ?_)
      refine Ops.nil fun a hS => ?_
      refine hK10 _ _ ?_ a hS
      refine Cod.ret fun a hS => ?_
      try simp only [Exit.then, Exit.inBlock]
      exact ret1 (t := 4) rfl hS rfl ⟨by rw [hyes], F1.chg⟩
    · skip
      have hne : ks[i] ≠ key := by simpa [eq_comm] using hc16
      refine Cod.skip fun a hS => ?_
      refine hK7 _ _ ?_ a hS
      refine Cod.region ?_
      refine Ops.step (One.val rfl rfl rfl (yld_inc rfl (ev_t rfl) (fun _ => by omega)) ?_)
      refine Ops.step (One.val rfl rfl rfl (yld_move rfl (ev_t rfl)) ?_)
      refine Ops.nil fun a hS => ?_
      exact hK4 (i + 1) _ a (hS.sub ⟨rfl, rfl, rfl, rfl, trivial⟩) ⟨by omega, fun j h1 hji => if h : j = i then (by subst h; exact hne) else hall j h1 (by omega), F1⟩ (by omega)
  · skip
    have hno : keyZ ks key = -1 := keyZ_no fun j hj => hall j hj (by simp at hc9; omega)
    refine Cod.exit fun a hS => ?_
    simp only [Exit.then, Exit.inBlock, ↓reduceIte]
    refine hK2 _ _ ?_ a hS
    refine Cod.seq fun K11 hK11 => ?_
    refine Cod.region ?_
    refine Ops.step (One.val rfl rfl rfl (yld_assign rfl ev_c) ?_)
    refine Ops.nil fun a hS => ?_
    refine hK11 _ _ ?_ a hS
    refine Cod.ret fun a hS => ?_
    try simp only [Exit.then, Exit.inBlock]
    exact ret1 (t := 4) rfl hS rfl ⟨by rw [hno], F1.chg⟩

set_option maxRecDepth 100000 in
theorem l2Get_ct (t : Tr) (key : ByteArray) (v : Value) (w0 w : World) (hr : Rep Any w0 t v) (hc0 : Chg No w0 w) (hok : okT t = true) : Calls Try.prog 142 #[v, .string key] w (Looks w0 w (getT t key)) := by
  obtain ⟨v3, v4, ev, h3, h4⟩ := hr.form
  subst ev
  obtain ⟨A3, c3, rfl, hn3⟩ := h3.open
  obtain ⟨A4, c4, rfl, hn4⟩ := h4.open
  refine enter Try.func142 rfl rfl rfl ?_
  have F0 := Fr.start w
  refine Cod.seq fun K1 hK1 => ?_
  refine Cod.region ?_
  refine Ops.step (One.box F0 rfl rfl rfl rfl (ev_t rfl) ?_)
  intro b1 w1 hb1 F1
  change Fr _ _ [blk _ _ [_, _, _, _, _]] _ at F1
  refine Ops.step (One.alloc F1 zero31 rfl rfl rfl rfl ?_)
  intro b2 w2 hb2 F2
  change Fr _ _ [blk _ _ [_, _, _, _, _], blk _ _ [_, _, _, _, _]] _ at F2
  refine Ops.step (One.val rfl rfl rfl (yld_assign rfl ev_c) ?_)
  refine Ops.nil fun a hS => ?_
  refine hK1 _ _ ?_ a hS
  refine Cod.seq fun K2 hK2 => ?_
  refine Cod.seq fun K3 hK3 => ?_
  refine Cod.region ?_
  refine Ops.step (One.val rfl rfl rfl (yld_field fi31_0 rfl (ev_t rfl)) ?_)
  refine Ops.step (One.val rfl rfl rfl (yld_load1 on3 rfl (ev_t rfl) (fun _ => F2.cell 1 rfl rfl)) ?_)
  refine Ops.step (One.val rfl rfl rfl (yld_eql rfl (ev_t rfl) ev_c) ?_)
  refine Ops.nil fun a hS => ?_
  refine hK3 _ _ ?_ a hS
  refine Cod.cond rfl (fun hc9 => ?_) (fun hc9 => ?_)
  · skip
    have hk : t.kind = 0 := by simpa using hc9
    have hR : getT t key = some zeroT := by unfold getT; rw [if_pos hk]
    have htz := okT_zero hok hk
    refine Cod.seq fun K4 hK4 => ?_
    refine Cod.region ?_
    refine Ops.step (One.val rfl rfl rfl (yld_loadN ag31 rfl (ev_t rfl) (fun _ => F2.range (m := 5) (cs' := [_, _, _, _, _]) 1 rfl rfl) rfl) ?_)
    refine Ops.step (One.storeN (vs := [_, _, _, _, _]) F2 0 rfl sz31 rfl rfl rfl (ev_t rfl) (ev_t rfl) rfl rfl rfl ?_)
    intro w3 F3
    change Fr _ _ [blk _ _ [_, _, _, _, _], blk _ _ [_, _, _, _, _]] _ at F3
    refine Ops.step (One.val rfl rfl rfl (yld_assign rfl ev_c) ?_)
    refine Ops.nil fun a hS => ?_
    refine hK4 _ _ ?_ a hS
    refine Cod.ret fun a hS => ?_
    try simp only [Exit.then, Exit.inBlock]
    exact retct (t := 4) (u := 5) (ty := 31) rfl hS ag31 rfl rfl (F3.range (m := 5) (cs' := [_, _, _, _, _]) 0 rfl rfl) rfl ⟨x5 t.kind t.num t.str (.slice A3 t.keys.length c3) (.slice A4 t.list.length c4), by rw [hR]; rfl, F3.chg, by rw [hR]; show Rep Any w0 zeroT _; rw [← htz]; exact hr⟩
  · skip
    have hk0 : t.kind ≠ 0 := by simpa using hc9
    refine Cod.skip fun a hS => ?_
    refine hK2 _ _ ?_ a hS
    refine Cod.seq fun K5 hK5 => ?_
    refine Cod.seq fun K6 hK6 => ?_
    refine Cod.region ?_
    refine Ops.step (One.val rfl rfl rfl (yld_field fi31_0 rfl (ev_t rfl)) ?_)
    refine Ops.step (One.val rfl rfl rfl (yld_load1 on3 rfl (ev_t rfl) (fun _ => F2.cell 1 rfl rfl)) ?_)
    refine Ops.step (One.val rfl rfl rfl (yld_neq rfl (ev_t rfl) ev_c) ?_)
    refine Ops.nil fun a hS => ?_
    refine hK6 _ _ ?_ a hS
    refine Cod.cond rfl (fun hc13 => ?_) (fun hc13 => ?_)
    · skip
      have hk5 : t.kind ≠ 6 := by simpa using hc13
      have hR : getT t key = none := by unfold getT; rw [if_neg hk0, if_pos hk5]
      refine Cod.seq fun K7 hK7 => ?_
      refine Cod.region ?_
      refine Ops.step (One.val rfl rfl rfl (yld_build (cells := [.int .i64 0, .int .i64 0, .string ⟨#[]⟩, .slice none 0 0, .slice none 0 0]) rfl (evp0) (by kernel_rfl)) ?_)
      refine Ops.step (One.storeN (vs := [_, _, _, _, _]) F2 0 rfl sz31 rfl rfl rfl (ev_t rfl) (ev_t rfl) rfl rfl rfl ?_)
      intro w4 F4
      change Fr _ _ [blk _ _ [_, _, _, _, _], blk _ _ [_, _, _, _, _]] _ at F4
      refine Ops.step (One.val rfl rfl rfl (yld_assign rfl ev_c) ?_)
      refine Ops.nil fun a hS => ?_
      refine hK7 _ _ ?_ a hS
      refine Cod.ret fun a hS => ?_
      try simp only [Exit.then, Exit.inBlock]
      exact retct (t := 4) (u := 5) (ty := 31) rfl hS ag31 rfl rfl (F4.range (m := 5) (cs' := [_, _, _, _, _]) 0 rfl rfl) rfl ⟨z5, by rw [hR]; rfl, F4.chg, by rw [hR]; exact Rep.close (RepE.nil _ _) (RepL.nil _ _)⟩
    · skip
      have hk5 : t.kind = 6 := by simpa using hc13
      have hkl := okT_len hok hk5
      refine Cod.skip fun a hS => ?_
      refine hK5 _ _ ?_ a hS
      refine Cod.seq fun K8 hK8 => ?_
      refine Cod.region ?_
      refine Ops.step (One.val rfl rfl rfl (yld_loadN ag31 rfl (ev_t rfl) (fun _ => F2.range (m := 5) (cs' := [_, _, _, _, _]) 1 rfl rfl) rfl) ?_)
      refine Ops.step (One.val rfl rfl rfl (yld_move rfl (ev_t rfl)) ?_)
      refine Ops.step (One.call rfl rfl rfl (ent_f rfl (evl2 (ev_t rfl) (ev_t rfl)) (enters en152)) (l2Key_ct t key _ _ (hr.chg (hc0.trans F2.chg))) (fun e w5 hw5 => ?_))
      obtain ⟨rfl, C5⟩ := hw5
      have F5 := F2.call C5
      refine ⟨_, rfl, ?_⟩
      refine Ops.step (One.val rfl rfl rfl (yld_assign rfl (ev_t rfl)) ?_)
      refine Ops.nil fun a hS => ?_
      refine hK8 _ _ ?_ a hS
      refine Cod.seq fun K9 hK9 => ?_
      refine Cod.seq fun K10 hK10 => ?_
      refine Cod.region ?_
      refine Ops.step (One.val rfl rfl rfl (yld_move rfl (ev_t rfl)) ?_)
      refine Ops.step (One.val rfl rfl rfl (yld_lss rfl (ev_t rfl) ev_c) ?_)
      refine Ops.nil fun a hS => ?_
      refine hK10 _ _ ?_ a hS
      refine Cod.cond rfl (fun hc19 => ?_) (fun hc19 => ?_)
      · skip
        have hp : keyZ t.keys key < 0 := by simpa using hc19
        have hR : getT t key = some zeroT := by unfold getT; rw [if_neg hk0, if_neg (by simp [hk5]), dif_neg (by omega)]
        refine Cod.seq fun K11 hK11 => ?_
        refine Cod.region ?_
        refine Ops.step (One.val rfl rfl rfl (yld_build (cells := [.int .i64 0, .int .i64 0, .string ⟨#[]⟩, .slice none 0 0, .slice none 0 0]) rfl (evp0) (by kernel_rfl)) ?_)
        refine Ops.step (One.storeN (vs := [_, _, _, _, _]) F5 0 rfl sz31 rfl rfl rfl (ev_t rfl) (ev_t rfl) rfl rfl rfl ?_)
        intro w6 F6
        change Fr _ _ [blk _ _ [_, _, _, _, _], blk _ _ [_, _, _, _, _]] _ at F6
        refine Ops.step (One.val rfl rfl rfl (yld_assign rfl ev_c) ?_)
        refine Ops.nil fun a hS => ?_
        refine hK11 _ _ ?_ a hS
        refine Cod.ret fun a hS => ?_
        try simp only [Exit.then, Exit.inBlock]
        exact retct (t := 4) (u := 5) (ty := 31) rfl hS ag31 rfl rfl (F6.range (m := 5) (cs' := [_, _, _, _, _]) 0 rfl rfl) rfl ⟨z5, by rw [hR]; rfl, F6.chg, by rw [hR]; exact Rep.close (RepE.nil _ _) (RepL.nil _ _)⟩
      · skip
        have hp : 0 ≤ keyZ t.keys key := by simpa using hc19
        have hi : (keyZ t.keys key).toNat < t.list.length := by have := keyZ_lt hp; omega
        have hR : getT t key = some t.list[(keyZ t.keys key).toNat] := by unfold getT; rw [if_neg hk0, if_neg (by simp [hk5]), dif_pos ⟨hp, hi⟩]
        obtain ⟨b, o, cs, rfl, -, hlc, hr1, ht⟩ := h4.at _ hi
        obtain ⟨y1, y2, y3, y4, y5, rfl⟩ := five hlc
        refine Cod.skip fun a hS => ?_
        refine hK9 _ _ ?_ a hS
        refine Cod.seq fun K12 hK12 => ?_
        refine Cod.region ?_
        refine Ops.step (One.val rfl rfl rfl (yld_field fi31_4 rfl (ev_t rfl)) ?_)
        refine Ops.step (One.val rfl rfl rfl (yld_load1 on29 rfl (ev_t rfl) (fun _ => F5.cell 1 rfl rfl)) ?_)
        refine Ops.step (One.val rfl rfl rfl (yld_move rfl (ev_t rfl)) ?_)
        refine Ops.step (One.val rfl rfl rfl (yld_index sl29 rfl (ev_t rfl) (ev_t rfl) (fun _ => by omega)) ?_)
        refine Ops.step (One.val rfl rfl rfl (yld_loadN ag31 rfl (ev_t rfl) (fun _ => rng hr1 (hc0.trans F5.chg)) rfl) ?_)
        refine Ops.step (One.storeN (vs := [_, _, _, _, _]) F5 0 rfl sz31 rfl rfl rfl (ev_t rfl) (ev_t rfl) rfl rfl ht.one ?_)
        intro w7 F7
        change Fr _ _ [blk _ _ [_, _, _, _, _], blk _ _ [_, _, _, _, _]] _ at F7
        refine Ops.step (One.val rfl rfl rfl (yld_assign rfl ev_c) ?_)
        refine Ops.nil fun a hS => ?_
        refine hK12 _ _ ?_ a hS
        refine Cod.ret fun a hS => ?_
        try simp only [Exit.then, Exit.inBlock]
        exact retct (t := 4) (u := 5) (ty := 31) rfl hS ag31 rfl rfl (F7.range (m := 5) (cs' := [_, _, _, _, _]) 0 rfl rfl) rfl ⟨⟨y1, y2, y3, y4, y5⟩, by rw [hR]; rfl, F7.chg, by rw [hR]; exact ht⟩

set_option maxRecDepth 100000 in
theorem get_ct (t : Tr) (key : ByteArray) (v : Value) (w0 w : World) (hr : Rep Any w0 t v) (hc0 : Chg No w0 w) (hok : okT t = true) : Calls Try.prog 77 #[v, .string key] w (Looks w0 w (getT t key)) := by
  obtain ⟨v3, v4, ev, h3, h4⟩ := hr.form
  subst ev
  obtain ⟨A3, c3, rfl, hn3⟩ := h3.open
  obtain ⟨A4, c4, rfl, hn4⟩ := h4.open
  refine enter Try.func77 rfl rfl rfl ?_
  have F0 := Fr.start w
  refine Cod.seq fun K1 hK1 => ?_
  refine Cod.region ?_
  refine Ops.step (One.box F0 rfl rfl rfl rfl (ev_t rfl) ?_)
  intro b1 w1 hb1 F1
  change Fr _ _ [blk _ _ [_, _, _, _, _]] _ at F1
  refine Ops.step (One.alloc F1 zero31 rfl rfl rfl rfl ?_)
  intro b2 w2 hb2 F2
  change Fr _ _ [blk _ _ [_, _, _, _, _], blk _ _ [_, _, _, _, _]] _ at F2
  refine Ops.step (One.val rfl rfl rfl (yld_assign rfl ev_c) ?_)
  refine Ops.nil fun a hS => ?_
  refine hK1 _ _ ?_ a hS
  refine Cod.seq fun K2 hK2 => ?_
  refine Cod.seq fun K3 hK3 => ?_
  refine Cod.region ?_
  refine Ops.step (One.val rfl rfl rfl (yld_field fi31_0 rfl (ev_t rfl)) ?_)
  refine Ops.step (One.val rfl rfl rfl (yld_load1 on3 rfl (ev_t rfl) (fun _ => F2.cell 1 rfl rfl)) ?_)
  refine Ops.step (One.val rfl rfl rfl (yld_eql rfl (ev_t rfl) ev_c) ?_)
  refine Ops.nil fun a hS => ?_
  refine hK3 _ _ ?_ a hS
  refine Cod.cond rfl (fun hc9 => ?_) (fun hc9 => ?_)
  · skip
    have hk5 : t.kind = 6 := by simpa using hc9
    have hkl := okT_len hok hk5
    have hk0 : t.kind ≠ 0 := by omega
    refine Cod.seq fun K4 hK4 => ?_
    refine Cod.region ?_
    refine Ops.step (One.val rfl rfl rfl (yld_field fi31_3 rfl (ev_t rfl)) ?_)
    refine Ops.step (One.val rfl rfl rfl (yld_load1 on22 rfl (ev_t rfl) (fun _ => F2.cell 1 rfl rfl)) ?_)
    refine Ops.step (One.val rfl rfl rfl (yld_move rfl (ev_t rfl)) ?_)
    refine Ops.step (One.call rfl rfl rfl (ent_f rfl (evl2 (ev_t rfl) (ev_t rfl)) (enters en122)) (index_ct t.keys key _ _ (h3.chg (hc0.trans F2.chg))) (fun e w3 hw3 => ?_))
    obtain ⟨rfl, C3⟩ := hw3
    have F3 := F2.call C3
    refine ⟨_, rfl, ?_⟩
    refine Ops.step (One.val rfl rfl rfl (yld_assign rfl (ev_t rfl)) ?_)
    refine Ops.nil fun a hS => ?_
    refine hK4 _ _ ?_ a hS
    refine Cod.seq fun K5 hK5 => ?_
    refine Cod.region ?_
    refine Ops.step (One.val rfl rfl rfl (yld_move rfl (ev_t rfl)) ?_)
    refine Ops.step (One.val rfl rfl rfl (yld_geq rfl (ev_t rfl) ev_c) ?_)
    refine Ops.nil fun a hS => ?_
    refine hK5 _ _ ?_ a hS
    refine Cod.cond rfl (fun hc15 => ?_) (fun hc15 => ?_)
    · skip
      have hp : 0 ≤ keyZ t.keys key := by simpa using hc15
      have hi : (keyZ t.keys key).toNat < t.list.length := by have := keyZ_lt hp; omega
      have hR : getT t key = some t.list[(keyZ t.keys key).toNat] := by unfold getT; rw [if_neg hk0, if_neg (by simp [hk5]), dif_pos ⟨hp, hi⟩]
      obtain ⟨b, o, cs, rfl, -, hlc, hr1, ht⟩ := h4.at _ hi
      obtain ⟨y1, y2, y3, y4, y5, rfl⟩ := five hlc
      refine Cod.seq fun K6 hK6 => ?_
      refine Cod.region ?_
      refine Ops.step (One.val rfl rfl rfl (yld_field fi31_4 rfl (ev_t rfl)) ?_)
      refine Ops.step (One.val rfl rfl rfl (yld_load1 on29 rfl (ev_t rfl) (fun _ => F3.cell 1 rfl rfl)) ?_)
      refine Ops.step (One.val rfl rfl rfl (yld_move rfl (ev_t rfl)) ?_)
      refine Ops.step (One.val rfl rfl rfl (yld_index sl29 rfl (ev_t rfl) (ev_t rfl) (fun _ => by omega)) ?_)
      refine Ops.step (One.val rfl rfl rfl (yld_loadN ag31 rfl (ev_t rfl) (fun _ => rng hr1 (hc0.trans F3.chg)) rfl) ?_)
      refine Ops.step (One.storeN (vs := [_, _, _, _, _]) F3 0 rfl sz31 rfl rfl rfl (ev_t rfl) (ev_t rfl) rfl rfl ht.one ?_)
      intro w4 F4
      change Fr _ _ [blk _ _ [_, _, _, _, _], blk _ _ [_, _, _, _, _]] _ at F4
      refine Ops.step (One.val rfl rfl rfl (yld_assign rfl ev_c) ?_)
      refine Ops.nil fun a hS => ?_
      refine hK6 _ _ ?_ a hS
      refine Cod.ret fun a hS => ?_
      try simp only [Exit.then, Exit.inBlock]
      exact retct (t := 4) (u := 5) (ty := 31) rfl hS ag31 rfl rfl (F4.range (m := 5) (cs' := [_, _, _, _, _]) 0 rfl rfl) rfl ⟨⟨y1, y2, y3, y4, y5⟩, by rw [hR]; rfl, F4.chg, by rw [hR]; exact ht⟩
    · skip
      have hp : keyZ t.keys key < 0 := by simpa using hc15
      have hR : getT t key = some zeroT := by unfold getT; rw [if_neg hk0, if_neg (by simp [hk5]), dif_neg (by omega)]
      refine Cod.skip fun a hS => ?_
      refine hK2 _ _ ?_ a hS
      refine Cod.seq fun K7 hK7 => ?_
      have F5 := F3.drew
      refine Cod.draw (C_of F5.drop1) (by kernel_rfl) ?_
      refine Hops.take 0 rfl (by kernel_rfl) (fun _ _ _ h => h) rfl rfl rfl F5.drop1 (fun w F => (yld_build (cells := [.int .i64 0, .int .i64 0, .string ⟨#[]⟩, .slice none 0 0, .slice none 0 0]) rfl (evp0) (by kernel_rfl))) ?_
      refine Hops.take 1 rfl (by kernel_rfl) (fun _ _ _ h => h) rfl rfl rfl F5.drop1 (fun w F => (yld_field fi31_0 rfl (ev_t rfl))) ?_
      refine Hops.take 2 rfl (by kernel_rfl) (fun _ _ _ h => h) rfl rfl rfl F5.drop1 (fun w F => (yld_load1 on3 rfl (ev_t rfl) (fun _ => F.cell 0 rfl rfl))) ?_
      refine Hops.take 3 rfl (by kernel_rfl) (fun _ _ _ h => h) rfl rfl rfl F5.drop1 (fun w F => (yld_eql rfl (ev_t rfl) ev_c)) ?_
      refine Hops.take 4 rfl (by kernel_rfl) (fun _ _ _ h => h) rfl rfl rfl F5.drop1 (fun w F => (yld_move rfl (ev_t rfl))) ?_
      refine Hops.take 5 rfl (by kernel_rfl) (fun _ _ _ h => h) (gd_some rfl rfl) rfl rfl F5.drop1 (fun w F => (yld_field fi31_0 rfl (ev_t rfl))) ?_
      refine Hops.take 6 rfl (by kernel_rfl) (fun _ _ _ h => h) (gd_some rfl rfl) rfl rfl F5.drop1 (fun w F => (yld_load1 on3 rfl (ev_g rfl) (fun _ => F.cell 0 rfl rfl))) ?_
      refine Hops.take 7 rfl (by kernel_rfl) (fun _ _ _ h => h) (gd_some rfl rfl) rfl rfl F5.drop1 (fun w F => (yld_eql rfl (ev_g rfl) ev_c)) ?_
      refine Hops.take 8 rfl (by kernel_rfl) (fun _ _ _ h => h) rfl rfl rfl F5.drop1 (fun w F => (yld_or rfl (ev_t rfl) (ev_g rfl))) ?_
      refine Hops.one 9 rfl (by kernel_rfl) (One.storeN (vs := [_, _, _, _, _]) F5 0 rfl sz31 rfl rfl rfl (ev_t rfl) (ev_t rfl) rfl rfl rfl ?_)
      intro w5 F6
      refine ⟨F6.drop1, ?_⟩
      change Fr _ _ [blk _ _ [_, _, _, _, _], blk _ _ [_, _, _, _, _]] _ at F6
      refine Hops.one 10 rfl (by kernel_rfl) (One.val rfl rfl rfl (yld_assign rfl (ev_t rfl)) ?_)
      refine ⟨F6.drop1, ?_⟩
      refine Hops.nil (by kernel_rfl) fun a hS => ?_
      refine hK7 _ _ ?_ a hS
      refine Cod.ret fun a hS => ?_
      try simp only [Exit.then, Exit.inBlock]
      exact retct (t := 4) (u := 5) (ty := 31) rfl hS ag31 rfl rfl (F6.range (m := 5) (cs' := [_, _, _, _, _]) 0 rfl rfl) rfl ⟨z5, by rw [hR]; by_cases hz : t.kind = 0 <;> simp_all [z5, V5.val], F6.chg, by rw [hR]; have hzz : Rep Any w0 zeroT z5.val := Rep.close (RepE.nil _ _) (RepL.nil _ _); by_cases hz : t.kind = 0 <;> simp_all⟩
  · skip
    have hk5 : t.kind ≠ 6 := by simpa using hc9
    have hR : getT t key = if t.kind = 0 then some zeroT else none := by unfold getT; rw [if_pos hk5]
    refine Cod.skip fun a hS => ?_
    refine hK2 _ _ ?_ a hS
    refine Cod.seq fun K8 hK8 => ?_
    have F7 := F2.drew
    refine Cod.draw (C_of F7.drop1) (by kernel_rfl) ?_
    refine Hops.take 0 rfl (by kernel_rfl) (fun _ _ _ h => h) rfl rfl rfl F7.drop1 (fun w F => (yld_build (cells := [.int .i64 0, .int .i64 0, .string ⟨#[]⟩, .slice none 0 0, .slice none 0 0]) rfl (evp0) (by kernel_rfl))) ?_
    refine Hops.take 1 rfl (by kernel_rfl) (fun _ _ _ h => h) rfl rfl rfl F7.drop1 (fun w F => (yld_field fi31_0 rfl (ev_t rfl))) ?_
    refine Hops.take 2 rfl (by kernel_rfl) (fun _ _ _ h => h) rfl rfl rfl F7.drop1 (fun w F => (yld_load1 on3 rfl (ev_t rfl) (fun _ => F.cell 0 rfl rfl))) ?_
    refine Hops.take 3 rfl (by kernel_rfl) (fun _ _ _ h => h) rfl rfl rfl F7.drop1 (fun w F => (yld_eql rfl (ev_t rfl) ev_c)) ?_
    refine Hops.take 4 rfl (by kernel_rfl) (fun _ _ _ h => h) rfl rfl rfl F7.drop1 (fun w F => (yld_move rfl (ev_t rfl))) ?_
    refine Hops.take 5 rfl (by kernel_rfl) (fun _ _ _ h => h) (gd_some rfl rfl) rfl rfl F7.drop1 (fun w F => (yld_field fi31_0 rfl (ev_t rfl))) ?_
    refine Hops.take 6 rfl (by kernel_rfl) (fun _ _ _ h => h) (gd_some rfl rfl) rfl rfl F7.drop1 (fun w F => (yld_load1 on3 rfl (ev_g rfl) (fun _ => F.cell 0 rfl rfl))) ?_
    refine Hops.take 7 rfl (by kernel_rfl) (fun _ _ _ h => h) (gd_some rfl rfl) rfl rfl F7.drop1 (fun w F => (yld_eql rfl (ev_g rfl) ev_c)) ?_
    refine Hops.take 8 rfl (by kernel_rfl) (fun _ _ _ h => h) rfl rfl rfl F7.drop1 (fun w F => (yld_or rfl (ev_t rfl) (ev_g rfl))) ?_
    refine Hops.one 9 rfl (by kernel_rfl) (One.storeN (vs := [_, _, _, _, _]) F7 0 rfl sz31 rfl rfl rfl (ev_t rfl) (ev_t rfl) rfl rfl rfl ?_)
    intro w6 F8
    refine ⟨F8.drop1, ?_⟩
    change Fr _ _ [blk _ _ [_, _, _, _, _], blk _ _ [_, _, _, _, _]] _ at F8
    refine Hops.one 10 rfl (by kernel_rfl) (One.val rfl rfl rfl (yld_assign rfl (ev_t rfl)) ?_)
    refine ⟨F8.drop1, ?_⟩
    refine Hops.nil (by kernel_rfl) fun a hS => ?_
    refine hK8 _ _ ?_ a hS
    refine Cod.ret fun a hS => ?_
    try simp only [Exit.then, Exit.inBlock]
    exact retct (t := 4) (u := 5) (ty := 31) rfl hS ag31 rfl rfl (F8.range (m := 5) (cs' := [_, _, _, _, _]) 0 rfl rfl) rfl ⟨z5, by rw [hR]; by_cases hz : t.kind = 0 <;> simp_all [z5, V5.val], F8.chg, by rw [hR]; have hzz : Rep Any w0 zeroT z5.val := Rep.close (RepE.nil _ _) (RepL.nil _ _); by_cases hz : t.kind = 0 <;> simp_all⟩

set_option maxRecDepth 100000 in
theorem partGet_ct (t : Tr) (key : ByteArray) (hks : key.size ≤ 9223372036854775807) (v : Value) (w : World) (hr : Rep Any w t v) (hf : t.Fit) (hw : t.wt ≤ 1048576) : Calls Try.prog 28 #[v, .string key] w (Gives w (partGetR t key)) := by
  obtain ⟨v3, v4, ev, h3, h4⟩ := hr.form
  subst ev
  refine enter Try.func28 rfl rfl rfl ?_
  have F0 := Fr.start w
  refine Cod.seq fun K1 hK1 => ?_
  refine Cod.region ?_
  refine Ops.step (One.box F0 rfl rfl rfl rfl (ev_t rfl) ?_)
  intro b1 w1 hb1 F1
  change Fr _ _ [blk _ _ [_, _, _, _, _]] _ at F1
  refine Ops.step (One.alloc F1 zero31 rfl rfl rfl rfl ?_)
  intro b2 w2 hb2 F2
  change Fr _ _ [blk _ _ [_, _, _, _, _], blk _ _ [_, _, _, _, _]] _ at F2
  refine Ops.step (One.val rfl rfl rfl (yld_assign rfl ev_c) ?_)
  refine Ops.nil fun a hS => ?_
  refine hK1 _ _ ?_ a hS
  refine Cod.seq fun K2 hK2 => ?_
  refine Cod.seq fun K3 hK3 => ?_
  refine Cod.region ?_
  refine Ops.step (One.val rfl rfl rfl (yld_loadN ag31 rfl (ev_t rfl) (fun _ => F2.range (m := 5) (cs' := [_, _, _, _, _]) 1 rfl rfl) rfl) ?_)
  refine Ops.step (One.call rfl rfl rfl (ent_f rfl (evl1 (ev_t rfl)) (enters en43)) (valOk_ct t _ _ (hr.chg F2.chg) hf) (fun e w3 hw3 => ?_))
  obtain ⟨rfl, C3⟩ := hw3
  have F3 := F2.call C3
  refine ⟨_, rfl, ?_⟩
  refine Ops.step (One.val rfl rfl rfl (yld_not rfl (ev_t rfl)) ?_)
  refine Ops.step (One.val rfl rfl rfl (yld_move rfl (ev_t rfl)) ?_)
  refine Ops.step (One.val (gd_some rfl rfl) rfl rfl (yld_move rfl (ev_t rfl)) ?_)
  refine Ops.step (One.gcall (R := Chg No w3) (gd_some rfl rfl) rfl rfl (ent_f rfl (evl1 (ev_g rfl)) (enters en76)) (Chg.refl _ _) (fun hg => textOk_ct key _ hks) ?_)
  intro w4 C4
  have F4 := F3.call C4
  refine Ops.step (One.val (gd_some rfl rfl) rfl rfl (yld_not rfl (ev_g rfl)) ?_)
  refine Ops.step (One.val rfl rfl rfl (yld_or rfl (ev_t rfl) (ev_g rfl)) ?_)
  refine Ops.nil fun a hS => ?_
  refine hK3 _ _ ?_ a hS
  refine Cod.cond rfl (fun hc13 => ?_) (fun hc13 => ?_)
  · skip
    have hno : partGetR t key = none := by
      have hc : (!(okT t) || !(okS key)) = true := hc13
      unfold partGetR
      cases h1 : okT t <;> cases h2 : okS key <;> simp [h1, h2] at hc ⊢
    refine Cod.seq fun K4 hK4 => ?_
    refine Cod.region ?_
    refine Ops.step (One.val rfl rfl rfl (yld_build (cells := [.int .i64 0, .int .i64 0, .string ⟨#[]⟩, .slice none 0 0, .slice none 0 0]) rfl (evp0) (by kernel_rfl)) ?_)
    refine Ops.step (One.storeN (vs := [_, _, _, _, _]) F4 0 rfl sz31 rfl rfl rfl (ev_t rfl) (ev_t rfl) rfl rfl rfl ?_)
    intro w5 F5
    change Fr _ _ [blk _ _ [_, _, _, _, _], blk _ _ [_, _, _, _, _]] _ at F5
    refine Ops.step (One.val rfl rfl rfl (yld_assign rfl ev_c) ?_)
    refine Ops.nil fun a hS => ?_
    refine hK4 _ _ ?_ a hS
    refine Cod.ret fun a hS => ?_
    try simp only [Exit.then, Exit.inBlock]
    exact retct (t := 4) (u := 5) (ty := 31) rfl hS ag31 rfl rfl (F5.range (m := 5) (cs' := [_, _, _, _, _]) 0 rfl rfl) rfl ⟨z5, No, by rw [hno]; rfl, F5.chg, by rw [hno]; exact sep_leaf _ 0 0 ⟨#[]⟩, fun k hk => hk.elim⟩
  · skip
    have hc : (!(okT t) || !(okS key)) = false := hc13
    have hok : okT t = true := by
      cases h1 : okT t <;> simp [h1] at hc ⊢
    have hyes : partGetR t key = getT t key := by
      unfold partGetR
      rw [hok] at hc ⊢
      cases h2 : okS key <;> simp [h2] at hc ⊢
    obtain ⟨hbf, hbw, hbt⟩ := getD_bounds (r := getT t key) (fun x hx => getT_in hx) hf hok
    refine Cod.skip fun a hS => ?_
    refine hK2 _ _ ?_ a hS
    refine Cod.seq fun K5 hK5 => ?_
    refine Cod.region ?_
    refine Ops.step (One.val rfl rfl rfl (yld_loadN ag31 rfl (ev_t rfl) (fun _ => F4.range (m := 5) (cs' := [_, _, _, _, _]) 1 rfl rfl) rfl) ?_)
    refine Ops.step (One.val rfl rfl rfl (yld_move rfl (ev_t rfl)) ?_)
    refine Ops.step (One.call rfl rfl rfl (ent_f rfl (evl2 (ev_t rfl) (ev_t rfl)) (enters en77)) (get_ct t key _ w _ hr F4.chg hok) (fun e w6 hw6 => ?_))
    obtain ⟨y, rfl, C6, hy⟩ := hw6
    have F6 := F4.call C6
    refine ⟨_, rfl, ?_⟩
    refine Ops.step (One.val rfl rfl rfl (yld_extract rfl (ev_t rfl) rfl) ?_)
    refine Ops.step (One.val rfl rfl rfl (yld_extract rfl (ev_t rfl) rfl) ?_)
    refine Ops.step (One.call rfl rfl rfl (ent_f rfl (evl2 (ev_t rfl) (ev_t rfl)) (enters en70)) (told_ct ((getT t key).getD zeroT) (getT t key).isSome _ _ (hy.chg F6.chg) hbf (by omega)) (fun e w7 hw7 => ?_))
    rw [hbt] at hw7
    obtain ⟨x1, G1, rfl, C7, hs1, hb1⟩ := hw7
    have F7 := F6.new C7 (sep G1 _ x1.val) hs1 hb1
    refine ⟨_, rfl, ?_⟩
    refine Ops.step (One.val rfl rfl rfl (yld_extract rfl (ev_t rfl) rfl) ?_)
    refine Ops.step (One.val rfl rfl rfl (yld_extract rfl (ev_t rfl) rfl) ?_)
    refine Ops.step (One.storeN (vs := [_, _, _, _, _]) F7 1 rfl sz31 rfl rfl rfl (ev_t rfl) (ev_t rfl) rfl rfl hs1.one ?_)
    intro w8 F8
    change Fr _ _ [_, blk _ _ [_, _, _, _, _], blk _ _ [_, _, _, _, _]] _ at F8
    refine Ops.step (One.val rfl rfl rfl (yld_assign rfl (ev_t rfl)) ?_)
    refine Ops.nil fun a hS => ?_
    refine hK5 _ _ ?_ a hS
    refine Cod.ret fun a hS => ?_
    try simp only [Exit.then, Exit.inBlock]
    exact retct (t := 4) (u := 5) (ty := 31) rfl hS ag31 rfl rfl (F8.range (m := 5) (cs' := [_, _, _, _, _]) 1 rfl rfl) rfl ⟨x1, G1, by rw [hyes]; rfl, F8.chg, by rw [hyes]; exact F8.get 0 rfl, fun b hb => (F8.dom _ (List.mem_of_getElem? (i := 0) rfl) b hb).resolve_left id⟩

end Go.Proofs.Ytodbflfelimppaa.Eng
