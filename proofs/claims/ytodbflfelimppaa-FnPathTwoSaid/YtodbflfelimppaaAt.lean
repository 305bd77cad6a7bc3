/- Walks of both PartAt and PartGet: a part of a tree, by its place or by its key. -/
import Derived.Test.YtodbflfelimppaaCom
namespace Go.Proofs.Ytodbflfelimppaa.Eng
open Go.RowKit
set_option linter.unusedVariables false
set_option linter.unusedSimpArgs false
set_option maxHeartbeats 1000000


def Looks (w0 w : World) (r : Option Tr) (e : Ending) (w' : World) : Prop := ∃ x : V5, e = .returned (.tuple #[x.val, .bool r.isSome]) ∧ Chg No w w' ∧ Rep Any w0 (r.getD zeroT) x.val
def placeZ (at_ n : Int) : Int := if at_ < -n ∨ n ≤ at_ then -1 else if at_ < 0 then at_ + n else at_
def atT (t : Tr) (a : Int) : Option Tr := if t.kind = 0 then some zeroT else if t.kind ≠ 5 then none else if h : 0 ≤ placeZ a t.list.length ∧ (placeZ a t.list.length).toNat < t.list.length then some t.list[(placeZ a t.list.length).toNat] else some zeroT
theorem placeZ_lt (a : Int) (n : Nat) (h : 0 ≤ placeZ a n) : (placeZ a n).toNat < n := by
  unfold placeZ at h ⊢
  repeat' split at h
  · omega
  · rename_i h1 h2; rw [if_neg h1, if_pos h2]; omega
  · rename_i h1 h2; rw [if_neg h1, if_neg h2]; omega
theorem atT_ok {t x : Tr} {a : Int} (h : okT t = true) (hx : atT t a = some x) : okT x = true := by
  unfold atT at hx
  repeat' split at hx
  · obtain rfl := Option.some.inj hx; exact okT_zeroT
  · cases hx
  · obtain rfl := Option.some.inj hx; exact okT_child h (List.getElem_mem _)
  · obtain rfl := Option.some.inj hx; exact okT_zeroT
theorem getD_bounds {t : Tr} {r : Option Tr} (h : ∀ x, r = some x → x = zeroT ∨ x ∈ t.list) (hf : t.Fit) (hok : okT t = true) : (r.getD zeroT).Fit ∧ (r.getD zeroT).wt ≤ t.wt ∧ toldR r.isSome (r.getD zeroT) = r := by
  have hz : zeroT.Fit := .mk (Nat.zero_le _) (by simp) (by simp)
  have hzw : zeroT.wt = 0 := by unfold zeroT; rw [Tr.wt_mk]; rfl
  cases hr : r with
  | none => exact ⟨hz, by show zeroT.wt ≤ _; omega, rfl⟩
  | some x =>
    rcases h x hr with rfl | hx
    · exact ⟨hz, by show zeroT.wt ≤ _; omega, by show (if (true && okT zeroT) = true then some zeroT else none) = some zeroT; rw [okT_zeroT]; rfl⟩
    · refine ⟨hf.list x hx, ?_, ?_⟩
      · have h1 := sumN_mem Tr.wt hx
        have h2 := t.wt_list
        show x.wt ≤ _
        omega
      · show (if (true && okT x) = true then some x else none) = some x
        rw [okT_child hok hx]
        rfl
theorem atT_in {t x : Tr} {a : Int} (hx : atT t a = some x) : x = zeroT ∨ x ∈ t.list := by
  unfold atT at hx
  repeat' split at hx
  · exact .inl (Option.some.inj hx).symm
  · cases hx
  · obtain rfl := Option.some.inj hx; exact .inr (List.getElem_mem _)
  · exact .inl (Option.some.inj hx).symm
noncomputable def partAtR (t : Tr) (a : Int) : Option Tr := if okT t = true then atT t a else none
theorem part_mkn {t : Tr} {r : Option Tr} (hf : t.Fit) (h : okT t = true → ∀ x, r = some x → x = zeroT ∨ x ∈ t.list) : (((if okT t = true then r else none).getD zeroT).keys.length + sumN Tr.mkn ((if okT t = true then r else none).getD zeroT).list ≤ 3 * t.wt + 3) := by
  split
  · rename_i hok
    exact wt_mkn _ _ (getD_bounds (h hok) hf hok).2.1
  · show 0 + 0 ≤ _
    omega

set_option maxRecDepth 100000 in
theorem l2Place_ct (at_ : Int) (n : Nat) (w : World) (hn : n ≤ 9223372036854775807) (ha : -9223372036854775808 ≤ at_ ∧ at_ ≤ 9223372036854775807) : Calls Try.prog 153 #[.int .i64 at_, .int .i64 (n : Int)] w fun e w' => e = .returned (.int .i64 (placeZ at_ n)) ∧ Chg No w w' := by
  refine enter Try.func153 rfl rfl rfl ?_
  have F0 := Fr.start w
  refine Cod.seq fun K1 hK1 => ?_
  refine Cod.region ?_
  refine Ops.step (One.val rfl rfl rfl (yld_assign rfl ev_c) ?_)
  refine Ops.nil fun a hS => ?_
  refine hK1 _ _ ?_ a hS
  refine Cod.seq fun K2 hK2 => ?_
  refine Cod.seq fun K3 hK3 => ?_
  refine Cod.region ?_
  refine Ops.step (One.val rfl rfl rfl (yld_move rfl (ev_t rfl)) ?_)
  refine Ops.step (One.val rfl rfl rfl (yld_move rfl (ev_t rfl)) ?_)
  refine Ops.step (One.val rfl rfl rfl (yld_neg rfl (ev_t rfl) (fun _ => by omega)) ?_)
  refine Ops.step (One.val rfl rfl rfl (yld_lss rfl (ev_t rfl) (ev_t rfl)) ?_)
  refine Ops.step (One.val rfl rfl rfl (yld_move rfl (ev_t rfl)) ?_)
  refine Ops.step (One.val (gd_some rfl rfl) rfl rfl (yld_move rfl (ev_t rfl)) ?_)
  refine Ops.step (One.val (gd_some rfl rfl) rfl rfl (yld_move rfl (ev_t rfl)) ?_)
  refine Ops.step (One.val (gd_some rfl rfl) rfl rfl (yld_geq rfl (ev_g rfl) (ev_g rfl)) ?_)
  refine Ops.step (One.val rfl rfl rfl (yld_or rfl (ev_t rfl) (ev_g rfl)) ?_)
  refine Ops.nil fun a hS => ?_
  refine hK3 _ _ ?_ a hS
  refine Cod.cond rfl (fun hc13 => ?_) (fun hc13 => ?_)
  · skip
    have hp : at_ < -(n : Int) ∨ (n : Int) ≤ at_ := by simpa using hc13
    refine Cod.seq fun K4 hK4 => ?_
    refine Cod.region ?_
    refine Ops.step (One.val rfl rfl rfl (yld_assign rfl ev_c) ?_)
    refine Ops.nil fun a hS => ?_
    refine hK4 _ _ ?_ a hS
    refine Cod.ret fun a hS => ?_
    try simp only [Exit.then, Exit.inBlock]
    exact ret1 (t := 4) rfl hS rfl ⟨ret_i (by rw [placeZ, if_pos hp]), F0.chg⟩
  · skip
    have hp : ¬ (at_ < -(n : Int) ∨ (n : Int) ≤ at_) := by simp at hc13; omega
    refine Cod.skip fun a hS => ?_
    refine hK2 _ _ ?_ a hS
    refine Cod.seq fun K5 hK5 => ?_
    refine Cod.seq fun K6 hK6 => ?_
    refine Cod.region ?_
    refine Ops.step (One.val rfl rfl rfl (yld_move rfl (ev_t rfl)) ?_)
    refine Ops.step (One.val rfl rfl rfl (yld_lss rfl (ev_t rfl) ev_c) ?_)
    refine Ops.nil fun a hS => ?_
    refine hK6 _ _ ?_ a hS
    refine Cod.cond rfl (fun hc15 => ?_) (fun hc15 => ?_)
    · skip
      have hq : at_ < 0 := by simpa using hc15
      refine Cod.seq fun K7 hK7 => ?_
      refine Cod.region ?_
      refine Ops.step (One.val rfl rfl rfl (yld_move rfl (ev_t rfl)) ?_)
      refine Ops.step (One.val rfl rfl rfl (yld_move rfl (ev_t rfl)) ?_)
      refine Ops.step (One.val rfl rfl rfl (yld_add rfl (ev_t rfl) (ev_t rfl) (fun _ => by omega)) ?_)
      refine Ops.step (One.val rfl rfl rfl (yld_assign rfl (ev_t rfl)) ?_)
      refine Ops.nil fun a hS => ?_
      refine hK7 _ _ ?_ a hS
      refine Cod.ret fun a hS => ?_
      try simp only [Exit.then, Exit.inBlock]
      exact ret1 (t := 4) rfl hS rfl ⟨ret_i (by rw [placeZ, if_neg hp, if_pos hq]), F0.chg⟩
    · skip
      have hq : ¬ at_ < 0 := by simpa using hc15
      refine Cod.skip fun a hS => ?_
      refine hK5 _ _ ?_ a hS
      refine Cod.seq fun K8 hK8 => ?_
      refine Cod.region ?_
      refine Ops.step (One.val rfl rfl rfl (yld_move rfl (ev_t rfl)) ?_)
      refine Ops.step (One.val rfl rfl rfl (yld_assign rfl (ev_t rfl)) ?_)
      refine Ops.nil fun a hS => ?_
      refine hK8 _ _ ?_ a hS
      refine Cod.ret fun a hS => ?_
      try simp only [Exit.then, Exit.inBlock]
      exact ret1 (t := 4) rfl hS rfl ⟨ret_i (by rw [placeZ, if_neg hp, if_neg hq]), F0.chg⟩

set_option maxRecDepth 100000 in
theorem l2At_ct (t : Tr) (at_ : Int) (ha : -9223372036854775808 ≤ at_ ∧ at_ ≤ 9223372036854775807) (v : Value) (w0 w : World) (hr : Rep Any w0 t v) (hc0 : Chg No w0 w) (hok : okT t = true) : Calls Try.prog 143 #[v, .int .i64 at_] w (Looks w0 w (atT t at_)) := by
  obtain ⟨v3, v4, ev, h3, h4⟩ := hr.form
  subst ev
  obtain ⟨A3, c3, rfl, hn3⟩ := h3.open
  obtain ⟨A4, c4, rfl, hn4⟩ := h4.open
  refine enter Try.func143 rfl rfl rfl ?_
  have F0 := Fr.start w
  refine Cod.seq fun K1 hK1 => ?_
  refine Cod.region ?_
  refine Ops.step (One.box F0 rfl rfl rfl rfl (ev_t rfl) ?_)
  intro b1 w1 hb1 F1
  change Fr _ _ [blk _ _ [_, _, _, _, _]] _ at F1
  refine Ops.step (One.alloc F1 zero31 rfl rfl rfl rfl ?_)
  intro b2 w2 hb2 F2
  change Fr _ _ [blk _ _ [_, _, _, _, _], blk _ _ [_, _, _, _, _]] _ at F2
  refine Ops.step (One.val rfl rfl rfl (yld_assign rfl ev_c) ?_)
  refine Ops.nil fun a hS => ?_
  refine hK1 _ _ ?_ a hS
  refine Cod.seq fun K2 hK2 => ?_
  refine Cod.seq fun K3 hK3 => ?_
  refine Cod.region ?_
  refine Ops.step (One.val rfl rfl rfl (yld_field fi31_0 rfl (ev_t rfl)) ?_)
  refine Ops.step (One.val rfl rfl rfl (yld_load1 on3 rfl (ev_t rfl) (fun _ => F2.cell 1 rfl rfl)) ?_)
  refine Ops.step (One.val rfl rfl rfl (yld_eql rfl (ev_t rfl) ev_c) ?_)
  refine Ops.nil fun a hS => ?_
  refine hK3 _ _ ?_ a hS
  refine Cod.cond rfl (fun hc9 => ?_) (fun hc9 => ?_)
  · skip
    have hk : t.kind = 0 := by simpa using hc9
    have hR : atT t at_ = some zeroT := by unfold atT; rw [if_pos hk]
    have htz := okT_zero hok hk
    refine Cod.seq fun K4 hK4 => ?_
    refine Cod.region ?_
    refine Ops.step (One.val rfl rfl rfl (yld_loadN ag31 rfl (ev_t rfl) (fun _ => F2.range (m := 5) (cs' := [_, _, _, _, _]) 1 rfl rfl) rfl) ?_)
    refine Ops.step (One.storeN (vs := [_, _, _, _, _]) F2 0 rfl sz31 rfl rfl rfl (ev_t rfl) (ev_t rfl) rfl rfl rfl ?_)
    intro w3 F3
    change Fr _ _ [blk _ _ [_, _, _, _, _], blk _ _ [_, _, _, _, _]] _ at F3
    refine Ops.step (One.val rfl rfl rfl (yld_assign rfl ev_c) ?_)
    refine Ops.nil fun a hS => ?_
    refine hK4 _ _ ?_ a hS
    refine Cod.ret fun a hS => ?_
    try simp only [Exit.then, Exit.inBlock]
    exact retct (t := 4) (u := 5) (ty := 31) rfl hS ag31 rfl rfl (F3.range (m := 5) (cs' := [_, _, _, _, _]) 0 rfl rfl) rfl ⟨x5 t.kind t.num t.str (.slice A3 t.keys.length c3) (.slice A4 t.list.length c4), by rw [hR]; rfl, F3.chg, by rw [hR]; show Rep Any w0 zeroT _; rw [← htz]; exact hr⟩
  · skip
    have hk0 : t.kind ≠ 0 := by simpa using hc9
    refine Cod.skip fun a hS => ?_
    refine hK2 _ _ ?_ a hS
    refine Cod.seq fun K5 hK5 => ?_
    refine Cod.seq fun K6 hK6 => ?_
    refine Cod.region ?_
    refine Ops.step (One.val rfl rfl rfl (yld_field fi31_0 rfl (ev_t rfl)) ?_)
    refine Ops.step (One.val rfl rfl rfl (yld_load1 on3 rfl (ev_t rfl) (fun _ => F2.cell 1 rfl rfl)) ?_)
    refine Ops.step (One.val rfl rfl rfl (yld_neq rfl (ev_t rfl) ev_c) ?_)
    refine Ops.nil fun a hS => ?_
    refine hK6 _ _ ?_ a hS
    refine Cod.cond rfl (fun hc13 => ?_) (fun hc13 => ?_)
    · skip
      have hk5 : t.kind ≠ 5 := by simpa using hc13
      have hR : atT t at_ = none := by unfold atT; rw [if_neg hk0, if_pos hk5]
      refine Cod.seq fun K7 hK7 => ?_
      refine Cod.region ?_
      refine Ops.step (One.val rfl rfl rfl (yld_build (cells := [.int .i64 0, .int .i64 0, .string ⟨#[]⟩, .slice none 0 0, .slice none 0 0]) rfl (evp0) (by kernel_rfl)) ?_)
      refine Ops.step (One.storeN (vs := [_, _, _, _, _]) F2 0 rfl sz31 rfl rfl rfl (ev_t rfl) (ev_t rfl) rfl rfl rfl ?_)
      intro w4 F4
      change Fr _ _ [blk _ _ [_, _, _, _, _], blk _ _ [_, _, _, _, _]] _ at F4
      refine Ops.step (One.val rfl rfl rfl (yld_assign rfl ev_c) ?_)
      refine Ops.nil fun a hS => ?_
      refine hK7 _ _ ?_ a hS
      refine Cod.ret fun a hS => ?_
      try simp only [Exit.then, Exit.inBlock]
      exact retct (t := 4) (u := 5) (ty := 31) rfl hS ag31 rfl rfl (F4.range (m := 5) (cs' := [_, _, _, _, _]) 0 rfl rfl) rfl ⟨z5, by rw [hR]; rfl, F4.chg, by rw [hR]; exact Rep.close (RepE.nil _ _) (RepL.nil _ _)⟩
    · skip
      have hk5 : t.kind = 5 := by simpa using hc13
      refine Cod.skip fun a hS => ?_
      refine hK5 _ _ ?_ a hS
      refine Cod.seq fun K8 hK8 => ?_
      refine Cod.region ?_
      refine Ops.step (One.val rfl rfl rfl (yld_move rfl (ev_t rfl)) ?_)
      refine Ops.step (One.val rfl rfl rfl (yld_field fi31_4 rfl (ev_t rfl)) ?_)
      refine Ops.step (One.val rfl rfl rfl (yld_load1 on29 rfl (ev_t rfl) (fun _ => F2.cell 1 rfl rfl)) ?_)
      refine Ops.step (One.val rfl rfl rfl (yld_len sl29 rfl (ev_t rfl)) ?_)
      refine Ops.step (One.call rfl rfl rfl (ent_f rfl (evl2 (ev_t rfl) (ev_t rfl)) (enters en153)) (l2Place_ct at_ t.list.length _ hn4 ha) (fun e w5 hw5 => ?_))
      obtain ⟨rfl, C5⟩ := hw5
      have F5 := F2.call C5
      refine ⟨_, rfl, ?_⟩
      refine Ops.step (One.val rfl rfl rfl (yld_assign rfl (ev_t rfl)) ?_)
      refine Ops.nil fun a hS => ?_
      refine hK8 _ _ ?_ a hS
      refine Cod.seq fun K9 hK9 => ?_
      refine Cod.seq fun K10 hK10 => ?_
      refine Cod.region ?_
      refine Ops.step (One.val rfl rfl rfl (yld_move rfl (ev_t rfl)) ?_)
      refine Ops.step (One.val rfl rfl rfl (yld_lss rfl (ev_t rfl) ev_c) ?_)
      refine Ops.nil fun a hS => ?_
      refine hK10 _ _ ?_ a hS
      refine Cod.cond rfl (fun hc21 => ?_) (fun hc21 => ?_)
      · skip
        have hp : placeZ at_ t.list.length < 0 := by simpa using hc21
        have hR : atT t at_ = some zeroT := by unfold atT; rw [if_neg hk0, if_neg (by simp [hk5]), dif_neg (by omega)]
        refine Cod.seq fun K11 hK11 => ?_
        refine Cod.region ?_
        refine Ops.step (One.val rfl rfl rfl (yld_build (cells := [.int .i64 0, .int .i64 0, .string ⟨#[]⟩, .slice none 0 0, .slice none 0 0]) rfl (evp0) (by kernel_rfl)) ?_)
        refine Ops.step (One.storeN (vs := [_, _, _, _, _]) F5 0 rfl sz31 rfl rfl rfl (ev_t rfl) (ev_t rfl) rfl rfl rfl ?_)
        intro w6 F6
        change Fr _ _ [blk _ _ [_, _, _, _, _], blk _ _ [_, _, _, _, _]] _ at F6
        refine Ops.step (One.val rfl rfl rfl (yld_assign rfl ev_c) ?_)
        refine Ops.nil fun a hS => ?_
        refine hK11 _ _ ?_ a hS
        refine Cod.ret fun a hS => ?_
        try simp only [Exit.then, Exit.inBlock]
        exact retct (t := 4) (u := 5) (ty := 31) rfl hS ag31 rfl rfl (F6.range (m := 5) (cs' := [_, _, _, _, _]) 0 rfl rfl) rfl ⟨z5, by rw [hR]; rfl, F6.chg, by rw [hR]; exact Rep.close (RepE.nil _ _) (RepL.nil _ _)⟩
      · skip
        have hp : 0 ≤ placeZ at_ t.list.length := by simpa using hc21
        have hi := placeZ_lt at_ t.list.length hp
        have hR : atT t at_ = some t.list[(placeZ at_ t.list.length).toNat] := by unfold atT; rw [if_neg hk0, if_neg (by simp [hk5]), dif_pos ⟨hp, hi⟩]
        obtain ⟨b, o, cs, rfl, -, hlc, hr1, ht⟩ := h4.at _ hi
        obtain ⟨y1, y2, y3, y4, y5, rfl⟩ := five hlc
        refine Cod.skip fun a hS => ?_
        refine hK9 _ _ ?_ a hS
        refine Cod.seq fun K12 hK12 => ?_
        refine Cod.region ?_
        refine Ops.step (One.val rfl rfl rfl (yld_field fi31_4 rfl (ev_t rfl)) ?_)
        refine Ops.step (One.val rfl rfl rfl (yld_load1 on29 rfl (ev_t rfl) (fun _ => F5.cell 1 rfl rfl)) ?_)
        refine Ops.step (One.val rfl rfl rfl (yld_move rfl (ev_t rfl)) ?_)
        refine Ops.step (One.val rfl rfl rfl (yld_index sl29 rfl (ev_t rfl) (ev_t rfl) (fun _ => by omega)) ?_)
        refine Ops.step (One.val rfl rfl rfl (yld_loadN ag31 rfl (ev_t rfl) (fun _ => rng hr1 (hc0.trans F5.chg)) rfl) ?_)
        refine Ops.step (One.storeN (vs := [_, _, _, _, _]) F5 0 rfl sz31 rfl rfl rfl (ev_t rfl) (ev_t rfl) rfl rfl ht.one ?_)
        intro w7 F7
        change Fr _ _ [blk _ _ [_, _, _, _, _], blk _ _ [_, _, _, _, _]] _ at F7
        refine Ops.step (One.val rfl rfl rfl (yld_assign rfl ev_c) ?_)
        refine Ops.nil fun a hS => ?_
        refine hK12 _ _ ?_ a hS
        refine Cod.ret fun a hS => ?_
        try simp only [Exit.then, Exit.inBlock]
        exact retct (t := 4) (u := 5) (ty := 31) rfl hS ag31 rfl rfl (F7.range (m := 5) (cs' := [_, _, _, _, _]) 0 rfl rfl) rfl ⟨⟨y1, y2, y3, y4, y5⟩, by rw [hR]; rfl, F7.chg, by rw [hR]; exact ht⟩

set_option maxRecDepth 100000 in
theorem place_ct (t : Tr) (at_ : Int) (v : Value) (w : World) (hr : Rep Any w t v) (ha : -9223372036854775808 ≤ at_ ∧ at_ ≤ 9223372036854775807) : Calls Try.prog 123 #[v, .int .i64 at_] w fun e w' => e = .returned (.int .i64 (placeZ at_ t.list.length)) ∧ Chg No w w' := by
  obtain ⟨v3, v4, ev, h3, h4⟩ := hr.form
  subst ev
  obtain ⟨A4, c4, rfl, hn4⟩ := h4.open
  refine enter Try.func123 rfl rfl rfl ?_
  have F0 := Fr.start w
  refine Cod.seq fun K1 hK1 => ?_
  refine Cod.region ?_
  refine Ops.step (One.box F0 rfl rfl rfl rfl (ev_t rfl) ?_)
  intro b1 w1 hb1 F1
  change Fr _ _ [blk _ _ [_, _, _, _, _]] _ at F1
  refine Ops.step (One.val rfl rfl rfl (yld_assign rfl ev_c) ?_)
  refine Ops.nil fun a hS => ?_
  refine hK1 _ _ ?_ a hS
  refine Cod.seq fun K2 hK2 => ?_
  refine Cod.seq fun K3 hK3 => ?_
  refine Cod.region ?_
  refine Ops.step (One.val rfl rfl rfl (yld_move rfl (ev_t rfl)) ?_)
  refine Ops.step (One.val rfl rfl rfl (yld_lss rfl (ev_t rfl) ev_c) ?_)
  refine Ops.nil fun a hS => ?_
  refine hK3 _ _ ?_ a hS
  refine Cod.cond rfl (fun hc6 => ?_) (fun hc6 => ?_)
  · skip
    have hq : at_ < 0 := by simpa using hc6
    refine Cod.region ?_
    refine Ops.step (One.val rfl rfl rfl (yld_move rfl (ev_t rfl)) ?_)
    refine Ops.step (One.val rfl rfl rfl (yld_field fi31_4 rfl (ev_t rfl)) ?_)
    refine Ops.step (One.val rfl rfl rfl (yld_load1 on29 rfl (ev_t rfl) (fun _ => F1.cell 0 rfl rfl)) ?_)
    refine Ops.step (One.val rfl rfl rfl (yld_len sl29 rfl (ev_t rfl)) ?_)
    refine Ops.step (One.val rfl rfl rfl (yld_add rfl (ev_t rfl) (ev_t rfl) (fun _ => by omega)) ?_)
    refine Ops.step (One.val rfl rfl rfl (yld_assign rfl (ev_t rfl)) ?_)
    refine Ops.nil fun a hS => ?_
    refine hK2 _ _ ?_ a hS
    refine Cod.seq fun K4 hK4 => ?_
    refine Cod.seq fun K5 hK5 => ?_
    refine Cod.region ?_
    refine Ops.step (One.val rfl rfl rfl (yld_move rfl (ev_t rfl)) ?_)
    refine Ops.step (One.val rfl rfl rfl (yld_field fi31_4 rfl (ev_t rfl)) ?_)
    refine Ops.step (One.val rfl rfl rfl (yld_load1 on29 rfl (ev_t rfl) (fun _ => F1.cell 0 rfl rfl)) ?_)
    refine Ops.step (One.val rfl rfl rfl (yld_len sl29 rfl (ev_t rfl)) ?_)
    refine Ops.step (One.val rfl rfl rfl (yld_sub rfl (ev_t rfl) ev_c (fun _ => by omega)) ?_)
    refine Ops.step (One.call rfl rfl rfl (ent_f rfl (evl3 (ev_t rfl) ev_c (ev_t rfl)) (enters en115)) (within_ct _ 0 _ _) (fun e w2 hw2 => ?_))
    obtain ⟨rfl, C2⟩ := hw2
    have F2 := F1.call C2
    refine ⟨_, rfl, ?_⟩
    refine Ops.step (One.val rfl rfl rfl (yld_not rfl (ev_t rfl)) ?_)
    refine Ops.nil fun a hS => ?_
    refine hK5 _ _ ?_ a hS
    refine Cod.cond rfl (fun hc18 => ?_) (fun hc18 => ?_)
    · skip
      skip
      refine Cod.seq fun K6 hK6 => ?_
      refine Cod.region ?_
      refine Ops.step (One.val rfl rfl rfl (yld_assign rfl ev_c) ?_)
      refine Ops.nil fun a hS => ?_
      refine hK6 _ _ ?_ a hS
      refine Cod.ret fun a hS => ?_
      try simp only [Exit.then, Exit.inBlock]
      exact ret1 (t := 4) rfl hS rfl ⟨ret_i (by simp at hc18; unfold placeZ; repeat split <;> omega), F2.chg⟩
    · skip
      skip
      refine Cod.skip fun a hS => ?_
      refine hK4 _ _ ?_ a hS
      refine Cod.seq fun K7 hK7 => ?_
      refine Cod.region ?_
      refine Ops.step (One.val rfl rfl rfl (yld_move rfl (ev_t rfl)) ?_)
      refine Ops.step (One.val rfl rfl rfl (yld_assign rfl (ev_t rfl)) ?_)
      refine Ops.nil fun a hS => ?_
      refine hK7 _ _ ?_ a hS
      refine Cod.ret fun a hS => ?_
      try simp only [Exit.then, Exit.inBlock]
      exact ret1 (t := 4) rfl hS rfl ⟨ret_i (by simp at hc18; unfold placeZ; repeat split <;> omega), F2.chg⟩
  · skip
    have hq : ¬ at_ < 0 := by simpa using hc6
    refine Cod.skip fun a hS => ?_
    refine hK2 _ _ ?_ a hS
    refine Cod.seq fun K8 hK8 => ?_
    refine Cod.seq fun K9 hK9 => ?_
    refine Cod.region ?_
    refine Ops.step (One.val rfl rfl rfl (yld_move rfl (ev_t rfl)) ?_)
    refine Ops.step (One.val rfl rfl rfl (yld_field fi31_4 rfl (ev_t rfl)) ?_)
    refine Ops.step (One.val rfl rfl rfl (yld_load1 on29 rfl (ev_t rfl) (fun _ => F1.cell 0 rfl rfl)) ?_)
    refine Ops.step (One.val rfl rfl rfl (yld_len sl29 rfl (ev_t rfl)) ?_)
    refine Ops.step (One.val rfl rfl rfl (yld_sub rfl (ev_t rfl) ev_c (fun _ => by omega)) ?_)
    refine Ops.step (One.call rfl rfl rfl (ent_f rfl (evl3 (ev_t rfl) ev_c (ev_t rfl)) (enters en115)) (within_ct _ 0 _ _) (fun e w3 hw3 => ?_))
    obtain ⟨rfl, C3⟩ := hw3
    have F3 := F1.call C3
    refine ⟨_, rfl, ?_⟩
    refine Ops.step (One.val rfl rfl rfl (yld_not rfl (ev_t rfl)) ?_)
    refine Ops.nil fun a hS => ?_
    refine hK9 _ _ ?_ a hS
    refine Cod.cond rfl (fun hc18 => ?_) (fun hc18 => ?_)
    · skip
      skip
      refine Cod.seq fun K10 hK10 => ?_
      refine Cod.region ?_
      refine Ops.step (One.val rfl rfl rfl (yld_assign rfl ev_c) ?_)
      refine Ops.nil fun a hS => ?_
      refine hK10 _ _ ?_ a hS
      refine Cod.ret fun a hS => ?_
      try simp only [Exit.then, Exit.inBlock]
      exact ret1 (t := 4) rfl hS rfl ⟨ret_i (by simp at hc18; unfold placeZ; repeat split <;> omega), F3.chg⟩
    · skip
      skip
      refine Cod.skip fun a hS => ?_
      refine hK8 _ _ ?_ a hS
      refine Cod.seq fun K11 hK11 => ?_
      refine Cod.region ?_
      refine Ops.step (One.val rfl rfl rfl (yld_move rfl (ev_t rfl)) ?_)
      refine Ops.step (One.val rfl rfl rfl (yld_assign rfl (ev_t rfl)) ?_)
      refine Ops.nil fun a hS => ?_
      refine hK11 _ _ ?_ a hS
      refine Cod.ret fun a hS => ?_
      try simp only [Exit.then, Exit.inBlock]
      exact ret1 (t := 4) rfl hS rfl ⟨ret_i (by simp at hc18; unfold placeZ; repeat split <;> omega), F3.chg⟩

set_option maxRecDepth 100000 in
theorem at_ct (t : Tr) (at_ : Int) (ha : -9223372036854775808 ≤ at_ ∧ at_ ≤ 9223372036854775807) (v : Value) (w0 w : World) (hr : Rep Any w0 t v) (hc0 : Chg No w0 w) (hok : okT t = true) : Calls Try.prog 78 #[v, .int .i64 at_] w (Looks w0 w (atT t at_)) := by
  obtain ⟨v3, v4, ev, h3, h4⟩ := hr.form
  subst ev
  obtain ⟨A3, c3, rfl, hn3⟩ := h3.open
  obtain ⟨A4, c4, rfl, hn4⟩ := h4.open
  refine enter Try.func78 rfl rfl rfl ?_
  have F0 := Fr.start w
  refine Cod.seq fun K1 hK1 => ?_
  refine Cod.region ?_
  refine Ops.step (One.box F0 rfl rfl rfl rfl (ev_t rfl) ?_)
  intro b1 w1 hb1 F1
  change Fr _ _ [blk _ _ [_, _, _, _, _]] _ at F1
  refine Ops.step (One.alloc F1 zero31 rfl rfl rfl rfl ?_)
  intro b2 w2 hb2 F2
  change Fr _ _ [blk _ _ [_, _, _, _, _], blk _ _ [_, _, _, _, _]] _ at F2
  refine Ops.step (One.val rfl rfl rfl (yld_assign rfl ev_c) ?_)
  refine Ops.nil fun a hS => ?_
  refine hK1 _ _ ?_ a hS
  refine Cod.seq fun K2 hK2 => ?_
  refine Cod.seq fun K3 hK3 => ?_
  refine Cod.region ?_
  refine Ops.step (One.val rfl rfl rfl (yld_field fi31_0 rfl (ev_t rfl)) ?_)
  refine Ops.step (One.val rfl rfl rfl (yld_load1 on3 rfl (ev_t rfl) (fun _ => F2.cell 1 rfl rfl)) ?_)
  refine Ops.step (One.val rfl rfl rfl (yld_eql rfl (ev_t rfl) ev_c) ?_)
  refine Ops.nil fun a hS => ?_
  refine hK3 _ _ ?_ a hS
  refine Cod.cond rfl (fun hc9 => ?_) (fun hc9 => ?_)
  · skip
    have hk5 : t.kind = 5 := by simpa using hc9
    have hk0 : t.kind ≠ 0 := by omega
    refine Cod.seq fun K4 hK4 => ?_
    refine Cod.region ?_
    refine Ops.step (One.val rfl rfl rfl (yld_loadN ag31 rfl (ev_t rfl) (fun _ => F2.range (m := 5) (cs' := [_, _, _, _, _]) 1 rfl rfl) rfl) ?_)
    refine Ops.step (One.val rfl rfl rfl (yld_move rfl (ev_t rfl)) ?_)
    refine Ops.step (One.call rfl rfl rfl (ent_f rfl (evl2 (ev_t rfl) (ev_t rfl)) (enters en123)) (place_ct t at_ _ _ (hr.chg (hc0.trans F2.chg)) ha) (fun e w3 hw3 => ?_))
    obtain ⟨rfl, C3⟩ := hw3
    have F3 := F2.call C3
    refine ⟨_, rfl, ?_⟩
    refine Ops.step (One.val rfl rfl rfl (yld_assign rfl (ev_t rfl)) ?_)
    refine Ops.nil fun a hS => ?_
    refine hK4 _ _ ?_ a hS
    refine Cod.seq fun K5 hK5 => ?_
    refine Cod.region ?_
    refine Ops.step (One.val rfl rfl rfl (yld_move rfl (ev_t rfl)) ?_)
    refine Ops.step (One.val rfl rfl rfl (yld_geq rfl (ev_t rfl) ev_c) ?_)
    refine Ops.nil fun a hS => ?_
    refine hK5 _ _ ?_ a hS
    refine Cod.cond rfl (fun hc14 => ?_) (fun hc14 => ?_)
    · skip
      have hp : 0 ≤ placeZ at_ t.list.length := by simpa using hc14
      have hi := placeZ_lt at_ t.list.length hp
      have hR : atT t at_ = some t.list[(placeZ at_ t.list.length).toNat] := by unfold atT; rw [if_neg hk0, if_neg (by simp [hk5]), dif_pos ⟨hp, hi⟩]
      obtain ⟨b, o, cs, rfl, -, hlc, hr1, ht⟩ := h4.at _ hi
      obtain ⟨y1, y2, y3, y4, y5, rfl⟩ := five hlc
      refine Cod.seq fun K6 hK6 => ?_
      refine Cod.region ?_
      refine Ops.step (One.val rfl rfl rfl (yld_field fi31_4 rfl (ev_t rfl)) ?_)
      refine Ops.step (One.val rfl rfl rfl (yld_load1 on29 rfl (ev_t rfl) (fun _ => F3.cell 1 rfl rfl)) ?_)
      refine Ops.step (One.val rfl rfl rfl (yld_move rfl (ev_t rfl)) ?_)
      refine Ops.step (One.val rfl rfl rfl (yld_index sl29 rfl (ev_t rfl) (ev_t rfl) (fun _ => by omega)) ?_)
      refine Ops.step (One.val rfl rfl rfl (yld_loadN ag31 rfl (ev_t rfl) (fun _ => rng hr1 (hc0.trans F3.chg)) rfl) ?_)
      refine Ops.step (One.storeN (vs := [_, _, _, _, _]) F3 0 rfl sz31 rfl rfl rfl (ev_t rfl) (ev_t rfl) rfl rfl ht.one ?_)
      intro w4 F4
      change Fr _ _ [blk _ _ [_, _, _, _, _], blk _ _ [_, _, _, _, _]] _ at F4
      refine Ops.step (One.val rfl rfl rfl (yld_assign rfl ev_c) ?_)
      refine Ops.nil fun a hS => ?_
      refine hK6 _ _ ?_ a hS
      refine Cod.ret fun a hS => ?_
      try simp only [Exit.then, Exit.inBlock]
      exact retct (t := 4) (u := 5) (ty := 31) rfl hS ag31 rfl rfl (F4.range (m := 5) (cs' := [_, _, _, _, _]) 0 rfl rfl) rfl ⟨⟨y1, y2, y3, y4, y5⟩, by rw [hR]; rfl, F4.chg, by rw [hR]; exact ht⟩
    · skip
      have hp : placeZ at_ t.list.length < 0 := by simpa using hc14
      have hR : atT t at_ = some zeroT := by unfold atT; rw [if_neg hk0, if_neg (by simp [hk5]), dif_neg (by omega)]
      refine Cod.skip fun a hS => ?_
      refine hK2 _ _ ?_ a hS
      refine Cod.seq fun K7 hK7 => ?_
      have F5 := F3.drew
      refine Cod.draw (C_of F5.drop1) (by kernel_rfl) ?_
      refine Hops.take 0 rfl (by kernel_rfl) (fun _ _ _ h => h) rfl rfl rfl F5.drop1 (fun w F => (yld_build (cells := [.int .i64 0, .int .i64 0, .string ⟨#[]⟩, .slice none 0 0, .slice none 0 0]) rfl (evp0) (by kernel_rfl))) ?_
      refine Hops.take 1 rfl (by kernel_rfl) (fun _ _ _ h => h) rfl rfl rfl F5.drop1 (fun w F => (yld_field fi31_0 rfl (ev_t rfl))) ?_
      refine Hops.take 2 rfl (by kernel_rfl) (fun _ _ _ h => h) rfl rfl rfl F5.drop1 (fun w F => (yld_load1 on3 rfl (ev_t rfl) (fun _ => F.cell 0 rfl rfl))) ?_
      refine Hops.take 3 rfl (by kernel_rfl) (fun _ _ _ h => h) rfl rfl rfl F5.drop1 (fun w F => (yld_eql rfl (ev_t rfl) ev_c)) ?_
      refine Hops.take 4 rfl (by kernel_rfl) (fun _ _ _ h => h) rfl rfl rfl F5.drop1 (fun w F => (yld_move rfl (ev_t rfl))) ?_
      refine Hops.take 5 rfl (by kernel_rfl) (fun _ _ _ h => h) (gd_some rfl rfl) rfl rfl F5.drop1 (fun w F => (yld_field fi31_0 rfl (ev_t rfl))) ?_
      refine Hops.take 6 rfl (by kernel_rfl) (fun _ _ _ h => h) (gd_some rfl rfl) rfl rfl F5.drop1 (fun w F => (yld_load1 on3 rfl (ev_g rfl) (fun _ => F.cell 0 rfl rfl))) ?_
      refine Hops.take 7 rfl (by kernel_rfl) (fun _ _ _ h => h) (gd_some rfl rfl) rfl rfl F5.drop1 (fun w F => (yld_eql rfl (ev_g rfl) ev_c)) ?_
      refine Hops.take 8 rfl (by kernel_rfl) (fun _ _ _ h => h) rfl rfl rfl F5.drop1 (fun w F => (yld_or rfl (ev_t rfl) (ev_g rfl))) ?_
      refine Hops.one 9 rfl (by kernel_rfl) (One.storeN (vs := [_, _, _, _, _]) F5 0 rfl sz31 rfl rfl rfl (ev_t rfl) (ev_t rfl) rfl rfl rfl ?_)
      intro w5 F6
      refine ⟨F6.drop1, ?_⟩
      change Fr _ _ [blk _ _ [_, _, _, _, _], blk _ _ [_, _, _, _, _]] _ at F6
      refine Hops.one 10 rfl (by kernel_rfl) (One.val rfl rfl rfl (yld_assign rfl (ev_t rfl)) ?_)
      refine ⟨F6.drop1, ?_⟩
      refine Hops.nil (by kernel_rfl) fun a hS => ?_
      refine hK7 _ _ ?_ a hS
      refine Cod.ret fun a hS => ?_
      try simp only [Exit.then, Exit.inBlock]
      exact retct (t := 4) (u := 5) (ty := 31) rfl hS ag31 rfl rfl (F6.range (m := 5) (cs' := [_, _, _, _, _]) 0 rfl rfl) rfl ⟨z5, by rw [hR]; by_cases hz : t.kind = 0 <;> simp_all [z5, V5.val], F6.chg, by rw [hR]; have hzz : Rep Any w0 zeroT z5.val := Rep.close (RepE.nil _ _) (RepL.nil _ _); by_cases hz : t.kind = 0 <;> simp_all⟩
  · skip
    have hk5 : t.kind ≠ 5 := by simpa using hc9
    have hR : atT t at_ = if t.kind = 0 then some zeroT else none := by unfold atT; rw [if_pos hk5]
    refine Cod.skip fun a hS => ?_
    refine hK2 _ _ ?_ a hS
    refine Cod.seq fun K8 hK8 => ?_
    have F7 := F2.drew
    refine Cod.draw (C_of F7.drop1) (by kernel_rfl) ?_
    refine Hops.take 0 rfl (by kernel_rfl) (fun _ _ _ h => h) rfl rfl rfl F7.drop1 (fun w F => (yld_build (cells := [.int .i64 0, .int .i64 0, .string ⟨#[]⟩, .slice none 0 0, .slice none 0 0]) rfl (evp0) (by kernel_rfl))) ?_
    refine Hops.take 1 rfl (by kernel_rfl) (fun _ _ _ h => h) rfl rfl rfl F7.drop1 (fun w F => (yld_field fi31_0 rfl (ev_t rfl))) ?_
    refine Hops.take 2 rfl (by kernel_rfl) (fun _ _ _ h => h) rfl rfl rfl F7.drop1 (fun w F => (yld_load1 on3 rfl (ev_t rfl) (fun _ => F.cell 0 rfl rfl))) ?_
    refine Hops.take 3 rfl (by kernel_rfl) (fun _ _ _ h => h) rfl rfl rfl F7.drop1 (fun w F => (yld_eql rfl (ev_t rfl) ev_c)) ?_
    refine Hops.take 4 rfl (by kernel_rfl) (fun _ _ _ h => h) rfl rfl rfl F7.drop1 (fun w F => (yld_move rfl (ev_t rfl))) ?_
    refine Hops.take 5 rfl (by kernel_rfl) (fun _ _ _ h => h) (gd_some rfl rfl) rfl rfl F7.drop1 (fun w F => (yld_field fi31_0 rfl (ev_t rfl))) ?_
    refine Hops.take 6 rfl (by kernel_rfl) (fun _ _ _ h => h) (gd_some rfl rfl) rfl rfl F7.drop1 (fun w F => (yld_load1 on3 rfl (ev_g rfl) (fun _ => F.cell 0 rfl rfl))) ?_
    refine Hops.take 7 rfl (by kernel_rfl) (fun _ _ _ h => h) (gd_some rfl rfl) rfl rfl F7.drop1 (fun w F => (yld_eql rfl (ev_g rfl) ev_c)) ?_
    refine Hops.take 8 rfl (by kernel_rfl) (fun _ _ _ h => h) rfl rfl rfl F7.drop1 (fun w F => (yld_or rfl (ev_t rfl) (ev_g rfl))) ?_
    refine Hops.one 9 rfl (by kernel_rfl) (One.storeN (vs := [_, _, _, _, _]) F7 0 rfl sz31 rfl rfl rfl (ev_t rfl) (ev_t rfl) rfl rfl rfl ?_)
    intro w6 F8
    refine ⟨F8.drop1, ?_⟩
    change Fr _ _ [blk _ _ [_, _, _, _, _], blk _ _ [_, _, _, _, _]] _ at F8
    refine Hops.one 10 rfl (by kernel_rfl) (One.val rfl rfl rfl (yld_assign rfl (ev_t rfl)) ?_)
    refine ⟨F8.drop1, ?_⟩
    refine Hops.nil (by kernel_rfl) fun a hS => ?_
    refine hK8 _ _ ?_ a hS
    refine Cod.ret fun a hS => ?_
    try simp only [Exit.then, Exit.inBlock]
    exact retct (t := 4) (u := 5) (ty := 31) rfl hS ag31 rfl rfl (F8.range (m := 5) (cs' := [_, _, _, _, _]) 0 rfl rfl) rfl ⟨z5, by rw [hR]; by_cases hz : t.kind = 0 <;> simp_all [z5, V5.val], F8.chg, by rw [hR]; have hzz : Rep Any w0 zeroT z5.val := Rep.close (RepE.nil _ _) (RepL.nil _ _); by_cases hz : t.kind = 0 <;> simp_all⟩

set_option maxRecDepth 100000 in
theorem partAt_ct (t : Tr) (at_ : Int) (ha : -9223372036854775808 ≤ at_ ∧ at_ ≤ 9223372036854775807) (v : Value) (w : World) (hr : Rep Any w t v) (hf : t.Fit) (hw : t.wt ≤ 1048576) : Calls Try.prog 29 #[v, .int .i64 at_] w (Gives w (partAtR t at_)) := by
  obtain ⟨v3, v4, ev, h3, h4⟩ := hr.form
  subst ev
  refine enter Try.func29 rfl rfl rfl ?_
  have F0 := Fr.start w
  refine Cod.seq fun K1 hK1 => ?_
  refine Cod.region ?_
  refine Ops.step (One.box F0 rfl rfl rfl rfl (ev_t rfl) ?_)
  intro b1 w1 hb1 F1
  change Fr _ _ [blk _ _ [_, _, _, _, _]] _ at F1
  refine Ops.step (One.alloc F1 zero31 rfl rfl rfl rfl ?_)
  intro b2 w2 hb2 F2
  change Fr _ _ [blk _ _ [_, _, _, _, _], blk _ _ [_, _, _, _, _]] _ at F2
  refine Ops.step (One.val rfl rfl rfl (yld_assign rfl ev_c) ?_)
  refine Ops.nil fun a hS => ?_
  refine hK1 _ _ ?_ a hS
  refine Cod.seq fun K2 hK2 => ?_
  refine Cod.seq fun K3 hK3 => ?_
  refine Cod.region ?_
  refine Ops.step (One.val rfl rfl rfl (yld_loadN ag31 rfl (ev_t rfl) (fun _ => F2.range (m := 5) (cs' := [_, _, _, _, _]) 1 rfl rfl) rfl) ?_)
  refine Ops.step (One.call rfl rfl rfl (ent_f rfl (evl1 (ev_t rfl)) (enters en43)) (valOk_ct t _ _ (hr.chg F2.chg) hf) (fun e w3 hw3 => ?_))
  obtain ⟨rfl, C3⟩ := hw3
  have F3 := F2.call C3
  refine ⟨_, rfl, ?_⟩
  refine Ops.step (One.val rfl rfl rfl (yld_not rfl (ev_t rfl)) ?_)
  refine Ops.nil fun a hS => ?_
  refine hK3 _ _ ?_ a hS
  refine Cod.cond rfl (fun hc8 => ?_) (fun hc8 => ?_)
  · skip
    have hno : partAtR t at_ = none := by
      have hc : (!(okT t)) = true := hc8
      unfold partAtR
      cases h1 : okT t <;> simp [h1] at hc ⊢
    refine Cod.seq fun K4 hK4 => ?_
    refine Cod.region ?_
    refine Ops.step (One.val rfl rfl rfl (yld_build (cells := [.int .i64 0, .int .i64 0, .string ⟨#[]⟩, .slice none 0 0, .slice none 0 0]) rfl (evp0) (by kernel_rfl)) ?_)
    refine Ops.step (One.storeN (vs := [_, _, _, _, _]) F3 0 rfl sz31 rfl rfl rfl (ev_t rfl) (ev_t rfl) rfl rfl rfl ?_)
    intro w4 F4
    change Fr _ _ [blk _ _ [_, _, _, _, _], blk _ _ [_, _, _, _, _]] _ at F4
    refine Ops.step (One.val rfl rfl rfl (yld_assign rfl ev_c) ?_)
    refine Ops.nil fun a hS => ?_
    refine hK4 _ _ ?_ a hS
    refine Cod.ret fun a hS => ?_
    try simp only [Exit.then, Exit.inBlock]
    exact retct (t := 4) (u := 5) (ty := 31) rfl hS ag31 rfl rfl (F4.range (m := 5) (cs' := [_, _, _, _, _]) 0 rfl rfl) rfl ⟨z5, No, by rw [hno]; rfl, F4.chg, by rw [hno]; exact sep_leaf _ 0 0 ⟨#[]⟩, fun k hk => hk.elim⟩
  · skip
    have hok : okT t = true := by
      have hc : (!(okT t)) = false := hc8
      cases h1 : okT t <;> simp [h1] at hc ⊢
    have hyes : partAtR t at_ = atT t at_ := by unfold partAtR; rw [if_pos hok]
    obtain ⟨hbf, hbw, hbt⟩ := getD_bounds (r := atT t at_) (fun x hx => atT_in hx) hf hok
    refine Cod.skip fun a hS => ?_
    refine hK2 _ _ ?_ a hS
    refine Cod.seq fun K5 hK5 => ?_
    refine Cod.region ?_
    refine Ops.step (One.val rfl rfl rfl (yld_loadN ag31 rfl (ev_t rfl) (fun _ => F3.range (m := 5) (cs' := [_, _, _, _, _]) 1 rfl rfl) rfl) ?_)
    refine Ops.step (One.val rfl rfl rfl (yld_move rfl (ev_t rfl)) ?_)
    refine Ops.step (One.call rfl rfl rfl (ent_f rfl (evl2 (ev_t rfl) (ev_t rfl)) (enters en78)) (at_ct t at_ ha _ w _ hr F3.chg hok) (fun e w5 hw5 => ?_))
    obtain ⟨y, rfl, C5, hy⟩ := hw5
    have F5 := F3.call C5
    refine ⟨_, rfl, ?_⟩
    refine Ops.step (One.val rfl rfl rfl (yld_extract rfl (ev_t rfl) rfl) ?_)
    refine Ops.step (One.val rfl rfl rfl (yld_extract rfl (ev_t rfl) rfl) ?_)
    refine Ops.step (One.call rfl rfl rfl (ent_f rfl (evl2 (ev_t rfl) (ev_t rfl)) (enters en70)) (told_ct ((atT t at_).getD zeroT) (atT t at_).isSome _ _ (hy.chg F5.chg) hbf (by omega)) (fun e w6 hw6 => ?_))
    rw [hbt] at hw6
    obtain ⟨x1, G1, rfl, C6, hs1, hb1⟩ := hw6
    have F6 := F5.new C6 (sep G1 _ x1.val) hs1 hb1
    refine ⟨_, rfl, ?_⟩
    refine Ops.step (One.val rfl rfl rfl (yld_extract rfl (ev_t rfl) rfl) ?_)
    refine Ops.step (One.val rfl rfl rfl (yld_extract rfl (ev_t rfl) rfl) ?_)
    refine Ops.step (One.storeN (vs := [_, _, _, _, _]) F6 1 rfl sz31 rfl rfl rfl (ev_t rfl) (ev_t rfl) rfl rfl hs1.one ?_)
    intro w7 F7
    change Fr _ _ [_, blk _ _ [_, _, _, _, _], blk _ _ [_, _, _, _, _]] _ at F7
    refine Ops.step (One.val rfl rfl rfl (yld_assign rfl (ev_t rfl)) ?_)
    refine Ops.nil fun a hS => ?_
    refine hK5 _ _ ?_ a hS
    refine Cod.ret fun a hS => ?_
    try simp only [Exit.then, Exit.inBlock]
    exact retct (t := 4) (u := 5) (ty := 31) rfl hS ag31 rfl rfl (F7.range (m := 5) (cs' := [_, _, _, _, _]) 1 rfl rfl) rfl ⟨x1, G1, by rw [hyes]; rfl, F7.chg, by rw [hyes]; exact F7.get 0 rfl, fun b hb => (F7.dom _ (List.mem_of_getElem? (i := 0) rfl) b hb).resolve_left id⟩

end Go.Proofs.Ytodbflfelimppaa.Eng
