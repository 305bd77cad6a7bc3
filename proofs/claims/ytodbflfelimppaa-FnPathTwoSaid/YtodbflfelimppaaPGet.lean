/- Walks of both PathGet: a part of a tree, step by step. -/
import Derived.Test.YtodbflfelimppaaGet
import Derived.Test.YtodbflfelimppaaPath0
namespace Go.Proofs.Ytodbflfelimppaa.Eng
open Go.RowKit
set_option linter.unusedVariables false
set_option linter.unusedSimpArgs false
set_option maxHeartbeats 1000000


def stepT (t : Tr) (s : Stp) : Option Tr := if s.m = true then getT t s.key else atT t s.pl
def pathT : List Stp → Tr → Option Tr
  | [], c => some c
  | s :: p, c => match stepT c s with
    | none => none
    | some x => pathT p x
noncomputable def pathR (t : Tr) (p : List Stp) : Option Tr := if (okT t && pathOk p) = true then pathT p t else none
theorem stp_range {s : Stp} (h : s.ok = true) : -9223372036854775808 ≤ s.pl ∧ s.pl ≤ 9223372036854775807 := by
  unfold Stp.ok at h
  split at h <;> simp at h <;> omega
theorem pathOk_at {p : List Stp} (h : pathOk p = true) (i : Nat) (hi : i < p.length) : p[i].ok = true := by
  unfold pathOk at h
  simp only [Bool.and_eq_true, List.all_eq_true] at h
  exact h.1 _ (List.getElem_mem hi)
theorem step_in {t x : Tr} {s : Stp} (h : stepT t s = some x) : x = zeroT ∨ x ∈ t.list := by
  unfold stepT at h
  split at h
  · exact getT_in h
  · exact atT_in h
theorem step_ok {t x : Tr} {s : Stp} (hok : okT t = true) (h : stepT t s = some x) : okT x = true := by
  rcases step_in h with rfl | hx
  · exact okT_zeroT
  · exact okT_child hok hx
theorem step_bd {t x : Tr} {s : Stp} (hf : t.Fit) (hok : okT t = true) (h : stepT t s = some x) : x.Fit ∧ x.wt ≤ t.wt := by
  obtain ⟨h1, h2, -⟩ := getD_bounds (r := stepT t s) (fun y hy => step_in hy) hf hok
  rw [h] at h1 h2
  exact ⟨h1, h2⟩
theorem path_bd {t : Tr} (hf : t.Fit) (hok : okT t = true) (p : List Stp) : ((pathT p t).getD zeroT).Fit ∧ ((pathT p t).getD zeroT).wt ≤ t.wt := by
  induction p generalizing t with
  | nil => exact ⟨hf, Nat.le_refl _⟩
  | cons s p ih =>
    rw [pathT]
    cases h : stepT t s with
    | none =>
      refine ⟨.mk (Nat.zero_le _) (by simp) (by simp), ?_⟩
      show zeroT.wt ≤ _
      have : zeroT.wt = 0 := by unfold zeroT; rw [Tr.wt_mk]; rfl
      omega
    | some x =>
      obtain ⟨h1, h2⟩ := step_bd hf hok h
      obtain ⟨h3, h4⟩ := ih h1 (step_ok hok h)
      exact ⟨h3, by show ((pathT p x).getD zeroT).wt ≤ _; omega⟩
theorem pathR_mkn {t : Tr} (hf : t.Fit) (p : List Stp) : ((pathR t p).getD zeroT).keys.length + sumN Tr.mkn ((pathR t p).getD zeroT).list ≤ 3 * t.wt + 3 := by
  unfold pathR
  split
  · rename_i h
    have hok : okT t = true := by cases h1 : okT t <;> simp [h1] at h ⊢
    exact wt_mkn _ _ (path_bd hf hok p).2
  · show 0 + 0 ≤ _
    omega

set_option maxRecDepth 100000 in
theorem l3One_ct (t : Tr) (s : Stp) (hs : s.ok = true) (v : Value) (w0 w : World) (hr : Rep Any w0 t v) (hc0 : Chg No w0 w) (hok : okT t = true) : Calls Try.prog 121 #[v, .agg #[.bool s.m, .string s.key, .int .i64 s.pl]] w (Looks w0 w (stepT t s)) := by
  obtain ⟨v3, v4, ev, h3, h4⟩ := hr.form
  subst ev
  have hsr := stp_range hs
  refine enter Try.func121 rfl rfl rfl ?_
  have F0 := Fr.start w
  refine Cod.seq fun K1 hK1 => ?_
  refine Cod.region ?_
  refine Ops.step (One.box F0 rfl rfl rfl rfl (ev_t rfl) ?_)
  intro b1 w1 hb1 F1
  change Fr _ _ [blk _ _ [_, _, _, _, _]] _ at F1
  refine Ops.step (One.box F1 rfl rfl rfl rfl (ev_t rfl) ?_)
  intro b2 w2 hb2 F2
  change Fr _ _ [blk _ _ [_, _, _], blk _ _ [_, _, _, _, _]] _ at F2
  refine Ops.step (One.alloc F2 zero31 rfl rfl rfl rfl ?_)
  intro b3 w3 hb3 F3
  change Fr _ _ [blk _ _ [_, _, _, _, _], blk _ _ [_, _, _], blk _ _ [_, _, _, _, _]] _ at F3
  refine Ops.step (One.val rfl rfl rfl (yld_assign rfl ev_c) ?_)
  refine Ops.nil fun a hS => ?_
  refine hK1 _ _ ?_ a hS
  refine Cod.seq fun K2 hK2 => ?_
  refine Cod.seq fun K3 hK3 => ?_
  refine Cod.region ?_
  refine Ops.step (One.val rfl rfl rfl (yld_field fi52_0 rfl (ev_t rfl)) ?_)
  refine Ops.step (One.val rfl rfl rfl (yld_load1 on4 rfl (ev_t rfl) (fun _ => F3.cell 1 rfl rfl)) ?_)
  refine Ops.nil fun a hS => ?_
  refine hK3 _ _ ?_ a hS
  refine Cod.cond rfl (fun hc7 => ?_) (fun hc7 => ?_)
  · skip
    have hR : stepT t s = getT t s.key := by unfold stepT; rw [if_pos hc7]
    refine Cod.seq fun K4 hK4 => ?_
    refine Cod.region ?_
    refine Ops.step (One.val rfl rfl rfl (yld_loadN ag31 rfl (ev_t rfl) (fun _ => F3.range (m := 5) (cs' := [_, _, _, _, _]) 2 rfl rfl) rfl) ?_)
    refine Ops.step (One.val rfl rfl rfl (yld_field fi52_1 rfl (ev_t rfl)) ?_)
    refine Ops.step (One.val rfl rfl rfl (yld_load1 on9 rfl (ev_t rfl) (fun _ => F3.cell 1 rfl rfl)) ?_)
    refine Ops.step (One.call rfl rfl rfl (ent_f rfl (evl2 (ev_t rfl) (ev_t rfl)) (enters en142)) (l2Get_ct t s.key _ w0 _ hr (hc0.trans F3.chg) hok) (fun e w4 hw4 => ?_))
    obtain ⟨y, rfl, C4, hy⟩ := hw4
    have F4 := F3.call C4
    refine ⟨_, rfl, ?_⟩
    refine Ops.step (One.val rfl rfl rfl (yld_extract rfl (ev_t rfl) rfl) ?_)
    refine Ops.step (One.val rfl rfl rfl (yld_extract rfl (ev_t rfl) rfl) ?_)
    refine Ops.step (One.storeN (vs := [_, _, _, _, _]) F4 0 rfl sz31 rfl rfl rfl (ev_t rfl) (ev_t rfl) rfl rfl (V5.one hy) ?_)
    intro w5 F5
    change Fr _ _ [blk _ _ [_, _, _, _, _], blk _ _ [_, _, _], blk _ _ [_, _, _, _, _]] _ at F5
    refine Ops.step (One.val rfl rfl rfl (yld_assign rfl (ev_t rfl)) ?_)
    refine Ops.nil fun a hS => ?_
    refine hK4 _ _ ?_ a hS
    refine Cod.ret fun a hS => ?_
    try simp only [Exit.then, Exit.inBlock]
    exact retct (t := 4) (u := 5) (ty := 31) rfl hS ag31 rfl rfl (F5.range (m := 5) (cs' := [_, _, _, _, _]) 0 rfl rfl) rfl ⟨y, by rw [hR]; rfl, F5.chg, by rw [hR]; exact hy⟩
  · skip
    have hR : stepT t s = atT t s.pl := by unfold stepT; rw [if_neg (by rw [hc7]; simp)]
    refine Cod.skip fun a hS => ?_
    refine hK2 _ _ ?_ a hS
    refine Cod.seq fun K5 hK5 => ?_
    refine Cod.region ?_
    refine Ops.step (One.val rfl rfl rfl (yld_loadN ag31 rfl (ev_t rfl) (fun _ => F3.range (m := 5) (cs' := [_, _, _, _, _]) 2 rfl rfl) rfl) ?_)
    refine Ops.step (One.val rfl rfl rfl (yld_field fi52_2 rfl (ev_t rfl)) ?_)
    refine Ops.step (One.val rfl rfl rfl (yld_load1 on3 rfl (ev_t rfl) (fun _ => F3.cell 1 rfl rfl)) ?_)
    refine Ops.step (One.call rfl rfl rfl (ent_f rfl (evl2 (ev_t rfl) (ev_t rfl)) (enters en143)) (l2At_ct t s.pl hsr _ w0 _ hr (hc0.trans F3.chg) hok) (fun e w6 hw6 => ?_))
    obtain ⟨y, rfl, C6, hy⟩ := hw6
    have F6 := F3.call C6
    refine ⟨_, rfl, ?_⟩
    refine Ops.step (One.val rfl rfl rfl (yld_extract rfl (ev_t rfl) rfl) ?_)
    refine Ops.step (One.val rfl rfl rfl (yld_extract rfl (ev_t rfl) rfl) ?_)
    refine Ops.step (One.storeN (vs := [_, _, _, _, _]) F6 0 rfl sz31 rfl rfl rfl (ev_t rfl) (ev_t rfl) rfl rfl (V5.one hy) ?_)
    intro w7 F7
    change Fr _ _ [blk _ _ [_, _, _, _, _], blk _ _ [_, _, _], blk _ _ [_, _, _, _, _]] _ at F7
    refine Ops.step (One.val rfl rfl rfl (yld_assign rfl (ev_t rfl)) ?_)
    refine Ops.nil fun a hS => ?_
    refine hK5 _ _ ?_ a hS
    refine Cod.ret fun a hS => ?_
    try simp only [Exit.then, Exit.inBlock]
    exact retct (t := 4) (u := 5) (ty := 31) rfl hS ag31 rfl rfl (F7.range (m := 5) (cs' := [_, _, _, _, _]) 0 rfl rfl) rfl ⟨y, by rw [hR]; rfl, F7.chg, by rw [hR]; exact hy⟩

set_option maxRecDepth 100000 in
theorem step_ct (t : Tr) (s : Stp) (hs : s.ok = true) (v : Value) (w0 w : World) (hr : Rep Any w0 t v) (hc0 : Chg No w0 w) (hok : okT t = true) : Calls Try.prog 69 #[v, .agg #[.bool s.m, .string s.key, .int .i64 s.pl]] w (Looks w0 w (stepT t s)) := by
  obtain ⟨v3, v4, ev, h3, h4⟩ := hr.form
  subst ev
  have hsr := stp_range hs
  refine enter Try.func69 rfl rfl rfl ?_
  have F0 := Fr.start w
  refine Cod.seq fun K1 hK1 => ?_
  refine Cod.region ?_
  refine Ops.step (One.box F0 rfl rfl rfl rfl (ev_t rfl) ?_)
  intro b1 w1 hb1 F1
  change Fr _ _ [blk _ _ [_, _, _, _, _]] _ at F1
  refine Ops.step (One.box F1 rfl rfl rfl rfl (ev_t rfl) ?_)
  intro b2 w2 hb2 F2
  change Fr _ _ [blk _ _ [_, _, _], blk _ _ [_, _, _, _, _]] _ at F2
  refine Ops.step (One.alloc F2 zero31 rfl rfl rfl rfl ?_)
  intro b3 w3 hb3 F3
  change Fr _ _ [blk _ _ [_, _, _, _, _], blk _ _ [_, _, _], blk _ _ [_, _, _, _, _]] _ at F3
  refine Ops.step (One.val rfl rfl rfl (yld_assign rfl ev_c) ?_)
  refine Ops.nil fun a hS => ?_
  refine hK1 _ _ ?_ a hS
  refine Cod.seq fun K2 hK2 => ?_
  refine Cod.seq fun K3 hK3 => ?_
  refine Cod.region ?_
  refine Ops.step (One.val rfl rfl rfl (yld_field fi52_0 rfl (ev_t rfl)) ?_)
  refine Ops.step (One.val rfl rfl rfl (yld_load1 on4 rfl (ev_t rfl) (fun _ => F3.cell 1 rfl rfl)) ?_)
  refine Ops.nil fun a hS => ?_
  refine hK3 _ _ ?_ a hS
  refine Cod.cond rfl (fun hc7 => ?_) (fun hc7 => ?_)
  · skip
    have hR : stepT t s = getT t s.key := by unfold stepT; rw [if_pos hc7]
    refine Cod.seq fun K4 hK4 => ?_
    refine Cod.region ?_
    refine Ops.step (One.val rfl rfl rfl (yld_loadN ag31 rfl (ev_t rfl) (fun _ => F3.range (m := 5) (cs' := [_, _, _, _, _]) 2 rfl rfl) rfl) ?_)
    refine Ops.step (One.val rfl rfl rfl (yld_field fi52_1 rfl (ev_t rfl)) ?_)
    refine Ops.step (One.val rfl rfl rfl (yld_load1 on9 rfl (ev_t rfl) (fun _ => F3.cell 1 rfl rfl)) ?_)
    refine Ops.step (One.call rfl rfl rfl (ent_f rfl (evl2 (ev_t rfl) (ev_t rfl)) (enters en77)) (get_ct t s.key _ w0 _ hr (hc0.trans F3.chg) hok) (fun e w4 hw4 => ?_))
    obtain ⟨y, rfl, C4, hy⟩ := hw4
    have F4 := F3.call C4
    refine ⟨_, rfl, ?_⟩
    refine Ops.step (One.val rfl rfl rfl (yld_extract rfl (ev_t rfl) rfl) ?_)
    refine Ops.step (One.val rfl rfl rfl (yld_extract rfl (ev_t rfl) rfl) ?_)
    refine Ops.step (One.storeN (vs := [_, _, _, _, _]) F4 0 rfl sz31 rfl rfl rfl (ev_t rfl) (ev_t rfl) rfl rfl (V5.one hy) ?_)
    intro w5 F5
    change Fr _ _ [blk _ _ [_, _, _, _, _], blk _ _ [_, _, _], blk _ _ [_, _, _, _, _]] _ at F5
    refine Ops.step (One.val rfl rfl rfl (yld_assign rfl (ev_t rfl)) ?_)
    refine Ops.nil fun a hS => ?_
    refine hK4 _ _ ?_ a hS
    refine Cod.ret fun a hS => ?_
    try simp only [Exit.then, Exit.inBlock]
    exact retct (t := 4) (u := 5) (ty := 31) rfl hS ag31 rfl rfl (F5.range (m := 5) (cs' := [_, _, _, _, _]) 0 rfl rfl) rfl ⟨y, by rw [hR]; rfl, F5.chg, by rw [hR]; exact hy⟩
  · skip
    have hR : stepT t s = atT t s.pl := by unfold stepT; rw [if_neg (by rw [hc7]; simp)]
    refine Cod.skip fun a hS => ?_
    refine hK2 _ _ ?_ a hS
    refine Cod.seq fun K5 hK5 => ?_
    refine Cod.region ?_
    refine Ops.step (One.val rfl rfl rfl (yld_loadN ag31 rfl (ev_t rfl) (fun _ => F3.range (m := 5) (cs' := [_, _, _, _, _]) 2 rfl rfl) rfl) ?_)
    refine Ops.step (One.val rfl rfl rfl (yld_field fi52_2 rfl (ev_t rfl)) ?_)
    refine Ops.step (One.val rfl rfl rfl (yld_load1 on3 rfl (ev_t rfl) (fun _ => F3.cell 1 rfl rfl)) ?_)
    refine Ops.step (One.call rfl rfl rfl (ent_f rfl (evl2 (ev_t rfl) (ev_t rfl)) (enters en78)) (at_ct t s.pl hsr _ w0 _ hr (hc0.trans F3.chg) hok) (fun e w6 hw6 => ?_))
    obtain ⟨y, rfl, C6, hy⟩ := hw6
    have F6 := F3.call C6
    refine ⟨_, rfl, ?_⟩
    refine Ops.step (One.val rfl rfl rfl (yld_extract rfl (ev_t rfl) rfl) ?_)
    refine Ops.step (One.val rfl rfl rfl (yld_extract rfl (ev_t rfl) rfl) ?_)
    refine Ops.step (One.storeN (vs := [_, _, _, _, _]) F6 0 rfl sz31 rfl rfl rfl (ev_t rfl) (ev_t rfl) rfl rfl (V5.one hy) ?_)
    intro w7 F7
    change Fr _ _ [blk _ _ [_, _, _, _, _], blk _ _ [_, _, _], blk _ _ [_, _, _, _, _]] _ at F7
    refine Ops.step (One.val rfl rfl rfl (yld_assign rfl (ev_t rfl)) ?_)
    refine Ops.nil fun a hS => ?_
    refine hK5 _ _ ?_ a hS
    refine Cod.ret fun a hS => ?_
    try simp only [Exit.then, Exit.inBlock]
    exact retct (t := 4) (u := 5) (ty := 31) rfl hS ag31 rfl rfl (F7.range (m := 5) (cs' := [_, _, _, _, _]) 0 rfl rfl) rfl ⟨y, by rw [hR]; rfl, F7.chg, by rw [hR]; exact hy⟩

set_option maxRecDepth 100000 in
theorem l3Get_ct (t : Tr) (p : List Stp) (hpo : pathOk p = true) (v pv : Value) (w0 w : World) (hr0 : Rep Any w0 t v) (hp0 : RepP Any w0 p pv) (hc0 : Chg No w0 w) (hok : okT t = true) (hf : t.Fit) : Calls Try.prog 72 #[v, pv] w (Looks w0 w (pathT p t)) := by
  have hr := hr0
  have hp := hp0.chg hc0
  obtain ⟨v3, v4, ev, h3, h4⟩ := hr.form
  subst ev
  obtain ⟨Ap, cp, rfl, hnp⟩ := hp.open
  refine enter Try.func72 rfl rfl rfl ?_
  have F0 := Fr.start w
  refine Cod.seq fun K1 hK1 => ?_
  refine Cod.region ?_
  refine Ops.step (One.box F0 rfl rfl rfl rfl (ev_t rfl) ?_)
  intro b1 w1 hb1 F1
  change Fr _ _ [blk _ _ [_, _, _, _, _]] _ at F1
  refine Ops.step (One.alloc F1 zero31 rfl rfl rfl rfl ?_)
  intro b2 w2 hb2 F2
  change Fr _ _ [blk _ _ [_, _, _, _, _], blk _ _ [_, _, _, _, _]] _ at F2
  refine Ops.step (One.val rfl rfl rfl (yld_assign rfl ev_c) ?_)
  refine Ops.nil fun a hS => ?_
  refine hK1 _ _ ?_ a hS
  refine Cod.seq fun K2 hK2 => ?_
  refine Cod.seq fun K3 hK3 => ?_
  refine Cod.region ?_
  refine Ops.step (One.val rfl rfl rfl (yld_assign rfl ev_c) ?_)
  refine Ops.nil fun a hS => ?_
  refine hK3 _ _ ?_ a hS
  refine Cod.block ?_
  refine Cod.loop (fun i : Nat × Tr × V5 => [(1, true, .slice Ap p.length cp), (2, true, .pointer (some ⟨b1, 0, none⟩)), (4, true, .pointer (some ⟨b2, 0, none⟩)), (6, true, .int .i64 (i.1 : Int))]) (fun i w' => i.1 ≤ p.length ∧ okT i.2.1 = true ∧ Rep Any w0 i.2.1 i.2.2.val ∧ i.2.1.Fit ∧ i.2.1.wt ≤ t.wt ∧ pathT p t = pathT (p.drop i.1) i.2.1 ∧ Fr No w [blk b2 31 [.int .i64 0, .int .i64 0, .string ⟨#[]⟩, .slice none 0 0, .slice none 0 0], blk b1 31 (enc5 i.2.2)] w') (fun i => p.length - i.1) (0, t, x5 t.kind t.num t.str v3 v4) ⟨rfl, rfl, rfl, rfl, trivial⟩ ⟨Nat.zero_le _, hok, hr, hf, Nat.le_refl _, rfl, F2⟩ ?_
  intro i w3 hW K4 hK4
  obtain ⟨i, c, y0⟩ := i
  obtain ⟨hi, hokc, hrc, hfc, hwc, hpt, F3⟩ := hW
  dsimp only at *
  refine Cod.seq fun K5 hK5 => ?_
  refine Cod.seq fun K6 hK6 => ?_
  refine Cod.region ?_
  refine Ops.step (One.val rfl rfl rfl (yld_move rfl (ev_t rfl)) ?_)
  refine Ops.step (One.val rfl rfl rfl (yld_move rfl (ev_t rfl)) ?_)
  refine Ops.step (One.val rfl rfl rfl (yld_len sl46 rfl (ev_t rfl)) ?_)
  refine Ops.step (One.val rfl rfl rfl (yld_lss rfl (ev_t rfl) (ev_t rfl)) ?_)
  refine Ops.nil fun a hS => ?_
  refine hK6 _ _ ?_ a hS
  refine Cod.cond rfl (fun hc12 => ?_) (fun hc12 => ?_)
  · skip
    have hi : i < p.length := by simpa using hc12
    obtain ⟨b, o, rfl, -, hr1⟩ := hp.at i hi
    have hso := pathOk_at hpo i hi
    refine Cod.skip fun a hS => ?_
    refine hK5 _ _ ?_ a hS
    refine Cod.seq fun K7 hK7 => ?_
    refine Cod.block ?_
    refine Cod.seq fun K8 hK8 => ?_
    have F4 := F3.drew
    refine Cod.draw (C_of F4) (by kernel_rfl) ?_
    refine Hops.take 0 rfl (by kernel_rfl) (fun _ _ _ h => h) rfl rfl rfl F4 (fun w F => (yld_loadN ag31 rfl (ev_t rfl) (fun _ => F.range (m := 5) (cs' := [_, _, _, _, _]) 1 rfl rfl) rfl)) ?_
    refine Hops.take 1 rfl (by kernel_rfl) (fun _ _ _ h => h) rfl rfl rfl F4 (fun w F => (yld_move rfl (ev_t rfl))) ?_
    refine Hops.take 2 rfl (by kernel_rfl) (fun _ _ _ h => h) rfl rfl rfl F4 (fun w F => (yld_move rfl (ev_t rfl))) ?_
    refine Hops.take 3 rfl (by kernel_rfl) (fun _ _ _ h => h) rfl rfl rfl F4 (fun w F => (yld_indexN sl46 rfl (ev_t rfl) (ev_t rfl) (fun _ => by omega))) ?_
    refine Hops.take 4 rfl (by kernel_rfl) (fun _ _ _ h => h) rfl rfl rfl F4 (fun w F => (yld_loadN ag52 rfl (ev_t rfl) (fun _ => rng hr1 F.chg) rfl)) ?_
    refine Hops.two 5 9 rfl rfl (by kernel_rfl) ?_ ?_
    · skip
      refine (One.call rfl rfl rfl (ent_f rfl (evl2 (ev_t rfl) (ev_t rfl)) (enters en121)) (l3One_ct c p[i] hso _ w0 _ hrc (hc0.trans F4.chg) hokc) (fun e w4 hw4 => ?_))
      obtain ⟨y, rfl, C4, hy⟩ := hw4
      have F5 := F4.call C4
      refine ⟨_, rfl, ?_⟩
      refine ⟨F5, ?_⟩
      refine Hops.take 6 rfl (by kernel_rfl) (fun _ _ _ h => h) rfl rfl rfl F5 (fun w F => (yld_move rfl (ev_t rfl))) ?_
      refine Hops.take 7 rfl (by kernel_rfl) (fun _ _ _ h => h) rfl rfl rfl F5 (fun w F => (yld_extract rfl (ev_t rfl) rfl)) ?_
      refine Hops.take 8 rfl (by kernel_rfl) (fun _ _ _ h => h) rfl rfl rfl F5 (fun w F => (yld_extract rfl (ev_t rfl) rfl)) ?_
      refine Hops.one 9 rfl (by kernel_rfl) (One.alloc F5 zero31 rfl rfl rfl rfl ?_)
      intro b3 w5 hb3 F6
      refine ⟨F6.drop1, ?_⟩
      change Fr _ _ [blk _ _ [_, _, _, _, _], blk _ _ [_, _, _, _, _], blk _ _ [_, _, _, _, _]] _ at F6
      refine Hops.one 10 rfl (by kernel_rfl) (One.storeN (vs := [_, _, _, _, _]) F6 0 rfl sz31 rfl rfl rfl (ev_t rfl) (ev_t rfl) rfl rfl (V5.one hy) ?_)
      intro w6 F7
      refine ⟨F7.drop1, ?_⟩
      change Fr _ _ [blk _ _ [_, _, _, _, _], blk _ _ [_, _, _, _, _], blk _ _ [_, _, _, _, _]] _ at F7
      refine Hops.one 11 rfl (by kernel_rfl) (One.val rfl rfl rfl (yld_assign rfl (ev_t rfl)) ?_)
      refine ⟨F7.drop1, ?_⟩
      refine Hops.nil (by kernel_rfl) fun a hS => ?_
      refine hK8 _ _ ?_ a hS
      refine Cod.seq fun K9 hK9 => ?_
      refine Cod.seq fun K10 hK10 => ?_
      refine Cod.region ?_
      refine Ops.step (One.val rfl rfl rfl (yld_move rfl (ev_t rfl)) ?_)
      refine Ops.step (One.val rfl rfl rfl (yld_not rfl (ev_t rfl)) ?_)
      refine Ops.nil fun a hS => ?_
      refine hK10 _ _ ?_ a hS
      refine Cod.cond rfl (fun hc25 => ?_) (fun hc25 => ?_)
      · skip
        have hst : stepT c p[i] = none := by cases h : stepT c p[i] <;> simp [h] at hc25 ⊢
        have hR : pathT p t = none := by rw [hpt, List.drop_eq_getElem_cons hi, pathT, hst]
        refine Cod.seq fun K11 hK11 => ?_
        refine Cod.region ?_
        refine Ops.step (One.val rfl rfl rfl (yld_build (cells := [.int .i64 0, .int .i64 0, .string ⟨#[]⟩, .slice none 0 0, .slice none 0 0]) rfl (evp0) (by kernel_rfl)) ?_)
        refine Ops.step (One.storeN (vs := [_, _, _, _, _]) F7 1 rfl sz31 rfl rfl rfl (ev_t rfl) (ev_t rfl) rfl rfl rfl ?_)
        intro w7 F8
        change Fr _ _ [blk _ _ [_, _, _, _, _], blk _ _ [_, _, _, _, _], blk _ _ [_, _, _, _, _]] _ at F8
        refine Ops.step (One.val rfl rfl rfl (yld_assign rfl ev_c) ?_)
        refine Ops.nil fun a hS => ?_
        refine hK11 _ _ ?_ a hS
        refine Cod.ret fun a hS => ?_
        try simp only [Exit.then, Exit.inBlock]
        exact retct (t := 4) (u := 5) (ty := 31) rfl hS ag31 rfl rfl (F8.range (m := 5) (cs' := [_, _, _, _, _]) 1 rfl rfl) rfl ⟨z5, by rw [hR]; rfl, F8.chg, by rw [hR]; exact Rep.close (RepE.nil _ _) (RepL.nil _ _)⟩
      · skip
        obtain ⟨xc, hst⟩ : ∃ x, stepT c p[i] = some x := by cases h : stepT c p[i] <;> simp [h] at hc25 ⊢
        refine Cod.skip fun a hS => ?_
        refine hK9 _ _ ?_ a hS
        refine Cod.region ?_
        refine Ops.step (One.val rfl rfl rfl (yld_loadN ag31 rfl (ev_t rfl) (fun _ => F7.range (m := 5) (cs' := [_, _, _, _, _]) 0 rfl rfl) rfl) ?_)
        refine Ops.step (One.storeN (vs := [_, _, _, _, _]) F7 2 rfl sz31 rfl rfl rfl (ev_t rfl) (ev_t rfl) rfl rfl (V5.one hy) ?_)
        intro w8 F9
        change Fr _ _ [blk _ _ [_, _, _, _, _], blk _ _ [_, _, _, _, _], blk _ _ [_, _, _, _, _]] _ at F9
        refine Ops.nil fun a hS => ?_
        refine hK7 _ _ ?_ a hS
        refine Cod.region ?_
        refine Ops.step (One.val rfl rfl rfl (yld_move rfl (ev_t rfl)) ?_)
        refine Ops.step (One.val rfl rfl rfl (yld_inc rfl (ev_t rfl) (fun _ => by omega)) ?_)
        refine Ops.step (One.val rfl rfl rfl (yld_assign rfl (ev_t rfl)) ?_)
        refine Ops.nil fun a hS => ?_
        refine hK4 (i + 1, xc, y) _ a (hS.sub ⟨rfl, rfl, rfl, rfl, trivial⟩) ⟨by show i + 1 ≤ _; omega, step_ok hokc hst, by rw [hst] at hy; exact hy, (step_bd hfc hokc hst).1, Nat.le_trans (step_bd hfc hokc hst).2 hwc, by rw [hpt, List.drop_eq_getElem_cons hi, pathT, hst], F9.drop1⟩ (by show p.length - (i + 1) < p.length - i; omega)
    · skip
      refine (One.alloc F4 zero31 rfl rfl rfl rfl ?_)
      intro b4 w9 hb4 F10
      refine ⟨F10.drop1, ?_⟩
      change Fr _ _ [blk _ _ [_, _, _, _, _], blk _ _ [_, _, _, _, _], blk _ _ [_, _, _, _, _]] _ at F10
      refine Hops.one 5 rfl (by kernel_rfl) (One.call rfl rfl rfl (ent_f rfl (evl2 (ev_t rfl) (ev_t rfl)) (enters en121)) (l3One_ct c p[i] hso _ w0 _ hrc (hc0.trans F10.chg) hokc) (fun e w10 hw10 => ?_))
      obtain ⟨y, rfl, C10, hy⟩ := hw10
      have F11 := F10.call C10
      refine ⟨_, rfl, ?_⟩
      refine ⟨F11.drop1, ?_⟩
      refine Hops.take 6 rfl (by kernel_rfl) (fun _ _ _ h => h) rfl rfl rfl F11.drop1 (fun w F => (yld_move rfl (ev_t rfl))) ?_
      refine Hops.take 7 rfl (by kernel_rfl) (fun _ _ _ h => h) rfl rfl rfl F11.drop1 (fun w F => (yld_extract rfl (ev_t rfl) rfl)) ?_
      refine Hops.take 8 rfl (by kernel_rfl) (fun _ _ _ h => h) rfl rfl rfl F11.drop1 (fun w F => (yld_extract rfl (ev_t rfl) rfl)) ?_
      refine Hops.one 10 rfl (by kernel_rfl) (One.storeN (vs := [_, _, _, _, _]) F11 0 rfl sz31 rfl rfl rfl (ev_t rfl) (ev_t rfl) rfl rfl (V5.one hy) ?_)
      intro w11 F12
      refine ⟨F12.drop1, ?_⟩
      change Fr _ _ [blk _ _ [_, _, _, _, _], blk _ _ [_, _, _, _, _], blk _ _ [_, _, _, _, _]] _ at F12
      refine Hops.one 11 rfl (by kernel_rfl) (One.val rfl rfl rfl (yld_assign rfl (ev_t rfl)) ?_)
      refine ⟨F12.drop1, ?_⟩
      refine Hops.nil (by kernel_rfl) fun a hS => ?_
      refine hK8 _ _ ?_ a hS
      refine Cod.seq fun K12 hK12 => ?_
      refine Cod.seq fun K13 hK13 => ?_
      refine Cod.region ?_
      refine Ops.step (One.val rfl rfl rfl (yld_move rfl (ev_t rfl)) ?_)
      refine Ops.step (One.val rfl rfl rfl (yld_not rfl (ev_t rfl)) ?_)
      refine Ops.nil fun a hS => ?_
      refine hK13 _ _ ?_ a hS
      refine Cod.cond rfl (fun hc25 => ?_) (fun hc25 => ?_)
      · skip
        have hst : stepT c p[i] = none := by cases h : stepT c p[i] <;> simp [h] at hc25 ⊢
        have hR : pathT p t = none := by rw [hpt, List.drop_eq_getElem_cons hi, pathT, hst]
        refine Cod.seq fun K14 hK14 => ?_
        refine Cod.region ?_
        refine Ops.step (One.val rfl rfl rfl (yld_build (cells := [.int .i64 0, .int .i64 0, .string ⟨#[]⟩, .slice none 0 0, .slice none 0 0]) rfl (evp0) (by kernel_rfl)) ?_)
        refine Ops.step (One.storeN (vs := [_, _, _, _, _]) F12 1 rfl sz31 rfl rfl rfl (ev_t rfl) (ev_t rfl) rfl rfl rfl ?_)
        intro w12 F13
        change Fr _ _ [blk _ _ [_, _, _, _, _], blk _ _ [_, _, _, _, _], blk _ _ [_, _, _, _, _]] _ at F13
        refine Ops.step (One.val rfl rfl rfl (yld_assign rfl ev_c) ?_)
        refine Ops.nil fun a hS => ?_
        refine hK14 _ _ ?_ a hS
        refine Cod.ret fun a hS => ?_
        try simp only [Exit.then, Exit.inBlock]
        exact retct (t := 4) (u := 5) (ty := 31) rfl hS ag31 rfl rfl (F13.range (m := 5) (cs' := [_, _, _, _, _]) 1 rfl rfl) rfl ⟨z5, by rw [hR]; rfl, F13.chg, by rw [hR]; exact Rep.close (RepE.nil _ _) (RepL.nil _ _)⟩
      · skip
        obtain ⟨xc, hst⟩ : ∃ x, stepT c p[i] = some x := by cases h : stepT c p[i] <;> simp [h] at hc25 ⊢
        refine Cod.skip fun a hS => ?_
        refine hK12 _ _ ?_ a hS
        refine Cod.region ?_
        refine Ops.step (One.val rfl rfl rfl (yld_loadN ag31 rfl (ev_t rfl) (fun _ => F12.range (m := 5) (cs' := [_, _, _, _, _]) 0 rfl rfl) rfl) ?_)
        refine Ops.step (One.storeN (vs := [_, _, _, _, _]) F12 2 rfl sz31 rfl rfl rfl (ev_t rfl) (ev_t rfl) rfl rfl (V5.one hy) ?_)
        intro w13 F14
        change Fr _ _ [blk _ _ [_, _, _, _, _], blk _ _ [_, _, _, _, _], blk _ _ [_, _, _, _, _]] _ at F14
        refine Ops.nil fun a hS => ?_
        refine hK7 _ _ ?_ a hS
        refine Cod.region ?_
        refine Ops.step (One.val rfl rfl rfl (yld_move rfl (ev_t rfl)) ?_)
        refine Ops.step (One.val rfl rfl rfl (yld_inc rfl (ev_t rfl) (fun _ => by omega)) ?_)
        refine Ops.step (One.val rfl rfl rfl (yld_assign rfl (ev_t rfl)) ?_)
        refine Ops.nil fun a hS => ?_
        refine hK4 (i + 1, xc, y) _ a (hS.sub ⟨rfl, rfl, rfl, rfl, trivial⟩) ⟨by show i + 1 ≤ _; omega, step_ok hokc hst, by rw [hst] at hy; exact hy, (step_bd hfc hokc hst).1, Nat.le_trans (step_bd hfc hokc hst).2 hwc, by rw [hpt, List.drop_eq_getElem_cons hi, pathT, hst], F14.drop1⟩ (by show p.length - (i + 1) < p.length - i; omega)
  · skip
    obtain rfl : i = p.length := by simp at hc12; omega
    have hR : pathT p t = some c := by rw [hpt, List.drop_length]; rfl
    refine Cod.exit fun a hS => ?_
    simp only [Exit.then, Exit.inBlock, ↓reduceIte]
    refine hK2 _ _ ?_ a hS
    refine Cod.seq fun K15 hK15 => ?_
    refine Cod.region ?_
    refine Ops.step (One.val rfl rfl rfl (yld_loadN ag31 rfl (ev_t rfl) (fun _ => F3.range (m := 5) (cs' := [_, _, _, _, _]) 1 rfl rfl) rfl) ?_)
    refine Ops.step (One.storeN (vs := [_, _, _, _, _]) F3 0 rfl sz31 rfl rfl rfl (ev_t rfl) (ev_t rfl) rfl rfl (V5.one hrc) ?_)
    intro w14 F15
    change Fr _ _ [blk _ _ [_, _, _, _, _], blk _ _ [_, _, _, _, _]] _ at F15
    refine Ops.step (One.val rfl rfl rfl (yld_assign rfl ev_c) ?_)
    refine Ops.nil fun a hS => ?_
    refine hK15 _ _ ?_ a hS
    refine Cod.ret fun a hS => ?_
    try simp only [Exit.then, Exit.inBlock]
    exact retct (t := 4) (u := 5) (ty := 31) rfl hS ag31 rfl rfl (F15.range (m := 5) (cs' := [_, _, _, _, _]) 0 rfl rfl) rfl ⟨y0, by rw [hR]; rfl, F15.chg, by rw [hR]; exact hrc⟩

set_option maxRecDepth 100000 in
theorem specPathGet_ct (t : Tr) (p : List Stp) (hs : ∀ s ∈ p, s.key.size ≤ 9223372036854775807) (v pv : Value) (w : World) (hr : Rep Any w t v) (hp : RepP Any w p pv) (hf : t.Fit) (hw : t.wt ≤ 1048576) : Calls Try.prog 26 #[v, pv] w (Gives w (pathR t p)) := by
  obtain ⟨v3, v4, ev, h3, h4⟩ := hr.form
  subst ev
  obtain ⟨Ap, cp, rfl, hnp⟩ := hp.open
  refine enter Try.func26 rfl rfl rfl ?_
  have F0 := Fr.start w
  refine Cod.seq fun K1 hK1 => ?_
  refine Cod.region ?_
  refine Ops.step (One.box F0 rfl rfl rfl rfl (ev_t rfl) ?_)
  intro b1 w1 hb1 F1
  change Fr _ _ [blk _ _ [_, _, _, _, _]] _ at F1
  refine Ops.step (One.alloc F1 zero31 rfl rfl rfl rfl ?_)
  intro b2 w2 hb2 F2
  change Fr _ _ [blk _ _ [_, _, _, _, _], blk _ _ [_, _, _, _, _]] _ at F2
  refine Ops.step (One.val rfl rfl rfl (yld_assign rfl ev_c) ?_)
  refine Ops.nil fun a hS => ?_
  refine hK1 _ _ ?_ a hS
  refine Cod.seq fun K2 hK2 => ?_
  refine Cod.seq fun K3 hK3 => ?_
  refine Cod.region ?_
  refine Ops.step (One.val rfl rfl rfl (yld_loadN ag31 rfl (ev_t rfl) (fun _ => F2.range (m := 5) (cs' := [_, _, _, _, _]) 1 rfl rfl) rfl) ?_)
  refine Ops.step (One.call rfl rfl rfl (ent_f rfl (evl1 (ev_t rfl)) (enters en42)) (specOk_ct t _ _ (hr.chg F2.chg) hf hw) (fun e w3 hw3 => ?_))
  obtain ⟨rfl, C3⟩ := hw3
  have F3 := F2.call C3
  refine ⟨_, rfl, ?_⟩
  refine Ops.step (One.val rfl rfl rfl (yld_not rfl (ev_t rfl)) ?_)
  refine Ops.step (One.val rfl rfl rfl (yld_move rfl (ev_t rfl)) ?_)
  refine Ops.step (One.val (gd_some rfl rfl) rfl rfl (yld_move rfl (ev_t rfl)) ?_)
  refine Ops.step (One.gcall (R := Chg No w3) (gd_some rfl rfl) rfl rfl (ent_f rfl (evl1 (ev_g rfl)) (enters en71)) (Chg.refl _ _) (fun hg => specPathOk_ct p _ _ (hp.chg F3.chg) hs) ?_)
  intro w4 C4
  have F4 := F3.call C4
  refine Ops.step (One.val (gd_some rfl rfl) rfl rfl (yld_not rfl (ev_g rfl)) ?_)
  refine Ops.step (One.val rfl rfl rfl (yld_or rfl (ev_t rfl) (ev_g rfl)) ?_)
  refine Ops.nil fun a hS => ?_
  refine hK3 _ _ ?_ a hS
  refine Cod.cond rfl (fun hc15 => ?_) (fun hc15 => ?_)
  · skip
    have hno : pathR t p = none := by
      have hc : (!(okT t) || !(pathOk p)) = true := hc15
      unfold pathR
      cases h1 : okT t <;> cases h2 : pathOk p <;> simp [h1, h2] at hc ⊢
    refine Cod.seq fun K4 hK4 => ?_
    refine Cod.region ?_
    refine Ops.step (One.val rfl rfl rfl (yld_build (cells := [.int .i64 0, .int .i64 0, .string ⟨#[]⟩, .slice none 0 0, .slice none 0 0]) rfl (evp0) (by kernel_rfl)) ?_)
    refine Ops.step (One.storeN (vs := [_, _, _, _, _]) F4 0 rfl sz31 rfl rfl rfl (ev_t rfl) (ev_t rfl) rfl rfl rfl ?_)
    intro w5 F5
    change Fr _ _ [blk _ _ [_, _, _, _, _], blk _ _ [_, _, _, _, _]] _ at F5
    refine Ops.step (One.val rfl rfl rfl (yld_assign rfl ev_c) ?_)
    refine Ops.nil fun a hS => ?_
    refine hK4 _ _ ?_ a hS
    refine Cod.ret fun a hS => ?_
    try simp only [Exit.then, Exit.inBlock]
    exact retct (t := 4) (u := 5) (ty := 31) rfl hS ag31 rfl rfl (F5.range (m := 5) (cs' := [_, _, _, _, _]) 0 rfl rfl) rfl ⟨z5, No, by rw [hno]; rfl, F5.chg, by rw [hno]; exact sep_leaf _ 0 0 ⟨#[]⟩, fun k hk => hk.elim⟩
  · skip
    have hc : (!(okT t) || !(pathOk p)) = false := hc15
    have hok : okT t = true := by
      cases h1 : okT t <;> simp [h1] at hc ⊢
    have hpo : pathOk p = true := by
      rw [hok] at hc
      cases h2 : pathOk p <;> simp [h2] at hc ⊢
    have hyes : pathR t p = pathT p t := by
      unfold pathR
      rw [hok, hpo]
      rfl
    obtain ⟨hbf, hbw⟩ := path_bd hf hok p
    refine Cod.skip fun a hS => ?_
    refine hK2 _ _ ?_ a hS
    refine Cod.seq fun K5 hK5 => ?_
    refine Cod.region ?_
    refine Ops.step (One.val rfl rfl rfl (yld_loadN ag31 rfl (ev_t rfl) (fun _ => F4.range (m := 5) (cs' := [_, _, _, _, _]) 1 rfl rfl) rfl) ?_)
    refine Ops.step (One.val rfl rfl rfl (yld_move rfl (ev_t rfl)) ?_)
    refine Ops.step (One.call rfl rfl rfl (ent_f rfl (evl2 (ev_t rfl) (ev_t rfl)) (enters en72)) (l3Get_ct t p hpo _ _ w _ hr hp F4.chg hok hf) (fun e w6 hw6 => ?_))
    obtain ⟨y, rfl, C6, hy⟩ := hw6
    have F6 := F4.call C6
    refine ⟨_, rfl, ?_⟩
    refine Ops.step (One.val rfl rfl rfl (yld_move rfl (ev_t rfl)) ?_)
    refine Ops.step (One.val rfl rfl rfl (yld_extract rfl (ev_t rfl) rfl) ?_)
    refine Ops.step (One.val rfl rfl rfl (yld_extract rfl (ev_t rfl) rfl) ?_)
    refine Ops.step (One.alloc F6 zero31 rfl rfl rfl rfl ?_)
    intro b3 w7 hb3 F7
    change Fr _ _ [blk _ _ [_, _, _, _, _], blk _ _ [_, _, _, _, _], blk _ _ [_, _, _, _, _]] _ at F7
    refine Ops.step (One.storeN (vs := [_, _, _, _, _]) F7 0 rfl sz31 rfl rfl rfl (ev_t rfl) (ev_t rfl) rfl rfl (V5.one hy) ?_)
    intro w8 F8
    change Fr _ _ [blk _ _ [_, _, _, _, _], blk _ _ [_, _, _, _, _], blk _ _ [_, _, _, _, _]] _ at F8
    refine Ops.step (One.val rfl rfl rfl (yld_assign rfl (ev_t rfl)) ?_)
    refine Ops.nil fun a hS => ?_
    refine hK5 _ _ ?_ a hS
    refine Cod.seq fun K6 hK6 => ?_
    refine Cod.region ?_
    refine Ops.step (One.val rfl rfl rfl (yld_loadN ag31 rfl (ev_t rfl) (fun _ => F8.range (m := 5) (cs' := [_, _, _, _, _]) 0 rfl rfl) rfl) ?_)
    refine Ops.step (One.call rfl rfl rfl (ent_f rfl (evl1 (ev_t rfl)) (enters en73)) (l1Copy_ct ((pathT p t).getD zeroT) _ _ (hy.chg F8.chg) (by omega)) (fun e w9 hw9 => ?_))
    obtain ⟨x1, G1, rfl, C9, hs1, hb1⟩ := hw9
    have F9 := F8.new C9 (sep G1 _ x1.val) hs1 hb1
    refine ⟨_, rfl, ?_⟩
    refine Ops.step (One.val rfl rfl rfl (yld_move rfl (ev_t rfl)) ?_)
    refine Ops.step (One.storeN (vs := [_, _, _, _, _]) F9 2 rfl sz31 rfl rfl rfl (ev_t rfl) (ev_t rfl) rfl rfl hs1.one ?_)
    intro w10 F10
    change Fr _ _ [_, blk _ _ [_, _, _, _, _], blk _ _ [_, _, _, _, _], blk _ _ [_, _, _, _, _]] _ at F10
    refine Ops.step (One.val rfl rfl rfl (yld_assign rfl (ev_t rfl)) ?_)
    refine Ops.nil fun a hS => ?_
    refine hK6 _ _ ?_ a hS
    refine Cod.ret fun a hS => ?_
    try simp only [Exit.then, Exit.inBlock]
    exact retct (t := 4) (u := 5) (ty := 31) rfl hS ag31 rfl rfl (F10.range (m := 5) (cs' := [_, _, _, _, _]) 2 rfl rfl) rfl ⟨x1, G1, by rw [hyes]; rfl, F10.chg, by rw [hyes]; exact F10.get 0 rfl, fun b hb => (F10.dom _ (List.mem_of_getElem? (i := 0) rfl) b hb).resolve_left id⟩

set_option maxRecDepth 100000 in
theorem pathGet_ct (t : Tr) (p : List Stp) (hs : ∀ s ∈ p, s.key.size ≤ 9223372036854775807) (v pv : Value) (w : World) (hr : Rep Any w t v) (hp : RepP Any w p pv) (hf : t.Fit) (hw : t.wt ≤ 1048576) : Calls Try.prog 25 #[v, pv] w (Gives w (pathR t p)) := by
  obtain ⟨v3, v4, ev, h3, h4⟩ := hr.form
  subst ev
  obtain ⟨Ap, cp, rfl, hnp⟩ := hp.open
  refine enter Try.func25 rfl rfl rfl ?_
  have F0 := Fr.start w
  refine Cod.seq fun K1 hK1 => ?_
  refine Cod.region ?_
  refine Ops.step (One.box F0 rfl rfl rfl rfl (ev_t rfl) ?_)
  intro b1 w1 hb1 F1
  change Fr _ _ [blk _ _ [_, _, _, _, _]] _ at F1
  refine Ops.step (One.alloc F1 zero31 rfl rfl rfl rfl ?_)
  intro b2 w2 hb2 F2
  change Fr _ _ [blk _ _ [_, _, _, _, _], blk _ _ [_, _, _, _, _]] _ at F2
  refine Ops.step (One.val rfl rfl rfl (yld_assign rfl ev_c) ?_)
  refine Ops.nil fun a hS => ?_
  refine hK1 _ _ ?_ a hS
  refine Cod.seq fun K2 hK2 => ?_
  refine Cod.seq fun K3 hK3 => ?_
  refine Cod.region ?_
  refine Ops.step (One.val rfl rfl rfl (yld_loadN ag31 rfl (ev_t rfl) (fun _ => F2.range (m := 5) (cs' := [_, _, _, _, _]) 1 rfl rfl) rfl) ?_)
  refine Ops.step (One.call rfl rfl rfl (ent_f rfl (evl1 (ev_t rfl)) (enters en43)) (valOk_ct t _ _ (hr.chg F2.chg) hf) (fun e w3 hw3 => ?_))
  obtain ⟨rfl, C3⟩ := hw3
  have F3 := F2.call C3
  refine ⟨_, rfl, ?_⟩
  refine Ops.step (One.val rfl rfl rfl (yld_not rfl (ev_t rfl)) ?_)
  refine Ops.step (One.val rfl rfl rfl (yld_move rfl (ev_t rfl)) ?_)
  refine Ops.step (One.val (gd_some rfl rfl) rfl rfl (yld_move rfl (ev_t rfl)) ?_)
  refine Ops.step (One.gcall (R := Chg No w3) (gd_some rfl rfl) rfl rfl (ent_f rfl (evl1 (ev_g rfl)) (enters en63)) (Chg.refl _ _) (fun hg => PathOk_ct p _ _ (hp.chg F3.chg) hs) ?_)
  intro w4 C4
  have F4 := F3.call C4
  refine Ops.step (One.val (gd_some rfl rfl) rfl rfl (yld_not rfl (ev_g rfl)) ?_)
  refine Ops.step (One.val rfl rfl rfl (yld_or rfl (ev_t rfl) (ev_g rfl)) ?_)
  refine Ops.nil fun a hS => ?_
  refine hK3 _ _ ?_ a hS
  refine Cod.cond rfl (fun hc17 => ?_) (fun hc17 => ?_)
  · skip
    have hno : pathR t p = none := by
      have hc : (!(okT t) || !(pathOk p)) = true := hc17
      unfold pathR
      cases h1 : okT t <;> cases h2 : pathOk p <;> simp [h1, h2] at hc ⊢
    refine Cod.seq fun K4 hK4 => ?_
    refine Cod.region ?_
    refine Ops.step (One.val rfl rfl rfl (yld_build (cells := [.int .i64 0, .int .i64 0, .string ⟨#[]⟩, .slice none 0 0, .slice none 0 0]) rfl (evp0) (by kernel_rfl)) ?_)
    refine Ops.step (One.storeN (vs := [_, _, _, _, _]) F4 0 rfl sz31 rfl rfl rfl (ev_t rfl) (ev_t rfl) rfl rfl rfl ?_)
    intro w5 F5
    change Fr _ _ [blk _ _ [_, _, _, _, _], blk _ _ [_, _, _, _, _]] _ at F5
    refine Ops.step (One.val rfl rfl rfl (yld_assign rfl ev_c) ?_)
    refine Ops.nil fun a hS => ?_
    refine hK4 _ _ ?_ a hS
    refine Cod.ret fun a hS => ?_
    try simp only [Exit.then, Exit.inBlock]
    exact retct (t := 4) (u := 5) (ty := 31) rfl hS ag31 rfl rfl (F5.range (m := 5) (cs' := [_, _, _, _, _]) 0 rfl rfl) rfl ⟨z5, No, by rw [hno]; rfl, F5.chg, by rw [hno]; exact sep_leaf _ 0 0 ⟨#[]⟩, fun k hk => hk.elim⟩
  · skip
    have hc : (!(okT t) || !(pathOk p)) = false := hc17
    have hok : okT t = true := by
      cases h1 : okT t <;> simp [h1] at hc ⊢
    have hpo : pathOk p = true := by
      rw [hok] at hc
      cases h2 : pathOk p <;> simp [h2] at hc ⊢
    have hyes : pathR t p = pathT p t := by
      unfold pathR
      rw [hok, hpo]
      rfl
    obtain ⟨hbf, hbw⟩ := path_bd hf hok p
    refine Cod.skip fun a hS => ?_
    refine hK2 _ _ ?_ a hS
    refine Cod.seq fun K5 hK5 => ?_
    refine Cod.seq fun K6 hK6 => ?_
    refine Cod.region ?_
    refine Ops.step (One.val rfl rfl rfl (yld_move rfl (ev_t rfl)) ?_)
    refine Ops.step (One.val rfl rfl rfl (yld_len sl46 rfl (ev_t rfl)) ?_)
    refine Ops.step (One.val rfl rfl rfl (yld_move rfl ev_c) ?_)
    refine Ops.nil fun a hS => ?_
    refine hK6 _ _ ?_ a hS
    refine Cod.block ?_
    refine Cod.loop (fun i : Nat × Tr × V5 => [(2, true, .pointer (some ⟨b1, 0, none⟩)), (4, true, .pointer (some ⟨b2, 0, none⟩)), (19, true, .slice Ap p.length cp), (20, true, .int .i64 (p.length : Int)), (21, true, .int .i64 (i.1 : Int))]) (fun i w' => i.1 ≤ p.length ∧ okT i.2.1 = true ∧ Rep Any w i.2.1 i.2.2.val ∧ i.2.1.Fit ∧ i.2.1.wt ≤ t.wt ∧ pathT p t = pathT (p.drop i.1) i.2.1 ∧ Fr No w [blk b2 31 [.int .i64 0, .int .i64 0, .string ⟨#[]⟩, .slice none 0 0, .slice none 0 0], blk b1 31 (enc5 i.2.2)] w') (fun i => p.length - i.1) (0, t, x5 t.kind t.num t.str v3 v4) ⟨rfl, rfl, rfl, rfl, rfl, trivial⟩ ⟨Nat.zero_le _, hok, hr, hf, Nat.le_refl _, rfl, F4⟩ ?_
    intro i w6 hW K7 hK7
    obtain ⟨i, c, y0⟩ := i
    obtain ⟨hi, hokc, hrc, hfc, hwc, hpt, F6⟩ := hW
    dsimp only at *
    refine Cod.seq fun K8 hK8 => ?_
    refine Cod.region ?_
    refine Ops.step (One.val rfl rfl rfl (yld_lss rfl (ev_t rfl) (ev_t rfl)) ?_)
    refine Ops.nil fun a hS => ?_
    refine hK8 _ _ ?_ a hS
    refine Cod.seq fun K9 hK9 => ?_
    refine Cod.cond rfl (fun hc22 => ?_) (fun hc22 => ?_)
    · skip
      have hi : i < p.length := by simpa using hc22
      obtain ⟨b, o, rfl, -, hr1⟩ := hp.at i hi
      have hso := pathOk_at hpo i hi
      refine Cod.skip fun a hS => ?_
      refine hK9 _ _ ?_ a hS
      refine Cod.seq fun K10 hK10 => ?_
      refine Cod.block ?_
      refine Cod.seq fun K11 hK11 => ?_
      refine Cod.region ?_
      refine Ops.step (One.val rfl rfl rfl (yld_indexN sl46 rfl (ev_t rfl) (ev_t rfl) (fun _ => by omega)) ?_)
      refine Ops.step (One.val rfl rfl rfl (yld_loadN ag52 rfl (ev_t rfl) (fun _ => rng hr1 F6.chg) rfl) ?_)
      refine Ops.step (One.alloc F6 zero52 rfl rfl rfl rfl ?_)
      intro b3 w7 hb3 F7
      change Fr _ _ [blk _ _ [_, _, _], blk _ _ [_, _, _, _, _], blk _ _ [_, _, _, _, _]] _ at F7
      refine Ops.step (One.storeN (vs := [_, _, _]) F7 0 rfl sz52 rfl rfl rfl (ev_t rfl) (ev_t rfl) rfl rfl rfl ?_)
      intro w8 F8
      change Fr _ _ [blk _ _ [_, _, _], blk _ _ [_, _, _, _, _], blk _ _ [_, _, _, _, _]] _ at F8
      refine Ops.nil fun a hS => ?_
      refine hK11 _ _ ?_ a hS
      refine Cod.seq fun K12 hK12 => ?_
      refine Cod.region ?_
      refine Ops.step (One.val rfl rfl rfl (yld_loadN ag31 rfl (ev_t rfl) (fun _ => F8.range (m := 5) (cs' := [_, _, _, _, _]) 2 rfl rfl) rfl) ?_)
      refine Ops.step (One.val rfl rfl rfl (yld_loadN ag52 rfl (ev_t rfl) (fun _ => F8.range (m := 3) (cs' := [_, _, _]) 0 rfl rfl) rfl) ?_)
      refine Ops.step (One.call rfl rfl rfl (ent_f rfl (evl2 (ev_t rfl) (ev_t rfl)) (enters en69)) (step_ct c p[i] hso _ w _ hrc F8.chg hokc) (fun e w9 hw9 => ?_))
      obtain ⟨y, rfl, C9, hy⟩ := hw9
      have F9 := F8.call C9
      refine ⟨_, rfl, ?_⟩
      refine Ops.step (One.val rfl rfl rfl (yld_move rfl (ev_t rfl)) ?_)
      refine Ops.step (One.val rfl rfl rfl (yld_extract rfl (ev_t rfl) rfl) ?_)
      refine Ops.step (One.val rfl rfl rfl (yld_extract rfl (ev_t rfl) rfl) ?_)
      refine Ops.step (One.alloc F9 zero31 rfl rfl rfl rfl ?_)
      intro b4 w10 hb4 F10
      change Fr _ _ [blk _ _ [_, _, _, _, _], blk _ _ [_, _, _], blk _ _ [_, _, _, _, _], blk _ _ [_, _, _, _, _]] _ at F10
      refine Ops.step (One.storeN (vs := [_, _, _, _, _]) F10 0 rfl sz31 rfl rfl rfl (ev_t rfl) (ev_t rfl) rfl rfl (V5.one hy) ?_)
      intro w11 F11
      change Fr _ _ [blk _ _ [_, _, _, _, _], blk _ _ [_, _, _], blk _ _ [_, _, _, _, _], blk _ _ [_, _, _, _, _]] _ at F11
      refine Ops.step (One.val rfl rfl rfl (yld_assign rfl (ev_t rfl)) ?_)
      refine Ops.nil fun a hS => ?_
      refine hK12 _ _ ?_ a hS
      refine Cod.seq fun K13 hK13 => ?_
      refine Cod.seq fun K14 hK14 => ?_
      refine Cod.region ?_
      refine Ops.step (One.val rfl rfl rfl (yld_move rfl (ev_t rfl)) ?_)
      refine Ops.step (One.val rfl rfl rfl (yld_not rfl (ev_t rfl)) ?_)
      refine Ops.nil fun a hS => ?_
      refine hK14 _ _ ?_ a hS
      refine Cod.cond rfl (fun hc32 => ?_) (fun hc32 => ?_)
      · skip
        have hst : stepT c p[i] = none := by cases h : stepT c p[i] <;> simp [h] at hc32 ⊢
        have hR : pathT p t = none := by rw [hpt, List.drop_eq_getElem_cons hi, pathT, hst]
        refine Cod.seq fun K15 hK15 => ?_
        refine Cod.region ?_
        refine Ops.step (One.val rfl rfl rfl (yld_build (cells := [.int .i64 0, .int .i64 0, .string ⟨#[]⟩, .slice none 0 0, .slice none 0 0]) rfl (evp0) (by kernel_rfl)) ?_)
        refine Ops.step (One.storeN (vs := [_, _, _, _, _]) F11 2 rfl sz31 rfl rfl rfl (ev_t rfl) (ev_t rfl) rfl rfl rfl ?_)
        intro w12 F12
        change Fr _ _ [blk _ _ [_, _, _, _, _], blk _ _ [_, _, _], blk _ _ [_, _, _, _, _], blk _ _ [_, _, _, _, _]] _ at F12
        refine Ops.step (One.val rfl rfl rfl (yld_assign rfl ev_c) ?_)
        refine Ops.nil fun a hS => ?_
        refine hK15 _ _ ?_ a hS
        refine Cod.ret fun a hS => ?_
        try simp only [Exit.then, Exit.inBlock]
        exact retct (t := 4) (u := 5) (ty := 31) rfl hS ag31 rfl rfl (F12.range (m := 5) (cs' := [_, _, _, _, _]) 2 rfl rfl) rfl ⟨z5, No, by rw [hyes, hR]; rfl, F12.chg, by rw [hyes, hR]; exact sep_leaf _ 0 0 ⟨#[]⟩, fun k hk => hk.elim⟩
      · skip
        obtain ⟨xc, hst⟩ : ∃ x, stepT c p[i] = some x := by cases h : stepT c p[i] <;> simp [h] at hc32 ⊢
        refine Cod.skip fun a hS => ?_
        refine hK13 _ _ ?_ a hS
        refine Cod.region ?_
        refine Ops.step (One.val rfl rfl rfl (yld_loadN ag31 rfl (ev_t rfl) (fun _ => F11.range (m := 5) (cs' := [_, _, _, _, _]) 0 rfl rfl) rfl) ?_)
        refine Ops.step (One.storeN (vs := [_, _, _, _, _]) F11 3 rfl sz31 rfl rfl rfl (ev_t rfl) (ev_t rfl) rfl rfl (V5.one hy) ?_)
        intro w13 F13
        change Fr _ _ [blk _ _ [_, _, _, _, _], blk _ _ [_, _, _], blk _ _ [_, _, _, _, _], blk _ _ [_, _, _, _, _]] _ at F13
        refine Ops.nil fun a hS => ?_
        refine hK10 _ _ ?_ a hS
        refine Cod.region ?_
        refine Ops.step (One.val rfl rfl rfl (yld_inc rfl (ev_t rfl) (fun _ => by omega)) ?_)
        refine Ops.step (One.val rfl rfl rfl (yld_move rfl (ev_t rfl)) ?_)
        refine Ops.nil fun a hS => ?_
        refine hK7 (i + 1, xc, y) _ a (hS.sub ⟨rfl, rfl, rfl, rfl, rfl, trivial⟩) ⟨by show i + 1 ≤ _; omega, step_ok hokc hst, by rw [hst] at hy; exact hy, (step_bd hfc hokc hst).1, Nat.le_trans (step_bd hfc hokc hst).2 hwc, by rw [hpt, List.drop_eq_getElem_cons hi, pathT, hst], F13.drop1.drop1⟩ (by show p.length - (i + 1) < p.length - i; omega)
    · skip
      obtain rfl : i = p.length := by simp at hc22; omega
      have hR : pathT p t = some c := by rw [hpt, List.drop_length]; rfl
      refine Cod.exit fun a hS => ?_
      simp only [Exit.then, Exit.inBlock, ↓reduceIte]
      refine hK5 _ _ ?_ a hS
      refine Cod.seq fun K16 hK16 => ?_
      refine Cod.region ?_
      refine Ops.step (One.val rfl rfl rfl (yld_loadN ag31 rfl (ev_t rfl) (fun _ => F6.range (m := 5) (cs' := [_, _, _, _, _]) 1 rfl rfl) rfl) ?_)
      refine Ops.step (One.call rfl rfl rfl (ent_f rfl (evl2 (ev_t rfl) ev_c) (enters en70)) (told_ct c true _ _ (hrc.chg F6.chg) hfc (by omega)) (fun e w14 hw14 => ?_))
      rw [show toldR true c = some c by show (if (true && okT c) = true then some c else none) = _; rw [hokc]; rfl] at hw14
      obtain ⟨x1, G1, rfl, C14, hs1, hb1⟩ := hw14
      have F14 := F6.new C14 (sep G1 _ x1.val) hs1 hb1
      refine ⟨_, rfl, ?_⟩
      refine Ops.step (One.val rfl rfl rfl (yld_extract rfl (ev_t rfl) rfl) ?_)
      refine Ops.step (One.val rfl rfl rfl (yld_extract rfl (ev_t rfl) rfl) ?_)
      refine Ops.step (One.storeN (vs := [_, _, _, _, _]) F14 1 rfl sz31 rfl rfl rfl (ev_t rfl) (ev_t rfl) rfl rfl hs1.one ?_)
      intro w15 F15
      change Fr _ _ [_, blk _ _ [_, _, _, _, _], blk _ _ [_, _, _, _, _]] _ at F15
      refine Ops.step (One.val rfl rfl rfl (yld_assign rfl (ev_t rfl)) ?_)
      refine Ops.nil fun a hS => ?_
      refine hK16 _ _ ?_ a hS
      refine Cod.ret fun a hS => ?_
      try simp only [Exit.then, Exit.inBlock]
      exact retct (t := 4) (u := 5) (ty := 31) rfl hS ag31 rfl rfl (F15.range (m := 5) (cs' := [_, _, _, _, _]) 1 rfl rfl) rfl ⟨x1, G1, by rw [hyes, hR]; rfl, F15.chg, by rw [hyes, hR]; exact F15.get 0 rfl, fun b hb => (F15.dom _ (List.mem_of_getElem? (i := 0) rfl) b hb).resolve_left id⟩

end Go.Proofs.Ytodbflfelimppaa.Eng
