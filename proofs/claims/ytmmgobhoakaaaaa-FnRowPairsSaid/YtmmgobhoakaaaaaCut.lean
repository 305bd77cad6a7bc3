/- Walks of both RowCut: a piece of a row or of a text. -/
import Derived.Test.YtmmgobhoakaaaaaAt
import Derived.Test.YtmmgobhoakaaaaaSlc
import Derived.Test.YtmmgobhoakaaaaaOrd0
namespace Go.Proofs.Ytmmgobhoakaaaaa.Eng
open Go.RowKit
set_option linter.unusedVariables false
set_option linter.unusedSimpArgs false
set_option maxHeartbeats 1000000


theorem Tr.Fit.str {t : Tr} (h : t.Fit) : t.str.size ≤ 9223372036854775807 := by
  cases h with
  | mk hs hks hl => exact hs
theorem RepL.cap {F w} {l : List Tr} {A n c} (h : RepL F w l (.slice A n c)) : l.length ≤ c := by
  obtain ⟨A', c', f, e, h2, -⟩ := h
  obtain ⟨rfl, rfl, rfl⟩ : A = A' ∧ n = l.length ∧ c = c' := by simpa using e
  exact h2
def edgeZ (a : Int) (n : Nat) : Int := if a < 0 then (if a + n < 0 then 0 else a + n) else (if (n : Int) < a then n else a)
theorem edgeZ_le (a : Int) (n : Nat) : 0 ≤ edgeZ a n ∧ edgeZ a n ≤ n := by
  unfold edgeZ
  repeat' split
  all_goals omega
theorem edgeN (a : Int) (n : Nat) : ∃ i : Nat, edgeZ a n = (i : Int) := ⟨(edgeZ a n).toNat, by have := (edgeZ_le a n).1; omega⟩
theorem maxN (i j : Nat) : (if (i : Int) < (j : Int) then (j : Int) else (i : Int)) = ((max i j : Nat) : Int) := by split <;> omega
theorem maxN' (i j : Nat) : (if (j : Int) < (i : Int) then (i : Int) else (j : Int)) = ((max i j : Nat) : Int) := by split <;> omega
def cutL (t : Tr) (f g : Int) : List Tr := (t.list.drop (edgeZ f t.list.length).toNat).take (max (edgeZ f t.list.length).toNat (edgeZ g t.list.length).toNat - (edgeZ f t.list.length).toNat)
def cutS (t : Tr) (f g : Int) : ByteArray := t.str.extract (edgeZ f t.str.size).toNat (max (edgeZ f t.str.size).toNat (edgeZ g t.str.size).toNat)
noncomputable def cutR (t : Tr) (f g : Int) : Option Tr := if okT t = true then (if t.kind = 4 then some (strT' (cutS t f g)) else if t.kind = 5 then toldR true (.mk 5 0 ⟨#[]⟩ [] (cutL t f g)) else none) else none
theorem okT_nolist {t : Tr} (h : okT t = true) (hk : t.kind < 5) : t.list = [] := by
  obtain ⟨k, n, s, ks, l⟩ := t
  exact (Form.iff.1 (okT_node h).1).2.1.z5 hk
theorem okT_nostr {t : Tr} (h : okT t = true) (hk : t.kind ≠ 4) : t.str = ⟨#[]⟩ := by
  obtain ⟨k, n, s, ks, l⟩ := t
  exact (Form.iff.1 (okT_node h).1).2.1.z4 hk
theorem okT_str {t : Tr} (h : okT t = true) : okS t.str = true := by
  obtain ⟨k, n, s, ks, l⟩ := t
  exact (Form.iff.1 (okT_node h).1).2.1.ok
theorem okT_text {s : ByteArray} (h : okS s = true) : okT (strT' s) = true := by
  unfold okT
  simp only [Bool.and_eq_true, decide_eq_true_eq]
  exact ⟨.mk (by omega) (leafP (fun _ => rfl) (fun h => absurd rfl h) (fun _ => rfl) (fun _ => rfl) (by omega) (by omega) (by omega) h) (by simp), by unfold strT'; rw [Tr.cnt_mk]; show ((1 + 0 : Nat) : Int) ≤ 60; omega⟩
theorem cutL_mem {t x : Tr} {f g : Int} (h : x ∈ cutL t f g) : x ∈ t.list := List.mem_of_mem_drop (List.mem_of_mem_take h)
theorem cutL_fit {t : Tr} (hf : t.Fit) (f g : Int) : (Tr.mk 5 0 ⟨#[]⟩ [] (cutL t f g)).Fit := .mk (Nat.zero_le _) (by simp) fun x hx => hf.list x (cutL_mem hx)
theorem sumN_drop_le {α : Type} (f : α → Nat) : ∀ (p : List α) (i : Nat), sumN f (p.drop i) ≤ sumN f p
  | [], i => by simp
  | x :: p, 0 => by simp
  | x :: p, i + 1 => by
    have := sumN_drop_le f p i
    rw [List.drop_succ_cons, sumN_cons]
    omega
theorem cutL_wt (t : Tr) (f g : Int) (hw : t.wt ≤ 1048576) : (Tr.mk 5 0 ⟨#[]⟩ [] (cutL t f g)).wt ≤ 1048576 := by
  have h1 := t.wt_list
  have h2 : sumN Tr.wt (cutL t f g) ≤ sumN Tr.wt t.list := Nat.le_trans (sumN_take_le _ _ _) (sumN_drop_le _ _ _)
  have h3 : (cutL t f g).length ≤ t.list.length := by unfold cutL; simp; omega
  rw [Tr.wt_mk]
  show 0 + (0 + 0) + _ ≤ _
  omega
theorem cutR_mkn (t : Tr) (f g : Int) (hw : t.wt ≤ 1048576) : ((cutR t f g).getD zeroT).keys.length + sumN Tr.mkn ((cutR t f g).getD zeroT).list ≤ 3 * 1048576 + 3 := by
  unfold cutR
  split
  · split
    · show 0 + 0 ≤ _
      omega
    · split
      · unfold toldR
        split
        · exact wt_mkn _ _ (cutL_wt t f g hw)
        · show 0 + 0 ≤ _
          omega
      · show 0 + 0 ≤ _
        omega
  · show 0 + 0 ≤ _
    omega

set_option maxRecDepth 100000 in
theorem l4Edge_ct (x : Int) (n : Nat) (w : World) (hn : n ≤ 9223372036854775807) (hx : -9223372036854775808 ≤ x ∧ x ≤ 9223372036854775807) : Calls Try.prog 113 #[.int .i64 x, .int .i64 (n : Int)] w fun e w' => e = .returned (.int .i64 (edgeZ x n)) ∧ Chg No w w' := by
  refine enter Try.func113 rfl rfl rfl ?_
  have F0 := Fr.start w
  refine Cod.seq fun K1 hK1 => ?_
  refine Cod.region ?_
  refine Ops.step (One.val rfl rfl rfl (yld_assign rfl ev_c) ?_)
  refine Ops.nil fun a hS => ?_
  refine hK1 _ _ ?_ a hS
  refine Cod.seq fun K2 hK2 => ?_
  refine Cod.seq fun K3 hK3 => ?_
  refine Cod.region ?_
  refine Ops.step (One.val rfl rfl rfl (yld_move rfl (ev_t rfl)) ?_)
  refine Ops.step (One.val rfl rfl rfl (yld_lss rfl (ev_t rfl) ev_c) ?_)
  refine Ops.nil fun a hS => ?_
  refine hK3 _ _ ?_ a hS
  refine Cod.cond rfl (fun hc6 => ?_) (fun hc6 => ?_)
  · skip
    have hq : x < 0 := by simpa using hc6
    refine Cod.seq fun K4 hK4 => ?_
    refine Cod.region ?_
    refine Ops.step (One.val rfl rfl rfl (yld_move rfl (ev_t rfl)) ?_)
    refine Ops.step (One.val rfl rfl rfl (yld_neg rfl (ev_t rfl) (fun _ => by omega)) ?_)
    refine Ops.step (One.val rfl rfl rfl (yld_move rfl (ev_t rfl)) ?_)
    refine Ops.step (One.call rfl rfl rfl (ent_f rfl (evl2 (ev_t rfl) (ev_t rfl)) (enters en112)) (l1Max_ct _ _ _) (fun e w1 hw1 => ?_))
    obtain ⟨rfl, C1⟩ := hw1
    have F1 := F0.call C1
    refine ⟨_, rfl, ?_⟩
    refine Ops.step (One.val rfl rfl rfl (yld_move rfl (ev_t rfl)) ?_)
    refine Ops.step (One.val rfl rfl rfl (yld_add rfl (ev_t rfl) (ev_t rfl) (fun _ => by split <;> omega)) ?_)
    refine Ops.step (One.call rfl rfl rfl (ent_f rfl (evl2 ev_c (ev_t rfl)) (enters en112)) (l1Max_ct _ _ _) (fun e w2 hw2 => ?_))
    obtain ⟨rfl, C2⟩ := hw2
    have F2 := F1.call C2
    refine ⟨_, rfl, ?_⟩
    refine Ops.step (One.val rfl rfl rfl (yld_assign rfl (ev_t rfl)) ?_)
    refine Ops.nil fun a hS => ?_
    refine hK4 _ _ ?_ a hS
    refine Cod.ret fun a hS => ?_
    try simp only [Exit.then, Exit.inBlock]
    exact ret1 (t := 4) rfl hS rfl ⟨ret_i (by unfold edgeZ; (repeat' split) <;> omega), F2.chg⟩
  · skip
    have hq : ¬ x < 0 := by simpa using hc6
    refine Cod.skip fun a hS => ?_
    refine hK2 _ _ ?_ a hS
    refine Cod.seq fun K5 hK5 => ?_
    refine Cod.region ?_
    refine Ops.step (One.val rfl rfl rfl (yld_move rfl (ev_t rfl)) ?_)
    refine Ops.step (One.val rfl rfl rfl (yld_move rfl (ev_t rfl)) ?_)
    refine Ops.step (One.call rfl rfl rfl (ent_f rfl (evl2 (ev_t rfl) (ev_t rfl)) (enters en135)) (l1Min_ct _ _ _) (fun e w3 hw3 => ?_))
    obtain ⟨rfl, C3⟩ := hw3
    have F3 := F0.call C3
    refine ⟨_, rfl, ?_⟩
    refine Ops.step (One.val rfl rfl rfl (yld_assign rfl (ev_t rfl)) ?_)
    refine Ops.nil fun a hS => ?_
    refine hK5 _ _ ?_ a hS
    refine Cod.ret fun a hS => ?_
    try simp only [Exit.then, Exit.inBlock]
    exact ret1 (t := 4) rfl hS rfl ⟨ret_i (by unfold edgeZ; (repeat' split) <;> omega), F3.chg⟩

set_option maxRecDepth 100000 in
theorem span1_ct (x : Int) (n : Nat) (b ty : Nat) (w : World) (hb : (blk b ty [.int .i64 (n : Int)]).is w) (hn : n ≤ 9223372036854775807) (hx : -9223372036854775808 ≤ x ∧ x ≤ 9223372036854775807) : Calls Try.prog 134 #[.int .i64 x, .pointer (some ⟨b, 0, none⟩)] w fun e w' => e = .returned (.int .i64 (edgeZ x n)) ∧ Chg No w w' := by
  have hcl : w.cell? ⟨b, 0, none⟩ = some (.int .i64 (n : Int)) := blk_cell hb rfl
  refine enter Try.func134 rfl rfl rfl ?_
  have F0 := Fr.start w
  refine Cod.seq fun K1 hK1 => ?_
  refine Cod.region ?_
  refine Ops.step (One.val rfl rfl rfl (yld_assign rfl ev_c) ?_)
  refine Ops.nil fun a hS => ?_
  refine hK1 _ _ ?_ a hS
  refine Cod.seq fun K2 hK2 => ?_
  refine Cod.seq fun K3 hK3 => ?_
  refine Cod.region ?_
  refine Ops.step (One.val rfl rfl rfl (yld_move rfl (ev_t rfl)) ?_)
  refine Ops.step (One.val rfl rfl rfl (yld_lss rfl (ev_t rfl) ev_c) ?_)
  refine Ops.nil fun a hS => ?_
  refine hK3 _ _ ?_ a hS
  refine Cod.cond rfl (fun hc5 => ?_) (fun hc5 => ?_)
  · skip
    have hq : x < 0 := by simpa using hc5
    refine Cod.region ?_
    refine Ops.step (One.val rfl rfl rfl (yld_move rfl (ev_t rfl)) ?_)
    refine Ops.step (One.val rfl rfl rfl (yld_load1 on3 rfl (ev_t rfl) (fun _ => F0.chg.cell hcl id)) ?_)
    refine Ops.step (One.val rfl rfl rfl (yld_add rfl (ev_t rfl) (ev_t rfl) (fun _ => by omega)) ?_)
    refine Ops.step (One.val rfl rfl rfl (yld_assign rfl (ev_t rfl)) ?_)
    refine Ops.nil fun a hS => ?_
    refine hK2 _ _ ?_ a hS
    refine Cod.seq fun K4 hK4 => ?_
    refine Cod.region ?_
    refine Ops.step (One.val rfl rfl rfl (yld_move rfl (ev_t rfl)) ?_)
    refine Ops.step (One.val rfl rfl rfl (yld_max rfl (ev_t rfl) ev_c) ?_)
    refine Ops.step (One.val rfl rfl rfl (yld_load1 on3 rfl (ev_t rfl) (fun _ => F0.chg.cell hcl id)) ?_)
    refine Ops.step (One.val rfl rfl rfl (yld_min rfl (ev_t rfl) (ev_t rfl)) ?_)
    refine Ops.step (One.val rfl rfl rfl (yld_assign rfl (ev_t rfl)) ?_)
    refine Ops.nil fun a hS => ?_
    refine hK4 _ _ ?_ a hS
    refine Cod.ret fun a hS => ?_
    try simp only [Exit.then, Exit.inBlock]
    exact ret1 (t := 3) rfl hS rfl ⟨ret_i (by unfold edgeZ; (repeat' split) <;> omega), F0.chg⟩
  · skip
    have hq : ¬ x < 0 := by simpa using hc5
    refine Cod.skip fun a hS => ?_
    refine hK2 _ _ ?_ a hS
    refine Cod.seq fun K5 hK5 => ?_
    refine Cod.region ?_
    refine Ops.step (One.val rfl rfl rfl (yld_move rfl (ev_t rfl)) ?_)
    refine Ops.step (One.val rfl rfl rfl (yld_max rfl (ev_t rfl) ev_c) ?_)
    refine Ops.step (One.val rfl rfl rfl (yld_load1 on3 rfl (ev_t rfl) (fun _ => F0.chg.cell hcl id)) ?_)
    refine Ops.step (One.val rfl rfl rfl (yld_min rfl (ev_t rfl) (ev_t rfl)) ?_)
    refine Ops.step (One.val rfl rfl rfl (yld_assign rfl (ev_t rfl)) ?_)
    refine Ops.nil fun a hS => ?_
    refine hK5 _ _ ?_ a hS
    refine Cod.ret fun a hS => ?_
    try simp only [Exit.then, Exit.inBlock]
    exact ret1 (t := 3) rfl hS rfl ⟨ret_i (by unfold edgeZ; (repeat' split) <;> omega), F0.chg⟩

set_option maxRecDepth 100000 in
theorem span_ct (f g : Int) (n : Nat) (w : World) (hn : n ≤ 9223372036854775807) (hf : -9223372036854775808 ≤ f ∧ f ≤ 9223372036854775807) (hg : -9223372036854775808 ≤ g ∧ g ≤ 9223372036854775807) : Calls Try.prog 111 #[.int .i64 f, .int .i64 g, .int .i64 (n : Int)] w fun e w' => e = .returned (.tuple #[.int .i64 (edgeZ f n), .int .i64 (if edgeZ f n < edgeZ g n then edgeZ g n else edgeZ f n)]) ∧ Chg No w w' := by
  refine enter Try.func111 rfl rfl rfl ?_
  have F0 := Fr.start w
  refine Cod.seq fun K1 hK1 => ?_
  refine Cod.region ?_
  refine Ops.step (One.box F0 rfl rfl rfl rfl (ev_t rfl) ?_)
  intro b1 w1 hb1 F1
  change Fr _ _ [blk _ _ [_]] _ at F1
  refine Ops.step (One.val rfl rfl rfl (yld_assign rfl ev_c) ?_)
  refine Ops.step (One.val rfl rfl rfl (yld_assign rfl ev_c) ?_)
  refine Ops.nil fun a hS => ?_
  refine hK1 _ _ ?_ a hS
  refine Cod.seq fun K2 hK2 => ?_
  refine Cod.region ?_
  refine Ops.step (One.val rfl rfl rfl (yld_func rfl (evl1 (ev_t rfl))) ?_)
  refine Ops.step (One.val rfl rfl rfl (yld_assign rfl (ev_t rfl)) ?_)
  refine Ops.nil fun a hS => ?_
  refine hK2 _ _ ?_ a hS
  refine Cod.seq fun K3 hK3 => ?_
  refine Cod.region ?_
  refine Ops.step (One.val rfl rfl rfl (yld_move rfl (ev_t rfl)) ?_)
  refine Ops.step (One.val rfl rfl rfl (yld_move rfl (ev_t rfl)) ?_)
  refine Ops.step (One.call rfl rfl rfl (ent_c rfl (ev_t rfl) (evl1 (ev_t rfl)) (enters en134)) ((by have := span1_ct f n b1 _ _ (F1.get 0 rfl) hn hf; simpa using this)) (fun e w2 hw2 => ?_))
  obtain ⟨rfl, C2⟩ := hw2
  have F2 := F1.call C2
  refine ⟨_, rfl, ?_⟩
  refine Ops.step (One.val rfl rfl rfl (yld_move rfl (ev_t rfl)) ?_)
  refine Ops.step (One.val rfl rfl rfl (yld_move rfl (ev_t rfl)) ?_)
  refine Ops.step (One.call rfl rfl rfl (ent_c rfl (ev_t rfl) (evl1 (ev_t rfl)) (enters en134)) ((by have := span1_ct g n b1 _ _ (F2.get 0 rfl) hn hg; simpa using this)) (fun e w3 hw3 => ?_))
  obtain ⟨rfl, C3⟩ := hw3
  have F3 := F2.call C3
  refine ⟨_, rfl, ?_⟩
  refine Ops.step (One.val rfl rfl rfl (yld_assign rfl (ev_t rfl)) ?_)
  refine Ops.step (One.val rfl rfl rfl (yld_assign rfl (ev_t rfl)) ?_)
  refine Ops.nil fun a hS => ?_
  refine hK3 _ _ ?_ a hS
  refine Cod.seq fun K4 hK4 => ?_
  refine Cod.region ?_
  refine Ops.step (One.val rfl rfl rfl (yld_move rfl (ev_t rfl)) ?_)
  refine Ops.step (One.val rfl rfl rfl (yld_move rfl (ev_t rfl)) ?_)
  refine Ops.step (One.val rfl rfl rfl (yld_move rfl (ev_t rfl)) ?_)
  refine Ops.step (One.val rfl rfl rfl (yld_max rfl (ev_t rfl) (ev_t rfl)) ?_)
  refine Ops.step (One.val rfl rfl rfl (yld_assign rfl (ev_t rfl)) ?_)
  refine Ops.step (One.val rfl rfl rfl (yld_assign rfl (ev_t rfl)) ?_)
  refine Ops.nil fun a hS => ?_
  refine hK4 _ _ ?_ a hS
  refine Cod.ret fun a hS => ?_
  try simp only [Exit.then, Exit.inBlock]
  exact ret2 (t := 6) (u := 7) rfl hS rfl rfl ⟨rfl, F3.chg⟩

set_option maxRecDepth 100000 in
theorem specCut_ct (t : Tr) (f g : Int) (hfi : -9223372036854775808 ≤ f ∧ f ≤ 9223372036854775807) (hgi : -9223372036854775808 ≤ g ∧ g ≤ 9223372036854775807) (v : Value) (w : World) (hr : Rep Any w t v) (hf : t.Fit) (hw : t.wt ≤ 1048576) : Calls Try.prog 51 #[v, .int .i64 f, .int .i64 g] w (Gives w (cutR t f g)) := by
  obtain ⟨v3, v4, ev, h3, h4⟩ := hr.form
  subst ev
  obtain ⟨A4, c4, rfl, hn4⟩ := h4.open
  have hwl := t.wt_list
  have hss := hf.str
  have hlc4 := h4.cap
  refine enter Try.func51 rfl rfl rfl ?_
  have F0 := Fr.start w
  refine Cod.seq fun K1 hK1 => ?_
  refine Cod.region ?_
  refine Ops.step (One.box F0 rfl rfl rfl rfl (ev_t rfl) ?_)
  intro b1 w1 hb1 F1
  change Fr _ _ [blk _ _ [_, _, _, _, _]] _ at F1
  refine Ops.step (One.alloc F1 zero26 rfl rfl rfl rfl ?_)
  intro b2 w2 hb2 F2
  change Fr _ _ [blk _ _ [_, _, _, _, _], blk _ _ [_, _, _, _, _]] _ at F2
  refine Ops.step (One.val rfl rfl rfl (yld_assign rfl ev_c) ?_)
  refine Ops.nil fun a hS => ?_
  refine hK1 _ _ ?_ a hS
  refine Cod.seq fun K2 hK2 => ?_
  refine Cod.seq fun K3 hK3 => ?_
  refine Cod.region ?_
  refine Ops.step (One.val rfl rfl rfl (yld_loadN ag26 rfl (ev_t rfl) (fun _ => F2.range (m := 5) (cs' := [_, _, _, _, _]) 1 rfl rfl) rfl) ?_)
  refine Ops.step (One.call rfl rfl rfl (ent_f rfl (evl1 (ev_t rfl)) (enters en35)) (specOk_ct t _ _ (hr.chg F2.chg) hf hw) (fun e w3 hw3 => ?_))
  obtain ⟨rfl, C3⟩ := hw3
  have F3 := F2.call C3
  refine ⟨_, rfl, ?_⟩
  refine Ops.step (One.val rfl rfl rfl (yld_not rfl (ev_t rfl)) ?_)
  refine Ops.step (One.val rfl rfl rfl (yld_move rfl (ev_t rfl)) ?_)
  refine Ops.step (One.val (gd_some rfl rfl) rfl rfl (yld_field fi26_0 rfl (ev_t rfl)) ?_)
  refine Ops.step (One.val (gd_some rfl rfl) rfl rfl (yld_load1 on3 rfl (ev_g rfl) (fun _ => F3.cell 1 rfl rfl)) ?_)
  refine Ops.step (One.val (gd_some rfl rfl) rfl rfl (yld_neq rfl (ev_g rfl) ev_c) ?_)
  refine Ops.step (One.val (gd_some rfl rfl) rfl rfl (yld_move rfl (ev_g rfl)) ?_)
  refine Ops.step (One.val (gd_some rfl rfl) rfl rfl (yld_field fi26_0 rfl (ev_t rfl)) ?_)
  refine Ops.step (One.val (gd_some rfl rfl) rfl rfl (yld_load1 on3 rfl (ev_g rfl) (fun _ => F3.cell 1 rfl rfl)) ?_)
  refine Ops.step (One.val (gd_some rfl rfl) rfl rfl (yld_neq rfl (ev_g rfl) ev_c) ?_)
  refine Ops.step (One.val (gd_some rfl rfl) rfl rfl (yld_and rfl (ev_g rfl) (ev_g rfl)) ?_)
  refine Ops.step (One.val rfl rfl rfl (yld_or rfl (ev_t rfl) (ev_g rfl)) ?_)
  refine Ops.nil fun a hS => ?_
  refine hK3 _ _ ?_ a hS
  refine Cod.cond rfl (fun hc23 => ?_) (fun hc23 => ?_)
  · skip
    have hno : cutR t f g = none := by
      have hc : (!(okT t) || ((t.kind != 5) && (t.kind != 4))) = true := hc23
      unfold cutR
      cases h1 : okT t
      · simp
      · rw [h1] at hc
        simp at hc
        rw [if_pos rfl, if_neg hc.2, if_neg hc.1]
    refine Cod.seq fun K4 hK4 => ?_
    refine Cod.region ?_
    refine Ops.step (One.val rfl rfl rfl (yld_build (cells := [.int .i64 0, .int .i64 0, .string ⟨#[]⟩, .slice none 0 0, .slice none 0 0]) rfl (evp0) (by kernel_rfl)) ?_)
    refine Ops.step (One.storeN (vs := [_, _, _, _, _]) F3 0 rfl sz26 rfl rfl rfl (ev_t rfl) (ev_t rfl) rfl rfl rfl ?_)
    intro w4 F4
    change Fr _ _ [blk _ _ [_, _, _, _, _], blk _ _ [_, _, _, _, _]] _ at F4
    refine Ops.step (One.val rfl rfl rfl (yld_assign rfl ev_c) ?_)
    refine Ops.nil fun a hS => ?_
    refine hK4 _ _ ?_ a hS
    refine Cod.ret fun a hS => ?_
    try simp only [Exit.then, Exit.inBlock]
    exact retct (t := 6) (u := 7) (ty := 26) rfl hS ag26 rfl rfl (F4.range (m := 5) (cs' := [_, _, _, _, _]) 0 rfl rfl) rfl ⟨z5, No, by rw [hno]; rfl, F4.chg, by rw [hno]; exact sep_leaf _ 0 0 ⟨#[]⟩, fun k hk => hk.elim⟩
  · skip
    have hc : (!(okT t) || ((t.kind != 5) && (t.kind != 4))) = false := hc23
    have hok : okT t = true := by
      cases h1 : okT t
      · rw [h1] at hc; simp at hc
      · rfl
    have hk45 : t.kind = 4 ∨ t.kind = 5 := by
      rw [hok] at hc
      by_cases h : t.kind = 4
      · exact .inl h
      · right; simp [h] at hc; exact hc
    obtain ⟨n, hnq4, hnq5, hmax, hnb⟩ : ∃ n : Nat, (t.kind = 4 → n = t.str.size) ∧ (t.kind = 5 → n = t.list.length) ∧ (if (t.str.size : Int) < (t.list.length : Int) then (t.list.length : Int) else (t.str.size : Int)) = (n : Int) ∧ n ≤ 9223372036854775807 := by
      rcases hk45 with hk | hk
      · have h2 : t.list.length = 0 := by rw [okT_nolist hok (by omega)]; rfl
        exact ⟨t.str.size, fun _ => rfl, fun h => by omega, by rw [h2, if_neg (by omega)], hss⟩
      · have h2 : t.str.size = 0 := by rw [okT_nostr hok (by omega)]; rfl
        exact ⟨t.list.length, fun h => by omega, fun _ => rfl, by rw [h2]; split <;> omega, hn4⟩
    obtain ⟨ia, hia⟩ := edgeN f n
    obtain ⟨ib, hib⟩ := edgeN g n
    have hia2 := edgeZ_le f n
    have hib2 := edgeZ_le g n
    refine Cod.skip fun a hS => ?_
    refine hK2 _ _ ?_ a hS
    refine Cod.seq fun K5 hK5 => ?_
    refine Cod.region ?_
    refine Ops.step (One.val rfl rfl rfl (yld_field fi26_4 rfl (ev_t rfl)) ?_)
    refine Ops.step (One.val rfl rfl rfl (yld_load1 on24 rfl (ev_t rfl) (fun _ => F3.cell 1 rfl rfl)) ?_)
    refine Ops.step (One.val rfl rfl rfl (yld_len sl24 rfl (ev_t rfl)) ?_)
    refine Ops.step (One.val rfl rfl rfl (yld_field fi26_2 rfl (ev_t rfl)) ?_)
    refine Ops.step (One.val rfl rfl rfl (yld_load1 on9 rfl (ev_t rfl) (fun _ => F3.cell 1 rfl rfl)) ?_)
    refine Ops.step (One.val rfl rfl rfl (yld_slen st9 rfl (ev_t rfl)) ?_)
    refine Ops.step (One.call rfl rfl rfl (ent_f rfl (evl2 (ev_t rfl) (ev_t rfl)) (enters en112)) (l1Max_ct _ _ _) (fun e w5 hw5 => ?_))
    rw [hmax] at hw5
    obtain ⟨rfl, C5⟩ := hw5
    have F5 := F3.call C5
    refine ⟨_, rfl, ?_⟩
    refine Ops.step (One.val rfl rfl rfl (yld_assign rfl (ev_t rfl)) ?_)
    refine Ops.nil fun a hS => ?_
    refine hK5 _ _ ?_ a hS
    refine Cod.seq fun K6 hK6 => ?_
    refine Cod.region ?_
    refine Ops.step (One.val rfl rfl rfl (yld_move rfl (ev_t rfl)) ?_)
    refine Ops.step (One.val rfl rfl rfl (yld_move rfl (ev_t rfl)) ?_)
    refine Ops.step (One.call rfl rfl rfl (ent_f rfl (evl2 (ev_t rfl) (ev_t rfl)) (enters en113)) (l4Edge_ct f n _ hnb hfi) (fun e w6 hw6 => ?_))
    rw [hia] at hw6
    obtain ⟨rfl, C6⟩ := hw6
    have F6 := F5.call C6
    refine ⟨_, rfl, ?_⟩
    refine Ops.step (One.val rfl rfl rfl (yld_assign rfl (ev_t rfl)) ?_)
    refine Ops.nil fun a hS => ?_
    refine hK6 _ _ ?_ a hS
    refine Cod.seq fun K7 hK7 => ?_
    refine Cod.region ?_
    refine Ops.step (One.val rfl rfl rfl (yld_move rfl (ev_t rfl)) ?_)
    refine Ops.step (One.val rfl rfl rfl (yld_move rfl (ev_t rfl)) ?_)
    refine Ops.step (One.val rfl rfl rfl (yld_move rfl (ev_t rfl)) ?_)
    refine Ops.step (One.call rfl rfl rfl (ent_f rfl (evl2 (ev_t rfl) (ev_t rfl)) (enters en113)) (l4Edge_ct g n _ hnb hgi) (fun e w7 hw7 => ?_))
    rw [hib] at hw7
    obtain ⟨rfl, C7⟩ := hw7
    have F7 := F6.call C7
    refine ⟨_, rfl, ?_⟩
    refine Ops.step (One.call rfl rfl rfl (ent_f rfl (evl2 (ev_t rfl) (ev_t rfl)) (enters en112)) (l1Max_ct _ _ _) (fun e w8 hw8 => ?_))
    rw [maxN' ia ib] at hw8
    obtain ⟨rfl, C8⟩ := hw8
    have F8 := F7.call C8
    refine ⟨_, rfl, ?_⟩
    refine Ops.step (One.val rfl rfl rfl (yld_assign rfl (ev_t rfl)) ?_)
    refine Ops.nil fun a hS => ?_
    refine hK7 _ _ ?_ a hS
    refine Cod.seq fun K8 hK8 => ?_
    refine Cod.seq fun K9 hK9 => ?_
    refine Cod.region ?_
    refine Ops.step (One.val rfl rfl rfl (yld_field fi26_0 rfl (ev_t rfl)) ?_)
    refine Ops.step (One.val rfl rfl rfl (yld_load1 on3 rfl (ev_t rfl) (fun _ => F8.cell 1 rfl rfl)) ?_)
    refine Ops.step (One.val rfl rfl rfl (yld_eql rfl (ev_t rfl) ev_c) ?_)
    refine Ops.nil fun a hS => ?_
    refine hK9 _ _ ?_ a hS
    refine Cod.cond rfl (fun hc42 => ?_) (fun hc42 => ?_)
    · skip
      have hk4 : t.kind = 4 := by simpa using hc42
      obtain rfl := hnq4 hk4
      have hyes : cutR t f g = some (strT' (t.str.extract ia (max ia ib))) := by unfold cutR; rw [if_pos hok, if_pos hk4]; unfold cutS; rw [hia, hib]; rfl
      have hls : t.list = [] := okT_nolist hok (by omega)
      refine Cod.seq fun K10 hK10 => ?_
      refine Cod.region ?_
      refine Ops.step (One.val rfl rfl rfl (yld_field fi26_2 rfl (ev_t rfl)) ?_)
      refine Ops.step (One.val rfl rfl rfl (yld_load1 on9 rfl (ev_t rfl) (fun _ => F8.cell 1 rfl rfl)) ?_)
      refine Ops.step (One.val rfl rfl rfl (yld_move rfl (ev_t rfl)) ?_)
      refine Ops.step (One.val rfl rfl rfl (yld_move rfl (ev_t rfl)) ?_)
      refine Ops.step (One.val rfl rfl rfl (yld_slcS st9 rfl (ev_t rfl) (ev_t rfl) (ev_t rfl) (by omega) (by omega)) ?_)
      refine Ops.step (One.val rfl rfl rfl (yld_build (cells := [.int .i64 4, .int .i64 0, .string (t.str.extract ia (max ia ib)), .slice none 0 0, .slice none 0 0]) rfl (evp2 ev_c (ev_t rfl)) (by kernel_rfl)) ?_)
      refine Ops.step (One.storeN (vs := [_, _, _, _, _]) F8 0 rfl sz26 rfl rfl rfl (ev_t rfl) (ev_t rfl) rfl rfl rfl ?_)
      intro w9 F9
      change Fr _ _ [blk _ _ [_, _, _, _, _], blk _ _ [_, _, _, _, _]] _ at F9
      refine Ops.step (One.val rfl rfl rfl (yld_assign rfl ev_c) ?_)
      refine Ops.nil fun a hS => ?_
      refine hK10 _ _ ?_ a hS
      refine Cod.ret fun a hS => ?_
      try simp only [Exit.then, Exit.inBlock]
      exact retct (t := 6) (u := 7) (ty := 26) rfl hS ag26 rfl rfl (F9.range (m := 5) (cs' := [_, _, _, _, _]) 0 rfl rfl) rfl ⟨x5 4 0 (t.str.extract ia (max ia ib)) (.slice none 0 0) (.slice none 0 0), No, by rw [hyes]; rfl, F9.chg, by rw [hyes]; exact sep_leaf _ 4 0 _, fun k hk => hk.elim⟩
    · skip
      have hk4 : t.kind ≠ 4 := by simpa using hc42
      have hk5 : t.kind = 5 := by omega
      obtain rfl := hnq5 hk5
      have hyes : cutR t f g = toldR true (.mk 5 0 ⟨#[]⟩ [] (cutL t f g)) := by unfold cutR; rw [if_pos hok, if_neg hk4, if_pos hk5]
      have hcut : RepL Any w (cutL t f g) (sliced A4 ia (max ia ib) c4 5) := by
        have e : cutL t f g = (t.list.drop ia).take (max ia ib - ia) := by unfold cutL; rw [hia, hib]; rfl
        rw [e]
        exact h4.cut ia (max ia ib) (by omega) (by omega)
      have hTf := cutL_fit hf f g
      have hTw := cutL_wt t f g hw
      refine Cod.skip fun a hS => ?_
      refine hK8 _ _ ?_ a hS
      refine Cod.seq fun K11 hK11 => ?_
      refine Cod.region ?_
      refine Ops.step (One.val rfl rfl rfl (yld_field fi26_4 rfl (ev_t rfl)) ?_)
      refine Ops.step (One.val rfl rfl rfl (yld_load1 on24 rfl (ev_t rfl) (fun _ => F8.cell 1 rfl rfl)) ?_)
      refine Ops.step (One.val rfl rfl rfl (yld_move rfl (ev_t rfl)) ?_)
      refine Ops.step (One.val rfl rfl rfl (yld_move rfl (ev_t rfl)) ?_)
      refine Ops.step (One.val rfl rfl rfl (yld_slc sl24 rfl (ev_t rfl) (ev_t rfl) (ev_t rfl) (by omega) (by omega)) ?_)
      refine Ops.step (One.call rfl rfl rfl (ent_f rfl (evl1 (ev_t rfl)) (enters en80)) (l4Of_ct _ _ ⟨_, _, _, rfl⟩) (fun e w10 hw10 => ?_))
      obtain ⟨rfl, C10⟩ := hw10
      have F10 := F8.call C10
      refine ⟨_, rfl, ?_⟩
      refine Ops.step (One.call rfl rfl rfl (ent_f rfl (evl1 (ev_t rfl)) (enters en79)) (l2Told_ct (.mk 5 0 ⟨#[]⟩ [] (cutL t f g)) _ _ (Rep.close (RepE.nil _ _) (hcut.chg F10.chg)) hTf hTw) (fun e w11 hw11 => ?_))
      obtain ⟨x1, G1, rfl, C11, hs1, hb1⟩ := hw11
      have F11 := F10.new C11 (sep G1 _ x1.val) hs1 hb1
      refine ⟨_, rfl, ?_⟩
      refine Ops.step (One.val rfl rfl rfl (yld_extract rfl (ev_t rfl) rfl) ?_)
      refine Ops.step (One.val rfl rfl rfl (yld_extract rfl (ev_t rfl) rfl) ?_)
      refine Ops.step (One.storeN (vs := [_, _, _, _, _]) F11 1 rfl sz26 rfl rfl rfl (ev_t rfl) (ev_t rfl) rfl rfl hs1.one ?_)
      intro w12 F12
      change Fr _ _ [_, blk _ _ [_, _, _, _, _], blk _ _ [_, _, _, _, _]] _ at F12
      refine Ops.step (One.val rfl rfl rfl (yld_assign rfl (ev_t rfl)) ?_)
      refine Ops.nil fun a hS => ?_
      refine hK11 _ _ ?_ a hS
      refine Cod.ret fun a hS => ?_
      try simp only [Exit.then, Exit.inBlock]
      exact retct (t := 6) (u := 7) (ty := 26) rfl hS ag26 rfl rfl (F12.range (m := 5) (cs' := [_, _, _, _, _]) 1 rfl rfl) rfl ⟨x1, G1, by rw [hyes]; rfl, F12.chg, by rw [hyes]; exact F12.get 0 rfl, fun b hb => (F12.dom _ (List.mem_of_getElem? (i := 0) rfl) b hb).resolve_left id⟩

set_option maxRecDepth 100000 in
theorem cut_ct (t : Tr) (f g : Int) (hfi : -9223372036854775808 ≤ f ∧ f ≤ 9223372036854775807) (hgi : -9223372036854775808 ≤ g ∧ g ≤ 9223372036854775807) (v : Value) (w : World) (hr : Rep Any w t v) (hf : t.Fit) (hw : t.wt ≤ 1048576) : Calls Try.prog 50 #[v, .int .i64 f, .int .i64 g] w (Gives w (cutR t f g)) := by
  obtain ⟨v3, v4, ev, h3, h4⟩ := hr.form
  subst ev
  obtain ⟨A4, c4, rfl, hn4⟩ := h4.open
  have hwl := t.wt_list
  have hss := hf.str
  have hlc4 := h4.cap
  refine enter Try.func50 rfl rfl rfl ?_
  have F0 := Fr.start w
  refine Cod.seq fun K1 hK1 => ?_
  refine Cod.region ?_
  refine Ops.step (One.box F0 rfl rfl rfl rfl (ev_t rfl) ?_)
  intro b1 w1 hb1 F1
  change Fr _ _ [blk _ _ [_, _, _, _, _]] _ at F1
  refine Ops.step (One.alloc F1 zero26 rfl rfl rfl rfl ?_)
  intro b2 w2 hb2 F2
  change Fr _ _ [blk _ _ [_, _, _, _, _], blk _ _ [_, _, _, _, _]] _ at F2
  refine Ops.step (One.val rfl rfl rfl (yld_assign rfl ev_c) ?_)
  refine Ops.nil fun a hS => ?_
  refine hK1 _ _ ?_ a hS
  refine Cod.seq fun K2 hK2 => ?_
  refine Cod.block ?_
  refine Cod.seq fun K3 hK3 => ?_
  refine Cod.region ?_
  refine Ops.step (One.val rfl rfl rfl (yld_loadN ag26 rfl (ev_t rfl) (fun _ => F2.range (m := 5) (cs' := [_, _, _, _, _]) 1 rfl rfl) rfl) ?_)
  refine Ops.step (One.call rfl rfl rfl (ent_f rfl (evl1 (ev_t rfl)) (enters en36)) (valOk_ct t _ _ (hr.chg F2.chg) hf) (fun e w3 hw3 => ?_))
  obtain ⟨rfl, C3⟩ := hw3
  have F3 := F2.call C3
  refine ⟨_, rfl, ?_⟩
  refine Ops.step (One.val rfl rfl rfl (yld_not rfl (ev_t rfl)) ?_)
  refine Ops.step (One.val rfl rfl rfl (yld_assign rfl (ev_t rfl)) ?_)
  refine Ops.nil fun a hS => ?_
  refine hK3 _ _ ?_ a hS
  refine Cod.cond rfl (fun hc12 => ?_) (fun hc12 => ?_)
  · skip
    have hno : cutR t f g = none := by
      have hc : (!(okT t)) = true := hc12
      unfold cutR
      cases h1 : okT t <;> simp [h1] at hc ⊢
    refine Cod.seq fun K4 hK4 => ?_
    refine Cod.region ?_
    refine Ops.step (One.val rfl rfl rfl (yld_build (cells := [.int .i64 0, .int .i64 0, .string ⟨#[]⟩, .slice none 0 0, .slice none 0 0]) rfl (evp0) (by kernel_rfl)) ?_)
    refine Ops.step (One.storeN (vs := [_, _, _, _, _]) F3 0 rfl sz26 rfl rfl rfl (ev_t rfl) (ev_t rfl) rfl rfl rfl ?_)
    intro w4 F4
    change Fr _ _ [blk _ _ [_, _, _, _, _], blk _ _ [_, _, _, _, _]] _ at F4
    refine Ops.step (One.val rfl rfl rfl (yld_assign rfl ev_c) ?_)
    refine Ops.nil fun a hS => ?_
    refine hK4 _ _ ?_ a hS
    refine Cod.ret fun a hS => ?_
    try simp only [Exit.then, Exit.inBlock]
    exact retct (t := 6) (u := 7) (ty := 26) rfl hS ag26 rfl rfl (F4.range (m := 5) (cs' := [_, _, _, _, _]) 0 rfl rfl) rfl ⟨z5, No, by rw [hno]; rfl, F4.chg, by rw [hno]; exact sep_leaf _ 0 0 ⟨#[]⟩, fun k hk => hk.elim⟩
  · skip
    have hok : okT t = true := by
      have hc : (!(okT t)) = false := hc12
      cases h1 : okT t <;> simp [h1] at hc ⊢
    refine Cod.seq fun K5 hK5 => ?_
    refine Cod.region ?_
    refine Ops.step (One.val rfl rfl rfl (yld_field fi26_0 rfl (ev_t rfl)) ?_)
    refine Ops.step (One.val rfl rfl rfl (yld_load1 on3 rfl (ev_t rfl) (fun _ => F3.cell 1 rfl rfl)) ?_)
    refine Ops.step (One.val rfl rfl rfl (yld_eql rfl (ev_t rfl) ev_c) ?_)
    refine Ops.step (One.val rfl rfl rfl (yld_assign rfl (ev_t rfl)) ?_)
    refine Ops.nil fun a hS => ?_
    refine hK5 _ _ ?_ a hS
    refine Cod.cond rfl (fun hc17 => ?_) (fun hc17 => ?_)
    · skip
      have hk4 : t.kind = 4 := by simpa using hc17
      obtain ⟨ia, hia⟩ := edgeN f t.str.size
      obtain ⟨ib, hib⟩ := edgeN g t.str.size
      have hia2 := edgeZ_le f t.str.size
      have hib2 := edgeZ_le g t.str.size
      have hyes : cutR t f g = some (strT' (t.str.extract ia (max ia ib))) := by unfold cutR; rw [if_pos hok, if_pos hk4]; unfold cutS; rw [hia, hib]; rfl
      have hls : t.list = [] := okT_nolist hok (by omega)
      refine Cod.seq fun K6 hK6 => ?_
      refine Cod.region ?_
      refine Ops.step (One.val rfl rfl rfl (yld_move rfl (ev_t rfl)) ?_)
      refine Ops.step (One.val rfl rfl rfl (yld_move rfl (ev_t rfl)) ?_)
      refine Ops.step (One.val rfl rfl rfl (yld_field fi26_2 rfl (ev_t rfl)) ?_)
      refine Ops.step (One.val rfl rfl rfl (yld_load1 on9 rfl (ev_t rfl) (fun _ => F3.cell 1 rfl rfl)) ?_)
      refine Ops.step (One.val rfl rfl rfl (yld_slen st9 rfl (ev_t rfl)) ?_)
      refine Ops.step (One.call rfl rfl rfl (ent_f rfl (evl3 (ev_t rfl) (ev_t rfl) (ev_t rfl)) (enters en111)) (span_ct f g t.str.size _ hss hfi hgi) (fun e w5 hw5 => ?_))
      rw [hia, hib, maxN ia ib] at hw5
      obtain ⟨rfl, C5⟩ := hw5
      have F5 := F3.call C5
      refine ⟨_, rfl, ?_⟩
      refine Ops.step (One.val rfl rfl rfl (yld_move rfl (ev_t rfl)) ?_)
      refine Ops.step (One.val rfl rfl rfl (yld_extract rfl (ev_t rfl) rfl) ?_)
      refine Ops.step (One.val rfl rfl rfl (yld_extract rfl (ev_t rfl) rfl) ?_)
      refine Ops.step (One.val rfl rfl rfl (yld_assign rfl (ev_t rfl)) ?_)
      refine Ops.step (One.val rfl rfl rfl (yld_assign rfl (ev_t rfl)) ?_)
      refine Ops.nil fun a hS => ?_
      refine hK6 _ _ ?_ a hS
      refine Cod.seq fun K7 hK7 => ?_
      refine Cod.region ?_
      refine Ops.step (One.val rfl rfl rfl (yld_field fi26_2 rfl (ev_t rfl)) ?_)
      refine Ops.step (One.val rfl rfl rfl (yld_load1 on9 rfl (ev_t rfl) (fun _ => F5.cell 1 rfl rfl)) ?_)
      refine Ops.step (One.val rfl rfl rfl (yld_move rfl (ev_t rfl)) ?_)
      refine Ops.step (One.val rfl rfl rfl (yld_move rfl (ev_t rfl)) ?_)
      refine Ops.step (One.val rfl rfl rfl (yld_slcS st9 rfl (ev_t rfl) (ev_t rfl) (ev_t rfl) (by omega) (by omega)) ?_)
      refine Ops.step (One.call rfl rfl rfl (ent_f rfl (evl1 (ev_t rfl)) (enters en94)) (str_ct _ _) (fun e w6 hw6 => ?_))
      obtain ⟨rfl, C6⟩ := hw6
      have F6 := F5.call C6
      refine ⟨_, rfl, ?_⟩
      refine Ops.step (One.call rfl rfl rfl (ent_f rfl (evl2 (ev_t rfl) ev_c) (enters en75)) (told_ct (strT' (t.str.extract ia (max ia ib))) true _ _ (Rep.close (RepE.nil _ _) (RepL.nil _ _)) (.mk (by rw [ByteArray.size_extract]; omega) (by simp) (by simp)) (by unfold strT'; rw [Tr.wt_mk, ByteArray.size_extract]; have := okS_size (okT_str hok); show _ + (0 + 0) + (0 + 0) ≤ _; omega)) (fun e w7 hw7 => ?_))
      rw [show toldR true (strT' (t.str.extract ia (max ia ib))) = some (strT' (t.str.extract ia (max ia ib))) by show (if (true && okT _) = true then some _ else none) = _; rw [okT_text (okS_ext (okT_str hok) _ _)]; rfl] at hw7
      obtain ⟨x1, G1, rfl, C7, hs1, hb1⟩ := hw7
      have F7 := F6.new C7 (sep G1 _ x1.val) hs1 hb1
      refine ⟨_, rfl, ?_⟩
      refine Ops.step (One.val rfl rfl rfl (yld_extract rfl (ev_t rfl) rfl) ?_)
      refine Ops.step (One.val rfl rfl rfl (yld_extract rfl (ev_t rfl) rfl) ?_)
      refine Ops.step (One.storeN (vs := [_, _, _, _, _]) F7 1 rfl sz26 rfl rfl rfl (ev_t rfl) (ev_t rfl) rfl rfl hs1.one ?_)
      intro w8 F8
      change Fr _ _ [_, blk _ _ [_, _, _, _, _], blk _ _ [_, _, _, _, _]] _ at F8
      refine Ops.step (One.val rfl rfl rfl (yld_assign rfl (ev_t rfl)) ?_)
      refine Ops.nil fun a hS => ?_
      refine hK7 _ _ ?_ a hS
      refine Cod.ret fun a hS => ?_
      try simp only [Exit.then, Exit.inBlock]
      exact retct (t := 6) (u := 7) (ty := 26) rfl hS ag26 rfl rfl (F8.range (m := 5) (cs' := [_, _, _, _, _]) 1 rfl rfl) rfl ⟨x1, G1, by rw [hyes]; rfl, F8.chg, by rw [hyes]; exact F8.get 0 rfl, fun b hb => (F8.dom _ (List.mem_of_getElem? (i := 0) rfl) b hb).resolve_left id⟩
    · skip
      have hk4 : t.kind ≠ 4 := by simpa using hc17
      refine Cod.seq fun K8 hK8 => ?_
      refine Cod.region ?_
      refine Ops.step (One.val rfl rfl rfl (yld_field fi26_0 rfl (ev_t rfl)) ?_)
      refine Ops.step (One.val rfl rfl rfl (yld_load1 on3 rfl (ev_t rfl) (fun _ => F3.cell 1 rfl rfl)) ?_)
      refine Ops.step (One.val rfl rfl rfl (yld_eql rfl (ev_t rfl) ev_c) ?_)
      refine Ops.step (One.val rfl rfl rfl (yld_assign rfl (ev_t rfl)) ?_)
      refine Ops.nil fun a hS => ?_
      refine hK8 _ _ ?_ a hS
      refine Cod.cond rfl (fun hc39 => ?_) (fun hc39 => ?_)
      · skip
        have hk5 : t.kind = 5 := by simpa using hc39
        obtain ⟨ia, hia⟩ := edgeN f t.list.length
        obtain ⟨ib, hib⟩ := edgeN g t.list.length
        have hia2 := edgeZ_le f t.list.length
        have hib2 := edgeZ_le g t.list.length
        have hyes : cutR t f g = toldR true (.mk 5 0 ⟨#[]⟩ [] (cutL t f g)) := by unfold cutR; rw [if_pos hok, if_neg hk4, if_pos hk5]
        have hcut : RepL Any w (cutL t f g) (sliced A4 ia (max ia ib) c4 5) := by
          have e : cutL t f g = (t.list.drop ia).take (max ia ib - ia) := by unfold cutL; rw [hia, hib]; rfl
          rw [e]
          exact h4.cut ia (max ia ib) (by omega) (by omega)
        have hTf := cutL_fit hf f g
        have hTw := cutL_wt t f g hw
        refine Cod.seq fun K9 hK9 => ?_
        refine Cod.region ?_
        refine Ops.step (One.val rfl rfl rfl (yld_move rfl (ev_t rfl)) ?_)
        refine Ops.step (One.val rfl rfl rfl (yld_move rfl (ev_t rfl)) ?_)
        refine Ops.step (One.val rfl rfl rfl (yld_field fi26_4 rfl (ev_t rfl)) ?_)
        refine Ops.step (One.val rfl rfl rfl (yld_load1 on24 rfl (ev_t rfl) (fun _ => F3.cell 1 rfl rfl)) ?_)
        refine Ops.step (One.val rfl rfl rfl (yld_len sl24 rfl (ev_t rfl)) ?_)
        refine Ops.step (One.call rfl rfl rfl (ent_f rfl (evl3 (ev_t rfl) (ev_t rfl) (ev_t rfl)) (enters en111)) (span_ct f g t.list.length _ hn4 hfi hgi) (fun e w9 hw9 => ?_))
        rw [hia, hib, maxN ia ib] at hw9
        obtain ⟨rfl, C9⟩ := hw9
        have F9 := F3.call C9
        refine ⟨_, rfl, ?_⟩
        refine Ops.step (One.val rfl rfl rfl (yld_move rfl (ev_t rfl)) ?_)
        refine Ops.step (One.val rfl rfl rfl (yld_extract rfl (ev_t rfl) rfl) ?_)
        refine Ops.step (One.val rfl rfl rfl (yld_extract rfl (ev_t rfl) rfl) ?_)
        refine Ops.step (One.val rfl rfl rfl (yld_assign rfl (ev_t rfl)) ?_)
        refine Ops.step (One.val rfl rfl rfl (yld_assign rfl (ev_t rfl)) ?_)
        refine Ops.nil fun a hS => ?_
        refine hK9 _ _ ?_ a hS
        refine Cod.seq fun K10 hK10 => ?_
        refine Cod.region ?_
        refine Ops.step (One.val rfl rfl rfl (yld_field fi26_4 rfl (ev_t rfl)) ?_)
        refine Ops.step (One.val rfl rfl rfl (yld_load1 on24 rfl (ev_t rfl) (fun _ => F9.cell 1 rfl rfl)) ?_)
        refine Ops.step (One.val rfl rfl rfl (yld_move rfl (ev_t rfl)) ?_)
        refine Ops.step (One.val rfl rfl rfl (yld_move rfl (ev_t rfl)) ?_)
        refine Ops.step (One.val rfl rfl rfl (yld_slc sl24 rfl (ev_t rfl) (ev_t rfl) (ev_t rfl) (by omega) (by omega)) ?_)
        refine Ops.step (One.call rfl rfl rfl (ent_f rfl (evl1 (ev_t rfl)) (enters en76)) (row_ct _ _ ⟨_, _, _, rfl⟩) (fun e w10 hw10 => ?_))
        obtain ⟨rfl, C10⟩ := hw10
        have F10 := F9.call C10
        refine ⟨_, rfl, ?_⟩
        refine Ops.step (One.call rfl rfl rfl (ent_f rfl (evl2 (ev_t rfl) ev_c) (enters en75)) (told_ct (.mk 5 0 ⟨#[]⟩ [] (cutL t f g)) true _ _ (Rep.close (RepE.nil _ _) (hcut.chg F10.chg)) hTf hTw) (fun e w11 hw11 => ?_))
        obtain ⟨x1, G1, rfl, C11, hs1, hb1⟩ := hw11
        have F11 := F10.new C11 (sep G1 _ x1.val) hs1 hb1
        refine ⟨_, rfl, ?_⟩
        refine Ops.step (One.val rfl rfl rfl (yld_extract rfl (ev_t rfl) rfl) ?_)
        refine Ops.step (One.val rfl rfl rfl (yld_extract rfl (ev_t rfl) rfl) ?_)
        refine Ops.step (One.storeN (vs := [_, _, _, _, _]) F11 1 rfl sz26 rfl rfl rfl (ev_t rfl) (ev_t rfl) rfl rfl hs1.one ?_)
        intro w12 F12
        change Fr _ _ [_, blk _ _ [_, _, _, _, _], blk _ _ [_, _, _, _, _]] _ at F12
        refine Ops.step (One.val rfl rfl rfl (yld_assign rfl (ev_t rfl)) ?_)
        refine Ops.nil fun a hS => ?_
        refine hK10 _ _ ?_ a hS
        refine Cod.ret fun a hS => ?_
        try simp only [Exit.then, Exit.inBlock]
        exact retct (t := 6) (u := 7) (ty := 26) rfl hS ag26 rfl rfl (F12.range (m := 5) (cs' := [_, _, _, _, _]) 1 rfl rfl) rfl ⟨x1, G1, by rw [hyes]; rfl, F12.chg, by rw [hyes]; exact F12.get 0 rfl, fun b hb => (F12.dom _ (List.mem_of_getElem? (i := 0) rfl) b hb).resolve_left id⟩
      · skip
        have hk5 : t.kind ≠ 5 := by simpa using hc39
        have hno : cutR t f g = none := by unfold cutR; rw [if_pos hok, if_neg hk4, if_neg hk5]
        refine Cod.skip fun a hS => ?_
        refine hK2 _ _ ?_ a hS
        refine Cod.seq fun K11 hK11 => ?_
        refine Cod.region ?_
        refine Ops.step (One.val rfl rfl rfl (yld_build (cells := [.int .i64 0, .int .i64 0, .string ⟨#[]⟩, .slice none 0 0, .slice none 0 0]) rfl (evp0) (by kernel_rfl)) ?_)
        refine Ops.step (One.storeN (vs := [_, _, _, _, _]) F3 0 rfl sz26 rfl rfl rfl (ev_t rfl) (ev_t rfl) rfl rfl rfl ?_)
        intro w13 F13
        change Fr _ _ [blk _ _ [_, _, _, _, _], blk _ _ [_, _, _, _, _]] _ at F13
        refine Ops.step (One.val rfl rfl rfl (yld_assign rfl ev_c) ?_)
        refine Ops.nil fun a hS => ?_
        refine hK11 _ _ ?_ a hS
        refine Cod.ret fun a hS => ?_
        try simp only [Exit.then, Exit.inBlock]
        exact retct (t := 6) (u := 7) (ty := 26) rfl hS ag26 rfl rfl (F13.range (m := 5) (cs' := [_, _, _, _, _]) 0 rfl rfl) rfl ⟨z5, No, by rw [hno]; rfl, F13.chg, by rw [hno]; exact sep_leaf _ 0 0 ⟨#[]⟩, fun k hk => hk.elim⟩

end Go.Proofs.Ytmmgobhoakaaaaa.Eng
