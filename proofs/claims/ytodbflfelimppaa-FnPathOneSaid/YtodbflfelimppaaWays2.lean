/- Walks of both PathAll: all ways into a tree, each in memory of its own. -/
import Derived.Test.YtodbflfelimppaaWays
namespace Go.Proofs.Ytodbflfelimppaa.Eng
open Go.RowKit
set_option linter.unusedVariables false
set_option linter.unusedSimpArgs false
set_option maxHeartbeats 1000000


theorem stepK_map {k : Int} {ks : List ByteArray} {i : Nat} (hk : k = 6) (hi : i < ks.length) : stepK k ks i = ⟨true, ks[i], 0⟩ := by unfold stepK; rw [if_pos hk, nth_eq hi]
theorem stepK_row {k : Int} {ks : List ByteArray} {i : Nat} (hk : ¬ k = 6) : stepK k ks i = ⟨false, ⟨#[]⟩, (i : Int)⟩ := by unfold stepK; rw [if_neg hk]
def wp (t : Tr) (p : List Stp) (i : Nat) : List (List Stp) := p :: Tr.waysL t.kind t.keys (t.list.take i) 0 p
theorem wp_zero (t : Tr) (p : List Stp) : wp t p 0 = [p] := by simp [wp, Tr.waysL]
theorem wp_step (t : Tr) (p : List Stp) (i : Nat) (hi : i < t.list.length) : wp t p (i + 1) = wp t p i ++ t.list[i].ways (p ++ [stepK t.kind t.keys i]) := by
  unfold wp; rw [Tr.waysL_take _ _ _ _ _ hi]; rfl
theorem wp_end (t : Tr) (p : List Stp) : wp t p t.list.length = t.ways p := by
  obtain ⟨k, n, s, ks, l⟩ := t
  unfold wp
  rw [Tr.ways]
  show p :: Tr.waysL k ks (l.take l.length) 0 p = _
  rw [List.take_length]
theorem wp_len (t : Tr) (p : List Stp) (i : Nat) : (wp t p i).length ≤ t.cnt := by
  obtain ⟨k, n, s, ks, l⟩ := t
  unfold wp
  rw [List.length_cons, Tr.cnt_mk]
  have := Tr.waysL_le k ks l p i
  show (Tr.waysL k ks (l.take i) 0 p).length + 1 ≤ _
  omega
theorem cnt_child {t : Tr} {i : Nat} (hi : i < t.list.length) : t.list[i].cnt + 1 ≤ t.cnt := by
  obtain ⟨k, n, s, ks, l⟩ := t
  rw [Tr.cnt_mk]
  have := sumN_mem Tr.cnt (List.getElem_mem hi)
  show l[i].cnt + 1 ≤ _
  have h2 : l[i].cnt ≤ sumN Tr.cnt l := this
  omega
/-- New ways. -/
def NewPP (w : World) (l : List (List Stp)) (e : Ending) (w' : World) : Prop := ∃ v xs, e = .returned v ∧ xs.length = l.length ∧ Chg No w w' ∧ (bun (sepP l v xs)).is w' ∧ ∀ k, (bun (sepP l v xs)).fp k → w.heap.size ≤ k

set_option maxRecDepth 100000 in
theorem further_ct (p : List Stp) (s : Stp) (pv : Value) (w : World) (hp : RepP Any w p pv) (hn : p.length ≤ 1000) : Calls Try.prog 109 #[pv, .agg (pCells s).toArray] w fun e w' => ∃ v', e = .returned v' ∧ Chg No w w' ∧ (rowP (p ++ [s]) v').is w' ∧ ∀ k, v'.ownBlock = some k → w.heap.size ≤ k := by
  obtain ⟨A, c, rfl, -⟩ := hp.open
  refine enter Try.func109 rfl rfl rfl ?_
  have F0 := Fr.start w
  refine Cod.seq fun K1 hK1 => ?_
  refine Cod.region ?_
  refine Ops.step (One.box F0 rfl rfl rfl rfl (ev_t rfl) ?_)
  intro b1 w1 hb1 F1
  change Fr _ _ [blk _ _ [_, _, _]] _ at F1
  refine Ops.step (One.val rfl rfl rfl (yld_assign rfl ev_c) ?_)
  refine Ops.nil fun a hS => ?_
  refine hK1 _ _ ?_ a hS
  refine Cod.seq fun K2 hK2 => ?_
  have F2 := F1.drew
  refine Cod.draw (C_of F2) (by kernel_rfl) ?_
  refine Hops.take 1 rfl (by kernel_rfl) (fun _ _ _ h => h) rfl rfl rfl F2 (fun w F => (yld_move rfl (ev_t rfl))) ?_
  refine Hops.take 3 rfl (by kernel_rfl) (fun _ _ _ h => h) rfl rfl rfl F2 (fun w F => (yld_loadN ag52 rfl (ev_t rfl) (fun _ => F.range (m := 3) (cs' := [_, _, _]) 0 rfl rfl) rfl)) ?_
  refine Hops.two 0 4 rfl rfl (by kernel_rfl) ?_ ?_
  · skip
    refine (One.buildNil pCells F2 sl46 rfl rfl rfl rfl ?_)
    intro b2 w2 hb2 F3
    refine ⟨F3.drop1, ?_⟩
    refine Hops.two 2 4 rfl rfl (by kernel_rfl) ?_ ?_
    · skip
      refine (One.append (enc := pCells) p F3 0 rfl sl46 zero52 rfl rfl (fun _ => rfl) rfl rfl rfl rfl (ev_t rfl) (ev_t rfl) (hp.chg F3.chg) (fun _ _ => rfl) (by simp; omega) (by simp; omega) ?_)
      intro u1 w3 hu1 F4
      refine ⟨F4.drop1, ?_⟩
      change Fr _ _ [_, blk _ _ [_, _, _]] _ at F4
      refine Hops.one 4 rfl (by kernel_rfl) (One.buildSlice (cells := (pCells s)) F4 sl46 zero52 rfl rfl rfl rfl (evp1 (ev_t rfl)) rfl rfl (by kernel_rfl) ?_)
      intro b3 w4 hb3 F5
      refine ⟨(F5.erase 1).drop1, ?_⟩
      refine Hops.one 5 rfl (by kernel_rfl) (One.append (enc := pCells) [s] F5 1 rfl sl46 zero52 rfl rfl (fun _ => rfl) rfl rfl rfl rfl (ev_t rfl) (ev_t rfl) ((blk_rep (enc := pCells) (sz := 3) (xs := [s]) (fun _ => rfl) (by simpa using F5.get 0 rfl) (by simp) (by simp)).weak fun _ _ => trivial) (fun _ _ => rfl) (by simp; omega) (by simp; omega) ?_)
      intro u2 w5 hu2 F6
      refine ⟨(F6.erase 1).drop1, ?_⟩
      change Fr _ _ [_, _, blk _ _ [_, _, _]] _ at F6
      refine Hops.one 6 rfl (by kernel_rfl) (One.val rfl rfl rfl (yld_assign rfl (ev_t rfl)) ?_)
      refine ⟨(F6.erase 1).drop1, ?_⟩
      refine Hops.nil (by kernel_rfl) fun a hS => ?_
      refine hK2 _ _ ?_ a hS
      refine Cod.ret fun a hS => ?_
      try simp only [Exit.then, Exit.inBlock]
      exact ret1 (t := 4) rfl hS rfl ⟨u2, rfl, F6.chg, F6.get 1 rfl, fun b hb => (F6.dom _ (List.mem_of_getElem? (i := 1) rfl) b hb).resolve_left id⟩
    · skip
      refine (One.buildSlice (cells := (pCells s)) F3 sl46 zero52 rfl rfl rfl rfl (evp1 (ev_t rfl)) rfl rfl (by kernel_rfl) ?_)
      intro b4 w6 hb4 F7
      refine ⟨(F7.erase 1).drop1, ?_⟩
      refine Hops.one 2 rfl (by kernel_rfl) (One.append (enc := pCells) p F7 1 rfl sl46 zero52 rfl rfl (fun _ => rfl) rfl rfl rfl rfl (ev_t rfl) (ev_t rfl) (hp.chg F7.chg) (fun _ _ => rfl) (by simp; omega) (by simp; omega) ?_)
      intro u1 w7 hu1 F8
      refine ⟨(F8.erase 1).drop1, ?_⟩
      change Fr _ _ [_, _, blk _ _ [_, _, _]] _ at F8
      refine Hops.one 5 rfl (by kernel_rfl) (One.append (enc := pCells) [s] F8 1 rfl sl46 zero52 rfl rfl (fun _ => rfl) rfl rfl rfl rfl (ev_t rfl) (ev_t rfl) ((blk_rep (enc := pCells) (sz := 3) (xs := [s]) (fun _ => rfl) (by simpa using F8.get 0 rfl) (by simp) (by simp)).weak fun _ _ => trivial) (fun _ _ => rfl) (by simp; omega) (by simp; omega) ?_)
      intro u2 w8 hu2 F9
      refine ⟨(F9.erase 1).drop1, ?_⟩
      change Fr _ _ [_, _, blk _ _ [_, _, _]] _ at F9
      refine Hops.one 6 rfl (by kernel_rfl) (One.val rfl rfl rfl (yld_assign rfl (ev_t rfl)) ?_)
      refine ⟨(F9.erase 1).drop1, ?_⟩
      refine Hops.nil (by kernel_rfl) fun a hS => ?_
      refine hK2 _ _ ?_ a hS
      refine Cod.ret fun a hS => ?_
      try simp only [Exit.then, Exit.inBlock]
      exact ret1 (t := 4) rfl hS rfl ⟨u2, rfl, F9.chg, F9.get 1 rfl, fun b hb => (F9.dom _ (List.mem_of_getElem? (i := 1) rfl) b hb).resolve_left id⟩
  · skip
    refine (One.buildSlice (cells := (pCells s)) F2 sl46 zero52 rfl rfl rfl rfl (evp1 (ev_t rfl)) rfl rfl (by kernel_rfl) ?_)
    intro b5 w9 hb5 F10
    refine ⟨F10.drop1, ?_⟩
    refine Hops.one 0 rfl (by kernel_rfl) (One.buildNil pCells F10 sl46 rfl rfl rfl rfl ?_)
    intro b6 w10 hb6 F11
    refine ⟨(F11.erase 1).drop1, ?_⟩
    refine Hops.one 2 rfl (by kernel_rfl) (One.append (enc := pCells) p F11 0 rfl sl46 zero52 rfl rfl (fun _ => rfl) rfl rfl rfl rfl (ev_t rfl) (ev_t rfl) (hp.chg F11.chg) (fun _ _ => rfl) (by simp; omega) (by simp; omega) ?_)
    intro u1 w11 hu1 F12
    refine ⟨(F12.erase 1).drop1, ?_⟩
    change Fr _ _ [_, _, blk _ _ [_, _, _]] _ at F12
    refine Hops.one 5 rfl (by kernel_rfl) (One.append (enc := pCells) [s] F12 0 rfl sl46 zero52 rfl rfl (fun _ => rfl) rfl rfl rfl rfl (ev_t rfl) (ev_t rfl) ((blk_rep (enc := pCells) (sz := 3) (xs := [s]) (fun _ => rfl) (by simpa using F12.get 1 rfl) (by simp) (by simp)).weak fun _ _ => trivial) (fun _ _ => rfl) (by simp; omega) (by simp; omega) ?_)
    intro u2 w12 hu2 F13
    refine ⟨(F13.erase 1).drop1, ?_⟩
    change Fr _ _ [_, _, blk _ _ [_, _, _]] _ at F13
    refine Hops.one 6 rfl (by kernel_rfl) (One.val rfl rfl rfl (yld_assign rfl (ev_t rfl)) ?_)
    refine ⟨(F13.erase 1).drop1, ?_⟩
    refine Hops.nil (by kernel_rfl) fun a hS => ?_
    refine hK2 _ _ ?_ a hS
    refine Cod.ret fun a hS => ?_
    try simp only [Exit.then, Exit.inBlock]
    exact ret1 (t := 4) rfl hS rfl ⟨u2, rfl, F13.chg, F13.get 0 rfl, fun b hb => (F13.dom _ (List.mem_of_getElem? (i := 0) rfl) b hb).resolve_left id⟩

set_option maxRecDepth 100000 in
theorem stepTo_ct (t : Tr) (i : Nat) (v : Value) (w : World) (hr : Rep Any w t v) (hil : i < t.list.length) (hkl : t.kind = 6 → t.keys.length = t.list.length) : Calls Try.prog 110 #[v, .int .i64 (i : Int)] w fun e w' => e = .returned (.agg (pCells (stepK t.kind t.keys i)).toArray) ∧ Chg No w w' := by
  obtain ⟨v3, v4, ev, h3, h4⟩ := hr.form
  subst ev
  obtain ⟨A3, c3, rfl, hn3⟩ := h3.open
  obtain ⟨A4, c4, rfl, hn4⟩ := h4.open
  refine enter Try.func110 rfl rfl rfl ?_
  have F0 := Fr.start w
  refine Cod.seq fun K1 hK1 => ?_
  refine Cod.region ?_
  refine Ops.step (One.box F0 rfl rfl rfl rfl (ev_t rfl) ?_)
  intro b1 w1 hb1 F1
  change Fr _ _ [blk _ _ [_, _, _, _, _]] _ at F1
  refine Ops.step (One.alloc F1 zero52 rfl rfl rfl rfl ?_)
  intro b2 w2 hb2 F2
  change Fr _ _ [blk _ _ [_, _, _], blk _ _ [_, _, _, _, _]] _ at F2
  refine Ops.nil fun a hS => ?_
  refine hK1 _ _ ?_ a hS
  refine Cod.seq fun K2 hK2 => ?_
  refine Cod.seq fun K3 hK3 => ?_
  refine Cod.region ?_
  refine Ops.step (One.val rfl rfl rfl (yld_field fi31_0 rfl (ev_t rfl)) ?_)
  refine Ops.step (One.val rfl rfl rfl (yld_load1 on3 rfl (ev_t rfl) (fun _ => F2.cell 1 rfl rfl)) ?_)
  refine Ops.step (One.val rfl rfl rfl (yld_eql rfl (ev_t rfl) ev_c) ?_)
  refine Ops.nil fun a hS => ?_
  refine hK3 _ _ ?_ a hS
  refine Cod.cond rfl (fun hc7 => ?_) (fun hc7 => ?_)
  · skip
    have hk : t.kind = 6 := by simpa using hc7
    have hik : i < t.keys.length := by have := hkl hk; omega
    obtain ⟨b, o, rfl, -, hrk⟩ := h3.at i hik
    rw [stepK_map hk hik]
    refine Cod.seq fun K4 hK4 => ?_
    refine Cod.region ?_
    refine Ops.step (One.val rfl rfl rfl (yld_field fi31_3 rfl (ev_t rfl)) ?_)
    refine Ops.step (One.val rfl rfl rfl (yld_load1 on22 rfl (ev_t rfl) (fun _ => F2.cell 1 rfl rfl)) ?_)
    refine Ops.step (One.val rfl rfl rfl (yld_move rfl (ev_t rfl)) ?_)
    refine Ops.step (One.val rfl rfl rfl (yld_indexN sl22 rfl (ev_t rfl) (ev_t rfl) (fun _ => by omega)) ?_)
    refine Ops.step (One.val rfl rfl rfl (yld_load1 on9 rfl (ev_t rfl) (fun _ => rangeAt_cell (rng hrk F2.chg) (j := 0) rfl)) ?_)
    refine Ops.step (One.val rfl rfl rfl (yld_build (cells := (pCells ⟨true, t.keys[i], 0⟩)) rfl (evp2 ev_c (ev_t rfl)) (by kernel_rfl)) ?_)
    refine Ops.step (One.storeN (vs := [_, _, _]) F2 0 rfl sz52 rfl rfl rfl (ev_t rfl) (ev_t rfl) rfl rfl rfl ?_)
    intro w3 F3
    change Fr _ _ [blk _ _ [_, _, _], blk _ _ [_, _, _, _, _]] _ at F3
    refine Ops.nil fun a hS => ?_
    refine hK4 _ _ ?_ a hS
    refine Cod.ret fun a hS => ?_
    try simp only [Exit.then, Exit.inBlock]
    exact retc (t := 4) (ty := 52) rfl hS ag52 rfl (F3.range (m := 3) (cs' := [_, _, _]) 0 rfl rfl) rfl ⟨rfl, F3.chg⟩
  · skip
    have hk : ¬ t.kind = 6 := by simpa using hc7
    refine Cod.skip fun a hS => ?_
    refine hK2 _ _ ?_ a hS
    refine Cod.seq fun K5 hK5 => ?_
    refine Cod.region ?_
    refine Ops.step (One.val rfl rfl rfl (yld_move rfl (ev_t rfl)) ?_)
    refine Ops.step (One.val rfl rfl rfl (yld_build (cells := (pCells ⟨false, ⟨#[]⟩, (i : Int)⟩)) rfl (evp1 (ev_t rfl)) (by kernel_rfl)) ?_)
    refine Ops.step (One.storeN (vs := [_, _, _]) F2 0 rfl sz52 rfl rfl rfl (ev_t rfl) (ev_t rfl) rfl rfl rfl ?_)
    intro w4 F4
    change Fr _ _ [blk _ _ [_, _, _], blk _ _ [_, _, _, _, _]] _ at F4
    refine Ops.nil fun a hS => ?_
    refine hK5 _ _ ?_ a hS
    refine Cod.ret fun a hS => ?_
    try simp only [Exit.then, Exit.inBlock]
    exact retc (t := 4) (ty := 52) rfl hS ag52 rfl (F4.range (m := 3) (cs' := [_, _, _]) 0 rfl rfl) rfl ⟨by rw [stepK_row hk]; rfl, F4.chg⟩


def WaysOk (t : Tr) : Prop := ∀ (p : List Stp) (v pv : Value) (w : World), Rep Any w t v → okT t = true → RepP Any w p pv → p.length + t.cnt ≤ 1000 →
    Calls Try.prog 49 #[v, pv] w (NewPP w (t.ways p))

set_option maxRecDepth 100000 in
theorem l3All_of (k n : Int) (s : ByteArray) (ks : List ByteArray) (l : List Tr) (H : ∀ t ∈ l, WaysOk t) : WaysOk (.mk k n s ks l) := by
  intro p v pv w hr hok hp hcn
  obtain ⟨t, ht⟩ : ∃ t, t = Tr.mk k n s ks l := ⟨_, rfl⟩
  have H' : ∀ x ∈ t.list, WaysOk x := by rw [ht]; exact H
  rw [← ht] at hr hok hcn ⊢
  clear ht H
  obtain ⟨v3, v4, ev, h3, h4⟩ := hr.form
  subst ev
  obtain ⟨A3, c3, rfl, hn3⟩ := h3.open
  obtain ⟨A4, c4, rfl, hn4⟩ := h4.open
  obtain ⟨Ap, cp, rfl, hnp⟩ := hp.open
  have hcp : 1 ≤ t.cnt := by have := wp_len t p 0; rw [wp_zero] at this; simpa using this
  have hkl : t.kind = 6 → t.keys.length = t.list.length := okT_len hok
  refine enter Try.func49 rfl rfl rfl ?_
  have F0 := Fr.start w
  refine Cod.seq fun K1 hK1 => ?_
  refine Cod.region ?_
  refine Ops.step (One.box F0 rfl rfl rfl rfl (ev_t rfl) ?_)
  intro b1 w1 hb1 F1
  change Fr _ _ [blk _ _ [_, _, _, _, _]] _ at F1
  refine Ops.step (One.val rfl rfl rfl (yld_assign rfl ev_c) ?_)
  refine Ops.nil fun a hS => ?_
  refine hK1 _ _ ?_ a hS
  refine Cod.seq fun K2 hK2 => ?_
  refine Cod.region ?_
  refine Ops.step (One.buildNil pCells F1 sl46 rfl rfl rfl rfl ?_)
  intro b2 w2 hb2 F2
  refine Ops.step (One.val rfl rfl rfl (yld_move rfl (ev_t rfl)) ?_)
  refine Ops.step (One.append (enc := pCells) p F2 0 rfl sl46 zero52 rfl rfl (fun _ => rfl) rfl rfl rfl rfl (ev_t rfl) (ev_t rfl) (hp.chg F2.chg) (fun _ _ => rfl) (by simp; omega) (by simp; omega) ?_)
  intro u1 w3 hu1 F3
  change Fr _ _ [_, blk _ _ [_, _, _, _, _]] _ at F3
  obtain ⟨Au, mu, cu, hu1e⟩ := own_form (F3.get 0 rfl)
  subst hu1e
  refine Ops.step (One.buildSlice (cells := (vCells (.slice Au mu cu))) F3 sl27 zero46 rfl rfl rfl rfl (evp1 (ev_t rfl)) rfl rfl (by kernel_rfl) ?_)
  intro b3 w4 hb3 F4
  refine Ops.step (One.val rfl rfl rfl (yld_assign rfl (ev_t rfl)) ?_)
  refine Ops.nil fun a hS => ?_
  refine hK2 _ _ ?_ a hS
  refine Cod.seq fun K3 hK3 => ?_
  refine Cod.seq fun K4 hK4 => ?_
  refine Cod.region ?_
  refine Ops.step (One.val rfl rfl rfl (yld_assign rfl ev_c) ?_)
  refine Ops.nil fun a hS => ?_
  refine hK4 _ _ ?_ a hS
  refine Cod.block ?_
  have hF1 := (F4.toOwn (sz := 1) (n := 1) rfl (by omega)).pull 1 rfl
  have hF2 := hF1.bunOne
  refine Cod.loop (fun i : Nat × List Value × Value => [(1, true, .slice Ap p.length cp), (2, true, .pointer (some ⟨b1, 0, none⟩)), (5, true, i.2.2), (6, true, .int .i64 (i.1 : Int))]) (fun i w' => i.1 ≤ t.list.length ∧ i.2.1.length = (wp t p i.1).length ∧ Fr No w [bun (rowsP (wp t p i.1) i.2.1), own 46 1 i.2.2 i.2.1.length (i.2.1.flatMap vCells), blk b1 31 [.int .i64 t.kind, .int .i64 t.num, .string t.str, .slice A3 t.keys.length c3, .slice A4 t.list.length c4]] w') (fun i => t.list.length - i.1) (0, [.slice Au mu cu], .slice (some ⟨b3, 0, none⟩) 1 1) ⟨rfl, rfl, rfl, rfl, trivial⟩ ⟨Nat.zero_le _, by rw [wp_zero]; rfl, by rw [wp_zero]; exact hF2⟩ ?_
  intro i w5 hW K5 hK5
  obtain ⟨ix, xs, ov⟩ := i
  obtain ⟨hi, hxl, F5⟩ := hW
  dsimp only at *
  have hwl := wp_len t p ix
  refine Cod.seq fun K6 hK6 => ?_
  refine Cod.seq fun K7 hK7 => ?_
  refine Cod.region ?_
  refine Ops.step (One.val rfl rfl rfl (yld_move rfl (ev_t rfl)) ?_)
  refine Ops.step (One.val rfl rfl rfl (yld_field fi31_4 rfl (ev_t rfl)) ?_)
  refine Ops.step (One.val rfl rfl rfl (yld_load1 on29 rfl (ev_t rfl) (fun _ => F5.cell 2 rfl rfl)) ?_)
  refine Ops.step (One.val rfl rfl rfl (yld_len sl29 rfl (ev_t rfl)) ?_)
  refine Ops.step (One.val rfl rfl rfl (yld_lss rfl (ev_t rfl) (ev_t rfl)) ?_)
  refine Ops.nil fun a hS => ?_
  refine hK7 _ _ ?_ a hS
  refine Cod.cond rfl (fun hc16 => ?_) (fun hc16 => ?_)
  · skip
    have hil : ix < t.list.length := by simpa using hc16
    obtain ⟨b, o, cs, rfl, -, hlc, hrl, hrt⟩ := h4.at ix hil
    obtain ⟨ca, cb, cc, cd, ce, rfl⟩ := five hlc
    have hcc := cnt_child hil
    refine Cod.skip fun a hS => ?_
    refine hK6 _ _ ?_ a hS
    refine Cod.seq fun K8 hK8 => ?_
    refine Cod.block ?_
    refine Cod.seq fun K9 hK9 => ?_
    refine Cod.region ?_
    refine Ops.step (One.val rfl rfl rfl (yld_move rfl (ev_t rfl)) ?_)
    refine Ops.step (One.val rfl rfl rfl (yld_build (cells := (pCells ⟨false, ⟨#[]⟩, (ix : Int)⟩)) rfl (evp1 (ev_t rfl)) (by kernel_rfl)) ?_)
    refine Ops.step (One.alloc F5 zero52 rfl rfl rfl rfl ?_)
    intro b4 w6 hb4 F6
    change Fr _ _ [blk _ _ [_, _, _], _, _, blk _ _ [_, _, _, _, _]] _ at F6
    refine Ops.step (One.storeN (vs := [_, _, _]) F6 0 rfl sz52 rfl rfl rfl (ev_t rfl) (ev_t rfl) rfl rfl rfl ?_)
    intro w7 F7
    change Fr _ _ [blk _ _ [_, _, _], _, _, blk _ _ [_, _, _, _, _]] _ at F7
    refine Ops.nil fun a hS => ?_
    refine hK9 _ _ ?_ a hS
    refine Cod.cut (fun i : Unit => [(1, true, .slice Ap p.length cp), (2, true, .pointer (some ⟨b1, 0, none⟩)), (5, true, ov), (6, true, .int .i64 (ix : Int)), (7, true, .pointer (some ⟨b4, 0, none⟩))]) (fun i w' => ∃ AA, AA = A3 ∧ Fr No w [blk b4 52 (pCells (stepK t.kind t.keys ix)), bun (rowsP (wp t p ix) xs), own 46 1 ov xs.length (xs.flatMap vCells), blk b1 31 [.int .i64 t.kind, .int .i64 t.num, .string t.str, .slice AA t.keys.length c3, .slice (some ⟨b, o, none⟩) t.list.length c4]] w') (fun K10 hK10 => ?_) ?_
    · skip
      refine Cod.seq fun K11 hK11 => ?_
      refine Cod.region ?_
      refine Ops.step (One.val rfl rfl rfl (yld_field fi31_0 rfl (ev_t rfl)) ?_)
      refine Ops.step (One.val rfl rfl rfl (yld_load1 on3 rfl (ev_t rfl) (fun _ => F7.cell 3 rfl rfl)) ?_)
      refine Ops.step (One.val rfl rfl rfl (yld_eql rfl (ev_t rfl) ev_c) ?_)
      refine Ops.nil fun a hS => ?_
      refine hK11 _ _ ?_ a hS
      refine Cod.cond rfl (fun hc23 => ?_) (fun hc23 => ?_)
      · skip
        have hk : t.kind = 6 := by simpa using hc23
        have hik : ix < t.keys.length := by have := hkl hk; omega
        obtain ⟨kb, ko, rfl, -, hrk⟩ := h3.at ix hik
        refine Cod.region ?_
        refine Ops.step (One.val rfl rfl rfl (yld_field fi31_3 rfl (ev_t rfl)) ?_)
        refine Ops.step (One.val rfl rfl rfl (yld_load1 on22 rfl (ev_t rfl) (fun _ => F7.cell 3 rfl rfl)) ?_)
        refine Ops.step (One.val rfl rfl rfl (yld_move rfl (ev_t rfl)) ?_)
        refine Ops.step (One.val rfl rfl rfl (yld_indexN sl22 rfl (ev_t rfl) (ev_t rfl) (fun _ => by omega)) ?_)
        refine Ops.step (One.val rfl rfl rfl (yld_load1 on9 rfl (ev_t rfl) (fun _ => rangeAt_cell (rng hrk F7.chg) (j := 0) rfl)) ?_)
        refine Ops.step (One.val rfl rfl rfl (yld_build (cells := (pCells ⟨true, t.keys[ix], 0⟩)) rfl (evp2 ev_c (ev_t rfl)) (by kernel_rfl)) ?_)
        refine Ops.step (One.storeN (vs := [_, _, _]) F7 0 rfl sz52 rfl rfl rfl (ev_t rfl) (ev_t rfl) rfl rfl rfl ?_)
        intro w8 F8
        change Fr _ _ [blk _ _ [_, _, _], _, _, blk _ _ [_, _, _, _, _]] _ at F8
        refine Ops.nil fun a hS => ?_
        have F9 := F8.pull 3 rfl
        have F10 := F9.pull 3 rfl
        have F11 := F10.pull 3 rfl
        have F12 := F11.pull 3 rfl
        have hst : stepK t.kind t.keys ix = ⟨true, t.keys[ix], 0⟩ := stepK_map hk hik
        exact hK10 () _ a (hS.sub ⟨rfl, rfl, rfl, rfl, rfl, trivial⟩) ⟨_, rfl, by rw [hst]; exact F12⟩
      · skip
        have hk : ¬ t.kind = 6 := by simpa using hc23
        refine Cod.skip fun a hS => ?_
        have F13 := F7.pull 3 rfl
        have F14 := F13.pull 3 rfl
        have F15 := F14.pull 3 rfl
        have F16 := F15.pull 3 rfl
        have hst : stepK t.kind t.keys ix = ⟨false, ⟨#[]⟩, (ix : Int)⟩ := stepK_row hk
        exact hK10 () _ a (hS.sub ⟨rfl, rfl, rfl, rfl, rfl, trivial⟩) ⟨_, rfl, by rw [hst]; exact F16⟩
    · skip
      intro i w9 hW
      obtain ⟨AA, hAA, F17⟩ := hW
      subst hAA
      have F18 := F17.drew
      refine Cod.draw (C_of ((F18.erase 2).erase 1)) (by kernel_rfl) ?_
      refine Hops.take 0 rfl (by kernel_rfl) (fun _ _ _ h => h) rfl rfl rfl ((F18.erase 2).erase 1) (fun w F => (yld_move rfl (ev_t rfl))) ?_
      refine Hops.take 1 rfl (by kernel_rfl) (fun _ _ _ h => h) rfl rfl rfl ((F18.erase 2).erase 1) (fun w F => (yld_field fi31_4 rfl (ev_t rfl))) ?_
      refine Hops.take 2 rfl (by kernel_rfl) (fun _ _ _ h => h) rfl rfl rfl ((F18.erase 2).erase 1) (fun w F => (yld_load1 on29 rfl (ev_t rfl) (fun _ => F.cell 1 rfl rfl))) ?_
      refine Hops.take 3 rfl (by kernel_rfl) (fun _ _ _ h => h) rfl rfl rfl ((F18.erase 2).erase 1) (fun w F => (yld_move rfl (ev_t rfl))) ?_
      refine Hops.take 4 rfl (by kernel_rfl) (fun _ _ _ h => h) rfl rfl rfl ((F18.erase 2).erase 1) (fun w F => (yld_indexN sl29 rfl (ev_t rfl) (ev_t rfl) (fun _ => by omega))) ?_
      refine Hops.take 5 rfl (by kernel_rfl) (fun _ _ _ h => h) rfl rfl rfl ((F18.erase 2).erase 1) (fun w F => (yld_loadN ag31 rfl (ev_t rfl) (fun _ => rng hrl F.chg) rfl)) ?_
      refine Hops.take 7 rfl (by kernel_rfl) (fun _ _ _ h => h) rfl rfl rfl ((F18.erase 2).erase 1) (fun w F => (yld_move rfl (ev_t rfl))) ?_
      refine Hops.take 9 rfl (by kernel_rfl) (fun _ _ _ h => h) rfl rfl rfl ((F18.erase 2).erase 1) (fun w F => (yld_loadN ag52 rfl (ev_t rfl) (fun _ => F.range (m := 3) (cs' := [_, _, _]) 0 rfl rfl) rfl)) ?_
      refine Hops.two 6 10 rfl rfl (by kernel_rfl) ?_ ?_
      · skip
        refine (One.buildNil pCells F18 sl46 rfl rfl rfl rfl ?_)
        intro b5 w10 hb5 F19
        refine ⟨((F19.erase 3).erase 2).drop1, ?_⟩
        refine Hops.two 8 10 rfl rfl (by kernel_rfl) ?_ ?_
        · skip
          refine (One.append (enc := pCells) p F19 0 rfl sl46 zero52 rfl rfl (fun _ => rfl) rfl rfl rfl rfl (ev_t rfl) (ev_t rfl) (hp.chg F19.chg) (fun _ _ => rfl) (by simp; omega) (by simp; omega) ?_)
          intro u2 w11 hu2 F20
          refine ⟨((F20.erase 3).erase 2).drop1, ?_⟩
          change Fr _ _ [_, blk _ _ [_, _, _], _, _, blk _ _ [_, _, _, _, _]] _ at F20
          refine Hops.one 10 rfl (by kernel_rfl) (One.buildSlice (cells := (pCells (stepK t.kind t.keys ix))) F20 sl46 zero52 rfl rfl rfl rfl (evp1 (ev_t rfl)) rfl rfl (by kernel_rfl) ?_)
          intro b6 w12 hb6 F21
          refine ⟨(((F21.erase 4).erase 3).erase 1).drop1, ?_⟩
          refine Hops.one 11 rfl (by kernel_rfl) (One.append (enc := pCells) [stepK t.kind t.keys ix] F21 1 rfl sl46 zero52 rfl rfl (fun _ => rfl) rfl rfl rfl rfl (ev_t rfl) (ev_t rfl) ((blk_rep (enc := pCells) (sz := 3) (xs := [stepK t.kind t.keys ix]) (fun _ => rfl) (by simpa using F21.get 0 rfl) (by simp) (by simp)).weak fun _ _ => trivial) (fun _ _ => rfl) (by simp; omega) (by simp; omega) ?_)
          intro u3 w13 hu3 F22
          refine ⟨(((F22.erase 4).erase 3).erase 1).drop1, ?_⟩
          change Fr _ _ [_, _, blk _ _ [_, _, _], _, _, blk _ _ [_, _, _, _, _]] _ at F22
          refine Hops.one 12 rfl (by kernel_rfl) (One.call rfl rfl rfl (ent_f rfl (evl2 (ev_t rfl) (ev_t rfl)) (enters en49)) (H' _ (List.getElem_mem hil) (p ++ [stepK t.kind t.keys ix]) _ _ _ (hrt.chg F22.chg) (okT_child hok (List.getElem_mem hil)) (ownP (F22.get 1 rfl)) (by simp; omega)) (fun e w14 hw14 => ?_))
          obtain ⟨v5, xs5, rfl, hl5, C14, hm5, hb5⟩ := hw14
          obtain ⟨A5, m5, c5, rfl⟩ := own_form (Mem.get 0 rfl hm5)
          have F23 := (F22.new C14 (bun (sepP _ (.slice A5 m5 c5) xs5)) hm5 hb5).bunOut
          change Fr _ _ (own 46 1 (.slice A5 m5 c5) xs5.length (xs5.flatMap vCells) :: bun (rowsP _ xs5) :: [_, _, _, _, _, _]) _ at F23
          refine ⟨_, rfl, ?_⟩
          refine ⟨(((((F23.erase 6).erase 5).erase 3).erase 2).erase 1).drop1, ?_⟩
          refine Hops.one 13 rfl (by kernel_rfl) (One.append (enc := vCells) xs5 F23 6 rfl sl27 zero46 rfl rfl (fun _ => rfl) rfl rfl rfl rfl (ev_t rfl) (ev_t rfl) ((own_rep (enc := vCells) (sz := 1) (fun _ => rfl) (F23.get 0 rfl)).weak fun _ _ => trivial) (rowsP_one (F23.get 1 rfl) hl5) (by rw [hxl, hl5, Tr.ways_len]; omega) (by rw [hxl, hl5, Tr.ways_len]; omega) ?_)
          intro u6 w15 hu6 F24
          refine ⟨(((((F24.erase 6).erase 5).erase 3).erase 2).erase 1).drop1, ?_⟩
          change Fr _ _ [_, _, _, _, blk _ _ [_, _, _], _, _, blk _ _ [_, _, _, _, _]] _ at F24
          refine Hops.one 14 rfl (by kernel_rfl) (One.val rfl rfl rfl (yld_assign rfl (ev_t rfl)) ?_)
          refine ⟨(((((F24.erase 6).erase 5).erase 3).erase 2).erase 1).drop1, ?_⟩
          refine Hops.nil (by kernel_rfl) fun a hS => ?_
          refine hK8 _ _ ?_ a hS
          refine Cod.region ?_
          refine Ops.step (One.val rfl rfl rfl (yld_move rfl (ev_t rfl)) ?_)
          refine Ops.step (One.val rfl rfl rfl (yld_inc rfl (ev_t rfl) (fun _ => by omega)) ?_)
          refine Ops.step (One.val rfl rfl rfl (yld_assign rfl (ev_t rfl)) ?_)
          refine Ops.nil fun a hS => ?_
          have F25 := F24.pull 7 rfl
          have F26 := F25.pull 7 rfl
          have F27 := F26.pull 7 rfl
          have F28 := F27.pull 4 rfl
          have F29 := F28.erase 4
          have F30 := F29.erase 4
          have F31 := F30.erase 4
          have F32 := F31.erase 4
          have hF3 := F32.bunApp
          rw [← rowsP_app _ _ hxl, ← wp_step t p ix hil] at hF3
          exact hK5 (ix + 1, xs ++ xs5, u6) _ a (hS.sub ⟨rfl, rfl, rfl, rfl, trivial⟩) ⟨by show ix + 1 ≤ _; omega, by show (xs ++ xs5).length = (wp t p (ix + 1)).length; rw [wp_step t p ix hil, List.length_append, List.length_append, hxl, hl5], hF3⟩ (by show t.list.length - (ix + 1) < t.list.length - ix; omega)
        · skip
          refine (One.buildSlice (cells := (pCells (stepK t.kind t.keys ix))) F19 sl46 zero52 rfl rfl rfl rfl (evp1 (ev_t rfl)) rfl rfl (by kernel_rfl) ?_)
          intro b7 w16 hb7 F33
          refine ⟨(((F33.erase 4).erase 3).erase 1).drop1, ?_⟩
          refine Hops.one 8 rfl (by kernel_rfl) (One.append (enc := pCells) p F33 1 rfl sl46 zero52 rfl rfl (fun _ => rfl) rfl rfl rfl rfl (ev_t rfl) (ev_t rfl) (hp.chg F33.chg) (fun _ _ => rfl) (by simp; omega) (by simp; omega) ?_)
          intro u2 w17 hu2 F34
          refine ⟨(((F34.erase 4).erase 3).erase 1).drop1, ?_⟩
          change Fr _ _ [_, _, blk _ _ [_, _, _], _, _, blk _ _ [_, _, _, _, _]] _ at F34
          refine Hops.one 11 rfl (by kernel_rfl) (One.append (enc := pCells) [stepK t.kind t.keys ix] F34 1 rfl sl46 zero52 rfl rfl (fun _ => rfl) rfl rfl rfl rfl (ev_t rfl) (ev_t rfl) ((blk_rep (enc := pCells) (sz := 3) (xs := [stepK t.kind t.keys ix]) (fun _ => rfl) (by simpa using F34.get 0 rfl) (by simp) (by simp)).weak fun _ _ => trivial) (fun _ _ => rfl) (by simp; omega) (by simp; omega) ?_)
          intro u3 w18 hu3 F35
          refine ⟨(((F35.erase 4).erase 3).erase 1).drop1, ?_⟩
          change Fr _ _ [_, _, blk _ _ [_, _, _], _, _, blk _ _ [_, _, _, _, _]] _ at F35
          refine Hops.one 12 rfl (by kernel_rfl) (One.call rfl rfl rfl (ent_f rfl (evl2 (ev_t rfl) (ev_t rfl)) (enters en49)) (H' _ (List.getElem_mem hil) (p ++ [stepK t.kind t.keys ix]) _ _ _ (hrt.chg F35.chg) (okT_child hok (List.getElem_mem hil)) (ownP (F35.get 1 rfl)) (by simp; omega)) (fun e w19 hw19 => ?_))
          obtain ⟨v5, xs5, rfl, hl5, C19, hm5, hb5⟩ := hw19
          obtain ⟨A5, m5, c5, rfl⟩ := own_form (Mem.get 0 rfl hm5)
          have F36 := (F35.new C19 (bun (sepP _ (.slice A5 m5 c5) xs5)) hm5 hb5).bunOut
          change Fr _ _ (own 46 1 (.slice A5 m5 c5) xs5.length (xs5.flatMap vCells) :: bun (rowsP _ xs5) :: [_, _, _, _, _, _]) _ at F36
          refine ⟨_, rfl, ?_⟩
          refine ⟨(((((F36.erase 6).erase 5).erase 3).erase 2).erase 1).drop1, ?_⟩
          refine Hops.one 13 rfl (by kernel_rfl) (One.append (enc := vCells) xs5 F36 6 rfl sl27 zero46 rfl rfl (fun _ => rfl) rfl rfl rfl rfl (ev_t rfl) (ev_t rfl) ((own_rep (enc := vCells) (sz := 1) (fun _ => rfl) (F36.get 0 rfl)).weak fun _ _ => trivial) (rowsP_one (F36.get 1 rfl) hl5) (by rw [hxl, hl5, Tr.ways_len]; omega) (by rw [hxl, hl5, Tr.ways_len]; omega) ?_)
          intro u6 w20 hu6 F37
          refine ⟨(((((F37.erase 6).erase 5).erase 3).erase 2).erase 1).drop1, ?_⟩
          change Fr _ _ [_, _, _, _, blk _ _ [_, _, _], _, _, blk _ _ [_, _, _, _, _]] _ at F37
          refine Hops.one 14 rfl (by kernel_rfl) (One.val rfl rfl rfl (yld_assign rfl (ev_t rfl)) ?_)
          refine ⟨(((((F37.erase 6).erase 5).erase 3).erase 2).erase 1).drop1, ?_⟩
          refine Hops.nil (by kernel_rfl) fun a hS => ?_
          refine hK8 _ _ ?_ a hS
          refine Cod.region ?_
          refine Ops.step (One.val rfl rfl rfl (yld_move rfl (ev_t rfl)) ?_)
          refine Ops.step (One.val rfl rfl rfl (yld_inc rfl (ev_t rfl) (fun _ => by omega)) ?_)
          refine Ops.step (One.val rfl rfl rfl (yld_assign rfl (ev_t rfl)) ?_)
          refine Ops.nil fun a hS => ?_
          have F38 := F37.pull 7 rfl
          have F39 := F38.pull 7 rfl
          have F40 := F39.pull 7 rfl
          have F41 := F40.pull 4 rfl
          have F42 := F41.erase 4
          have F43 := F42.erase 4
          have F44 := F43.erase 4
          have F45 := F44.erase 4
          have hF3 := F45.bunApp
          rw [← rowsP_app _ _ hxl, ← wp_step t p ix hil] at hF3
          exact hK5 (ix + 1, xs ++ xs5, u6) _ a (hS.sub ⟨rfl, rfl, rfl, rfl, trivial⟩) ⟨by show ix + 1 ≤ _; omega, by show (xs ++ xs5).length = (wp t p (ix + 1)).length; rw [wp_step t p ix hil, List.length_append, List.length_append, hxl, hl5], hF3⟩ (by show t.list.length - (ix + 1) < t.list.length - ix; omega)
      · skip
        refine (One.buildSlice (cells := (pCells (stepK t.kind t.keys ix))) F18 sl46 zero52 rfl rfl rfl rfl (evp1 (ev_t rfl)) rfl rfl (by kernel_rfl) ?_)
        intro b8 w21 hb8 F46
        refine ⟨((F46.erase 3).erase 2).drop1, ?_⟩
        refine Hops.one 6 rfl (by kernel_rfl) (One.buildNil pCells F46 sl46 rfl rfl rfl rfl ?_)
        intro b9 w22 hb9 F47
        refine ⟨(((F47.erase 4).erase 3).erase 1).drop1, ?_⟩
        refine Hops.one 8 rfl (by kernel_rfl) (One.append (enc := pCells) p F47 0 rfl sl46 zero52 rfl rfl (fun _ => rfl) rfl rfl rfl rfl (ev_t rfl) (ev_t rfl) (hp.chg F47.chg) (fun _ _ => rfl) (by simp; omega) (by simp; omega) ?_)
        intro u2 w23 hu2 F48
        refine ⟨(((F48.erase 4).erase 3).erase 1).drop1, ?_⟩
        change Fr _ _ [_, _, blk _ _ [_, _, _], _, _, blk _ _ [_, _, _, _, _]] _ at F48
        refine Hops.one 11 rfl (by kernel_rfl) (One.append (enc := pCells) [stepK t.kind t.keys ix] F48 0 rfl sl46 zero52 rfl rfl (fun _ => rfl) rfl rfl rfl rfl (ev_t rfl) (ev_t rfl) ((blk_rep (enc := pCells) (sz := 3) (xs := [stepK t.kind t.keys ix]) (fun _ => rfl) (by simpa using F48.get 1 rfl) (by simp) (by simp)).weak fun _ _ => trivial) (fun _ _ => rfl) (by simp; omega) (by simp; omega) ?_)
        intro u3 w24 hu3 F49
        refine ⟨(((F49.erase 4).erase 3).erase 1).drop1, ?_⟩
        change Fr _ _ [_, _, blk _ _ [_, _, _], _, _, blk _ _ [_, _, _, _, _]] _ at F49
        refine Hops.one 12 rfl (by kernel_rfl) (One.call rfl rfl rfl (ent_f rfl (evl2 (ev_t rfl) (ev_t rfl)) (enters en49)) (H' _ (List.getElem_mem hil) (p ++ [stepK t.kind t.keys ix]) _ _ _ (hrt.chg F49.chg) (okT_child hok (List.getElem_mem hil)) (ownP (F49.get 0 rfl)) (by simp; omega)) (fun e w25 hw25 => ?_))
        obtain ⟨v5, xs5, rfl, hl5, C25, hm5, hb5⟩ := hw25
        obtain ⟨A5, m5, c5, rfl⟩ := own_form (Mem.get 0 rfl hm5)
        have F50 := (F49.new C25 (bun (sepP _ (.slice A5 m5 c5) xs5)) hm5 hb5).bunOut
        change Fr _ _ (own 46 1 (.slice A5 m5 c5) xs5.length (xs5.flatMap vCells) :: bun (rowsP _ xs5) :: [_, _, _, _, _, _]) _ at F50
        refine ⟨_, rfl, ?_⟩
        refine ⟨(((((F50.erase 6).erase 5).erase 3).erase 2).erase 1).drop1, ?_⟩
        refine Hops.one 13 rfl (by kernel_rfl) (One.append (enc := vCells) xs5 F50 6 rfl sl27 zero46 rfl rfl (fun _ => rfl) rfl rfl rfl rfl (ev_t rfl) (ev_t rfl) ((own_rep (enc := vCells) (sz := 1) (fun _ => rfl) (F50.get 0 rfl)).weak fun _ _ => trivial) (rowsP_one (F50.get 1 rfl) hl5) (by rw [hxl, hl5, Tr.ways_len]; omega) (by rw [hxl, hl5, Tr.ways_len]; omega) ?_)
        intro u6 w26 hu6 F51
        refine ⟨(((((F51.erase 6).erase 5).erase 3).erase 2).erase 1).drop1, ?_⟩
        change Fr _ _ [_, _, _, _, blk _ _ [_, _, _], _, _, blk _ _ [_, _, _, _, _]] _ at F51
        refine Hops.one 14 rfl (by kernel_rfl) (One.val rfl rfl rfl (yld_assign rfl (ev_t rfl)) ?_)
        refine ⟨(((((F51.erase 6).erase 5).erase 3).erase 2).erase 1).drop1, ?_⟩
        refine Hops.nil (by kernel_rfl) fun a hS => ?_
        refine hK8 _ _ ?_ a hS
        refine Cod.region ?_
        refine Ops.step (One.val rfl rfl rfl (yld_move rfl (ev_t rfl)) ?_)
        refine Ops.step (One.val rfl rfl rfl (yld_inc rfl (ev_t rfl) (fun _ => by omega)) ?_)
        refine Ops.step (One.val rfl rfl rfl (yld_assign rfl (ev_t rfl)) ?_)
        refine Ops.nil fun a hS => ?_
        have F52 := F51.pull 7 rfl
        have F53 := F52.pull 7 rfl
        have F54 := F53.pull 7 rfl
        have F55 := F54.pull 4 rfl
        have F56 := F55.erase 4
        have F57 := F56.erase 4
        have F58 := F57.erase 4
        have F59 := F58.erase 4
        have hF3 := F59.bunApp
        rw [← rowsP_app _ _ hxl, ← wp_step t p ix hil] at hF3
        exact hK5 (ix + 1, xs ++ xs5, u6) _ a (hS.sub ⟨rfl, rfl, rfl, rfl, trivial⟩) ⟨by show ix + 1 ≤ _; omega, by show (xs ++ xs5).length = (wp t p (ix + 1)).length; rw [wp_step t p ix hil, List.length_append, List.length_append, hxl, hl5], hF3⟩ (by show t.list.length - (ix + 1) < t.list.length - ix; omega)
  · skip
    have hix : ix = t.list.length := by simp at hc16; omega
    subst hix
    rw [wp_end] at F5 hxl
    refine Cod.exit fun a hS => ?_
    simp only [Exit.then, Exit.inBlock, ↓reduceIte]
    refine hK3 _ _ ?_ a hS
    refine Cod.seq fun K12 hK12 => ?_
    refine Cod.region ?_
    refine Ops.step (One.val rfl rfl rfl (yld_move rfl (ev_t rfl)) ?_)
    refine Ops.step (One.val rfl rfl rfl (yld_assign rfl (ev_t rfl)) ?_)
    refine Ops.nil fun a hS => ?_
    refine hK12 _ _ ?_ a hS
    refine Cod.ret fun a hS => ?_
    try simp only [Exit.then, Exit.inBlock]
    have hF3 := (F5.pull 1 rfl).bunTwo
    exact ret1 (t := 4) rfl hS rfl ⟨ov, xs, rfl, hxl, hF3.chg, hF3.get 0 rfl, fun b hb => (hF3.dom _ (List.mem_of_getElem? (i := 0) rfl) b hb).resolve_left id⟩


theorem l3All_ct (t : Tr) : WaysOk t := Tr.ind (p := WaysOk) l3All_of t
/-- Ways that are added to a row that the call owns. -/
def AddPP (S : Res) (w : World) (l : List (List Stp)) (e : Ending) (w' : World) : Prop := ∃ v xs, e = .returned v ∧ xs.length = l.length ∧ Chg S.fp w w' ∧ (bun (sepP l v xs)).is w' ∧ ∀ k, (bun (sepP l v xs)).fp k → S.fp k ∨ w.heap.size ≤ k
def IWaysOk (t : Tr) : Prop := ∀ (p : List Stp) (l : List (List Stp)) (v pv ov : Value) (xs : List Value) (w : World), (bun (sepP l ov xs)).is w → xs.length = l.length → Rep (fun k => ¬ (bun (sepP l ov xs)).fp k) w t v → okT t = true → RepP (fun k => ¬ (bun (sepP l ov xs)).fp k) w p pv → p.length + t.cnt ≤ 1000 → l.length + t.cnt ≤ 1000 →
    Calls Try.prog 52 #[v, pv, ov] w (AddPP (bun (sepP l ov xs)) w (l ++ t.ways p))

set_option maxRecDepth 100000 in
theorem ways_of (k n : Int) (s : ByteArray) (ks : List ByteArray) (l : List Tr) (H : ∀ t ∈ l, IWaysOk t) : IWaysOk (.mk k n s ks l) := by
  intro p ll v pv ov xs0 w hm hxl0 hr hok hp hcn hln
  obtain ⟨t, ht⟩ : ∃ t, t = Tr.mk k n s ks l := ⟨_, rfl⟩
  have H' : ∀ x ∈ t.list, IWaysOk x := by rw [ht]; exact H
  rw [← ht] at hr hok hcn hln ⊢
  clear ht H
  obtain ⟨X, hX⟩ : ∃ X : Nat → Prop, X = (bun (sepP ll ov xs0)).fp := ⟨_, rfl⟩
  have hrB := hr.both
  have hpB := hp.both fun x => by simp [pCells]
  rw [← hX] at hr hp hrB hpB
  obtain ⟨v3, v4, ev, h3, h4⟩ := hr.form
  subst ev
  obtain ⟨A3, c3, rfl, hn3⟩ := h3.open
  obtain ⟨A4, c4, rfl, hn4⟩ := h4.open
  obtain ⟨Ap, cp, rfl, hnp⟩ := hp.open
  have hcp : 1 ≤ t.cnt := by have := wp_len t p 0; rw [wp_zero] at this; simpa using this
  have hkl : t.kind = 6 → t.keys.length = t.list.length := okT_len hok
  have hF : Fr X w [bun (sepP ll ov xs0)] w := by rw [hX]; exact Fr.lend _ hm
  refine enter Try.func52 rfl rfl rfl ?_
  have F0 := hF.bunOut
  change Fr X w [own 46 1 ov xs0.length (xs0.flatMap vCells), bun (rowsP ll xs0)] w at F0
  refine Cod.seq fun K1 hK1 => ?_
  refine Cod.region ?_
  refine Ops.step (One.box F0 rfl rfl rfl rfl (ev_t rfl) ?_)
  intro b1 w1 hb1 F1
  change Fr _ _ [blk _ _ [_, _, _, _, _], _, _] _ at F1
  refine Ops.step (One.val rfl rfl rfl (yld_assign rfl ev_c) ?_)
  refine Ops.nil fun a hS => ?_
  refine hK1 _ _ ?_ a hS
  refine Cod.seq fun K2 hK2 => ?_
  refine Cod.region ?_
  refine Ops.step (One.val rfl rfl rfl (yld_move rfl (ev_t rfl)) ?_)
  refine Ops.step (One.buildNil pCells F1 sl46 rfl rfl rfl rfl ?_)
  intro b2 w2 hb2 F2
  refine Ops.step (One.val rfl rfl rfl (yld_move rfl (ev_t rfl)) ?_)
  refine Ops.step (One.append (enc := pCells) p F2 0 rfl sl46 zero52 rfl rfl (fun _ => rfl) rfl rfl rfl rfl (ev_t rfl) (ev_t rfl) ((hp.keepX F2.chg fun _ _ h => h).weak fun _ _ => trivial) (fun _ _ => rfl) (by simp; omega) (by simp; omega) ?_)
  intro u1 w3 hu1 F3
  change Fr _ _ [_, blk _ _ [_, _, _, _, _], _, _] _ at F3
  obtain ⟨Au, mu, cu, hu1e⟩ := own_form (F3.get 0 rfl)
  subst hu1e
  refine Ops.step (One.buildSlice (cells := (vCells (.slice Au mu cu))) F3 sl27 zero46 rfl rfl rfl rfl (evp1 (ev_t rfl)) rfl rfl (by kernel_rfl) ?_)
  intro b3 w4 hb3 F4
  refine Ops.step (One.append (enc := vCells) [.slice Au mu cu] F4 3 rfl sl27 zero46 rfl rfl (fun _ => rfl) rfl rfl rfl rfl (ev_t rfl) (ev_t rfl) ((blk_rep (enc := vCells) (sz := 1) (xs := [.slice Au mu cu]) (fun _ => rfl) (by simpa using F4.get 0 rfl) (by simp) (by simp)).weak fun _ _ => trivial) (fun y hy => by simp at hy; subst hy; rfl) (by simp; omega) (by simp; omega) ?_)
  intro u2 w5 hu2 F5
  change Fr _ _ [_, _, blk _ _ [_, _, _, _, _], _, _] _ at F5
  refine Ops.step (One.val rfl rfl rfl (yld_assign rfl (ev_t rfl)) ?_)
  refine Ops.nil fun a hS => ?_
  refine hK2 _ _ ?_ a hS
  refine Cod.seq fun K3 hK3 => ?_
  refine Cod.seq fun K4 hK4 => ?_
  refine Cod.region ?_
  refine Ops.step (One.val rfl rfl rfl (yld_field fi31_4 rfl (ev_t rfl)) ?_)
  refine Ops.step (One.val rfl rfl rfl (yld_load1 on29 rfl (ev_t rfl) (fun _ => F5.cell 2 rfl rfl)) ?_)
  refine Ops.step (One.val rfl rfl rfl (yld_len sl29 rfl (ev_t rfl)) ?_)
  refine Ops.step (One.val rfl rfl rfl (yld_move rfl ev_c) ?_)
  refine Ops.nil fun a hS => ?_
  refine hK4 _ _ ?_ a hS
  refine Cod.block ?_
  skip
  have F6 := F5.pull 2 rfl
  have F7 := F6.pull 3 rfl
  have F8 := F7.pull 4 rfl
  have F9 := F8.pull 4 rfl
  have F10 := F9.erase 4
  refine Cod.loop (fun i : Nat × List Value × Value => [(1, true, .slice Ap p.length cp), (2, true, i.2.2), (3, true, .pointer (some ⟨b1, 0, none⟩)), (16, true, .slice A4 t.list.length c4), (17, true, .int .i64 (t.list.length : Int)), (18, true, .int .i64 (i.1 : Int))]) (fun i w' => i.1 ≤ t.list.length ∧ i.2.1.length = (ll ++ wp t p i.1).length ∧ Fr X w [bun (sepP (ll ++ wp t p i.1) i.2.2 i.2.1), blk b1 31 [.int .i64 t.kind, .int .i64 t.num, .string t.str, .slice A3 t.keys.length c3, .slice A4 t.list.length c4]] w') (fun i => t.list.length - i.1) (0, xs0 ++ [.slice Au mu cu], u2) ⟨rfl, rfl, rfl, rfl, rfl, rfl, trivial⟩ ⟨Nat.zero_le _, by rw [wp_zero]; simp [hxl0], by rw [wp_zero]; exact (by have h : Fr X w (bun (rowsP ll xs0 ++ rowsP [p] [.slice Au mu cu]) :: own 46 1 u2 (xs0 ++ [Value.slice Au mu cu]).length ((xs0 ++ [Value.slice Au mu cu]).flatMap vCells) :: blk b1 31 [.int .i64 t.kind, .int .i64 t.num, .string t.str, .slice A3 t.keys.length c3, .slice A4 t.list.length c4] :: []) _ := F10.bunPut; rw [← rowsP_app _ _ hxl0] at h; exact (h.pull 1 rfl).bunTwo)⟩ ?_
  intro i w6 hW K5 hK5
  obtain ⟨ix, xs, ov2⟩ := i
  obtain ⟨hi, hxl, F11⟩ := hW
  dsimp only at *
  have hwl := wp_len t p ix
  refine Cod.seq fun K6 hK6 => ?_
  refine Cod.region ?_
  refine Ops.step (One.val rfl rfl rfl (yld_lss rfl (ev_t rfl) (ev_t rfl)) ?_)
  refine Ops.nil fun a hS => ?_
  refine hK6 _ _ ?_ a hS
  refine Cod.seq fun K7 hK7 => ?_
  refine Cod.cond rfl (fun hc19 => ?_) (fun hc19 => ?_)
  · skip
    have hil : ix < t.list.length := by simpa using hc19
    obtain ⟨b, o, cs, rfl, hbX, hlc, hrl, hrt⟩ := h4.at ix hil
    obtain ⟨ca, cb, cc, cd, ce, rfl⟩ := five hlc
    have hcc := cnt_child hil
    have hw2 : (wp t p ix).length + t.list[ix].cnt ≤ t.cnt := by have h := wp_len t p (ix + 1); rw [wp_step t p ix hil, List.length_append, Tr.ways_len] at h; exact h
    have happ : ll ++ wp t p ix ++ t.list[ix].ways (p ++ [stepK t.kind t.keys ix]) = ll ++ wp t p (ix + 1) := by rw [wp_step t p ix hil, List.append_assoc]
    refine Cod.skip fun a hS => ?_
    refine hK7 _ _ ?_ a hS
    refine Cod.seq fun K8 hK8 => ?_
    refine Cod.block ?_
    refine Cod.seq fun K9 hK9 => ?_
    refine Cod.region ?_
    refine Ops.step (One.val rfl rfl rfl (yld_move rfl (ev_t rfl)) ?_)
    refine Ops.step (One.val rfl rfl rfl (yld_indexN sl29 rfl (ev_t rfl) (ev_t rfl) (fun _ => by omega)) ?_)
    refine Ops.step (One.val rfl rfl rfl (yld_loadN ag31 rfl (ev_t rfl) (fun _ => rng_chg hrl F11.chg hbX) rfl) ?_)
    refine Ops.step (One.alloc F11 zero31 rfl rfl rfl rfl ?_)
    intro b4 w7 hb4 F12
    change Fr _ _ [blk _ _ [_, _, _, _, _], _, blk _ _ [_, _, _, _, _]] _ at F12
    refine Ops.step (One.val rfl rfl rfl (yld_assign rfl (ev_t rfl)) ?_)
    refine Ops.step (One.storeN (vs := [_, _, _, _, _]) F12 0 rfl sz31 rfl rfl rfl (ev_t rfl) (ev_t rfl) rfl rfl (hrt.one) ?_)
    intro w8 F13
    change Fr _ _ [blk _ _ [_, _, _, _, _], _, blk _ _ [_, _, _, _, _]] _ at F13
    refine Ops.nil fun a hS => ?_
    refine hK9 _ _ ?_ a hS
    have F14 := F13.drew
    refine Cod.draw (C_of (F14.erase 1)) (by kernel_rfl) ?_
    refine Hops.take 0 rfl (by kernel_rfl) (fun _ _ _ h => h) rfl rfl rfl (F14.erase 1) (fun w F => (yld_loadN ag31 rfl (ev_t rfl) (fun _ => F.range (m := 5) (cs' := [_, _, _, _, _]) 0 rfl rfl) rfl)) ?_
    refine Hops.take 1 rfl (by kernel_rfl) (fun _ _ _ h => h) rfl rfl rfl (F14.erase 1) (fun w F => (yld_move rfl (ev_t rfl))) ?_
    refine Hops.take 2 rfl (by kernel_rfl) (fun _ _ _ h => h) rfl rfl rfl (F14.erase 1) (fun w F => (yld_loadN ag31 rfl (ev_t rfl) (fun _ => F.range (m := 5) (cs' := [_, _, _, _, _]) 1 rfl rfl) rfl)) ?_
    refine Hops.take 3 rfl (by kernel_rfl) (fun _ _ _ h => h) rfl rfl rfl (F14.erase 1) (fun w F => (yld_move rfl (ev_t rfl))) ?_
    refine Hops.take 6 rfl (by kernel_rfl) (fun _ _ _ h => h) rfl rfl rfl (F14.erase 1) (fun w F => (yld_move rfl (ev_t rfl))) ?_
    refine Hops.one 4 rfl (by kernel_rfl) (One.call rfl rfl rfl (ent_f rfl (evl2 (ev_t rfl) (ev_t rfl)) (enters en110)) (stepTo_ct t ix _ _ ((hr.keepX F14.chg fun _ _ h => h).weak fun _ _ => trivial) hil hkl) (fun e w9 hw9 => ?_))
    obtain ⟨rfl, C9⟩ := hw9
    have F15 := F14.call C9
    refine ⟨_, rfl, ?_⟩
    refine ⟨(F15.erase 1), ?_⟩
    refine Hops.one 5 rfl (by kernel_rfl) (One.call rfl rfl rfl (ent_f rfl (evl2 (ev_t rfl) (ev_t rfl)) (enters en109)) (further_ct p (stepK t.kind t.keys ix) _ _ ((hp.keepX F15.chg fun _ _ h => h).weak fun _ _ => trivial) (by omega)) (fun e w10 hw10 => ?_))
    obtain ⟨u3, rfl, C10, ho3, hb3⟩ := hw10
    have F16 := F15.new C10 (rowP (p ++ [stepK t.kind t.keys ix]) u3) ho3 hb3
    refine ⟨_, rfl, ?_⟩
    refine ⟨(F16.erase 2).drop1, ?_⟩
    refine Hops.one 7 rfl (by kernel_rfl) (One.call rfl rfl rfl (ent_f rfl (evl3 (ev_t rfl) (ev_t rfl) (ev_t rfl)) (enters en52)) (H' _ (List.getElem_mem hil) (p ++ [stepK t.kind t.keys ix]) (ll ++ wp t p ix) _ _ _ xs _ (F16.get 2 rfl) hxl (((hrt.both.weak (G := fun k => ¬ X k ∧ k < w.heap.size) fun _ h => h).keepX F16.chg fun _ _ h => h.1).weak fun k h hk => (F16.dom _ (List.mem_of_getElem? (i := 2) rfl) k hk).elim h.1 fun h2 => by omega) (okT_child hok (List.getElem_mem hil)) ((own_rep (enc := pCells) (sz := 3) (fun _ => rfl) (F16.get 0 rfl)).weak fun k hk hk2 => F16.apt 0 2 rfl rfl (by decide) k hk hk2) (by simp; omega) (by rw [List.length_append]; omega)) (fun e w11 hw11 => ?_))
    obtain ⟨v5, xs5, rfl, hl5, C11, hm5, hb5⟩ := hw11
    have F17 := F16.upd 2 rfl C11 (fun _ hk => .inl hk) (bun (sepP _ v5 xs5)) hm5 hb5
    change Fr _ _ [_, _, _, _] _ at F17
    refine ⟨_, rfl, ?_⟩
    refine ⟨(F17.erase 2).drop1, ?_⟩
    refine Hops.one 8 rfl (by kernel_rfl) (One.val rfl rfl rfl (yld_assign rfl (ev_t rfl)) ?_)
    refine ⟨(F17.erase 2).drop1, ?_⟩
    refine Hops.nil (by kernel_rfl) fun a hS => ?_
    refine hK8 _ _ ?_ a hS
    refine Cod.region ?_
    refine Ops.step (One.val rfl rfl rfl (yld_inc rfl (ev_t rfl) (fun _ => by omega)) ?_)
    refine Ops.step (One.val rfl rfl rfl (yld_move rfl (ev_t rfl)) ?_)
    refine Ops.nil fun a hS => ?_
    have F18 := F17.pull 3 rfl
    have F19 := F18.pull 3 rfl
    have F20 := F19.erase 2
    have F21 := F20.erase 2
    exact hK5 (ix + 1, xs5, v5) _ a (hS.sub ⟨rfl, rfl, rfl, rfl, rfl, rfl, trivial⟩) ⟨by show ix + 1 ≤ _; omega, by rw [happ] at hl5; exact hl5, by rw [happ] at F21; exact F21⟩ (by show t.list.length - (ix + 1) < t.list.length - ix; omega)
  · skip
    have hix : ix = t.list.length := by simp at hc19; omega
    subst hix
    rw [wp_end] at F11 hxl
    refine Cod.exit fun a hS => ?_
    simp only [Exit.then, Exit.inBlock, ↓reduceIte]
    refine hK3 _ _ ?_ a hS
    refine Cod.seq fun K10 hK10 => ?_
    refine Cod.region ?_
    refine Ops.step (One.val rfl rfl rfl (yld_move rfl (ev_t rfl)) ?_)
    refine Ops.step (One.val rfl rfl rfl (yld_assign rfl (ev_t rfl)) ?_)
    refine Ops.nil fun a hS => ?_
    refine hK10 _ _ ?_ a hS
    refine Cod.ret fun a hS => ?_
    try simp only [Exit.then, Exit.inBlock]
    exact ret1 (t := 6) rfl hS rfl ⟨ov2, xs, rfl, hxl, by rw [← hX]; exact F11.chg, F11.get 0 rfl, fun b hb => by rw [← hX]; exact F11.dom _ (List.mem_of_getElem? (i := 0) rfl) b hb⟩


theorem ways_ct (t : Tr) : IWaysOk t := Tr.ind (p := IWaysOk) ways_of t

set_option maxRecDepth 100000 in
theorem specAll_ct (t : Tr) (v : Value) (w : World) (hr : Rep Any w t v) (hf : t.Fit) (hw : t.wt ≤ 1048576) : Calls Try.prog 11 #[v] w (NewPP w (waysR t)) := by
  obtain ⟨v3, v4, ev, h3, h4⟩ := hr.form
  subst ev
  refine enter Try.func11 rfl rfl rfl ?_
  have F0 := Fr.start w
  refine Cod.seq fun K1 hK1 => ?_
  refine Cod.region ?_
  refine Ops.step (One.box F0 rfl rfl rfl rfl (ev_t rfl) ?_)
  intro b1 w1 hb1 F1
  change Fr _ _ [blk _ _ [_, _, _, _, _]] _ at F1
  refine Ops.step (One.val rfl rfl rfl (yld_assign rfl ev_c) ?_)
  refine Ops.nil fun a hS => ?_
  refine hK1 _ _ ?_ a hS
  refine Cod.seq fun K2 hK2 => ?_
  refine Cod.seq fun K3 hK3 => ?_
  refine Cod.region ?_
  refine Ops.step (One.val rfl rfl rfl (yld_loadN ag31 rfl (ev_t rfl) (fun _ => F1.range (m := 5) (cs' := [_, _, _, _, _]) 0 rfl rfl) rfl) ?_)
  refine Ops.step (One.call rfl rfl rfl (ent_f rfl (evl1 (ev_t rfl)) (enters en42)) (specOk_ct t _ _ (hr.chg F1.chg) hf hw) (fun e w2 hw2 => ?_))
  obtain ⟨rfl, C2⟩ := hw2
  have F2 := F1.call C2
  refine ⟨_, rfl, ?_⟩
  refine Ops.step (One.val rfl rfl rfl (yld_not rfl (ev_t rfl)) ?_)
  refine Ops.nil fun a hS => ?_
  refine hK3 _ _ ?_ a hS
  refine Cod.cond rfl (fun hc5 => ?_) (fun hc5 => ?_)
  · skip
    have hno : waysR t = [] := by
      have hc : (!(okT t)) = true := hc5
      unfold waysR
      rw [if_neg]
      intro h
      rw [h] at hc
      simp at hc
    refine Cod.seq fun K4 hK4 => ?_
    refine Cod.region ?_
    refine Ops.step (One.buildNil vCells F2 sl27 rfl rfl rfl rfl ?_)
    intro b2 w3 hb2 F3
    refine Ops.step (One.val rfl rfl rfl (yld_assign rfl (ev_t rfl)) ?_)
    refine Ops.nil fun a hS => ?_
    refine hK4 _ _ ?_ a hS
    refine Cod.ret fun a hS => ?_
    try simp only [Exit.then, Exit.inBlock]
    have hF3 := F3.bunNil.pull 1 rfl |>.bunTwo
    exact ret1 (t := 2) rfl hS rfl ⟨_, [], rfl, by rw [hno]; rfl, hF3.chg, by rw [hno]; exact hF3.get 0 rfl, fun b hb => (hF3.dom _ (List.mem_of_getElem? (i := 0) rfl) b (by rw [hno] at hb; exact hb)).resolve_left id⟩
  · skip
    have hok : okT t = true := by
      have hc : (!(okT t)) = false := hc5
      cases h1 : okT t <;> simp [h1] at hc ⊢
    have hyes : waysR t = t.ways [] := by unfold waysR; rw [if_pos hok]
    have hcn : (t.cnt : Int) ≤ 60 := (okT_node hok).2
    refine Cod.skip fun a hS => ?_
    refine hK2 _ _ ?_ a hS
    refine Cod.seq fun K5 hK5 => ?_
    refine Cod.region ?_
    refine Ops.step (One.val rfl rfl rfl (yld_loadN ag31 rfl (ev_t rfl) (fun _ => F2.range (m := 5) (cs' := [_, _, _, _, _]) 0 rfl rfl) rfl) ?_)
    refine Ops.step (One.call rfl rfl rfl (ent_f rfl (evl2 (ev_t rfl) ev_c) (enters en49)) (l3All_ct t [] _ _ _ (hr.chg F2.chg) hok (RepE.nil _ _) (by show 0 + _ ≤ _; omega)) (fun e w4 hw4 => ?_))
    obtain ⟨v5, xs5, rfl, hl5, C4, hm5, hb5⟩ := hw4
    have F4 := F2.new C4 (bun (sepP _ v5 xs5)) hm5 hb5
    refine ⟨_, rfl, ?_⟩
    refine Ops.step (One.val rfl rfl rfl (yld_assign rfl (ev_t rfl)) ?_)
    refine Ops.nil fun a hS => ?_
    refine hK5 _ _ ?_ a hS
    refine Cod.ret fun a hS => ?_
    try simp only [Exit.then, Exit.inBlock]
    exact ret1 (t := 2) rfl hS rfl ⟨v5, xs5, rfl, by rw [hyes]; exact hl5, F4.chg, by rw [hyes]; exact F4.get 0 rfl, fun b hb => (F4.dom _ (List.mem_of_getElem? (i := 0) rfl) b (by rw [hyes] at hb; exact hb)).resolve_left id⟩

set_option maxRecDepth 100000 in
theorem all_ct (t : Tr) (v : Value) (w : World) (hr : Rep Any w t v) (hf : t.Fit) (hw : t.wt ≤ 1048576) : Calls Try.prog 13 #[v] w (NewPP w (waysR t)) := by
  obtain ⟨v3, v4, ev, h3, h4⟩ := hr.form
  subst ev
  refine enter Try.func13 rfl rfl rfl ?_
  have F0 := Fr.start w
  refine Cod.seq fun K1 hK1 => ?_
  refine Cod.region ?_
  refine Ops.step (One.box F0 rfl rfl rfl rfl (ev_t rfl) ?_)
  intro b1 w1 hb1 F1
  change Fr _ _ [blk _ _ [_, _, _, _, _]] _ at F1
  refine Ops.step (One.val rfl rfl rfl (yld_assign rfl ev_c) ?_)
  refine Ops.nil fun a hS => ?_
  refine hK1 _ _ ?_ a hS
  refine Cod.seq fun K2 hK2 => ?_
  refine Cod.seq fun K3 hK3 => ?_
  refine Cod.region ?_
  refine Ops.step (One.val rfl rfl rfl (yld_loadN ag31 rfl (ev_t rfl) (fun _ => F1.range (m := 5) (cs' := [_, _, _, _, _]) 0 rfl rfl) rfl) ?_)
  refine Ops.step (One.call rfl rfl rfl (ent_f rfl (evl1 (ev_t rfl)) (enters en43)) (valOk_ct t _ _ (hr.chg F1.chg) hf) (fun e w2 hw2 => ?_))
  obtain ⟨rfl, C2⟩ := hw2
  have F2 := F1.call C2
  refine ⟨_, rfl, ?_⟩
  refine Ops.step (One.val rfl rfl rfl (yld_not rfl (ev_t rfl)) ?_)
  refine Ops.nil fun a hS => ?_
  refine hK3 _ _ ?_ a hS
  refine Cod.cond rfl (fun hc5 => ?_) (fun hc5 => ?_)
  · skip
    have hno : waysR t = [] := by
      have hc : (!(okT t)) = true := hc5
      unfold waysR
      rw [if_neg]
      intro h
      rw [h] at hc
      simp at hc
    refine Cod.seq fun K4 hK4 => ?_
    refine Cod.region ?_
    refine Ops.step (One.buildNil vCells F2 sl27 rfl rfl rfl rfl ?_)
    intro b2 w3 hb2 F3
    refine Ops.step (One.val rfl rfl rfl (yld_assign rfl (ev_t rfl)) ?_)
    refine Ops.nil fun a hS => ?_
    refine hK4 _ _ ?_ a hS
    refine Cod.ret fun a hS => ?_
    try simp only [Exit.then, Exit.inBlock]
    have hF3 := F3.bunNil.pull 1 rfl |>.bunTwo
    exact ret1 (t := 2) rfl hS rfl ⟨_, [], rfl, by rw [hno]; rfl, hF3.chg, by rw [hno]; exact hF3.get 0 rfl, fun b hb => (hF3.dom _ (List.mem_of_getElem? (i := 0) rfl) b (by rw [hno] at hb; exact hb)).resolve_left id⟩
  · skip
    have hok : okT t = true := by
      have hc : (!(okT t)) = false := hc5
      cases h1 : okT t <;> simp [h1] at hc ⊢
    have hyes : waysR t = t.ways [] := by unfold waysR; rw [if_pos hok]
    have hcn : (t.cnt : Int) ≤ 60 := (okT_node hok).2
    refine Cod.skip fun a hS => ?_
    refine hK2 _ _ ?_ a hS
    refine Cod.seq fun K5 hK5 => ?_
    refine Cod.region ?_
    refine Ops.step (One.val rfl rfl rfl (yld_loadN ag31 rfl (ev_t rfl) (fun _ => F2.range (m := 5) (cs' := [_, _, _, _, _]) 0 rfl rfl) rfl) ?_)
    refine Ops.step (One.buildNil vCells F2 sl27 rfl rfl rfl rfl ?_)
    intro b3 w4 hb3 F4
    have hF4 := F4.bunNil.pull 1 rfl |>.bunTwo
    refine Ops.step (One.call rfl rfl rfl (ent_f rfl (evl3 (ev_t rfl) ev_c (ev_t rfl)) (enters en52)) (ways_ct t [] [] _ _ _ [] _ (hF4.get 0 rfl) rfl (((hr.old.keepX F4.chg fun _ _ _ h => h).weak fun k hk hk2 => (hF4.dom _ (List.mem_of_getElem? (i := 0) rfl) k hk2).elim id fun h2 => by omega)) hok (RepE.nil _ _) (by show 0 + _ ≤ _; omega) (by show 0 + _ ≤ _; omega)) (fun e w5 hw5 => ?_))
    obtain ⟨v5, xs5, rfl, hl5, C5, hm5, hb5⟩ := hw5
    have F5 := hF4.upd 0 rfl C5 (fun _ hk => .inl hk) (bun (sepP _ v5 xs5)) hm5 hb5
    refine ⟨_, rfl, ?_⟩
    refine Ops.step (One.val rfl rfl rfl (yld_assign rfl (ev_t rfl)) ?_)
    refine Ops.nil fun a hS => ?_
    refine hK5 _ _ ?_ a hS
    refine Cod.ret fun a hS => ?_
    try simp only [Exit.then, Exit.inBlock]
    exact ret1 (t := 2) rfl hS rfl ⟨v5, xs5, rfl, by rw [hyes]; exact hl5, F5.chg, by rw [hyes]; exact F5.get 0 rfl, fun b hb => (F5.dom _ (List.mem_of_getElem? (i := 0) rfl) b (by rw [hyes] at hb; exact hb)).resolve_left id⟩

end Go.Proofs.Ytodbflfelimppaa.Eng
