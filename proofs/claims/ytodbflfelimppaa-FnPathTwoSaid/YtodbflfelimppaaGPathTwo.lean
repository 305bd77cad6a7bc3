/- FnPathTwo returns true for all bytes: two ways that part may be put at in either order, and what was put is what the way leads to. No condition. -/
import Derived.Test.YtodbflfelimppaaWaysP
import Derived.Test.YtodbflfelimppaaPGet
import Derived.Test.YtodbflfelimppaaPPut
import Derived.Test.YtodbflfelimppaaSet
import Derived.Test.YtodbflfelimppaaPairs
import Derived.Test.YtodbflfelimppaaLawT
import Derived.Test.YtodbflfelimppaaDraw4
import Derived.Test.YtodbflfelimppaaArgB
import Derived.Test.YtodbflfelimppaaRows
namespace Go.Proofs.Ytodbflfelimppaa.Eng
open Go.RowKit Go.ChangeShapes Go.WideShapes Go.ChangeAt
set_option linter.unusedVariables false
set_option linter.unusedSimpArgs false
set_option maxHeartbeats 1000000
set_option linter.constructorNameAsVariable false
namespace GPathTwo


theorem stepK_map {k : Int} {ks : List ByteArray} {i : Nat} (hk : k = 6) (hi : i < ks.length) : stepK k ks i = ⟨true, ks[i], 0⟩ := by unfold stepK; rw [if_pos hk, nth_eq hi]
theorem stepK_row {k : Int} {ks : List ByteArray} {i : Nat} (hk : ¬ k = 6) : stepK k ks i = ⟨false, ⟨#[]⟩, (i : Int)⟩ := by unfold stepK; rw [if_neg hk]
def wp (t : Tr) (p : List Stp) (i : Nat) : List (List Stp) := p :: Tr.waysL t.kind t.keys (t.list.take i) 0 p
theorem wp_zero (t : Tr) (p : List Stp) : wp t p 0 = [p] := by simp [wp, Tr.waysL]
theorem wp_step (t : Tr) (p : List Stp) (i : Nat) (hi : i < t.list.length) : wp t p (i + 1) = wp t p i ++ t.list[i].ways (p ++ [stepK t.kind t.keys i]) := by
  unfold wp; rw [Tr.waysL_take _ _ _ _ _ hi]; rfl
theorem wp_end (t : Tr) (p : List Stp) : wp t p t.list.length = t.ways p := by
  obtain ⟨k, n, s, ks, l⟩ := t
  unfold wp
  rw [Tr.ways]
  show p :: Tr.waysL k ks (l.take l.length) 0 p = _
  rw [List.take_length]
theorem wp_len (t : Tr) (p : List Stp) (i : Nat) : (wp t p i).length ≤ t.cnt := by
  obtain ⟨k, n, s, ks, l⟩ := t
  unfold wp
  rw [List.length_cons, Tr.cnt_mk]
  have := Tr.waysL_le k ks l p i
  show (Tr.waysL k ks (l.take i) 0 p).length + 1 ≤ _
  omega
theorem cnt_child {t : Tr} {i : Nat} (hi : i < t.list.length) : t.list[i].cnt + 1 ≤ t.cnt := by
  obtain ⟨k, n, s, ks, l⟩ := t
  rw [Tr.cnt_mk]
  have := sumN_mem Tr.cnt (List.getElem_mem hi)
  show l[i].cnt + 1 ≤ _
  have h2 : l[i].cnt ≤ sumN Tr.cnt l := this
  omega
/-- New ways. -/
def NewPP (w : World) (l : List (List Stp)) (e : Ending) (w' : World) : Prop := ∃ v xs, e = .returned v ∧ xs.length = l.length ∧ Chg No w w' ∧ (bun (sepP l v xs)).is w' ∧ ∀ k, (bun (sepP l v xs)).fp k → w.heap.size ≤ k

set_option maxRecDepth 100000 in
theorem further_ct (p : List Stp) (s : Stp) (pv : Value) (w : World) (hp : RepP Any w p pv) (hn : p.length ≤ 1000) : Calls Try.prog 109 #[pv, .agg (pCells s).toArray] w fun e w' => ∃ v', e = .returned v' ∧ Chg No w w' ∧ (rowP (p ++ [s]) v').is w' ∧ ∀ k, v'.ownBlock = some k → w.heap.size ≤ k := by
  obtain ⟨A, c, rfl, -⟩ := hp.open
  refine enter Try.func109 rfl rfl rfl ?_
  have F0 := Fr.start w
  refine Cod.seq fun K1 hK1 => ?_
  refine Cod.region ?_
  refine Ops.step (One.box F0 rfl rfl rfl rfl (ev_t rfl) ?_)
  intro b1 w1 hb1 F1
  change Fr _ _ [blk _ _ [_, _, _]] _ at F1
  refine Ops.step (One.val rfl rfl rfl (yld_assign rfl ev_c) ?_)
  refine Ops.nil fun a hS => ?_
  refine hK1 _ _ ?_ a hS
  refine Cod.seq fun K2 hK2 => ?_
  have F2 := F1.drew
  refine Cod.draw (C_of F2) (by kernel_rfl) ?_
  refine Hops.take 1 rfl (by kernel_rfl) (fun _ _ _ h => h) rfl rfl rfl F2 (fun w F => (yld_move rfl (ev_t rfl))) ?_
  refine Hops.take 3 rfl (by kernel_rfl) (fun _ _ _ h => h) rfl rfl rfl F2 (fun w F => (yld_loadN ag52 rfl (ev_t rfl) (fun _ => F.range (m := 3) (cs' := [_, _, _]) 0 rfl rfl) rfl)) ?_
  refine Hops.two 0 4 rfl rfl (by kernel_rfl) ?_ ?_
  · skip
    refine (One.buildNil pCells F2 sl46 rfl rfl rfl rfl ?_)
    intro b2 w2 hb2 F3
    refine ⟨F3.drop1, ?_⟩
    refine Hops.two 2 4 rfl rfl (by kernel_rfl) ?_ ?_
    · skip
      refine (One.append (enc := pCells) p F3 0 rfl sl46 zero52 rfl rfl (fun _ => rfl) rfl rfl rfl rfl (ev_t rfl) (ev_t rfl) (hp.chg F3.chg) (fun _ _ => rfl) (by simp; omega) (by simp; omega) ?_)
      intro u1 w3 hu1 F4
      refine ⟨F4.drop1, ?_⟩
      change Fr _ _ [_, blk _ _ [_, _, _]] _ at F4
      refine Hops.one 4 rfl (by kernel_rfl) (One.buildSlice (cells := (pCells s)) F4 sl46 zero52 rfl rfl rfl rfl (evp1 (ev_t rfl)) rfl rfl (by kernel_rfl) ?_)
      intro b3 w4 hb3 F5
      refine ⟨(F5.erase 1).drop1, ?_⟩
      refine Hops.one 5 rfl (by kernel_rfl) (One.append (enc := pCells) [s] F5 1 rfl sl46 zero52 rfl rfl (fun _ => rfl) rfl rfl rfl rfl (ev_t rfl) (ev_t rfl) ((blk_rep (enc := pCells) (sz := 3) (xs := [s]) (fun _ => rfl) (by simpa using F5.get 0 rfl) (by simp) (by simp)).weak fun _ _ => trivial) (fun _ _ => rfl) (by simp; omega) (by simp; omega) ?_)
      intro u2 w5 hu2 F6
      refine ⟨(F6.erase 1).drop1, ?_⟩
      change Fr _ _ [_, _, blk _ _ [_, _, _]] _ at F6
      refine Hops.one 6 rfl (by kernel_rfl) (One.val rfl rfl rfl (yld_assign rfl (ev_t rfl)) ?_)
      refine ⟨(F6.erase 1).drop1, ?_⟩
      refine Hops.nil (by kernel_rfl) fun a hS => ?_
      refine hK2 _ _ ?_ a hS
      refine Cod.ret fun a hS => ?_
      try simp only [Exit.then, Exit.inBlock]
      exact ret1 (t := 4) rfl hS rfl ⟨u2, rfl, F6.chg, F6.get 1 rfl, fun b hb => (F6.dom _ (List.mem_of_getElem? (i := 1) rfl) b hb).resolve_left id⟩
    · skip
      refine (One.buildSlice (cells := (pCells s)) F3 sl46 zero52 rfl rfl rfl rfl (evp1 (ev_t rfl)) rfl rfl (by kernel_rfl) ?_)
      intro b4 w6 hb4 F7
      refine ⟨(F7.erase 1).drop1, ?_⟩
      refine Hops.one 2 rfl (by kernel_rfl) (One.append (enc := pCells) p F7 1 rfl sl46 zero52 rfl rfl (fun _ => rfl) rfl rfl rfl rfl (ev_t rfl) (ev_t rfl) (hp.chg F7.chg) (fun _ _ => rfl) (by simp; omega) (by simp; omega) ?_)
      intro u1 w7 hu1 F8
      refine ⟨(F8.erase 1).drop1, ?_⟩
      change Fr _ _ [_, _, blk _ _ [_, _, _]] _ at F8
      refine Hops.one 5 rfl (by kernel_rfl) (One.append (enc := pCells) [s] F8 1 rfl sl46 zero52 rfl rfl (fun _ => rfl) rfl rfl rfl rfl (ev_t rfl) (ev_t rfl) ((blk_rep (enc := pCells) (sz := 3) (xs := [s]) (fun _ => rfl) (by simpa using F8.get 0 rfl) (by simp) (by simp)).weak fun _ _ => trivial) (fun _ _ => rfl) (by simp; omega) (by simp; omega) ?_)
      intro u2 w8 hu2 F9
      refine ⟨(F9.erase 1).drop1, ?_⟩
      change Fr _ _ [_, _, blk _ _ [_, _, _]] _ at F9
      refine Hops.one 6 rfl (by kernel_rfl) (One.val rfl rfl rfl (yld_assign rfl (ev_t rfl)) ?_)
      refine ⟨(F9.erase 1).drop1, ?_⟩
      refine Hops.nil (by kernel_rfl) fun a hS => ?_
      refine hK2 _ _ ?_ a hS
      refine Cod.ret fun a hS => ?_
      try simp only [Exit.then, Exit.inBlock]
      exact ret1 (t := 4) rfl hS rfl ⟨u2, rfl, F9.chg, F9.get 1 rfl, fun b hb => (F9.dom _ (List.mem_of_getElem? (i := 1) rfl) b hb).resolve_left id⟩
  · skip
    refine (One.buildSlice (cells := (pCells s)) F2 sl46 zero52 rfl rfl rfl rfl (evp1 (ev_t rfl)) rfl rfl (by kernel_rfl) ?_)
    intro b5 w9 hb5 F10
    refine ⟨F10.drop1, ?_⟩
    refine Hops.one 0 rfl (by kernel_rfl) (One.buildNil pCells F10 sl46 rfl rfl rfl rfl ?_)
    intro b6 w10 hb6 F11
    refine ⟨(F11.erase 1).drop1, ?_⟩
    refine Hops.one 2 rfl (by kernel_rfl) (One.append (enc := pCells) p F11 0 rfl sl46 zero52 rfl rfl (fun _ => rfl) rfl rfl rfl rfl (ev_t rfl) (ev_t rfl) (hp.chg F11.chg) (fun _ _ => rfl) (by simp; omega) (by simp; omega) ?_)
    intro u1 w11 hu1 F12
    refine ⟨(F12.erase 1).drop1, ?_⟩
    change Fr _ _ [_, _, blk _ _ [_, _, _]] _ at F12
    refine Hops.one 5 rfl (by kernel_rfl) (One.append (enc := pCells) [s] F12 0 rfl sl46 zero52 rfl rfl (fun _ => rfl) rfl rfl rfl rfl (ev_t rfl) (ev_t rfl) ((blk_rep (enc := pCells) (sz := 3) (xs := [s]) (fun _ => rfl) (by simpa using F12.get 1 rfl) (by simp) (by simp)).weak fun _ _ => trivial) (fun _ _ => rfl) (by simp; omega) (by simp; omega) ?_)
    intro u2 w12 hu2 F13
    refine ⟨(F13.erase 1).drop1, ?_⟩
    change Fr _ _ [_, _, blk _ _ [_, _, _]] _ at F13
    refine Hops.one 6 rfl (by kernel_rfl) (One.val rfl rfl rfl (yld_assign rfl (ev_t rfl)) ?_)
    refine ⟨(F13.erase 1).drop1, ?_⟩
    refine Hops.nil (by kernel_rfl) fun a hS => ?_
    refine hK2 _ _ ?_ a hS
    refine Cod.ret fun a hS => ?_
    try simp only [Exit.then, Exit.inBlock]
    exact ret1 (t := 4) rfl hS rfl ⟨u2, rfl, F13.chg, F13.get 0 rfl, fun b hb => (F13.dom _ (List.mem_of_getElem? (i := 0) rfl) b hb).resolve_left id⟩

set_option maxRecDepth 100000 in
theorem stepTo_ct (t : Tr) (i : Nat) (v : Value) (w : World) (hr : Rep Any w t v) (hil : i < t.list.length) (hkl : t.kind = 6 → t.keys.length = t.list.length) : Calls Try.prog 110 #[v, .int .i64 (i : Int)] w fun e w' => e = .returned (.agg (pCells (stepK t.kind t.keys i)).toArray) ∧ Chg No w w' := by
  obtain ⟨v3, v4, ev, h3, h4⟩ := hr.form
  subst ev
  obtain ⟨A3, c3, rfl, hn3⟩ := h3.open
  obtain ⟨A4, c4, rfl, hn4⟩ := h4.open
  refine enter Try.func110 rfl rfl rfl ?_
  have F0 := Fr.start w
  refine Cod.seq fun K1 hK1 => ?_
  refine Cod.region ?_
  refine Ops.step (One.box F0 rfl rfl rfl rfl (ev_t rfl) ?_)
  intro b1 w1 hb1 F1
  change Fr _ _ [blk _ _ [_, _, _, _, _]] _ at F1
  refine Ops.step (One.alloc F1 zero52 rfl rfl rfl rfl ?_)
  intro b2 w2 hb2 F2
  change Fr _ _ [blk _ _ [_, _, _], blk _ _ [_, _, _, _, _]] _ at F2
  refine Ops.nil fun a hS => ?_
  refine hK1 _ _ ?_ a hS
  refine Cod.seq fun K2 hK2 => ?_
  refine Cod.seq fun K3 hK3 => ?_
  refine Cod.region ?_
  refine Ops.step (One.val rfl rfl rfl (yld_field fi31_0 rfl (ev_t rfl)) ?_)
  refine Ops.step (One.val rfl rfl rfl (yld_load1 on3 rfl (ev_t rfl) (fun _ => F2.cell 1 rfl rfl)) ?_)
  refine Ops.step (One.val rfl rfl rfl (yld_eql rfl (ev_t rfl) ev_c) ?_)
  refine Ops.nil fun a hS => ?_
  refine hK3 _ _ ?_ a hS
  refine Cod.cond rfl (fun hc7 => ?_) (fun hc7 => ?_)
  · skip
    have hk : t.kind = 6 := by simpa using hc7
    have hik : i < t.keys.length := by have := hkl hk; omega
    obtain ⟨b, o, rfl, -, hrk⟩ := h3.at i hik
    rw [stepK_map hk hik]
    refine Cod.seq fun K4 hK4 => ?_
    refine Cod.region ?_
    refine Ops.step (One.val rfl rfl rfl (yld_field fi31_3 rfl (ev_t rfl)) ?_)
    refine Ops.step (One.val rfl rfl rfl (yld_load1 on22 rfl (ev_t rfl) (fun _ => F2.cell 1 rfl rfl)) ?_)
    refine Ops.step (One.val rfl rfl rfl (yld_move rfl (ev_t rfl)) ?_)
    refine Ops.step (One.val rfl rfl rfl (yld_indexN sl22 rfl (ev_t rfl) (ev_t rfl) (fun _ => by omega)) ?_)
    refine Ops.step (One.val rfl rfl rfl (yld_load1 on9 rfl (ev_t rfl) (fun _ => rangeAt_cell (rng hrk F2.chg) (j := 0) rfl)) ?_)
    refine Ops.step (One.val rfl rfl rfl (yld_build (cells := (pCells ⟨true, t.keys[i], 0⟩)) rfl (evp2 ev_c (ev_t rfl)) (by kernel_rfl)) ?_)
    refine Ops.step (One.storeN (vs := [_, _, _]) F2 0 rfl sz52 rfl rfl rfl (ev_t rfl) (ev_t rfl) rfl rfl rfl ?_)
    intro w3 F3
    change Fr _ _ [blk _ _ [_, _, _], blk _ _ [_, _, _, _, _]] _ at F3
    refine Ops.nil fun a hS => ?_
    refine hK4 _ _ ?_ a hS
    refine Cod.ret fun a hS => ?_
    try simp only [Exit.then, Exit.inBlock]
    exact retc (t := 4) (ty := 52) rfl hS ag52 rfl (F3.range (m := 3) (cs' := [_, _, _]) 0 rfl rfl) rfl ⟨rfl, F3.chg⟩
  · skip
    have hk : ¬ t.kind = 6 := by simpa using hc7
    refine Cod.skip fun a hS => ?_
    refine hK2 _ _ ?_ a hS
    refine Cod.seq fun K5 hK5 => ?_
    refine Cod.region ?_
    refine Ops.step (One.val rfl rfl rfl (yld_move rfl (ev_t rfl)) ?_)
    refine Ops.step (One.val rfl rfl rfl (yld_build (cells := (pCells ⟨false, ⟨#[]⟩, (i : Int)⟩)) rfl (evp1 (ev_t rfl)) (by kernel_rfl)) ?_)
    refine Ops.step (One.storeN (vs := [_, _, _]) F2 0 rfl sz52 rfl rfl rfl (ev_t rfl) (ev_t rfl) rfl rfl rfl ?_)
    intro w4 F4
    change Fr _ _ [blk _ _ [_, _, _], blk _ _ [_, _, _, _, _]] _ at F4
    refine Ops.nil fun a hS => ?_
    refine hK5 _ _ ?_ a hS
    refine Cod.ret fun a hS => ?_
    try simp only [Exit.then, Exit.inBlock]
    exact retc (t := 4) (ty := 52) rfl hS ag52 rfl (F4.range (m := 3) (cs' := [_, _, _]) 0 rfl rfl) rfl ⟨by rw [stepK_row hk]; rfl, F4.chg⟩


def WaysOk (t : Tr) : Prop := ∀ (p : List Stp) (v pv : Value) (w : World), Rep Any w t v → okT t = true → RepP Any w p pv → p.length + t.cnt ≤ 1000 →
    Calls Try.prog 49 #[v, pv] w (NewPP w (t.ways p))

set_option maxRecDepth 100000 in
theorem l3All_of (k n : Int) (s : ByteArray) (ks : List ByteArray) (l : List Tr) (H : ∀ t ∈ l, WaysOk t) : WaysOk (.mk k n s ks l) := by
  intro p v pv w hr hok hp hcn
  obtain ⟨t, ht⟩ : ∃ t, t = Tr.mk k n s ks l := ⟨_, rfl⟩
  have H' : ∀ x ∈ t.list, WaysOk x := by rw [ht]; exact H
  rw [← ht] at hr hok hcn ⊢
  clear ht H
  obtain ⟨v3, v4, ev, h3, h4⟩ := hr.form
  subst ev
  obtain ⟨A3, c3, rfl, hn3⟩ := h3.open
  obtain ⟨A4, c4, rfl, hn4⟩ := h4.open
  obtain ⟨Ap, cp, rfl, hnp⟩ := hp.open
  have hcp : 1 ≤ t.cnt := by have := wp_len t p 0; rw [wp_zero] at this; simpa using this
  have hkl : t.kind = 6 → t.keys.length = t.list.length := okT_len hok
  refine enter Try.func49 rfl rfl rfl ?_
  have F0 := Fr.start w
  refine Cod.seq fun K1 hK1 => ?_
  refine Cod.region ?_
  refine Ops.step (One.box F0 rfl rfl rfl rfl (ev_t rfl) ?_)
  intro b1 w1 hb1 F1
  change Fr _ _ [blk _ _ [_, _, _, _, _]] _ at F1
  refine Ops.step (One.val rfl rfl rfl (yld_assign rfl ev_c) ?_)
  refine Ops.nil fun a hS => ?_
  refine hK1 _ _ ?_ a hS
  refine Cod.seq fun K2 hK2 => ?_
  refine Cod.region ?_
  refine Ops.step (One.buildNil pCells F1 sl46 rfl rfl rfl rfl ?_)
  intro b2 w2 hb2 F2
  refine Ops.step (One.val rfl rfl rfl (yld_move rfl (ev_t rfl)) ?_)
  refine Ops.step (One.append (enc := pCells) p F2 0 rfl sl46 zero52 rfl rfl (fun _ => rfl) rfl rfl rfl rfl (ev_t rfl) (ev_t rfl) (hp.chg F2.chg) (fun _ _ => rfl) (by simp; omega) (by simp; omega) ?_)
  intro u1 w3 hu1 F3
  change Fr _ _ [_, blk _ _ [_, _, _, _, _]] _ at F3
  obtain ⟨Au, mu, cu, hu1e⟩ := own_form (F3.get 0 rfl)
  subst hu1e
  refine Ops.step (One.buildSlice (cells := (vCells (.slice Au mu cu))) F3 sl27 zero46 rfl rfl rfl rfl (evp1 (ev_t rfl)) rfl rfl (by kernel_rfl) ?_)
  intro b3 w4 hb3 F4
  refine Ops.step (One.val rfl rfl rfl (yld_assign rfl (ev_t rfl)) ?_)
  refine Ops.nil fun a hS => ?_
  refine hK2 _ _ ?_ a hS
  refine Cod.seq fun K3 hK3 => ?_
  refine Cod.seq fun K4 hK4 => ?_
  refine Cod.region ?_
  refine Ops.step (One.val rfl rfl rfl (yld_assign rfl ev_c) ?_)
  refine Ops.nil fun a hS => ?_
  refine hK4 _ _ ?_ a hS
  refine Cod.block ?_
  have hF1 := (F4.toOwn (sz := 1) (n := 1) rfl (by omega)).pull 1 rfl
  have hF2 := hF1.bunOne
  refine Cod.loop (fun i : Nat × List Value × Value => [(1, true, .slice Ap p.length cp), (2, true, .pointer (some ⟨b1, 0, none⟩)), (5, true, i.2.2), (6, true, .int .i64 (i.1 : Int))]) (fun i w' => i.1 ≤ t.list.length ∧ i.2.1.length = (wp t p i.1).length ∧ Fr No w [bun (rowsP (wp t p i.1) i.2.1), own 46 1 i.2.2 i.2.1.length (i.2.1.flatMap vCells), blk b1 31 [.int .i64 t.kind, .int .i64 t.num, .string t.str, .slice A3 t.keys.length c3, .slice A4 t.list.length c4]] w') (fun i => t.list.length - i.1) (0, [.slice Au mu cu], .slice (some ⟨b3, 0, none⟩) 1 1) ⟨rfl, rfl, rfl, rfl, trivial⟩ ⟨Nat.zero_le _, by rw [wp_zero]; rfl, by rw [wp_zero]; exact hF2⟩ ?_
  intro i w5 hW K5 hK5
  obtain ⟨ix, xs, ov⟩ := i
  obtain ⟨hi, hxl, F5⟩ := hW
  dsimp only at *
  have hwl := wp_len t p ix
  refine Cod.seq fun K6 hK6 => ?_
  refine Cod.seq fun K7 hK7 => ?_
  refine Cod.region ?_
  refine Ops.step (One.val rfl rfl rfl (yld_move rfl (ev_t rfl)) ?_)
  refine Ops.step (One.val rfl rfl rfl (yld_field fi31_4 rfl (ev_t rfl)) ?_)
  refine Ops.step (One.val rfl rfl rfl (yld_load1 on29 rfl (ev_t rfl) (fun _ => F5.cell 2 rfl rfl)) ?_)
  refine Ops.step (One.val rfl rfl rfl (yld_len sl29 rfl (ev_t rfl)) ?_)
  refine Ops.step (One.val rfl rfl rfl (yld_lss rfl (ev_t rfl) (ev_t rfl)) ?_)
  refine Ops.nil fun a hS => ?_
  refine hK7 _ _ ?_ a hS
  refine Cod.cond rfl (fun hc16 => ?_) (fun hc16 => ?_)
  · skip
    have hil : ix < t.list.length := by simpa using hc16
    obtain ⟨b, o, cs, rfl, -, hlc, hrl, hrt⟩ := h4.at ix hil
    obtain ⟨ca, cb, cc, cd, ce, rfl⟩ := five hlc
    have hcc := cnt_child hil
    refine Cod.skip fun a hS => ?_
    refine hK6 _ _ ?_ a hS
    refine Cod.seq fun K8 hK8 => ?_
    refine Cod.block ?_
    refine Cod.seq fun K9 hK9 => ?_
    refine Cod.region ?_
    refine Ops.step (One.val rfl rfl rfl (yld_move rfl (ev_t rfl)) ?_)
    refine Ops.step (One.val rfl rfl rfl (yld_build (cells := (pCells ⟨false, ⟨#[]⟩, (ix : Int)⟩)) rfl (evp1 (ev_t rfl)) (by kernel_rfl)) ?_)
    refine Ops.step (One.alloc F5 zero52 rfl rfl rfl rfl ?_)
    intro b4 w6 hb4 F6
    change Fr _ _ [blk _ _ [_, _, _], _, _, blk _ _ [_, _, _, _, _]] _ at F6
    refine Ops.step (One.storeN (vs := [_, _, _]) F6 0 rfl sz52 rfl rfl rfl (ev_t rfl) (ev_t rfl) rfl rfl rfl ?_)
    intro w7 F7
    change Fr _ _ [blk _ _ [_, _, _], _, _, blk _ _ [_, _, _, _, _]] _ at F7
    refine Ops.nil fun a hS => ?_
    refine hK9 _ _ ?_ a hS
    refine Cod.cut (fun i : Unit => [(1, true, .slice Ap p.length cp), (2, true, .pointer (some ⟨b1, 0, none⟩)), (5, true, ov), (6, true, .int .i64 (ix : Int)), (7, true, .pointer (some ⟨b4, 0, none⟩))]) (fun i w' => ∃ AA, AA = A3 ∧ Fr No w [blk b4 52 (pCells (stepK t.kind t.keys ix)), bun (rowsP (wp t p ix) xs), own 46 1 ov xs.length (xs.flatMap vCells), blk b1 31 [.int .i64 t.kind, .int .i64 t.num, .string t.str, .slice AA t.keys.length c3, .slice (some ⟨b, o, none⟩) t.list.length c4]] w') (fun K10 hK10 => ?_) ?_
    · skip
      refine Cod.seq fun K11 hK11 => ?_
      refine Cod.region ?_
      refine Ops.step (One.val rfl rfl rfl (yld_field fi31_0 rfl (ev_t rfl)) ?_)
      refine Ops.step (One.val rfl rfl rfl (yld_load1 on3 rfl (ev_t rfl) (fun _ => F7.cell 3 rfl rfl)) ?_)
      refine Ops.step (One.val rfl rfl rfl (yld_eql rfl (ev_t rfl) ev_c) ?_)
      refine Ops.nil fun a hS => ?_
      refine hK11 _ _ ?_ a hS
      refine Cod.cond rfl (fun hc23 => ?_) (fun hc23 => ?_)
      · skip
        have hk : t.kind = 6 := by simpa using hc23
        have hik : ix < t.keys.length := by have := hkl hk; omega
        obtain ⟨kb, ko, rfl, -, hrk⟩ := h3.at ix hik
        refine Cod.region ?_
        refine Ops.step (One.val rfl rfl rfl (yld_field fi31_3 rfl (ev_t rfl)) ?_)
        refine Ops.step (One.val rfl rfl rfl (yld_load1 on22 rfl (ev_t rfl) (fun _ => F7.cell 3 rfl rfl)) ?_)
        refine Ops.step (One.val rfl rfl rfl (yld_move rfl (ev_t rfl)) ?_)
        refine Ops.step (One.val rfl rfl rfl (yld_indexN sl22 rfl (ev_t rfl) (ev_t rfl) (fun _ => by omega)) ?_)
        refine Ops.step (One.val rfl rfl rfl (yld_load1 on9 rfl (ev_t rfl) (fun _ => rangeAt_cell (rng hrk F7.chg) (j := 0) rfl)) ?_)
        refine Ops.step (One.val rfl rfl rfl (yld_build (cells := (pCells ⟨true, t.keys[ix], 0⟩)) rfl (evp2 ev_c (ev_t rfl)) (by kernel_rfl)) ?_)
        refine Ops.step (One.storeN (vs := [_, _, _]) F7 0 rfl sz52 rfl rfl rfl (ev_t rfl) (ev_t rfl) rfl rfl rfl ?_)
        intro w8 F8
        change Fr _ _ [blk _ _ [_, _, _], _, _, blk _ _ [_, _, _, _, _]] _ at F8
        refine Ops.nil fun a hS => ?_
        have F9 := F8.pull 3 rfl
        have F10 := F9.pull 3 rfl
        have F11 := F10.pull 3 rfl
        have F12 := F11.pull 3 rfl
        have hst : stepK t.kind t.keys ix = ⟨true, t.keys[ix], 0⟩ := stepK_map hk hik
        exact hK10 () _ a (hS.sub ⟨rfl, rfl, rfl, rfl, rfl, trivial⟩) ⟨_, rfl, by rw [hst]; exact F12⟩
      · skip
        have hk : ¬ t.kind = 6 := by simpa using hc23
        refine Cod.skip fun a hS => ?_
        have F13 := F7.pull 3 rfl
        have F14 := F13.pull 3 rfl
        have F15 := F14.pull 3 rfl
        have F16 := F15.pull 3 rfl
        have hst : stepK t.kind t.keys ix = ⟨false, ⟨#[]⟩, (ix : Int)⟩ := stepK_row hk
        exact hK10 () _ a (hS.sub ⟨rfl, rfl, rfl, rfl, rfl, trivial⟩) ⟨_, rfl, by rw [hst]; exact F16⟩
    · skip
      intro i w9 hW
      obtain ⟨AA, hAA, F17⟩ := hW
      subst hAA
      have F18 := F17.drew
      refine Cod.draw (C_of ((F18.erase 2).erase 1)) (by kernel_rfl) ?_
      refine Hops.take 0 rfl (by kernel_rfl) (fun _ _ _ h => h) rfl rfl rfl ((F18.erase 2).erase 1) (fun w F => (yld_move rfl (ev_t rfl))) ?_
      refine Hops.take 1 rfl (by kernel_rfl) (fun _ _ _ h => h) rfl rfl rfl ((F18.erase 2).erase 1) (fun w F => (yld_field fi31_4 rfl (ev_t rfl))) ?_
      refine Hops.take 2 rfl (by kernel_rfl) (fun _ _ _ h => h) rfl rfl rfl ((F18.erase 2).erase 1) (fun w F => (yld_load1 on29 rfl (ev_t rfl) (fun _ => F.cell 1 rfl rfl))) ?_
      refine Hops.take 3 rfl (by kernel_rfl) (fun _ _ _ h => h) rfl rfl rfl ((F18.erase 2).erase 1) (fun w F => (yld_move rfl (ev_t rfl))) ?_
      refine Hops.take 4 rfl (by kernel_rfl) (fun _ _ _ h => h) rfl rfl rfl ((F18.erase 2).erase 1) (fun w F => (yld_indexN sl29 rfl (ev_t rfl) (ev_t rfl) (fun _ => by omega))) ?_
      refine Hops.take 5 rfl (by kernel_rfl) (fun _ _ _ h => h) rfl rfl rfl ((F18.erase 2).erase 1) (fun w F => (yld_loadN ag31 rfl (ev_t rfl) (fun _ => rng hrl F.chg) rfl)) ?_
      refine Hops.take 7 rfl (by kernel_rfl) (fun _ _ _ h => h) rfl rfl rfl ((F18.erase 2).erase 1) (fun w F => (yld_move rfl (ev_t rfl))) ?_
      refine Hops.take 9 rfl (by kernel_rfl) (fun _ _ _ h => h) rfl rfl rfl ((F18.erase 2).erase 1) (fun w F => (yld_loadN ag52 rfl (ev_t rfl) (fun _ => F.range (m := 3) (cs' := [_, _, _]) 0 rfl rfl) rfl)) ?_
      refine Hops.two 6 10 rfl rfl (by kernel_rfl) ?_ ?_
      · skip
        refine (One.buildNil pCells F18 sl46 rfl rfl rfl rfl ?_)
        intro b5 w10 hb5 F19
        refine ⟨((F19.erase 3).erase 2).drop1, ?_⟩
        refine Hops.two 8 10 rfl rfl (by kernel_rfl) ?_ ?_
        · skip
          refine (One.append (enc := pCells) p F19 0 rfl sl46 zero52 rfl rfl (fun _ => rfl) rfl rfl rfl rfl (ev_t rfl) (ev_t rfl) (hp.chg F19.chg) (fun _ _ => rfl) (by simp; omega) (by simp; omega) ?_)
          intro u2 w11 hu2 F20
          refine ⟨((F20.erase 3).erase 2).drop1, ?_⟩
          change Fr _ _ [_, blk _ _ [_, _, _], _, _, blk _ _ [_, _, _, _, _]] _ at F20
          refine Hops.one 10 rfl (by kernel_rfl) (One.buildSlice (cells := (pCells (stepK t.kind t.keys ix))) F20 sl46 zero52 rfl rfl rfl rfl (evp1 (ev_t rfl)) rfl rfl (by kernel_rfl) ?_)
          intro b6 w12 hb6 F21
          refine ⟨(((F21.erase 4).erase 3).erase 1).drop1, ?_⟩
          refine Hops.one 11 rfl (by kernel_rfl) (One.append (enc := pCells) [stepK t.kind t.keys ix] F21 1 rfl sl46 zero52 rfl rfl (fun _ => rfl) rfl rfl rfl rfl (ev_t rfl) (ev_t rfl) ((blk_rep (enc := pCells) (sz := 3) (xs := [stepK t.kind t.keys ix]) (fun _ => rfl) (by simpa using F21.get 0 rfl) (by simp) (by simp)).weak fun _ _ => trivial) (fun _ _ => rfl) (by simp; omega) (by simp; omega) ?_)
          intro u3 w13 hu3 F22
          refine ⟨(((F22.erase 4).erase 3).erase 1).drop1, ?_⟩
          change Fr _ _ [_, _, blk _ _ [_, _, _], _, _, blk _ _ [_, _, _, _, _]] _ at F22
          refine Hops.one 12 rfl (by kernel_rfl) (One.call rfl rfl rfl (ent_f rfl (evl2 (ev_t rfl) (ev_t rfl)) (enters en49)) (H' _ (List.getElem_mem hil) (p ++ [stepK t.kind t.keys ix]) _ _ _ (hrt.chg F22.chg) (okT_child hok (List.getElem_mem hil)) (ownP (F22.get 1 rfl)) (by simp; omega)) (fun e w14 hw14 => ?_))
          obtain ⟨v5, xs5, rfl, hl5, C14, hm5, hb5⟩ := hw14
          obtain ⟨A5, m5, c5, rfl⟩ := own_form (Mem.get 0 rfl hm5)
          have F23 := (F22.new C14 (bun (sepP _ (.slice A5 m5 c5) xs5)) hm5 hb5).bunOut
          change Fr _ _ (own 46 1 (.slice A5 m5 c5) xs5.length (xs5.flatMap vCells) :: bun (rowsP _ xs5) :: [_, _, _, _, _, _]) _ at F23
          refine ⟨_, rfl, ?_⟩
          refine ⟨(((((F23.erase 6).erase 5).erase 3).erase 2).erase 1).drop1, ?_⟩
          refine Hops.one 13 rfl (by kernel_rfl) (One.append (enc := vCells) xs5 F23 6 rfl sl27 zero46 rfl rfl (fun _ => rfl) rfl rfl rfl rfl (ev_t rfl) (ev_t rfl) ((own_rep (enc := vCells) (sz := 1) (fun _ => rfl) (F23.get 0 rfl)).weak fun _ _ => trivial) (rowsP_one (F23.get 1 rfl) hl5) (by rw [hxl, hl5, Tr.ways_len]; omega) (by rw [hxl, hl5, Tr.ways_len]; omega) ?_)
          intro u6 w15 hu6 F24
          refine ⟨(((((F24.erase 6).erase 5).erase 3).erase 2).erase 1).drop1, ?_⟩
          change Fr _ _ [_, _, _, _, blk _ _ [_, _, _], _, _, blk _ _ [_, _, _, _, _]] _ at F24
          refine Hops.one 14 rfl (by kernel_rfl) (One.val rfl rfl rfl (yld_assign rfl (ev_t rfl)) ?_)
          refine ⟨(((((F24.erase 6).erase 5).erase 3).erase 2).erase 1).drop1, ?_⟩
          refine Hops.nil (by kernel_rfl) fun a hS => ?_
          refine hK8 _ _ ?_ a hS
          refine Cod.region ?_
          refine Ops.step (One.val rfl rfl rfl (yld_move rfl (ev_t rfl)) ?_)
          refine Ops.step (One.val rfl rfl rfl (yld_inc rfl (ev_t rfl) (fun _ => by omega)) ?_)
          refine Ops.step (One.val rfl rfl rfl (yld_assign rfl (ev_t rfl)) ?_)
          refine Ops.nil fun a hS => ?_
          have F25 := F24.pull 7 rfl
          have F26 := F25.pull 7 rfl
          have F27 := F26.pull 7 rfl
          have F28 := F27.pull 4 rfl
          have F29 := F28.erase 4
          have F30 := F29.erase 4
          have F31 := F30.erase 4
          have F32 := F31.erase 4
          have hF3 := F32.bunApp
          rw [← rowsP_app _ _ hxl, ← wp_step t p ix hil] at hF3
          exact hK5 (ix + 1, xs ++ xs5, u6) _ a (hS.sub ⟨rfl, rfl, rfl, rfl, trivial⟩) ⟨by show ix + 1 ≤ _; omega, by show (xs ++ xs5).length = (wp t p (ix + 1)).length; rw [wp_step t p ix hil, List.length_append, List.length_append, hxl, hl5], hF3⟩ (by show t.list.length - (ix + 1) < t.list.length - ix; omega)
        · skip
          refine (One.buildSlice (cells := (pCells (stepK t.kind t.keys ix))) F19 sl46 zero52 rfl rfl rfl rfl (evp1 (ev_t rfl)) rfl rfl (by kernel_rfl) ?_)
          intro b7 w16 hb7 F33
          refine ⟨(((F33.erase 4).erase 3).erase 1).drop1, ?_⟩
          refine Hops.one 8 rfl (by kernel_rfl) (One.append (enc := pCells) p F33 1 rfl sl46 zero52 rfl rfl (fun _ => rfl) rfl rfl rfl rfl (ev_t rfl) (ev_t rfl) (hp.chg F33.chg) (fun _ _ => rfl) (by simp; omega) (by simp; omega) ?_)
          intro u2 w17 hu2 F34
          refine ⟨(((F34.erase 4).erase 3).erase 1).drop1, ?_⟩
          change Fr _ _ [_, _, blk _ _ [_, _, _], _, _, blk _ _ [_, _, _, _, _]] _ at F34
          refine Hops.one 11 rfl (by kernel_rfl) (One.append (enc := pCells) [stepK t.kind t.keys ix] F34 1 rfl sl46 zero52 rfl rfl (fun _ => rfl) rfl rfl rfl rfl (ev_t rfl) (ev_t rfl) ((blk_rep (enc := pCells) (sz := 3) (xs := [stepK t.kind t.keys ix]) (fun _ => rfl) (by simpa using F34.get 0 rfl) (by simp) (by simp)).weak fun _ _ => trivial) (fun _ _ => rfl) (by simp; omega) (by simp; omega) ?_)
          intro u3 w18 hu3 F35
          refine ⟨(((F35.erase 4).erase 3).erase 1).drop1, ?_⟩
          change Fr _ _ [_, _, blk _ _ [_, _, _], _, _, blk _ _ [_, _, _, _, _]] _ at F35
          refine Hops.one 12 rfl (by kernel_rfl) (One.call rfl rfl rfl (ent_f rfl (evl2 (ev_t rfl) (ev_t rfl)) (enters en49)) (H' _ (List.getElem_mem hil) (p ++ [stepK t.kind t.keys ix]) _ _ _ (hrt.chg F35.chg) (okT_child hok (List.getElem_mem hil)) (ownP (F35.get 1 rfl)) (by simp; omega)) (fun e w19 hw19 => ?_))
          obtain ⟨v5, xs5, rfl, hl5, C19, hm5, hb5⟩ := hw19
          obtain ⟨A5, m5, c5, rfl⟩ := own_form (Mem.get 0 rfl hm5)
          have F36 := (F35.new C19 (bun (sepP _ (.slice A5 m5 c5) xs5)) hm5 hb5).bunOut
          change Fr _ _ (own 46 1 (.slice A5 m5 c5) xs5.length (xs5.flatMap vCells) :: bun (rowsP _ xs5) :: [_, _, _, _, _, _]) _ at F36
          refine ⟨_, rfl, ?_⟩
          refine ⟨(((((F36.erase 6).erase 5).erase 3).erase 2).erase 1).drop1, ?_⟩
          refine Hops.one 13 rfl (by kernel_rfl) (One.append (enc := vCells) xs5 F36 6 rfl sl27 zero46 rfl rfl (fun _ => rfl) rfl rfl rfl rfl (ev_t rfl) (ev_t rfl) ((own_rep (enc := vCells) (sz := 1) (fun _ => rfl) (F36.get 0 rfl)).weak fun _ _ => trivial) (rowsP_one (F36.get 1 rfl) hl5) (by rw [hxl, hl5, Tr.ways_len]; omega) (by rw [hxl, hl5, Tr.ways_len]; omega) ?_)
          intro u6 w20 hu6 F37
          refine ⟨(((((F37.erase 6).erase 5).erase 3).erase 2).erase 1).drop1, ?_⟩
          change Fr _ _ [_, _, _, _, blk _ _ [_, _, _], _, _, blk _ _ [_, _, _, _, _]] _ at F37
          refine Hops.one 14 rfl (by kernel_rfl) (One.val rfl rfl rfl (yld_assign rfl (ev_t rfl)) ?_)
          refine ⟨(((((F37.erase 6).erase 5).erase 3).erase 2).erase 1).drop1, ?_⟩
          refine Hops.nil (by kernel_rfl) fun a hS => ?_
          refine hK8 _ _ ?_ a hS
          refine Cod.region ?_
          refine Ops.step (One.val rfl rfl rfl (yld_move rfl (ev_t rfl)) ?_)
          refine Ops.step (One.val rfl rfl rfl (yld_inc rfl (ev_t rfl) (fun _ => by omega)) ?_)
          refine Ops.step (One.val rfl rfl rfl (yld_assign rfl (ev_t rfl)) ?_)
          refine Ops.nil fun a hS => ?_
          have F38 := F37.pull 7 rfl
          have F39 := F38.pull 7 rfl
          have F40 := F39.pull 7 rfl
          have F41 := F40.pull 4 rfl
          have F42 := F41.erase 4
          have F43 := F42.erase 4
          have F44 := F43.erase 4
          have F45 := F44.erase 4
          have hF3 := F45.bunApp
          rw [← rowsP_app _ _ hxl, ← wp_step t p ix hil] at hF3
          exact hK5 (ix + 1, xs ++ xs5, u6) _ a (hS.sub ⟨rfl, rfl, rfl, rfl, trivial⟩) ⟨by show ix + 1 ≤ _; omega, by show (xs ++ xs5).length = (wp t p (ix + 1)).length; rw [wp_step t p ix hil, List.length_append, List.length_append, hxl, hl5], hF3⟩ (by show t.list.length - (ix + 1) < t.list.length - ix; omega)
      · skip
        refine (One.buildSlice (cells := (pCells (stepK t.kind t.keys ix))) F18 sl46 zero52 rfl rfl rfl rfl (evp1 (ev_t rfl)) rfl rfl (by kernel_rfl) ?_)
        intro b8 w21 hb8 F46
        refine ⟨((F46.erase 3).erase 2).drop1, ?_⟩
        refine Hops.one 6 rfl (by kernel_rfl) (One.buildNil pCells F46 sl46 rfl rfl rfl rfl ?_)
        intro b9 w22 hb9 F47
        refine ⟨(((F47.erase 4).erase 3).erase 1).drop1, ?_⟩
        refine Hops.one 8 rfl (by kernel_rfl) (One.append (enc := pCells) p F47 0 rfl sl46 zero52 rfl rfl (fun _ => rfl) rfl rfl rfl rfl (ev_t rfl) (ev_t rfl) (hp.chg F47.chg) (fun _ _ => rfl) (by simp; omega) (by simp; omega) ?_)
        intro u2 w23 hu2 F48
        refine ⟨(((F48.erase 4).erase 3).erase 1).drop1, ?_⟩
        change Fr _ _ [_, _, blk _ _ [_, _, _], _, _, blk _ _ [_, _, _, _, _]] _ at F48
        refine Hops.one 11 rfl (by kernel_rfl) (One.append (enc := pCells) [stepK t.kind t.keys ix] F48 0 rfl sl46 zero52 rfl rfl (fun _ => rfl) rfl rfl rfl rfl (ev_t rfl) (ev_t rfl) ((blk_rep (enc := pCells) (sz := 3) (xs := [stepK t.kind t.keys ix]) (fun _ => rfl) (by simpa using F48.get 1 rfl) (by simp) (by simp)).weak fun _ _ => trivial) (fun _ _ => rfl) (by simp; omega) (by simp; omega) ?_)
        intro u3 w24 hu3 F49
        refine ⟨(((F49.erase 4).erase 3).erase 1).drop1, ?_⟩
        change Fr _ _ [_, _, blk _ _ [_, _, _], _, _, blk _ _ [_, _, _, _, _]] _ at F49
        refine Hops.one 12 rfl (by kernel_rfl) (One.call rfl rfl rfl (ent_f rfl (evl2 (ev_t rfl) (ev_t rfl)) (enters en49)) (H' _ (List.getElem_mem hil) (p ++ [stepK t.kind t.keys ix]) _ _ _ (hrt.chg F49.chg) (okT_child hok (List.getElem_mem hil)) (ownP (F49.get 0 rfl)) (by simp; omega)) (fun e w25 hw25 => ?_))
        obtain ⟨v5, xs5, rfl, hl5, C25, hm5, hb5⟩ := hw25
        obtain ⟨A5, m5, c5, rfl⟩ := own_form (Mem.get 0 rfl hm5)
        have F50 := (F49.new C25 (bun (sepP _ (.slice A5 m5 c5) xs5)) hm5 hb5).bunOut
        change Fr _ _ (own 46 1 (.slice A5 m5 c5) xs5.length (xs5.flatMap vCells) :: bun (rowsP _ xs5) :: [_, _, _, _, _, _]) _ at F50
        refine ⟨_, rfl, ?_⟩
        refine ⟨(((((F50.erase 6).erase 5).erase 3).erase 2).erase 1).drop1, ?_⟩
        refine Hops.one 13 rfl (by kernel_rfl) (One.append (enc := vCells) xs5 F50 6 rfl sl27 zero46 rfl rfl (fun _ => rfl) rfl rfl rfl rfl (ev_t rfl) (ev_t rfl) ((own_rep (enc := vCells) (sz := 1) (fun _ => rfl) (F50.get 0 rfl)).weak fun _ _ => trivial) (rowsP_one (F50.get 1 rfl) hl5) (by rw [hxl, hl5, Tr.ways_len]; omega) (by rw [hxl, hl5, Tr.ways_len]; omega) ?_)
        intro u6 w26 hu6 F51
        refine ⟨(((((F51.erase 6).erase 5).erase 3).erase 2).erase 1).drop1, ?_⟩
        change Fr _ _ [_, _, _, _, blk _ _ [_, _, _], _, _, blk _ _ [_, _, _, _, _]] _ at F51
        refine Hops.one 14 rfl (by kernel_rfl) (One.val rfl rfl rfl (yld_assign rfl (ev_t rfl)) ?_)
        refine ⟨(((((F51.erase 6).erase 5).erase 3).erase 2).erase 1).drop1, ?_⟩
        refine Hops.nil (by kernel_rfl) fun a hS => ?_
        refine hK8 _ _ ?_ a hS
        refine Cod.region ?_
        refine Ops.step (One.val rfl rfl rfl (yld_move rfl (ev_t rfl)) ?_)
        refine Ops.step (One.val rfl rfl rfl (yld_inc rfl (ev_t rfl) (fun _ => by omega)) ?_)
        refine Ops.step (One.val rfl rfl rfl (yld_assign rfl (ev_t rfl)) ?_)
        refine Ops.nil fun a hS => ?_
        have F52 := F51.pull 7 rfl
        have F53 := F52.pull 7 rfl
        have F54 := F53.pull 7 rfl
        have F55 := F54.pull 4 rfl
        have F56 := F55.erase 4
        have F57 := F56.erase 4
        have F58 := F57.erase 4
        have F59 := F58.erase 4
        have hF3 := F59.bunApp
        rw [← rowsP_app _ _ hxl, ← wp_step t p ix hil] at hF3
        exact hK5 (ix + 1, xs ++ xs5, u6) _ a (hS.sub ⟨rfl, rfl, rfl, rfl, trivial⟩) ⟨by show ix + 1 ≤ _; omega, by show (xs ++ xs5).length = (wp t p (ix + 1)).length; rw [wp_step t p ix hil, List.length_append, List.length_append, hxl, hl5], hF3⟩ (by show t.list.length - (ix + 1) < t.list.length - ix; omega)
  · skip
    have hix : ix = t.list.length := by simp at hc16; omega
    subst hix
    rw [wp_end] at F5 hxl
    refine Cod.exit fun a hS => ?_
    simp only [Exit.then, Exit.inBlock, ↓reduceIte]
    refine hK3 _ _ ?_ a hS
    refine Cod.seq fun K12 hK12 => ?_
    refine Cod.region ?_
    refine Ops.step (One.val rfl rfl rfl (yld_move rfl (ev_t rfl)) ?_)
    refine Ops.step (One.val rfl rfl rfl (yld_assign rfl (ev_t rfl)) ?_)
    refine Ops.nil fun a hS => ?_
    refine hK12 _ _ ?_ a hS
    refine Cod.ret fun a hS => ?_
    try simp only [Exit.then, Exit.inBlock]
    have hF3 := (F5.pull 1 rfl).bunTwo
    exact ret1 (t := 4) rfl hS rfl ⟨ov, xs, rfl, hxl, hF3.chg, hF3.get 0 rfl, fun b hb => (hF3.dom _ (List.mem_of_getElem? (i := 0) rfl) b hb).resolve_left id⟩


theorem l3All_ct (t : Tr) : WaysOk t := Tr.ind (p := WaysOk) l3All_of t
/-- Ways that are added to a row that the call owns. -/
def AddPP (S : Res) (w : World) (l : List (List Stp)) (e : Ending) (w' : World) : Prop := ∃ v xs, e = .returned v ∧ xs.length = l.length ∧ Chg S.fp w w' ∧ (bun (sepP l v xs)).is w' ∧ ∀ k, (bun (sepP l v xs)).fp k → S.fp k ∨ w.heap.size ≤ k
def IWaysOk (t : Tr) : Prop := ∀ (p : List Stp) (l : List (List Stp)) (v pv ov : Value) (xs : List Value) (w : World), (bun (sepP l ov xs)).is w → xs.length = l.length → Rep (fun k => ¬ (bun (sepP l ov xs)).fp k) w t v → okT t = true → RepP (fun k => ¬ (bun (sepP l ov xs)).fp k) w p pv → p.length + t.cnt ≤ 1000 → l.length + t.cnt ≤ 1000 →
    Calls Try.prog 52 #[v, pv, ov] w (AddPP (bun (sepP l ov xs)) w (l ++ t.ways p))

set_option maxRecDepth 100000 in
theorem ways_of (k n : Int) (s : ByteArray) (ks : List ByteArray) (l : List Tr) (H : ∀ t ∈ l, IWaysOk t) : IWaysOk (.mk k n s ks l) := by
  intro p ll v pv ov xs0 w hm hxl0 hr hok hp hcn hln
  obtain ⟨t, ht⟩ : ∃ t, t = Tr.mk k n s ks l := ⟨_, rfl⟩
  have H' : ∀ x ∈ t.list, IWaysOk x := by rw [ht]; exact H
  rw [← ht] at hr hok hcn hln ⊢
  clear ht H
  obtain ⟨X, hX⟩ : ∃ X : Nat → Prop, X = (bun (sepP ll ov xs0)).fp := ⟨_, rfl⟩
  have hrB := hr.both
  have hpB := hp.both fun x => by simp [pCells]
  rw [← hX] at hr hp hrB hpB
  obtain ⟨v3, v4, ev, h3, h4⟩ := hr.form
  subst ev
  obtain ⟨A3, c3, rfl, hn3⟩ := h3.open
  obtain ⟨A4, c4, rfl, hn4⟩ := h4.open
  obtain ⟨Ap, cp, rfl, hnp⟩ := hp.open
  have hcp : 1 ≤ t.cnt := by have := wp_len t p 0; rw [wp_zero] at this; simpa using this
  have hkl : t.kind = 6 → t.keys.length = t.list.length := okT_len hok
  have hF : Fr X w [bun (sepP ll ov xs0)] w := by rw [hX]; exact Fr.lend _ hm
  refine enter Try.func52 rfl rfl rfl ?_
  have F0 := hF.bunOut
  change Fr X w [own 46 1 ov xs0.length (xs0.flatMap vCells), bun (rowsP ll xs0)] w at F0
  refine Cod.seq fun K1 hK1 => ?_
  refine Cod.region ?_
  refine Ops.step (One.box F0 rfl rfl rfl rfl (ev_t rfl) ?_)
  intro b1 w1 hb1 F1
  change Fr _ _ [blk _ _ [_, _, _, _, _], _, _] _ at F1
  refine Ops.step (One.val rfl rfl rfl (yld_assign rfl ev_c) ?_)
  refine Ops.nil fun a hS => ?_
  refine hK1 _ _ ?_ a hS
  refine Cod.seq fun K2 hK2 => ?_
  refine Cod.region ?_
  refine Ops.step (One.val rfl rfl rfl (yld_move rfl (ev_t rfl)) ?_)
  refine Ops.step (One.buildNil pCells F1 sl46 rfl rfl rfl rfl ?_)
  intro b2 w2 hb2 F2
  refine Ops.step (One.val rfl rfl rfl (yld_move rfl (ev_t rfl)) ?_)
  refine Ops.step (One.append (enc := pCells) p F2 0 rfl sl46 zero52 rfl rfl (fun _ => rfl) rfl rfl rfl rfl (ev_t rfl) (ev_t rfl) ((hp.keepX F2.chg fun _ _ h => h).weak fun _ _ => trivial) (fun _ _ => rfl) (by simp; omega) (by simp; omega) ?_)
  intro u1 w3 hu1 F3
  change Fr _ _ [_, blk _ _ [_, _, _, _, _], _, _] _ at F3
  obtain ⟨Au, mu, cu, hu1e⟩ := own_form (F3.get 0 rfl)
  subst hu1e
  refine Ops.step (One.buildSlice (cells := (vCells (.slice Au mu cu))) F3 sl27 zero46 rfl rfl rfl rfl (evp1 (ev_t rfl)) rfl rfl (by kernel_rfl) ?_)
  intro b3 w4 hb3 F4
  refine Ops.step (One.append (enc := vCells) [.slice Au mu cu] F4 3 rfl sl27 zero46 rfl rfl (fun _ => rfl) rfl rfl rfl rfl (ev_t rfl) (ev_t rfl) ((blk_rep (enc := vCells) (sz := 1) (xs := [.slice Au mu cu]) (fun _ => rfl) (by simpa using F4.get 0 rfl) (by simp) (by simp)).weak fun _ _ => trivial) (fun y hy => by simp at hy; subst hy; rfl) (by simp; omega) (by simp; omega) ?_)
  intro u2 w5 hu2 F5
  change Fr _ _ [_, _, blk _ _ [_, _, _, _, _], _, _] _ at F5
  refine Ops.step (One.val rfl rfl rfl (yld_assign rfl (ev_t rfl)) ?_)
  refine Ops.nil fun a hS => ?_
  refine hK2 _ _ ?_ a hS
  refine Cod.seq fun K3 hK3 => ?_
  refine Cod.seq fun K4 hK4 => ?_
  refine Cod.region ?_
  refine Ops.step (One.val rfl rfl rfl (yld_field fi31_4 rfl (ev_t rfl)) ?_)
  refine Ops.step (One.val rfl rfl rfl (yld_load1 on29 rfl (ev_t rfl) (fun _ => F5.cell 2 rfl rfl)) ?_)
  refine Ops.step (One.val rfl rfl rfl (yld_len sl29 rfl (ev_t rfl)) ?_)
  refine Ops.step (One.val rfl rfl rfl (yld_move rfl ev_c) ?_)
  refine Ops.nil fun a hS => ?_
  refine hK4 _ _ ?_ a hS
  refine Cod.block ?_
  skip
  have F6 := F5.pull 2 rfl
  have F7 := F6.pull 3 rfl
  have F8 := F7.pull 4 rfl
  have F9 := F8.pull 4 rfl
  have F10 := F9.erase 4
  refine Cod.loop (fun i : Nat × List Value × Value => [(1, true, .slice Ap p.length cp), (2, true, i.2.2), (3, true, .pointer (some ⟨b1, 0, none⟩)), (16, true, .slice A4 t.list.length c4), (17, true, .int .i64 (t.list.length : Int)), (18, true, .int .i64 (i.1 : Int))]) (fun i w' => i.1 ≤ t.list.length ∧ i.2.1.length = (ll ++ wp t p i.1).length ∧ Fr X w [bun (sepP (ll ++ wp t p i.1) i.2.2 i.2.1), blk b1 31 [.int .i64 t.kind, .int .i64 t.num, .string t.str, .slice A3 t.keys.length c3, .slice A4 t.list.length c4]] w') (fun i => t.list.length - i.1) (0, xs0 ++ [.slice Au mu cu], u2) ⟨rfl, rfl, rfl, rfl, rfl, rfl, trivial⟩ ⟨Nat.zero_le _, by rw [wp_zero]; simp [hxl0], by rw [wp_zero]; exact (by have h : Fr X w (bun (rowsP ll xs0 ++ rowsP [p] [.slice Au mu cu]) :: own 46 1 u2 (xs0 ++ [Value.slice Au mu cu]).length ((xs0 ++ [Value.slice Au mu cu]).flatMap vCells) :: blk b1 31 [.int .i64 t.kind, .int .i64 t.num, .string t.str, .slice A3 t.keys.length c3, .slice A4 t.list.length c4] :: []) _ := F10.bunPut; rw [← rowsP_app _ _ hxl0] at h; exact (h.pull 1 rfl).bunTwo)⟩ ?_
  intro i w6 hW K5 hK5
  obtain ⟨ix, xs, ov2⟩ := i
  obtain ⟨hi, hxl, F11⟩ := hW
  dsimp only at *
  have hwl := wp_len t p ix
  refine Cod.seq fun K6 hK6 => ?_
  refine Cod.region ?_
  refine Ops.step (One.val rfl rfl rfl (yld_lss rfl (ev_t rfl) (ev_t rfl)) ?_)
  refine Ops.nil fun a hS => ?_
  refine hK6 _ _ ?_ a hS
  refine Cod.seq fun K7 hK7 => ?_
  refine Cod.cond rfl (fun hc19 => ?_) (fun hc19 => ?_)
  · skip
    have hil : ix < t.list.length := by simpa using hc19
    obtain ⟨b, o, cs, rfl, hbX, hlc, hrl, hrt⟩ := h4.at ix hil
    obtain ⟨ca, cb, cc, cd, ce, rfl⟩ := five hlc
    have hcc := cnt_child hil
    have hw2 : (wp t p ix).length + t.list[ix].cnt ≤ t.cnt := by have h := wp_len t p (ix + 1); rw [wp_step t p ix hil, List.length_append, Tr.ways_len] at h; exact h
    have happ : ll ++ wp t p ix ++ t.list[ix].ways (p ++ [stepK t.kind t.keys ix]) = ll ++ wp t p (ix + 1) := by rw [wp_step t p ix hil, List.append_assoc]
    refine Cod.skip fun a hS => ?_
    refine hK7 _ _ ?_ a hS
    refine Cod.seq fun K8 hK8 => ?_
    refine Cod.block ?_
    refine Cod.seq fun K9 hK9 => ?_
    refine Cod.region ?_
    refine Ops.step (One.val rfl rfl rfl (yld_move rfl (ev_t rfl)) ?_)
    refine Ops.step (One.val rfl rfl rfl (yld_indexN sl29 rfl (ev_t rfl) (ev_t rfl) (fun _ => by omega)) ?_)
    refine Ops.step (One.val rfl rfl rfl (yld_loadN ag31 rfl (ev_t rfl) (fun _ => rng_chg hrl F11.chg hbX) rfl) ?_)
    refine Ops.step (One.alloc F11 zero31 rfl rfl rfl rfl ?_)
    intro b4 w7 hb4 F12
    change Fr _ _ [blk _ _ [_, _, _, _, _], _, blk _ _ [_, _, _, _, _]] _ at F12
    refine Ops.step (One.val rfl rfl rfl (yld_assign rfl (ev_t rfl)) ?_)
    refine Ops.step (One.storeN (vs := [_, _, _, _, _]) F12 0 rfl sz31 rfl rfl rfl (ev_t rfl) (ev_t rfl) rfl rfl (hrt.one) ?_)
    intro w8 F13
    change Fr _ _ [blk _ _ [_, _, _, _, _], _, blk _ _ [_, _, _, _, _]] _ at F13
    refine Ops.nil fun a hS => ?_
    refine hK9 _ _ ?_ a hS
    have F14 := F13.drew
    refine Cod.draw (C_of (F14.erase 1)) (by kernel_rfl) ?_
    refine Hops.take 0 rfl (by kernel_rfl) (fun _ _ _ h => h) rfl rfl rfl (F14.erase 1) (fun w F => (yld_loadN ag31 rfl (ev_t rfl) (fun _ => F.range (m := 5) (cs' := [_, _, _, _, _]) 0 rfl rfl) rfl)) ?_
    refine Hops.take 1 rfl (by kernel_rfl) (fun _ _ _ h => h) rfl rfl rfl (F14.erase 1) (fun w F => (yld_move rfl (ev_t rfl))) ?_
    refine Hops.take 2 rfl (by kernel_rfl) (fun _ _ _ h => h) rfl rfl rfl (F14.erase 1) (fun w F => (yld_loadN ag31 rfl (ev_t rfl) (fun _ => F.range (m := 5) (cs' := [_, _, _, _, _]) 1 rfl rfl) rfl)) ?_
    refine Hops.take 3 rfl (by kernel_rfl) (fun _ _ _ h => h) rfl rfl rfl (F14.erase 1) (fun w F => (yld_move rfl (ev_t rfl))) ?_
    refine Hops.take 6 rfl (by kernel_rfl) (fun _ _ _ h => h) rfl rfl rfl (F14.erase 1) (fun w F => (yld_move rfl (ev_t rfl))) ?_
    refine Hops.one 4 rfl (by kernel_rfl) (One.call rfl rfl rfl (ent_f rfl (evl2 (ev_t rfl) (ev_t rfl)) (enters en110)) (stepTo_ct t ix _ _ ((hr.keepX F14.chg fun _ _ h => h).weak fun _ _ => trivial) hil hkl) (fun e w9 hw9 => ?_))
    obtain ⟨rfl, C9⟩ := hw9
    have F15 := F14.call C9
    refine ⟨_, rfl, ?_⟩
    refine ⟨(F15.erase 1), ?_⟩
    refine Hops.one 5 rfl (by kernel_rfl) (One.call rfl rfl rfl (ent_f rfl (evl2 (ev_t rfl) (ev_t rfl)) (enters en109)) (further_ct p (stepK t.kind t.keys ix) _ _ ((hp.keepX F15.chg fun _ _ h => h).weak fun _ _ => trivial) (by omega)) (fun e w10 hw10 => ?_))
    obtain ⟨u3, rfl, C10, ho3, hb3⟩ := hw10
    have F16 := F15.new C10 (rowP (p ++ [stepK t.kind t.keys ix]) u3) ho3 hb3
    refine ⟨_, rfl, ?_⟩
    refine ⟨(F16.erase 2).drop1, ?_⟩
    refine Hops.one 7 rfl (by kernel_rfl) (One.call rfl rfl rfl (ent_f rfl (evl3 (ev_t rfl) (ev_t rfl) (ev_t rfl)) (enters en52)) (H' _ (List.getElem_mem hil) (p ++ [stepK t.kind t.keys ix]) (ll ++ wp t p ix) _ _ _ xs _ (F16.get 2 rfl) hxl (((hrt.both.weak (G := fun k => ¬ X k ∧ k < w.heap.size) fun _ h => h).keepX F16.chg fun _ _ h => h.1).weak fun k h hk => (F16.dom _ (List.mem_of_getElem? (i := 2) rfl) k hk).elim h.1 fun h2 => by omega) (okT_child hok (List.getElem_mem hil)) ((own_rep (enc := pCells) (sz := 3) (fun _ => rfl) (F16.get 0 rfl)).weak fun k hk hk2 => F16.apt 0 2 rfl rfl (by decide) k hk hk2) (by simp; omega) (by rw [List.length_append]; omega)) (fun e w11 hw11 => ?_))
    obtain ⟨v5, xs5, rfl, hl5, C11, hm5, hb5⟩ := hw11
    have F17 := F16.upd 2 rfl C11 (fun _ hk => .inl hk) (bun (sepP _ v5 xs5)) hm5 hb5
    change Fr _ _ [_, _, _, _] _ at F17
    refine ⟨_, rfl, ?_⟩
    refine ⟨(F17.erase 2).drop1, ?_⟩
    refine Hops.one 8 rfl (by kernel_rfl) (One.val rfl rfl rfl (yld_assign rfl (ev_t rfl)) ?_)
    refine ⟨(F17.erase 2).drop1, ?_⟩
    refine Hops.nil (by kernel_rfl) fun a hS => ?_
    refine hK8 _ _ ?_ a hS
    refine Cod.region ?_
    refine Ops.step (One.val rfl rfl rfl (yld_inc rfl (ev_t rfl) (fun _ => by omega)) ?_)
    refine Ops.step (One.val rfl rfl rfl (yld_move rfl (ev_t rfl)) ?_)
    refine Ops.nil fun a hS => ?_
    have F18 := F17.pull 3 rfl
    have F19 := F18.pull 3 rfl
    have F20 := F19.erase 2
    have F21 := F20.erase 2
    exact hK5 (ix + 1, xs5, v5) _ a (hS.sub ⟨rfl, rfl, rfl, rfl, rfl, rfl, trivial⟩) ⟨by show ix + 1 ≤ _; omega, by rw [happ] at hl5; exact hl5, by rw [happ] at F21; exact F21⟩ (by show t.list.length - (ix + 1) < t.list.length - ix; omega)
  · skip
    have hix : ix = t.list.length := by simp at hc19; omega
    subst hix
    rw [wp_end] at F11 hxl
    refine Cod.exit fun a hS => ?_
    simp only [Exit.then, Exit.inBlock, ↓reduceIte]
    refine hK3 _ _ ?_ a hS
    refine Cod.seq fun K10 hK10 => ?_
    refine Cod.region ?_
    refine Ops.step (One.val rfl rfl rfl (yld_move rfl (ev_t rfl)) ?_)
    refine Ops.step (One.val rfl rfl rfl (yld_assign rfl (ev_t rfl)) ?_)
    refine Ops.nil fun a hS => ?_
    refine hK10 _ _ ?_ a hS
    refine Cod.ret fun a hS => ?_
    try simp only [Exit.then, Exit.inBlock]
    exact ret1 (t := 6) rfl hS rfl ⟨ov2, xs, rfl, hxl, by rw [← hX]; exact F11.chg, F11.get 0 rfl, fun b hb => by rw [← hX]; exact F11.dom _ (List.mem_of_getElem? (i := 0) rfl) b hb⟩


theorem ways_ct (t : Tr) : IWaysOk t := Tr.ind (p := IWaysOk) ways_of t

set_option maxRecDepth 100000 in
theorem specAll_ct (t : Tr) (v : Value) (w : World) (hr : Rep Any w t v) (hf : t.Fit) (hw : t.wt ≤ 1048576) : Calls Try.prog 11 #[v] w (NewPP w (waysR t)) := by
  obtain ⟨v3, v4, ev, h3, h4⟩ := hr.form
  subst ev
  refine enter Try.func11 rfl rfl rfl ?_
  have F0 := Fr.start w
  refine Cod.seq fun K1 hK1 => ?_
  refine Cod.region ?_
  refine Ops.step (One.box F0 rfl rfl rfl rfl (ev_t rfl) ?_)
  intro b1 w1 hb1 F1
  change Fr _ _ [blk _ _ [_, _, _, _, _]] _ at F1
  refine Ops.step (One.val rfl rfl rfl (yld_assign rfl ev_c) ?_)
  refine Ops.nil fun a hS => ?_
  refine hK1 _ _ ?_ a hS
  refine Cod.seq fun K2 hK2 => ?_
  refine Cod.seq fun K3 hK3 => ?_
  refine Cod.region ?_
  refine Ops.step (One.val rfl rfl rfl (yld_loadN ag31 rfl (ev_t rfl) (fun _ => F1.range (m := 5) (cs' := [_, _, _, _, _]) 0 rfl rfl) rfl) ?_)
  refine Ops.step (One.call rfl rfl rfl (ent_f rfl (evl1 (ev_t rfl)) (enters en42)) (specOk_ct t _ _ (hr.chg F1.chg) hf hw) (fun e w2 hw2 => ?_))
  obtain ⟨rfl, C2⟩ := hw2
  have F2 := F1.call C2
  refine ⟨_, rfl, ?_⟩
  refine Ops.step (One.val rfl rfl rfl (yld_not rfl (ev_t rfl)) ?_)
  refine Ops.nil fun a hS => ?_
  refine hK3 _ _ ?_ a hS
  refine Cod.cond rfl (fun hc5 => ?_) (fun hc5 => ?_)
  · skip
    have hno : waysR t = [] := by
      have hc : (!(okT t)) = true := hc5
      unfold waysR
      rw [if_neg]
      intro h
      rw [h] at hc
      simp at hc
    refine Cod.seq fun K4 hK4 => ?_
    refine Cod.region ?_
    refine Ops.step (One.buildNil vCells F2 sl27 rfl rfl rfl rfl ?_)
    intro b2 w3 hb2 F3
    refine Ops.step (One.val rfl rfl rfl (yld_assign rfl (ev_t rfl)) ?_)
    refine Ops.nil fun a hS => ?_
    refine hK4 _ _ ?_ a hS
    refine Cod.ret fun a hS => ?_
    try simp only [Exit.then, Exit.inBlock]
    have hF3 := F3.bunNil.pull 1 rfl |>.bunTwo
    exact ret1 (t := 2) rfl hS rfl ⟨_, [], rfl, by rw [hno]; rfl, hF3.chg, by rw [hno]; exact hF3.get 0 rfl, fun b hb => (hF3.dom _ (List.mem_of_getElem? (i := 0) rfl) b (by rw [hno] at hb; exact hb)).resolve_left id⟩
  · skip
    have hok : okT t = true := by
      have hc : (!(okT t)) = false := hc5
      cases h1 : okT t <;> simp [h1] at hc ⊢
    have hyes : waysR t = t.ways [] := by unfold waysR; rw [if_pos hok]
    have hcn : (t.cnt : Int) ≤ 60 := (okT_node hok).2
    refine Cod.skip fun a hS => ?_
    refine hK2 _ _ ?_ a hS
    refine Cod.seq fun K5 hK5 => ?_
    refine Cod.region ?_
    refine Ops.step (One.val rfl rfl rfl (yld_loadN ag31 rfl (ev_t rfl) (fun _ => F2.range (m := 5) (cs' := [_, _, _, _, _]) 0 rfl rfl) rfl) ?_)
    refine Ops.step (One.call rfl rfl rfl (ent_f rfl (evl2 (ev_t rfl) ev_c) (enters en49)) (l3All_ct t [] _ _ _ (hr.chg F2.chg) hok (RepE.nil _ _) (by show 0 + _ ≤ _; omega)) (fun e w4 hw4 => ?_))
    obtain ⟨v5, xs5, rfl, hl5, C4, hm5, hb5⟩ := hw4
    have F4 := F2.new C4 (bun (sepP _ v5 xs5)) hm5 hb5
    refine ⟨_, rfl, ?_⟩
    refine Ops.step (One.val rfl rfl rfl (yld_assign rfl (ev_t rfl)) ?_)
    refine Ops.nil fun a hS => ?_
    refine hK5 _ _ ?_ a hS
    refine Cod.ret fun a hS => ?_
    try simp only [Exit.then, Exit.inBlock]
    exact ret1 (t := 2) rfl hS rfl ⟨v5, xs5, rfl, by rw [hyes]; exact hl5, F4.chg, by rw [hyes]; exact F4.get 0 rfl, fun b hb => (F4.dom _ (List.mem_of_getElem? (i := 0) rfl) b (by rw [hyes] at hb; exact hb)).resolve_left id⟩

set_option maxRecDepth 100000 in
theorem all_ct (t : Tr) (v : Value) (w : World) (hr : Rep Any w t v) (hf : t.Fit) (hw : t.wt ≤ 1048576) : Calls Try.prog 13 #[v] w (NewPP w (waysR t)) := by
  obtain ⟨v3, v4, ev, h3, h4⟩ := hr.form
  subst ev
  refine enter Try.func13 rfl rfl rfl ?_
  have F0 := Fr.start w
  refine Cod.seq fun K1 hK1 => ?_
  refine Cod.region ?_
  refine Ops.step (One.box F0 rfl rfl rfl rfl (ev_t rfl) ?_)
  intro b1 w1 hb1 F1
  change Fr _ _ [blk _ _ [_, _, _, _, _]] _ at F1
  refine Ops.step (One.val rfl rfl rfl (yld_assign rfl ev_c) ?_)
  refine Ops.nil fun a hS => ?_
  refine hK1 _ _ ?_ a hS
  refine Cod.seq fun K2 hK2 => ?_
  refine Cod.seq fun K3 hK3 => ?_
  refine Cod.region ?_
  refine Ops.step (One.val rfl rfl rfl (yld_loadN ag31 rfl (ev_t rfl) (fun _ => F1.range (m := 5) (cs' := [_, _, _, _, _]) 0 rfl rfl) rfl) ?_)
  refine Ops.step (One.call rfl rfl rfl (ent_f rfl (evl1 (ev_t rfl)) (enters en43)) (valOk_ct t _ _ (hr.chg F1.chg) hf) (fun e w2 hw2 => ?_))
  obtain ⟨rfl, C2⟩ := hw2
  have F2 := F1.call C2
  refine ⟨_, rfl, ?_⟩
  refine Ops.step (One.val rfl rfl rfl (yld_not rfl (ev_t rfl)) ?_)
  refine Ops.nil fun a hS => ?_
  refine hK3 _ _ ?_ a hS
  refine Cod.cond rfl (fun hc5 => ?_) (fun hc5 => ?_)
  · skip
    have hno : waysR t = [] := by
      have hc : (!(okT t)) = true := hc5
      unfold waysR
      rw [if_neg]
      intro h
      rw [h] at hc
      simp at hc
    refine Cod.seq fun K4 hK4 => ?_
    refine Cod.region ?_
    refine Ops.step (One.buildNil vCells F2 sl27 rfl rfl rfl rfl ?_)
    intro b2 w3 hb2 F3
    refine Ops.step (One.val rfl rfl rfl (yld_assign rfl (ev_t rfl)) ?_)
    refine Ops.nil fun a hS => ?_
    refine hK4 _ _ ?_ a hS
    refine Cod.ret fun a hS => ?_
    try simp only [Exit.then, Exit.inBlock]
    have hF3 := F3.bunNil.pull 1 rfl |>.bunTwo
    exact ret1 (t := 2) rfl hS rfl ⟨_, [], rfl, by rw [hno]; rfl, hF3.chg, by rw [hno]; exact hF3.get 0 rfl, fun b hb => (hF3.dom _ (List.mem_of_getElem? (i := 0) rfl) b (by rw [hno] at hb; exact hb)).resolve_left id⟩
  · skip
    have hok : okT t = true := by
      have hc : (!(okT t)) = false := hc5
      cases h1 : okT t <;> simp [h1] at hc ⊢
    have hyes : waysR t = t.ways [] := by unfold waysR; rw [if_pos hok]
    have hcn : (t.cnt : Int) ≤ 60 := (okT_node hok).2
    refine Cod.skip fun a hS => ?_
    refine hK2 _ _ ?_ a hS
    refine Cod.seq fun K5 hK5 => ?_
    refine Cod.region ?_
    refine Ops.step (One.val rfl rfl rfl (yld_loadN ag31 rfl (ev_t rfl) (fun _ => F2.range (m := 5) (cs' := [_, _, _, _, _]) 0 rfl rfl) rfl) ?_)
    refine Ops.step (One.buildNil vCells F2 sl27 rfl rfl rfl rfl ?_)
    intro b3 w4 hb3 F4
    have hF4 := F4.bunNil.pull 1 rfl |>.bunTwo
    refine Ops.step (One.call rfl rfl rfl (ent_f rfl (evl3 (ev_t rfl) ev_c (ev_t rfl)) (enters en52)) (ways_ct t [] [] _ _ _ [] _ (hF4.get 0 rfl) rfl (((hr.old.keepX F4.chg fun _ _ _ h => h).weak fun k hk hk2 => (hF4.dom _ (List.mem_of_getElem? (i := 0) rfl) k hk2).elim id fun h2 => by omega)) hok (RepE.nil _ _) (by show 0 + _ ≤ _; omega) (by show 0 + _ ≤ _; omega)) (fun e w5 hw5 => ?_))
    obtain ⟨v5, xs5, rfl, hl5, C5, hm5, hb5⟩ := hw5
    have F5 := hF4.upd 0 rfl C5 (fun _ hk => .inl hk) (bun (sepP _ v5 xs5)) hm5 hb5
    refine ⟨_, rfl, ?_⟩
    refine Ops.step (One.val rfl rfl rfl (yld_assign rfl (ev_t rfl)) ?_)
    refine Ops.nil fun a hS => ?_
    refine hK5 _ _ ?_ a hS
    refine Cod.ret fun a hS => ?_
    try simp only [Exit.then, Exit.inBlock]
    exact ret1 (t := 2) rfl hS rfl ⟨v5, xs5, rfl, by rw [hyes]; exact hl5, F5.chg, by rw [hyes]; exact F5.get 0 rfl, fun b hb => (F5.dom _ (List.mem_of_getElem? (i := 0) rfl) b (by rw [hyes] at hb; exact hb)).resolve_left id⟩


theorem Fr.new2 {X : Nat → Prop} {w0 w w' : World} {L : List Res} (h : Fr X w0 L w) (hc : Chg No w w') (r q : Res) (hr : r.is w') (hq : q.is w') (hbr : ∀ k, r.fp k → w.heap.size ≤ k) (hbq : ∀ k, q.fp k → w.heap.size ≤ k) (hd : ∀ k, r.fp k → ¬ q.fp k) : Fr X w0 (r :: q :: L) w' := by
  have h1 := h.new hc q hq hbq
  have h2 := h.new hc r hr hbr
  refine ⟨h1.chg, ⟨hr, fun k hk s hs => ?_, h1.mem⟩, fun s hs k hk => ?_⟩
  · rcases List.mem_cons.1 hs with rfl | hs
    · exact hd k hk
    · exact h2.mem.2.1 k hk s hs
  · rcases List.mem_cons.1 hs with rfl | hs
    · exact h2.dom s (by simp) k hk
    · exact h1.dom s hs k hk
def kOf (p : Tr) : ByteArray := (p.list.getD 0 zeroT).str
def vOf (p : Tr) : Tr := p.list.getD 1 zeroT
def pairB (p : Tr) : Bool := decide (p.kind = 5) && decide (p.list.length = 2) && decide ((p.list.getD 0 zeroT).kind = 4)
def rkF : List Tr → List ByteArray → List Tr → Option Tr
  | [], ks, l => some (.mk 6 0 ⟨#[]⟩ ks l)
  | p :: r, ks, l => if pairB p = true then rkF r (putK ks (kOf p)) (putL ks l (kOf p) (vOf p)) else none
noncomputable def rowKeysR (t : Tr) : Option Tr := if rowT t = true then (rkF t.list [] []).bind (toldR true) else none
structure Good (ks : List ByteArray) (l : List Tr) (n : Nat) : Prop where
  so : Sorted ks
  len : ks.length = l.length
  le : ks.length ≤ n
  ok : ∀ k ∈ ks, okS k = true
  okl : ∀ x ∈ l, okT x = true
  fit : ∀ x ∈ l, x.Fit
theorem Good.nil (n : Nat) : Good [] [] n := ⟨fun i _ h => by simp at h, rfl, Nat.zero_le _, by simp, by simp, by simp⟩
theorem putK_sorted {ks : List ByteArray} {key : ByteArray} (hs : Sorted ks) : Sorted (putK ks key) := by
  have hp := posK_pos (key := key) hs
  have hn : ∀ j, nth ks j = nth ks j := fun _ => rfl
  cases hb : putB ks key
  · have hK : putK ks key = ks.take (posK ks key) ++ key :: ks.drop (posK ks key) := by unfold putK; rw [if_neg (by simp [hb])]
    rw [hK]
    have hq := hp.1
    have hlen : (ks.take (posK ks key)).length = posK ks key := by simp; omega
    have h1 : ∀ i, i < posK ks key → nth (ks.take (posK ks key) ++ key :: ks.drop (posK ks key)) i = nth ks i := fun i hi => by
      unfold nth
      simp [List.getElem?_append, show i < min (posK ks key) ks.length by omega, show i < ks.length by omega, hi]
    have h2 : nth (ks.take (posK ks key) ++ key :: ks.drop (posK ks key)) (posK ks key) = key := by
      unfold nth
      simp [List.getElem?_append, show min (posK ks key) ks.length = posK ks key by omega]
    have h3 : ∀ i, posK ks key < i → nth (ks.take (posK ks key) ++ key :: ks.drop (posK ks key)) i = nth ks (i - 1) := fun i hi => by
      unfold nth
      obtain ⟨j, rfl⟩ : ∃ j, i = posK ks key + 1 + j := ⟨i - (posK ks key + 1), by omega⟩
      simp [List.getElem?_append, show min (posK ks key) ks.length = posK ks key by omega, show ¬ posK ks key + 1 + j < posK ks key by omega, show posK ks key + 1 + j - posK ks key = j + 1 by omega, show posK ks key + 1 + j - 1 = posK ks key + j by omega]
    intro i h0 hi
    have hi' : i < ks.length + 1 := by simp at hi; omega
    rcases Nat.lt_trichotomy i (posK ks key) with h | h | h
    · rw [h1 i h, h1 (i - 1) (by omega)]
      exact hs i h0 (by omega)
    · rw [h, h2, h1 _ (by omega)]
      exact hp.2.1 _ (by omega)
    · rw [h3 i h]
      by_cases h4 : i = posK ks key + 1
      · subst h4
        rw [show posK ks key + 1 - 1 = posK ks key by omega, h2]
        refine ltS_nlt (hp.2.2 _ (Nat.le_refl _) (by omega)) fun e => ?_
        have : putB ks key = true := putB_iff.2 ⟨by omega, e⟩
        rw [hb] at this; cases this
      · rw [h3 (i - 1) (by omega)]
        exact hs (i - 1) (by omega) (by omega)
  · have hK : putK ks key = ks := by unfold putK; rw [if_pos hb]
    rw [hK]; exact hs
theorem put_len2 {α : Type} {ks : List ByteArray} {l : List α} {key : ByteArray} {x : α} (h : ks.length = l.length) : (putK ks key).length = (putL ks l key x).length := by
  have := posK_le ks key
  unfold putK putL
  split
  · simp [h]
  · simp; omega
theorem Good.put {ks : List ByteArray} {l : List Tr} {n : Nat} {key : ByteArray} {x : Tr} (h : Good ks l n) (hk : okS key = true) (hx : okT x = true) (hf : x.Fit) : Good (putK ks key) (putL ks l key x) (n + 1) where
  so := putK_sorted h.so
  len := put_len2 h.len
  le := by have := putK_le ks key; have := h.le; omega
  ok := fun y hy => by
    rcases putK_mem hy with hy | rfl
    · exact h.ok y hy
    · exact hk
  okl := fun y hy => by
    rcases putL_mem hy with hy | rfl
    · exact h.okl y hy
    · exact hx
  fit := fun y hy => by
    rcases putL_mem hy with hy | rfl
    · exact h.fit y hy
    · exact hf
theorem Good.bd {ks : List ByteArray} {l : List Tr} {n : Nat} (h : Good ks l n) (hn : n ≤ 60) : (Tr.mk 6 0 ⟨#[]⟩ ks l).Fit ∧ (Tr.mk 6 0 ⟨#[]⟩ ks l).wt ≤ 1048576 := by
  have hl := h.len
  have hle := h.le
  refine ⟨.mk (Nat.zero_le _) (fun y hy => by have := okS_le (h.ok y hy); omega) h.fit, ?_⟩
  have hb := sumNb (f := Tr.wt) (b := 1560) (l := l) fun y hy => okT_wt (h.okl y hy)
  have hb2 := sumNb (f := ByteArray.size) (b := 12) (l := ks) fun y hy => okS_le (h.ok y hy)
  rw [Tr.wt_mk]
  show 0 + (_ + _) + _ ≤ _
  omega
theorem okT_str {t : Tr} (h : okT t = true) : okS t.str = true := by
  obtain ⟨k, n, s, ks, l⟩ := t
  exact (Form.iff.1 (okT_node h).1).2.1.ok
theorem Good.step {ks : List ByteArray} {l : List Tr} {n : Nat} {p : Tr} (h : Good ks l n) (hp : okT p = true) (hf : p.Fit) (h2 : p.list.length = 2) : Good (putK ks (kOf p)) (putL ks l (kOf p) (vOf p)) (n + 1) := by
  obtain ⟨k, m, s, ks', l'⟩ := p
  match l', h2 with
  | [a, b], _ => exact h.put (okT_str (okT_child hp (x := a) (by simp [Tr.list]))) (okT_child hp (x := b) (by simp [Tr.list])) (hf.list b (by simp [Tr.list]))
theorem rkF_good : ∀ {r : List Tr} {ks : List ByteArray} {l : List Tr} {n : Nat} {o : Tr}, Good ks l n → (∀ p ∈ r, okT p = true ∧ p.Fit) → rkF r ks l = some o → ∃ ks' l', o = .mk 6 0 ⟨#[]⟩ ks' l' ∧ Good ks' l' (n + r.length)
  | [], ks, l, n, o, h, _, e => ⟨ks, l, (Option.some.inj e).symm, h⟩
  | p :: r, ks, l, n, o, h, hr, e => by
    unfold rkF at e
    split at e
    · rename_i hp
      have h2 : p.list.length = 2 := by unfold pairB at hp; simp at hp; exact hp.1.2
      obtain ⟨ks', l', h3, h4⟩ := rkF_good (h.step (hr p (by simp)).1 (hr p (by simp)).2 h2) (fun q hq => hr q (by simp [hq])) e
      exact ⟨ks', l', h3, by rw [List.length_cons, show n + (r.length + 1) = n + 1 + r.length by omega]; exact h4⟩
    · cases e
theorem rowT_ok {t : Tr} (h : rowT t = true) : okT t = true := by unfold rowT at h; cases h1 : okT t <;> simp [h1] at h ⊢
theorem rowKeys_mkn {t : Tr} (hf : t.Fit) : ((rowKeysR t).getD zeroT).keys.length + sumN Tr.mkn ((rowKeysR t).getD zeroT).list ≤ 3 * 1048576 + 3 := by
  unfold rowKeysR
  split
  · rename_i h
    have h1 := rowT_ok h
    have hl := okT_len60 h1
    cases h2 : rkF t.list [] [] with
    | none => show 0 + 0 ≤ _; omega
    | some o =>
      obtain ⟨ks', l', rfl, h4⟩ := rkF_good (Good.nil 0) (fun p hp => ⟨okT_child h1 hp, hf.list p hp⟩) h2
      show ((toldR true (.mk 6 0 ⟨#[]⟩ ks' l')).getD zeroT).keys.length + sumN Tr.mkn ((toldR true (.mk 6 0 ⟨#[]⟩ ks' l')).getD zeroT).list ≤ _
      unfold toldR
      split
      · exact wt_mkn _ _ (h4.bd (by omega)).2
      · show 0 + 0 ≤ _
        omega
  · show 0 + 0 ≤ _
    omega
theorem two_at {w : World} {l : List Tr} {A : Option Addr} {c : Nat} (h : RepL Any w l (.slice A l.length c)) : ∃ b o u3 u4, ∃ y : V5, l.length = 2 → A = some ⟨b, o, none⟩ ∧ w.rangeAt b o [.int .i64 (l.getD 0 zeroT).kind, .int .i64 (l.getD 0 zeroT).num, .string (l.getD 0 zeroT).str, u3, u4] ∧ w.rangeAt b (o + 5) (enc5 y) ∧ Rep Any w (l.getD 1 zeroT) y.val := by
  by_cases hl : l.length = 2
  · obtain ⟨b, o, cs, rfl, -, hlc, hr0, ht0⟩ := h.at 0 (by omega)
    obtain ⟨b', o', cs', e, -, hlc', hr1, ht1⟩ := h.at 1 (by omega)
    obtain ⟨rfl, rfl⟩ : b = b' ∧ o = o' := by simpa using e
    obtain ⟨u3, u4, e3, -, -⟩ := ht0.form
    have e0 : cs = [.int .i64 l[0].kind, .int .i64 l[0].num, .string l[0].str, u3, u4] := by simpa using e3
    match cs', hlc', hr1, ht1 with
    | [x1, x2, x3, x4, x5], _, hr1, ht1 =>
      refine ⟨b, o, u3, u4, ⟨x1, x2, x3, x4, x5⟩, fun _ => ⟨rfl, ?_, ?_, ?_⟩⟩
      · rw [show l.getD 0 zeroT = l[0] by simp [List.getD]; rw [List.getElem?_eq_getElem (by omega)]; rfl, ← e0]
        simpa using hr0
      · simpa [enc5] using hr1
      · rw [show l.getD 1 zeroT = l[1] by simp [List.getD]; rw [List.getElem?_eq_getElem (by omega)]; rfl]
        exact ht1
  · exact ⟨0, 0, .bool true, .bool true, z5, fun h => absurd h hl⟩
theorem rk_drop {l : List Tr} {i : Nat} (hi : i < l.length) (ks : List ByteArray) (l' : List Tr) : rkF (l.drop i) ks l' = if pairB l[i] = true then rkF (l.drop (i + 1)) (putK ks (kOf l[i])) (putL ks l' (kOf l[i]) (vOf l[i])) else none := by
  rw [List.drop_eq_getElem_cons hi, rkF]


theorem posK_cons (k : ByteArray) (ks : List ByteArray) (key : ByteArray) : posK (k :: ks) key = if ltS k key = true then posK ks key + 1 else 0 := rfl
theorem putB_cons (k : ByteArray) (ks : List ByteArray) (key : ByteArray) : putB (k :: ks) key = if ltS k key = true then putB ks key else decide (k = key) := by
  unfold putB hasAt
  rw [posK_cons]
  by_cases h : ltS k key = true
  · simp [if_pos h, nth_succ]
  · simp [if_neg h, nth_zero]
theorem putK_cons (k : ByteArray) (ks : List ByteArray) (key : ByteArray) : putK (k :: ks) key = if ltS k key = true then k :: putK ks key else if k = key then k :: ks else key :: k :: ks := by
  unfold putK
  rw [putB_cons, posK_cons]
  by_cases h : ltS k key = true
  · simp only [if_pos h, List.take_succ_cons, List.drop_succ_cons, List.cons_append]
    split <;> rfl
  · simp only [if_neg h]
    by_cases h2 : k = key <;> simp [h2]
theorem putL_cons {α : Type} (k : ByteArray) (ks : List ByteArray) (a : α) (l : List α) (key : ByteArray) (x : α) : putL (k :: ks) (a :: l) key x = if ltS k key = true then a :: putL ks l key x else if k = key then x :: l else x :: a :: l := by
  unfold putL
  rw [putB_cons, posK_cons]
  by_cases h : ltS k key = true
  · simp only [if_pos h, List.take_succ_cons, List.drop_succ_cons, List.cons_append, List.set_cons_succ]
    split <;> rfl
  · simp only [if_neg h]
    by_cases h2 : k = key <;> simp [h2]
theorem putK_nil (key : ByteArray) : putK [] key = [key] := by
  unfold putK putB hasAt posK
  simp
theorem putL_nil {α : Type} (key : ByteArray) (x : α) : putL [] [] key x = [x] := by
  unfold putL putB hasAt posK
  simp
theorem ltS_ne {a b : ByteArray} (h : ltS a b = true) : a ≠ b := fun e => by
  rw [e, ltS_self] at h
  cases h
theorem ltS_or {a b : ByteArray} (h : ¬ ltS a b = true) (hne : a ≠ b) : ltS b a = true := ltS_nlt (by simpa using h) hne
theorem ltS_as {a b : ByteArray} (h : ltS a b = true) : ¬ ltS b a = true := fun h2 => by
  have := ltS_tr h h2
  rw [ltS_self] at this
  cases this
/-- Put twice at one key: the last one stays. -/
theorem putK_same (key : ByteArray) : ∀ ks : List ByteArray, putK (putK ks key) key = putK ks key
  | [] => by rw [putK_nil, putK_cons, ltS_self]; simp
  | k :: ks => by
    rw [putK_cons]
    split
    · rename_i h
      rw [putK_cons, if_pos h, putK_same key ks]
    · rename_i h
      split
      · rename_i h2
        rw [putK_cons, if_neg h, if_pos h2]
      · rw [putK_cons, ltS_self]
        simp
theorem putL_same {α : Type} (key : ByteArray) (x y : α) : ∀ (ks : List ByteArray) (l : List α), ks.length = l.length → putL (putK ks key) (putL ks l key x) key y = putL ks l key y
  | [], [], _ => by rw [putK_nil, putL_nil, putL_cons, ltS_self, putL_nil]; simp
  | [], _ :: _, h => by simp at h
  | _ :: _, [], h => by simp at h
  | k :: ks, a :: l, h => by
    rw [putK_cons, putL_cons, putL_cons]
    split
    · rename_i h1
      rw [putL_cons, if_pos h1, putL_same key x y ks l (by simpa using h)]
    · rename_i h1
      split
      · rename_i h2
        rw [putL_cons, if_neg h1, if_pos h2]
      · rw [putL_cons, ltS_self]
        simp
/-- Put at two keys, in either order. -/
theorem put_comm {α : Type} {a b : ByteArray} (hab : ltS a b = true) (x y : α) : ∀ (ks : List ByteArray) (l : List α), ks.length = l.length →
    putK (putK ks a) b = putK (putK ks b) a ∧ putL (putK ks a) (putL ks l a x) b y = putL (putK ks b) (putL ks l b y) a x
  | [], [], _ => by
    have h1 := ltS_as hab
    have h2 := ltS_ne hab
    simp only [putK_nil, putL_nil, putK_cons, putL_cons, if_pos hab, if_neg h1, if_neg (Ne.symm h2)]
    exact ⟨trivial, trivial⟩
  | [], _ :: _, h => by simp at h
  | _ :: _, [], h => by simp at h
  | k :: ks, u :: l, h => by
    have h1 := ltS_as hab
    have h2 := ltS_ne hab
    obtain ⟨i1, i2⟩ := put_comm hab x y ks l (by simpa using h)
    by_cases ka : ltS k a = true
    · have kb := ltS_tr ka hab
      simp only [putK_cons, putL_cons, if_pos ka, if_pos kb, i1, i2]
      exact ⟨trivial, trivial⟩
    · by_cases ea : k = a
      · subst ea
        simp only [putK_cons, putL_cons, if_neg ka, if_pos hab, if_true]
        exact ⟨trivial, trivial⟩
      · by_cases kb : ltS k b = true
        · simp only [putK_cons, putL_cons, if_neg ka, if_neg ea, if_pos kb, if_pos hab]
          exact ⟨trivial, trivial⟩
        · by_cases eb : k = b
          · subst eb
            simp only [putK_cons, putL_cons, if_neg ka, if_neg ea, if_neg kb, if_pos hab, if_true]
            exact ⟨trivial, trivial⟩
          · simp only [putK_cons, putL_cons, if_neg ka, if_neg ea, if_neg kb, if_neg eb, if_pos hab, if_neg h1, if_neg (Ne.symm h2)]
            exact ⟨trivial, trivial⟩
theorem putT_same (t : Tr) (h : t.keys.length = t.list.length) (key : ByteArray) (x y : Tr) : putT (putT t key x) key y = putT t key y := by
  show Tr.mk 6 0 ⟨#[]⟩ (putK (putK t.keys key) key) (putL (putK t.keys key) (putL t.keys t.list key x) key y) = _
  rw [putK_same, putL_same _ _ _ _ _ h]
  rfl
theorem putT_comm (t : Tr) (h : t.keys.length = t.list.length) {a b : ByteArray} (hab : a ≠ b) (x y : Tr) : putT (putT t a x) b y = putT (putT t b y) a x := by
  show Tr.mk 6 0 ⟨#[]⟩ (putK (putK t.keys a) b) (putL (putK t.keys a) (putL t.keys t.list a x) b y) = Tr.mk 6 0 ⟨#[]⟩ (putK (putK t.keys b) a) (putL (putK t.keys b) (putL t.keys t.list b y) a x)
  by_cases h1 : ltS a b = true
  · obtain ⟨e1, e2⟩ := put_comm h1 x y t.keys t.list h
    rw [e1, e2]
  · obtain ⟨e1, e2⟩ := put_comm (ltS_or h1 hab) y x t.keys t.list h
    rw [e1, e2]
theorem put_find {α : Type} (key : ByteArray) (x : α) : ∀ (ks : List ByteArray) (l : List α), ks.length = l.length → (putL ks l key x)[(putK ks key).findIdx (fun y => decide (y = key))]? = some x ∧ (putK ks key).findIdx (fun y => decide (y = key)) < (putK ks key).length
  | [], [], _ => by rw [putK_nil, putL_nil]; simp
  | [], _ :: _, h => by simp at h
  | _ :: _, [], h => by simp at h
  | k :: ks, u :: l, h => by
    obtain ⟨i1, i2⟩ := put_find key x ks l (by simpa using h)
    rw [putK_cons, putL_cons]
    split
    · rename_i h1
      have h2 := ltS_ne h1
      rw [List.findIdx_cons]
      simp [h2, i1, i2]
    · split
      · rename_i h2
        rw [List.findIdx_cons]
        simp [h2]
      · rw [List.findIdx_cons]
        simp
theorem put_get {t : Tr} (h : t.keys.length = t.list.length) (key : ByteArray) (x : Tr) : getT (putT t key x) key = some x := by
  obtain ⟨i1, i2⟩ := put_find key x t.keys t.list h
  have hz : keyZ (putK t.keys key) key = (((putK t.keys key).findIdx (fun y => decide (y = key)) : Nat) : Int) := by unfold keyZ; rw [if_pos i2]
  unfold getT
  rw [if_neg (by show ¬ (6 : Int) = 0; omega), if_neg (by show ¬ (6 : Int) ≠ 6; omega)]
  have e1 : (putT t key x).keys = putK t.keys key := rfl
  have e2 : (putT t key x).list = putL t.keys t.list key x := rfl
  have hlt : (putK t.keys key).findIdx (fun y => decide (y = key)) < (putL t.keys t.list key x).length := by
    rw [← put_len2 h]; exact i2
  rw [dif_pos (by rw [e1, e2, hz]; exact ⟨by omega, by simpa using hlt⟩)]
  have e3 : (keyZ (putT t key x).keys key).toNat = (putK t.keys key).findIdx (fun y => decide (y = key)) := by rw [e1, hz]; simp
  rw [List.getElem?_eq_getElem hlt] at i1
  rw [← i1]
  congr 1
  simp only [e3]
  rfl
theorem putR_some {t x : Tr} {key : ByteArray} {r : Option Tr} (hr : r = putR t key x) (h : r.isSome = true) : putC t x key = true ∧ r = some (putT t key x) ∧ okT (putT t key x) = true := by
  subst hr
  unfold putR at h ⊢
  split at h
  · rename_i h1
    unfold toldR at h ⊢
    rw [if_pos h1]
    split at h
    · rename_i h2
      exact ⟨h1, if_pos h2, by simpa using h2⟩
    · cases h
  · cases h
theorem putR_ok (t : Tr) (key : ByteArray) (x : Tr) : okT ((putR t key x).getD zeroT) = true := by
  unfold putR
  split
  · exact toldR_ok _ _
  · exact okT_zeroT
theorem putC_of {t x : Tr} {key : ByteArray} (h1 : okT t = true) (h2 : okT x = true) (h3 : okS key = true) (h4 : t.kind = 0 ∨ t.kind = 6) : putC t x key = true := by
  unfold putC
  rw [h1, h2, h3]
  rcases h4 with h | h <;> simp [h]
theorem putR_of {t x : Tr} {key : ByteArray} (h : putC t x key = true) : putR t key x = toldR true (putT t key x) := by unfold putR; rw [if_pos h]
theorem partGet_put {t x : Tr} {key : ByteArray} (hc : putC t x key = true) (ho : okT (putT t key x) = true) : partGetR (putT t key x) key = some x := by
  obtain ⟨h1, h2, h3, h4⟩ := putC_facts hc
  unfold partGetR
  rw [ho, h3, Bool.and_self, if_pos rfl, put_get (put_len h1 h4)]


theorem putR_ok2 (t : Tr) (key : ByteArray) (x : Tr) : okT ((putR t key x).getD zeroT) = true := by
  unfold putR
  split
  · exact toldR_ok _ _
  · exact okT_zeroT
theorem stpk {s : Stp} (h : s.ok = true) (hm : s.m = true) : s.key.size ≤ 9223372036854775807 := by
  unfold Stp.ok at h
  rw [if_pos hm] at h
  have := okS_size (by simp at h; exact h.1 : okS s.key = true)
  omega


noncomputable def pathPutT : List Stp → Tr → Tr → Option Tr
  | [], _, x => some x
  | s :: p, t, x => match stepT t s with
    | none => none
    | some i => match pathPutT p i x with
      | none => none
      | some y => if s.m = true then putR t s.key y else setR t y s.pl
theorem some_ok {r : Option Tr} {x : Tr} (h : okT (r.getD zeroT) = true) (hx : r = some x) : okT x = true := by rw [hx] at h; exact h
theorem pathPutT_ok {x : Tr} (hx : okT x = true) : ∀ (p : List Stp) (t y : Tr), pathPutT p t x = some y → okT y = true
  | [], t, y, h => by rw [pathPutT] at h; obtain rfl := Option.some.inj h; exact hx
  | s :: p, t, y, h => by
    rw [pathPutT] at h
    cases hs : stepT t s with
    | none => rw [hs] at h; cases h
    | some i =>
      rw [hs] at h
      cases hp : pathPutT p i x with
      | none => simp only [hp] at h; cases h
      | some z =>
        simp only [hp] at h
        split at h
        · exact some_ok (putR_ok2 t s.key z) h
        · exact some_ok (setR_ok t z s.pl) h
noncomputable def ppR (t : Tr) (p : List Stp) (x : Tr) : Option Tr := if (okT t && pathOk p && okT x) = true then pathPutT p t x else none
theorem RepE.dropP {α : Type} {enc : α → List Value} {sz : Nat} {F : Nat → Prop} {w : World} {xs : List α} {A : Option Addr} {n c : Nat} (h : RepE enc sz F w xs (.slice A n c)) (k : Nat) (hk : k ≤ xs.length) : RepE enc sz F w (xs.drop k) (sliced A k n c sz) := by
  obtain ⟨A', c', h1, h2, h3, h4⟩ := h
  obtain ⟨rfl, rfl, rfl⟩ : A = A' ∧ n = xs.length ∧ c = c' := by simpa using h1
  refine ⟨_, c - k, by unfold sliced; rw [List.length_drop], by rw [List.length_drop]; omega, by omega, fun hne => ?_⟩
  have hlt : k < xs.length := by
    rcases Nat.lt_or_ge k xs.length with h | h
    · exact h
    · exact absurd (List.drop_eq_nil_of_le h) hne
  obtain ⟨b, o, rfl, hF, hr⟩ := h4 (by intro e; rw [e] at hlt; simp at hlt)
  refine ⟨b, o + k * sz, by rw [if_neg (by omega)]; simp [Addr.add_mid], hF, fun i hi => ?_⟩
  rw [List.length_drop] at hi
  have := hr (k + i) (by omega)
  rw [Nat.add_mul, ← Nat.add_assoc] at this
  simpa using this
theorem alR_old {w0 w : World} {t : Tr} {x : V5} (h : Rep Any w0 t x.val) : (alR w0 No [t] [x]).is w :=
  ⟨fun k hk => hk.elim, w0, fun _ _ => rfl, ⟨rfl, fun j h1 h2 => by
    obtain rfl : j = 0 := by simp at h1; exact h1
    exact h.old.weak fun k hk => .inl hk⟩, fun k hk => hk.elim⟩
theorem alR_sep {w0 w : World} {G : Nat → Prop} {t : Tr} {x : V5} (hc : Chg No w0 w) (h : (sep G t x.val).is w) : (alR w0 G [t] [x]).is w := by
  have h' : Sep w G t x.val := h
  exact ⟨h'.lt, w, fun k hk => hc.block k hk id, ⟨rfl, fun j h1 h2 => by
    obtain rfl : j = 0 := by simp at h1; exact h1
    exact h'.repF.weak fun k hk => .inr hk⟩, fun _ _ => rfl⟩
theorem alR_rep {w0 w : World} {G : Nat → Prop} {t : Tr} {x : V5} (h : (alR w0 G [t] [x]).is w) (hc : Chg No w0 w) : Rep Any w t x.val := ((alR.use h hc).2 0 (by simp) (by simp)).weak fun _ _ => trivial
def LooksN (w0 w : World) (r : Option Tr) (e : Ending) (w' : World) : Prop := ∃ (y : V5) (G : Nat → Prop), e = .returned (.tuple #[y.val, .bool r.isSome]) ∧ Chg No w w' ∧ (alR w0 G [r.getD zeroT] [y]).is w' ∧ ∀ k, G k → w.heap.size ≤ k
theorem pathOk_tail {s : Stp} {q : List Stp} (h : pathOk (s :: q) = true) : s.ok = true ∧ pathOk q = true := by
  unfold pathOk at h ⊢
  simp only [List.all_cons, Bool.and_eq_true, decide_eq_true_eq, List.length_cons] at h ⊢
  exact ⟨h.1.1, h.1.2, by omega⟩
def PPOk (p : List Stp) : Prop := ∀ (t x : Tr) (v pv vx : Value) (w0 w : World), Rep Any w0 t v → RepP Any w0 p pv → Rep Any w0 x vx → Chg No w0 w → okT t = true → okT x = true → pathOk p = true →
    Calls Try.prog 108 #[v, pv, vx] w (LooksN w0 w (pathPutT p t x))

set_option maxHeartbeats 4000000 in
set_option maxRecDepth 100000 in
theorem pathPut_of (p : List Stp) (H : ∀ s q, p = s :: q → PPOk q) : PPOk p := by
  intro t x v pv vx w0 w hr0 hp0 hx0 hc0 hok hokx hpo
  have hr := hr0.chg hc0
  have hp := hp0.chg hc0
  have hx := hx0.chg hc0
  obtain ⟨v3, v4, ev, h3, h4⟩ := hr.form
  subst ev
  obtain ⟨X3, d3, X4, d4, ex⟩ := rep_x5 hx
  obtain ⟨xx, rfl⟩ : ∃ y : V5, vx = y.val := ⟨_, ex⟩
  clear ex
  obtain ⟨Ap, pc, rfl, hnp⟩ := hp.open
  have hft := okT_fit hok
  have hwt := okT_w hok
  refine enter Try.func108 rfl rfl rfl ?_
  have F0 := Fr.start w
  refine Cod.seq fun K1 hK1 => ?_
  refine Cod.region ?_
  refine Ops.step (One.box F0 rfl rfl rfl rfl (ev_t rfl) ?_)
  intro b1 w1 hb1 F1
  change Fr _ _ [blk _ _ [_, _, _, _, _]] _ at F1
  refine Ops.step (One.box F1 rfl rfl rfl rfl (ev_t rfl) ?_)
  intro b2 w2 hb2 F2
  change Fr _ _ [blk _ _ [_, _, _, _, _], blk _ _ [_, _, _, _, _]] _ at F2
  refine Ops.step (One.alloc F2 zero31 rfl rfl rfl rfl ?_)
  intro b3 w3 hb3 F3
  change Fr _ _ [blk _ _ [_, _, _, _, _], blk _ _ [_, _, _, _, _], blk _ _ [_, _, _, _, _]] _ at F3
  refine Ops.step (One.val rfl rfl rfl (yld_assign rfl ev_c) ?_)
  refine Ops.nil fun a hS => ?_
  refine hK1 _ _ ?_ a hS
  refine Cod.seq fun K2 hK2 => ?_
  refine Cod.seq fun K3 hK3 => ?_
  refine Cod.region ?_
  refine Ops.step (One.val rfl rfl rfl (yld_move rfl (ev_t rfl)) ?_)
  refine Ops.step (One.val rfl rfl rfl (yld_len sl46 rfl (ev_t rfl)) ?_)
  refine Ops.step (One.val rfl rfl rfl (yld_eql rfl (ev_t rfl) ev_c) ?_)
  refine Ops.nil fun a hS => ?_
  refine hK3 _ _ ?_ a hS
  refine Cod.cond rfl (fun hc14 => ?_) (fun hc14 => ?_)
  · skip
    obtain rfl : p = [] := by
      cases p with
      | nil => rfl
      | cons s q => simp at hc14; omega
    have hR : pathPutT [] t x = some x := rfl
    refine Cod.seq fun K4 hK4 => ?_
    refine Cod.region ?_
    refine Ops.step (One.val rfl rfl rfl (yld_loadN ag31 rfl (ev_t rfl) (fun _ => F3.range (m := 5) (cs' := [_, _, _, _, _]) 1 rfl rfl) rfl) ?_)
    refine Ops.step (One.storeN (vs := [_, _, _, _, _]) F3 0 rfl sz31 rfl rfl rfl (ev_t rfl) (ev_t rfl) rfl rfl (V5.one hx) ?_)
    intro w4 F4
    change Fr _ _ [blk _ _ [_, _, _, _, _], blk _ _ [_, _, _, _, _], blk _ _ [_, _, _, _, _]] _ at F4
    refine Ops.step (One.val rfl rfl rfl (yld_assign rfl ev_c) ?_)
    refine Ops.nil fun a hS => ?_
    refine hK4 _ _ ?_ a hS
    refine Cod.ret fun a hS => ?_
    try simp only [Exit.then, Exit.inBlock]
    exact retct (t := 6) (u := 7) (ty := 31) rfl hS ag31 rfl rfl (F4.range (m := 5) (cs' := [_, _, _, _, _]) 0 rfl rfl) rfl ⟨xx, No, by rw [hR]; rfl, F4.chg, by rw [hR]; exact alR_old hx0, fun k hk => hk.elim⟩
  · skip
    obtain ⟨s, q, rfl⟩ : ∃ s q, p = s :: q := by
      cases p with
      | nil => simp at hc14
      | cons s q => exact ⟨s, q, rfl⟩
    have IH := H s q rfl
    obtain ⟨hso, hpq⟩ := pathOk_tail hpo
    obtain ⟨pb, po, rfl, -, hpr⟩ := hp.at 0 (by simp)
    have hsl : ((s :: q).length : Int) = (q.length : Int) + 1 := by simp
    refine Cod.skip fun a hS => ?_
    refine hK2 _ _ ?_ a hS
    refine Cod.cut (fun i : Nat × V5 => [(1, true, .slice (some ⟨pb, po, none⟩) (s :: q).length pc), (3, true, .pointer (some ⟨b1, 0, none⟩)), (5, true, .pointer (some ⟨b2, 0, none⟩)), (6, true, .pointer (some ⟨b3, 0, none⟩)), (8, true, .pointer (some ⟨i.1, 0, none⟩)), (9, true, .bool (stepT t s).isSome)]) (fun i w' => Rep Any w0 ((stepT t s).getD zeroT) i.2.val ∧ Fr No w [blk i.1 31 (enc5 i.2), blk b3 31 [.int .i64 0, .int .i64 0, .string ⟨#[]⟩, .slice none 0 0, .slice none 0 0], blk b2 31 [xx.a, xx.b, xx.c, xx.d, xx.e], blk b1 31 [.int .i64 t.kind, .int .i64 t.num, .string t.str, v3, v4]] w') (fun K5 hK5 => ?_) ?_
    · skip
      have F5 := F3.drew
      refine Cod.draw (C_of F5) (by kernel_rfl) ?_
      refine Hops.take 0 rfl (by kernel_rfl) (fun _ _ _ h => h) rfl rfl rfl F5 (fun w F => (yld_loadN ag31 rfl (ev_t rfl) (fun _ => F.range (m := 5) (cs' := [_, _, _, _, _]) 2 rfl rfl) rfl)) ?_
      refine Hops.take 1 rfl (by kernel_rfl) (fun _ _ _ h => h) rfl rfl rfl F5 (fun w F => (yld_move rfl (ev_t rfl))) ?_
      refine Hops.take 2 rfl (by kernel_rfl) (fun _ _ _ h => h) rfl rfl rfl F5 (fun w F => (yld_indexN (i := 0) sl46 rfl (ev_t rfl) ev_c (fun _ => by simp))) ?_
      refine Hops.take 3 rfl (by kernel_rfl) (fun _ _ _ h => h) rfl rfl rfl F5 (fun w F => (yld_loadN (cs := pCells s) ag52 rfl (ev_t rfl) (fun _ => rng hpr F.chg) rfl)) ?_
      refine Hops.two 4 8 rfl rfl (by kernel_rfl) ?_ ?_
      · skip
        refine (One.call rfl rfl rfl (ent_f rfl (evl2 (ev_t rfl) (ev_t rfl)) (enters en69)) (step_ct t s hso _ w0 _ hr0 (hc0.trans F5.chg) hok) (fun e w5 hw5 => ?_))
        obtain ⟨y0, rfl, C5, hy0⟩ := hw5
        have F6 := F5.call C5
        refine ⟨_, rfl, ?_⟩
        refine ⟨F6, ?_⟩
        refine Hops.take 5 rfl (by kernel_rfl) (fun _ _ _ h => h) rfl rfl rfl F6 (fun w F => (yld_move rfl (ev_t rfl))) ?_
        refine Hops.take 6 rfl (by kernel_rfl) (fun _ _ _ h => h) rfl rfl rfl F6 (fun w F => (yld_extract rfl (ev_t rfl) rfl)) ?_
        refine Hops.take 7 rfl (by kernel_rfl) (fun _ _ _ h => h) rfl rfl rfl F6 (fun w F => (yld_extract rfl (ev_t rfl) rfl)) ?_
        refine Hops.one 8 rfl (by kernel_rfl) (One.alloc F6 zero31 rfl rfl rfl rfl ?_)
        intro b4 w6 hb4 F7
        refine ⟨F7.drop1, ?_⟩
        change Fr _ _ [blk _ _ [_, _, _, _, _], blk _ _ [_, _, _, _, _], blk _ _ [_, _, _, _, _], blk _ _ [_, _, _, _, _]] _ at F7
        refine Hops.one 9 rfl (by kernel_rfl) (One.storeN (vs := [_, _, _, _, _]) F7 0 rfl sz31 rfl rfl rfl (ev_t rfl) (ev_t rfl) rfl rfl (V5.one hy0) ?_)
        intro w7 F8
        refine ⟨F8.drop1, ?_⟩
        change Fr _ _ [blk _ _ [_, _, _, _, _], blk _ _ [_, _, _, _, _], blk _ _ [_, _, _, _, _], blk _ _ [_, _, _, _, _]] _ at F8
        refine Hops.one 10 rfl (by kernel_rfl) (One.val rfl rfl rfl (yld_assign rfl (ev_t rfl)) ?_)
        refine ⟨F8.drop1, ?_⟩
        refine Hops.nil (by kernel_rfl) fun a hS => ?_
        have F9 := F8.pull 3 rfl
        have F10 := F9.pull 3 rfl
        have F11 := F10.pull 3 rfl
        have F12 := F11.pull 3 rfl
        exact hK5 (b4, y0) _ a (hS.sub ⟨rfl, rfl, rfl, rfl, rfl, rfl, trivial⟩) ⟨hy0, F12⟩
      · skip
        refine (One.alloc F5 zero31 rfl rfl rfl rfl ?_)
        intro b5 w8 hb5 F13
        refine ⟨F13.drop1, ?_⟩
        change Fr _ _ [blk _ _ [_, _, _, _, _], blk _ _ [_, _, _, _, _], blk _ _ [_, _, _, _, _], blk _ _ [_, _, _, _, _]] _ at F13
        refine Hops.one 4 rfl (by kernel_rfl) (One.call rfl rfl rfl (ent_f rfl (evl2 (ev_t rfl) (ev_t rfl)) (enters en69)) (step_ct t s hso _ w0 _ hr0 (hc0.trans F13.chg) hok) (fun e w9 hw9 => ?_))
        obtain ⟨y0, rfl, C9, hy0⟩ := hw9
        have F14 := F13.call C9
        refine ⟨_, rfl, ?_⟩
        refine ⟨F14.drop1, ?_⟩
        refine Hops.take 5 rfl (by kernel_rfl) (fun _ _ _ h => h) rfl rfl rfl F14.drop1 (fun w F => (yld_move rfl (ev_t rfl))) ?_
        refine Hops.take 6 rfl (by kernel_rfl) (fun _ _ _ h => h) rfl rfl rfl F14.drop1 (fun w F => (yld_extract rfl (ev_t rfl) rfl)) ?_
        refine Hops.take 7 rfl (by kernel_rfl) (fun _ _ _ h => h) rfl rfl rfl F14.drop1 (fun w F => (yld_extract rfl (ev_t rfl) rfl)) ?_
        refine Hops.one 9 rfl (by kernel_rfl) (One.storeN (vs := [_, _, _, _, _]) F14 0 rfl sz31 rfl rfl rfl (ev_t rfl) (ev_t rfl) rfl rfl (V5.one hy0) ?_)
        intro w10 F15
        refine ⟨F15.drop1, ?_⟩
        change Fr _ _ [blk _ _ [_, _, _, _, _], blk _ _ [_, _, _, _, _], blk _ _ [_, _, _, _, _], blk _ _ [_, _, _, _, _]] _ at F15
        refine Hops.one 10 rfl (by kernel_rfl) (One.val rfl rfl rfl (yld_assign rfl (ev_t rfl)) ?_)
        refine ⟨F15.drop1, ?_⟩
        refine Hops.nil (by kernel_rfl) fun a hS => ?_
        have F16 := F15.pull 3 rfl
        have F17 := F16.pull 3 rfl
        have F18 := F17.pull 3 rfl
        have F19 := F18.pull 3 rfl
        exact hK5 (b5, y0) _ a (hS.sub ⟨rfl, rfl, rfl, rfl, rfl, rfl, trivial⟩) ⟨hy0, F19⟩
    · skip
      intro i w11 hW
      obtain ⟨bi, yi⟩ := i
      obtain ⟨hyi, F20⟩ := hW
      dsimp only at *
      refine Cod.seq fun K6 hK6 => ?_
      refine Cod.seq fun K7 hK7 => ?_
      refine Cod.region ?_
      refine Ops.step (One.val rfl rfl rfl (yld_move rfl (ev_t rfl)) ?_)
      refine Ops.step (One.val rfl rfl rfl (yld_not rfl (ev_t rfl)) ?_)
      refine Ops.nil fun a hS => ?_
      refine hK7 _ _ ?_ a hS
      refine Cod.cond rfl (fun hc25 => ?_) (fun hc25 => ?_)
      · skip
        have hst : stepT t s = none := by cases h : stepT t s <;> simp [h] at hc25 ⊢
        have hR : pathPutT (s :: q) t x = none := by rw [pathPutT, hst]
        refine Cod.seq fun K8 hK8 => ?_
        refine Cod.region ?_
        refine Ops.step (One.val rfl rfl rfl (yld_build (cells := [.int .i64 0, .int .i64 0, .string ⟨#[]⟩, .slice none 0 0, .slice none 0 0]) rfl (evp0) (by kernel_rfl)) ?_)
        refine Ops.step (One.storeN (vs := [_, _, _, _, _]) F20 1 rfl sz31 rfl rfl rfl (ev_t rfl) (ev_t rfl) rfl rfl rfl ?_)
        intro w12 F21
        change Fr _ _ [blk _ _ [_, _, _, _, _], blk _ _ [_, _, _, _, _], blk _ _ [_, _, _, _, _], blk _ _ [_, _, _, _, _]] _ at F21
        refine Ops.step (One.val rfl rfl rfl (yld_assign rfl ev_c) ?_)
        refine Ops.nil fun a hS => ?_
        refine hK8 _ _ ?_ a hS
        refine Cod.ret fun a hS => ?_
        try simp only [Exit.then, Exit.inBlock]
        exact retct (t := 6) (u := 7) (ty := 31) rfl hS ag31 rfl rfl (F21.range (m := 5) (cs' := [_, _, _, _, _]) 1 rfl rfl) rfl ⟨z5, No, by rw [hR]; rfl, F21.chg, by rw [hR]; exact alR_old (Rep.close (RepE.nil _ _) (RepL.nil _ _)), fun k hk => hk.elim⟩
      · skip
        obtain ⟨it, hst⟩ : ∃ y, stepT t s = some y := by cases h : stepT t s <;> simp [h] at hc25 ⊢
        rw [hst] at hyi
        have hoki := step_ok hok hst
        refine Cod.skip fun a hS => ?_
        refine hK6 _ _ ?_ a hS
        refine Cod.cut (fun i : Nat × V5 × (Nat → Prop) => [(1, true, .slice (some ⟨pb, po, none⟩) (s :: q).length pc), (3, true, .pointer (some ⟨b1, 0, none⟩)), (5, true, .pointer (some ⟨b2, 0, none⟩)), (6, true, .pointer (some ⟨b3, 0, none⟩)), (10, true, .pointer (some ⟨i.1, 0, none⟩)), (11, true, .bool (pathPutT q it x).isSome)]) (fun i w' => Fr No w [blk i.1 31 (enc5 i.2.1), alR w0 i.2.2 [(pathPutT q it x).getD zeroT] [i.2.1], blk b3 31 [.int .i64 0, .int .i64 0, .string ⟨#[]⟩, .slice none 0 0, .slice none 0 0], blk b2 31 [xx.a, xx.b, xx.c, xx.d, xx.e], blk b1 31 [.int .i64 t.kind, .int .i64 t.num, .string t.str, v3, v4]] w') (fun K9 hK9 => ?_) ?_
        · skip
          have F22 := F20.drew
          refine Cod.draw (C_of F22) (by kernel_rfl) ?_
          refine Hops.take 0 rfl (by kernel_rfl) (fun _ _ _ h => h) rfl rfl rfl F22 (fun w F => (yld_loadN ag31 rfl (ev_t rfl) (fun _ => F.range (m := 5) (cs' := [_, _, _, _, _]) 0 rfl rfl) rfl)) ?_
          refine Hops.take 1 rfl (by kernel_rfl) (fun _ _ _ h => h) rfl rfl rfl F22 (fun w F => (yld_move rfl (ev_t rfl))) ?_
          refine Hops.take 2 rfl (by kernel_rfl) (fun _ _ _ h => h) rfl rfl rfl F22 (fun w F => (yld_slcL 1 sl46 rfl (ev_t rfl) ev_c rfl (by simp))) ?_
          refine Hops.take 3 rfl (by kernel_rfl) (fun _ _ _ h => h) rfl rfl rfl F22 (fun w F => (yld_loadN ag31 rfl (ev_t rfl) (fun _ => F.range (m := 5) (cs' := [_, _, _, _, _]) 2 rfl rfl) rfl)) ?_
          refine Hops.two 4 8 rfl rfl (by kernel_rfl) ?_ ?_
          · skip
            refine (One.call rfl rfl rfl (ent_f rfl (evl3 (ev_t rfl) (ev_t rfl) (ev_t rfl)) (enters en108)) (IH it x _ _ _ w0 _ hyi (RepE.dropP hp0 1 (by simp)) hx0 (hc0.trans F22.chg) hoki hokx hpq) (fun e w13 hw13 => ?_))
            obtain ⟨y1, G0, rfl, C13, hal1, hG0⟩ := hw13
            have F23 := F22.new C13 (alR w0 G0 [(pathPutT q it x).getD zeroT] [y1]) hal1 hG0
            refine ⟨_, rfl, ?_⟩
            refine ⟨F23.drop1, ?_⟩
            refine Hops.take 5 rfl (by kernel_rfl) (fun _ _ _ h => h) rfl rfl rfl F23.drop1 (fun w F => (yld_move rfl (ev_t rfl))) ?_
            refine Hops.take 6 rfl (by kernel_rfl) (fun _ _ _ h => h) rfl rfl rfl F23.drop1 (fun w F => (yld_extract rfl (ev_t rfl) rfl)) ?_
            refine Hops.take 7 rfl (by kernel_rfl) (fun _ _ _ h => h) rfl rfl rfl F23.drop1 (fun w F => (yld_extract rfl (ev_t rfl) rfl)) ?_
            refine Hops.one 8 rfl (by kernel_rfl) (One.alloc F23 zero31 rfl rfl rfl rfl ?_)
            intro b6 w14 hb6 F24
            refine ⟨(F24.erase 1).drop1, ?_⟩
            change Fr _ _ [blk _ _ [_, _, _, _, _], _, blk _ _ [_, _, _, _, _], blk _ _ [_, _, _, _, _], blk _ _ [_, _, _, _, _], blk _ _ [_, _, _, _, _]] _ at F24
            refine Hops.one 9 rfl (by kernel_rfl) (One.storeN (vs := [_, _, _, _, _]) F24 0 rfl sz31 rfl rfl rfl (ev_t rfl) (ev_t rfl) rfl rfl (V5.one (alR_rep (F24.get 1 rfl) (hc0.trans F24.chg))) ?_)
            intro w15 F25
            refine ⟨(F25.erase 1).drop1, ?_⟩
            change Fr _ _ [blk _ _ [_, _, _, _, _], _, blk _ _ [_, _, _, _, _], blk _ _ [_, _, _, _, _], blk _ _ [_, _, _, _, _], blk _ _ [_, _, _, _, _]] _ at F25
            refine Hops.one 10 rfl (by kernel_rfl) (One.val rfl rfl rfl (yld_assign rfl (ev_t rfl)) ?_)
            refine ⟨(F25.erase 1).drop1, ?_⟩
            refine Hops.nil (by kernel_rfl) fun a hS => ?_
            have F26 := F25.pull 5 rfl
            have F27 := F26.pull 5 rfl
            have F28 := F27.pull 5 rfl
            have F29 := F28.pull 4 rfl
            have F30 := F29.pull 4 rfl
            have F31 := F30.erase 5
            exact hK9 (b6, y1, G0) _ a (hS.sub ⟨rfl, rfl, rfl, rfl, rfl, rfl, trivial⟩) F31
          · skip
            refine (One.alloc F22 zero31 rfl rfl rfl rfl ?_)
            intro b7 w16 hb7 F32
            refine ⟨F32.drop1, ?_⟩
            change Fr _ _ [blk _ _ [_, _, _, _, _], blk _ _ [_, _, _, _, _], blk _ _ [_, _, _, _, _], blk _ _ [_, _, _, _, _], blk _ _ [_, _, _, _, _]] _ at F32
            refine Hops.one 4 rfl (by kernel_rfl) (One.call rfl rfl rfl (ent_f rfl (evl3 (ev_t rfl) (ev_t rfl) (ev_t rfl)) (enters en108)) (IH it x _ _ _ w0 _ hyi (RepE.dropP hp0 1 (by simp)) hx0 (hc0.trans F32.chg) hoki hokx hpq) (fun e w17 hw17 => ?_))
            obtain ⟨y1, G0, rfl, C17, hal1, hG0⟩ := hw17
            have F33 := F32.new C17 (alR w0 G0 [(pathPutT q it x).getD zeroT] [y1]) hal1 hG0
            refine ⟨_, rfl, ?_⟩
            refine ⟨(F33.erase 1).drop1, ?_⟩
            refine Hops.take 5 rfl (by kernel_rfl) (fun _ _ _ h => h) rfl rfl rfl (F33.erase 1).drop1 (fun w F => (yld_move rfl (ev_t rfl))) ?_
            refine Hops.take 6 rfl (by kernel_rfl) (fun _ _ _ h => h) rfl rfl rfl (F33.erase 1).drop1 (fun w F => (yld_extract rfl (ev_t rfl) rfl)) ?_
            refine Hops.take 7 rfl (by kernel_rfl) (fun _ _ _ h => h) rfl rfl rfl (F33.erase 1).drop1 (fun w F => (yld_extract rfl (ev_t rfl) rfl)) ?_
            refine Hops.one 9 rfl (by kernel_rfl) (One.storeN (vs := [_, _, _, _, _]) F33 1 rfl sz31 rfl rfl rfl (ev_t rfl) (ev_t rfl) rfl rfl (V5.one (alR_rep (F33.get 0 rfl) (hc0.trans F33.chg))) ?_)
            intro w18 F34
            refine ⟨(F34.erase 1).drop1, ?_⟩
            change Fr _ _ [_, blk _ _ [_, _, _, _, _], blk _ _ [_, _, _, _, _], blk _ _ [_, _, _, _, _], blk _ _ [_, _, _, _, _], blk _ _ [_, _, _, _, _]] _ at F34
            refine Hops.one 10 rfl (by kernel_rfl) (One.val rfl rfl rfl (yld_assign rfl (ev_t rfl)) ?_)
            refine ⟨(F34.erase 1).drop1, ?_⟩
            refine Hops.nil (by kernel_rfl) fun a hS => ?_
            have F35 := F34.pull 5 rfl
            have F36 := F35.pull 5 rfl
            have F37 := F36.pull 5 rfl
            have F38 := F37.pull 3 rfl
            have F39 := F38.pull 4 rfl
            have F40 := F39.erase 5
            exact hK9 (b7, y1, G0) _ a (hS.sub ⟨rfl, rfl, rfl, rfl, rfl, rfl, trivial⟩) F40
        · skip
          intro i w19 hW
          obtain ⟨bz, yz, Gz⟩ := i
          have F41 := hW
          dsimp only at *
          refine Cod.seq fun K10 hK10 => ?_
          refine Cod.seq fun K11 hK11 => ?_
          refine Cod.region ?_
          refine Ops.step (One.val rfl rfl rfl (yld_move rfl (ev_t rfl)) ?_)
          refine Ops.step (One.val rfl rfl rfl (yld_not rfl (ev_t rfl)) ?_)
          refine Ops.nil fun a hS => ?_
          refine hK11 _ _ ?_ a hS
          refine Cod.cond rfl (fun hc36 => ?_) (fun hc36 => ?_)
          · skip
            have hpn : pathPutT q it x = none := by cases h : pathPutT q it x <;> simp [h] at hc36 ⊢
            have hR : pathPutT (s :: q) t x = none := by rw [pathPutT, hst]; simp only [hpn]
            refine Cod.seq fun K12 hK12 => ?_
            refine Cod.region ?_
            refine Ops.step (One.val rfl rfl rfl (yld_build (cells := [.int .i64 0, .int .i64 0, .string ⟨#[]⟩, .slice none 0 0, .slice none 0 0]) rfl (evp0) (by kernel_rfl)) ?_)
            refine Ops.step (One.storeN (vs := [_, _, _, _, _]) F41 2 rfl sz31 rfl rfl rfl (ev_t rfl) (ev_t rfl) rfl rfl rfl ?_)
            intro w20 F42
            change Fr _ _ [blk _ _ [_, _, _, _, _], _, blk _ _ [_, _, _, _, _], blk _ _ [_, _, _, _, _], blk _ _ [_, _, _, _, _]] _ at F42
            refine Ops.step (One.val rfl rfl rfl (yld_assign rfl ev_c) ?_)
            refine Ops.nil fun a hS => ?_
            refine hK12 _ _ ?_ a hS
            refine Cod.ret fun a hS => ?_
            try simp only [Exit.then, Exit.inBlock]
            exact retct (t := 6) (u := 7) (ty := 31) rfl hS ag31 rfl rfl (F42.range (m := 5) (cs' := [_, _, _, _, _]) 2 rfl rfl) rfl ⟨z5, No, by rw [hR]; rfl, F42.chg, by rw [hR]; exact alR_old (Rep.close (RepE.nil _ _) (RepL.nil _ _)), fun k hk => hk.elim⟩
          · skip
            obtain ⟨yt, hpn⟩ : ∃ y, pathPutT q it x = some y := by cases h : pathPutT q it x <;> simp [h] at hc36 ⊢
            have hoky := pathPutT_ok hokx _ _ _ hpn
            rw [hpn] at F41
            refine Cod.skip fun a hS => ?_
            refine hK10 _ _ ?_ a hS
            refine Cod.seq fun K13 hK13 => ?_
            refine Cod.seq fun K14 hK14 => ?_
            refine Cod.region ?_
            refine Ops.step (One.val rfl rfl rfl (yld_move rfl (ev_t rfl)) ?_)
            refine Ops.step (One.val rfl rfl rfl (yld_indexN (i := 0) sl46 rfl (ev_t rfl) ev_c (fun _ => by simp)) ?_)
            refine Ops.step (One.val rfl rfl rfl (yld_field fi52_0 rfl (ev_t rfl)) ?_)
            refine Ops.step (One.val rfl rfl rfl (yld_load1 on4 rfl (ev_t rfl) (fun _ => rangeAt_cell (rng hpr F41.chg) (j := 0) rfl)) ?_)
            refine Ops.nil fun a hS => ?_
            refine hK14 _ _ ?_ a hS
            refine Cod.cond rfl (fun hc41 => ?_) (fun hc41 => ?_)
            · skip
              have hR : pathPutT (s :: q) t x = putR t s.key yt := by rw [pathPutT, hst]; simp only [hpn]; rw [if_pos (show s.m = true from hc41)]
              refine Cod.seq fun K15 hK15 => ?_
              have F43 := F41.drew
              refine Cod.draw (C_of ((F43.erase 2).erase 1)) (by kernel_rfl) ?_
              refine Hops.take 0 rfl (by kernel_rfl) (fun _ _ _ h => h) rfl rfl rfl ((F43.erase 2).erase 1) (fun w F => (yld_loadN ag31 rfl (ev_t rfl) (fun _ => F.range (m := 5) (cs' := [_, _, _, _, _]) 2 rfl rfl) rfl)) ?_
              refine Hops.take 1 rfl (by kernel_rfl) (fun _ _ _ h => h) rfl rfl rfl ((F43.erase 2).erase 1) (fun w F => (yld_move rfl (ev_t rfl))) ?_
              refine Hops.take 2 rfl (by kernel_rfl) (fun _ _ _ h => h) rfl rfl rfl ((F43.erase 2).erase 1) (fun w F => (yld_indexN (i := 0) sl46 rfl (ev_t rfl) ev_c (fun _ => by simp))) ?_
              refine Hops.take 3 rfl (by kernel_rfl) (fun _ _ _ h => h) rfl rfl rfl ((F43.erase 2).erase 1) (fun w F => (yld_field fi52_1 rfl (ev_t rfl))) ?_
              refine Hops.take 4 rfl (by kernel_rfl) (fun _ _ _ h => h) rfl rfl rfl ((F43.erase 2).erase 1) (fun w F => (yld_load1 on9 rfl (ev_t rfl) (fun _ => rangeAt_cell (rng hpr F.chg) (j := 1) rfl))) ?_
              refine Hops.take 5 rfl (by kernel_rfl) (fun _ _ _ h => h) rfl rfl rfl ((F43.erase 2).erase 1) (fun w F => (yld_loadN ag31 rfl (ev_t rfl) (fun _ => F.range (m := 5) (cs' := [_, _, _, _, _]) 0 rfl rfl) rfl)) ?_
              refine Hops.one 6 rfl (by kernel_rfl) (One.call rfl rfl rfl (ent_f rfl (evl3 (ev_t rfl) (ev_t rfl) (ev_t rfl)) (enters en138)) (partPut_ct t yt s.key (stpk hso (show s.m = true from hc41)) _ _ _ (hr.chg F43.chg) (alR_rep (F43.get 1 rfl) (hc0.trans F43.chg)) hft (okT_fit hoky) hwt (okT_w hoky)) (fun e w21 hw21 => ?_))
              obtain ⟨x1, G1, rfl, C21, hs1, hb1⟩ := hw21
              have F44 := F43.new C21 (sep G1 _ x1.val) hs1 hb1
              refine ⟨_, rfl, ?_⟩
              refine ⟨((F44.erase 3).erase 2).drop1, ?_⟩
              refine Hops.take 7 rfl (by kernel_rfl) (fun _ _ _ h => h) rfl rfl rfl ((F44.erase 3).erase 2).drop1 (fun w F => (yld_extract rfl (ev_t rfl) rfl)) ?_
              refine Hops.take 8 rfl (by kernel_rfl) (fun _ _ _ h => h) rfl rfl rfl ((F44.erase 3).erase 2).drop1 (fun w F => (yld_extract rfl (ev_t rfl) rfl)) ?_
              refine Hops.one 9 rfl (by kernel_rfl) (One.storeN (vs := [_, _, _, _, _]) F44 3 rfl sz31 rfl rfl rfl (ev_t rfl) (ev_t rfl) rfl rfl hs1.one ?_)
              intro w22 F45
              refine ⟨((F45.erase 3).erase 2).drop1, ?_⟩
              change Fr _ _ [_, blk _ _ [_, _, _, _, _], _, blk _ _ [_, _, _, _, _], blk _ _ [_, _, _, _, _], blk _ _ [_, _, _, _, _]] _ at F45
              refine Hops.one 10 rfl (by kernel_rfl) (One.val rfl rfl rfl (yld_assign rfl (ev_t rfl)) ?_)
              refine ⟨((F45.erase 3).erase 2).drop1, ?_⟩
              refine Hops.nil (by kernel_rfl) fun a hS => ?_
              refine hK15 _ _ ?_ a hS
              refine Cod.ret fun a hS => ?_
              try simp only [Exit.then, Exit.inBlock]
              exact retct (t := 6) (u := 7) (ty := 31) rfl hS ag31 rfl rfl (F45.range (m := 5) (cs' := [_, _, _, _, _]) 3 rfl rfl) rfl ⟨x1, G1, by rw [hR]; rfl, F45.chg, by rw [hR]; exact alR_sep (hc0.trans F45.chg) (F45.get 0 rfl), fun b hb => (F45.dom _ (List.mem_of_getElem? (i := 0) rfl) b hb).resolve_left id⟩
            · skip
              have hR : pathPutT (s :: q) t x = setR t yt s.pl := by rw [pathPutT, hst]; simp only [hpn]; rw [if_neg (by have h : s.m = false := hc41; rw [h]; simp)]
              refine Cod.skip fun a hS => ?_
              refine hK13 _ _ ?_ a hS
              refine Cod.seq fun K16 hK16 => ?_
              have F46 := F41.drew
              refine Cod.draw (C_of ((F46.erase 2).erase 1)) (by kernel_rfl) ?_
              refine Hops.take 0 rfl (by kernel_rfl) (fun _ _ _ h => h) rfl rfl rfl ((F46.erase 2).erase 1) (fun w F => (yld_loadN ag31 rfl (ev_t rfl) (fun _ => F.range (m := 5) (cs' := [_, _, _, _, _]) 2 rfl rfl) rfl)) ?_
              refine Hops.take 1 rfl (by kernel_rfl) (fun _ _ _ h => h) rfl rfl rfl ((F46.erase 2).erase 1) (fun w F => (yld_move rfl (ev_t rfl))) ?_
              refine Hops.take 2 rfl (by kernel_rfl) (fun _ _ _ h => h) rfl rfl rfl ((F46.erase 2).erase 1) (fun w F => (yld_indexN (i := 0) sl46 rfl (ev_t rfl) ev_c (fun _ => by simp))) ?_
              refine Hops.take 3 rfl (by kernel_rfl) (fun _ _ _ h => h) rfl rfl rfl ((F46.erase 2).erase 1) (fun w F => (yld_field fi52_2 rfl (ev_t rfl))) ?_
              refine Hops.take 4 rfl (by kernel_rfl) (fun _ _ _ h => h) rfl rfl rfl ((F46.erase 2).erase 1) (fun w F => (yld_load1 on3 rfl (ev_t rfl) (fun _ => rangeAt_cell (rng hpr F.chg) (j := 2) rfl))) ?_
              refine Hops.take 5 rfl (by kernel_rfl) (fun _ _ _ h => h) rfl rfl rfl ((F46.erase 2).erase 1) (fun w F => (yld_loadN ag31 rfl (ev_t rfl) (fun _ => F.range (m := 5) (cs' := [_, _, _, _, _]) 0 rfl rfl) rfl)) ?_
              refine Hops.one 6 rfl (by kernel_rfl) (One.call rfl rfl rfl (ent_f rfl (evl3 (ev_t rfl) (ev_t rfl) (ev_t rfl)) (enters en139)) (set_ct t yt s.pl (stp_range hso) _ _ _ (hr.chg F46.chg) (alR_rep (F46.get 1 rfl) (hc0.trans F46.chg)) hft (okT_fit hoky) hwt (okT_w hoky)) (fun e w23 hw23 => ?_))
              obtain ⟨x1, G1, rfl, C23, hs1, hb1⟩ := hw23
              have F47 := F46.new C23 (sep G1 _ x1.val) hs1 hb1
              refine ⟨_, rfl, ?_⟩
              refine ⟨((F47.erase 3).erase 2).drop1, ?_⟩
              refine Hops.take 7 rfl (by kernel_rfl) (fun _ _ _ h => h) rfl rfl rfl ((F47.erase 3).erase 2).drop1 (fun w F => (yld_extract rfl (ev_t rfl) rfl)) ?_
              refine Hops.take 8 rfl (by kernel_rfl) (fun _ _ _ h => h) rfl rfl rfl ((F47.erase 3).erase 2).drop1 (fun w F => (yld_extract rfl (ev_t rfl) rfl)) ?_
              refine Hops.one 9 rfl (by kernel_rfl) (One.storeN (vs := [_, _, _, _, _]) F47 3 rfl sz31 rfl rfl rfl (ev_t rfl) (ev_t rfl) rfl rfl hs1.one ?_)
              intro w24 F48
              refine ⟨((F48.erase 3).erase 2).drop1, ?_⟩
              change Fr _ _ [_, blk _ _ [_, _, _, _, _], _, blk _ _ [_, _, _, _, _], blk _ _ [_, _, _, _, _], blk _ _ [_, _, _, _, _]] _ at F48
              refine Hops.one 10 rfl (by kernel_rfl) (One.val rfl rfl rfl (yld_assign rfl (ev_t rfl)) ?_)
              refine ⟨((F48.erase 3).erase 2).drop1, ?_⟩
              refine Hops.nil (by kernel_rfl) fun a hS => ?_
              refine hK16 _ _ ?_ a hS
              refine Cod.ret fun a hS => ?_
              try simp only [Exit.then, Exit.inBlock]
              exact retct (t := 6) (u := 7) (ty := 31) rfl hS ag31 rfl rfl (F48.range (m := 5) (cs' := [_, _, _, _, _]) 3 rfl rfl) rfl ⟨x1, G1, by rw [hR]; rfl, F48.chg, by rw [hR]; exact alR_sep (hc0.trans F48.chg) (F48.get 0 rfl), fun b hb => (F48.dom _ (List.mem_of_getElem? (i := 0) rfl) b hb).resolve_left id⟩


theorem pathPut_ct : ∀ p : List Stp, PPOk p
  | [] => pathPut_of [] fun s q h => by cases h
  | s :: q => pathPut_of (s :: q) fun s' q' h => by obtain ⟨rfl, rfl⟩ := List.cons.inj h; exact pathPut_ct q


theorem told_self {r : Option Tr} (h : okT (r.getD zeroT) = true) : toldR r.isSome (r.getD zeroT) = r := by
  unfold toldR
  cases r with
  | none => rfl
  | some y => rw [if_pos (by rw [h]; rfl)]; rfl
theorem ppR_ok (t : Tr) (p : List Stp) (x : Tr) : okT ((ppR t p x).getD zeroT) = true := by
  unfold ppR
  split
  · rename_i h
    simp only [Bool.and_eq_true] at h
    cases hr : pathPutT p t x with
    | none => exact okT_zeroT
    | some y => exact pathPutT_ok h.2 _ _ _ hr
  · exact okT_zeroT

set_option maxRecDepth 100000 in
theorem PathPut_ct (t : Tr) (p : List Stp) (x : Tr) (hs : ∀ s ∈ p, s.key.size ≤ 9223372036854775807) (v pv vx : Value) (w : World) (hr : Rep Any w t v) (hp : RepP Any w p pv) (hx : Rep Any w x vx) (hf : t.Fit) (hfx : x.Fit) :
    Calls Try.prog 46 #[v, pv, vx] w (Gives w (ppR t p x)) := by
  obtain ⟨v3, v4, ev, h3, h4⟩ := hr.form
  subst ev
  obtain ⟨x3, x4, ex, -, -⟩ := hx.form
  subst ex
  obtain ⟨Ap, pc, rfl, hnp⟩ := hp.open
  refine enter Try.func46 rfl rfl rfl ?_
  have F0 := Fr.start w
  refine Cod.seq fun K1 hK1 => ?_
  refine Cod.region ?_
  refine Ops.step (One.box F0 rfl rfl rfl rfl (ev_t rfl) ?_)
  intro b1 w1 hb1 F1
  change Fr _ _ [blk _ _ [_, _, _, _, _]] _ at F1
  refine Ops.step (One.box F1 rfl rfl rfl rfl (ev_t rfl) ?_)
  intro b2 w2 hb2 F2
  change Fr _ _ [blk _ _ [_, _, _, _, _], blk _ _ [_, _, _, _, _]] _ at F2
  refine Ops.step (One.alloc F2 zero31 rfl rfl rfl rfl ?_)
  intro b3 w3 hb3 F3
  change Fr _ _ [blk _ _ [_, _, _, _, _], blk _ _ [_, _, _, _, _], blk _ _ [_, _, _, _, _]] _ at F3
  refine Ops.step (One.val rfl rfl rfl (yld_assign rfl ev_c) ?_)
  refine Ops.nil fun a hS => ?_
  refine hK1 _ _ ?_ a hS
  refine Cod.seq fun K2 hK2 => ?_
  refine Cod.seq fun K3 hK3 => ?_
  refine Cod.region ?_
  refine Ops.step (One.val rfl rfl rfl (yld_loadN ag31 rfl (ev_t rfl) (fun _ => F3.range (m := 5) (cs' := [_, _, _, _, _]) 2 rfl rfl) rfl) ?_)
  refine Ops.step (One.call rfl rfl rfl (ent_f rfl (evl1 (ev_t rfl)) (enters en43)) (valOk_ct t _ _ (hr.chg F3.chg) hf) (fun e w4 hw4 => ?_))
  obtain ⟨rfl, C4⟩ := hw4
  have F4 := F3.call C4
  refine ⟨_, rfl, ?_⟩
  refine Ops.step (One.val rfl rfl rfl (yld_not rfl (ev_t rfl)) ?_)
  refine Ops.step (One.val rfl rfl rfl (yld_move rfl (ev_t rfl)) ?_)
  refine Ops.step (One.val (gd_some rfl rfl) rfl rfl (yld_move rfl (ev_t rfl)) ?_)
  refine Ops.step (One.gcall (R := Chg No w4) (gd_some rfl rfl) rfl rfl (ent_f rfl (evl1 (ev_g rfl)) (enters en63)) (Chg.refl _ _) (fun hg => PathOk_ct p _ _ (hp.chg F4.chg) hs) ?_)
  intro w5 C5
  have F5 := F4.call C5
  refine Ops.step (One.val (gd_some rfl rfl) rfl rfl (yld_not rfl (ev_g rfl)) ?_)
  refine Ops.step (One.val rfl rfl rfl (yld_or rfl (ev_t rfl) (ev_g rfl)) ?_)
  refine Ops.step (One.val rfl rfl rfl (yld_move rfl (ev_t rfl)) ?_)
  refine Ops.step (One.val (gd_some rfl rfl) rfl rfl (yld_loadN ag31 rfl (ev_t rfl) (fun _ => F5.range (m := 5) (cs' := [_, _, _, _, _]) 1 rfl rfl) rfl) ?_)
  refine Ops.step (One.gcall (R := Chg No w5) (gd_some rfl rfl) rfl rfl (ent_f rfl (evl1 (ev_g rfl)) (enters en43)) (Chg.refl _ _) (fun hg => valOk_ct x _ _ (hx.chg F5.chg) hfx) ?_)
  intro w6 C6
  have F6 := F5.call C6
  refine Ops.step (One.val (gd_some rfl rfl) rfl rfl (yld_not rfl (ev_g rfl)) ?_)
  refine Ops.step (One.val rfl rfl rfl (yld_or rfl (ev_t rfl) (ev_g rfl)) ?_)
  refine Ops.nil fun a hS => ?_
  refine hK3 _ _ ?_ a hS
  refine Cod.cond rfl (fun hc20 => ?_) (fun hc20 => ?_)
  · skip
    have hno : ppR t p x = none := by
      have hc : ((!(okT t) || !(pathOk p)) || !(okT x)) = true := hc20
      unfold ppR
      cases h1 : okT t <;> cases h2 : pathOk p <;> cases h3 : okT x <;> simp [h1, h2, h3] at hc ⊢
    refine Cod.seq fun K4 hK4 => ?_
    refine Cod.region ?_
    refine Ops.step (One.val rfl rfl rfl (yld_build (cells := [.int .i64 0, .int .i64 0, .string ⟨#[]⟩, .slice none 0 0, .slice none 0 0]) rfl (evp0) (by kernel_rfl)) ?_)
    refine Ops.step (One.storeN (vs := [_, _, _, _, _]) F6 0 rfl sz31 rfl rfl rfl (ev_t rfl) (ev_t rfl) rfl rfl rfl ?_)
    intro w7 F7
    change Fr _ _ [blk _ _ [_, _, _, _, _], blk _ _ [_, _, _, _, _], blk _ _ [_, _, _, _, _]] _ at F7
    refine Ops.step (One.val rfl rfl rfl (yld_assign rfl ev_c) ?_)
    refine Ops.nil fun a hS => ?_
    refine hK4 _ _ ?_ a hS
    refine Cod.ret fun a hS => ?_
    try simp only [Exit.then, Exit.inBlock]
    exact retct (t := 6) (u := 7) (ty := 31) rfl hS ag31 rfl rfl (F7.range (m := 5) (cs' := [_, _, _, _, _]) 0 rfl rfl) rfl ⟨z5, No, by rw [hno]; rfl, F7.chg, by rw [hno]; exact sep_leaf _ 0 0 ⟨#[]⟩, fun k hk => hk.elim⟩
  · skip
    have hc : ((!(okT t) || !(pathOk p)) || !(okT x)) = false := hc20
    obtain ⟨hok, hpo, hokx⟩ : okT t = true ∧ pathOk p = true ∧ okT x = true := by
      cases h1 : okT t <;> cases h2 : pathOk p <;> cases h3 : okT x <;> simp [h1, h2, h3] at hc ⊢
    have hyes : ppR t p x = pathPutT p t x := by
      unfold ppR
      rw [hok, hpo, hokx]
      rfl
    have hoky : okT ((pathPutT p t x).getD zeroT) = true := by
      cases h : pathPutT p t x with
      | none => exact okT_zeroT
      | some y => exact pathPutT_ok hokx _ _ _ h
    refine Cod.skip fun a hS => ?_
    refine hK2 _ _ ?_ a hS
    refine Cod.seq fun K5 hK5 => ?_
    refine Cod.region ?_
    refine Ops.step (One.val rfl rfl rfl (yld_loadN ag31 rfl (ev_t rfl) (fun _ => F6.range (m := 5) (cs' := [_, _, _, _, _]) 2 rfl rfl) rfl) ?_)
    refine Ops.step (One.val rfl rfl rfl (yld_move rfl (ev_t rfl)) ?_)
    refine Ops.step (One.val rfl rfl rfl (yld_loadN ag31 rfl (ev_t rfl) (fun _ => F6.range (m := 5) (cs' := [_, _, _, _, _]) 1 rfl rfl) rfl) ?_)
    refine Ops.step (One.call rfl rfl rfl (ent_f rfl (evl3 (ev_t rfl) (ev_t rfl) (ev_t rfl)) (enters en108)) (pathPut_ct p t x _ _ _ w _ hr hp hx F6.chg hok hokx hpo) (fun e w8 hw8 => ?_))
    obtain ⟨y1, G0, rfl, C8, hal1, hG0⟩ := hw8
    have F8 := F6.new C8 (alR w G0 [(pathPutT p t x).getD zeroT] [y1]) hal1 hG0
    refine ⟨_, rfl, ?_⟩
    refine Ops.step (One.val rfl rfl rfl (yld_extract rfl (ev_t rfl) rfl) ?_)
    refine Ops.step (One.val rfl rfl rfl (yld_extract rfl (ev_t rfl) rfl) ?_)
    refine Ops.step (One.call rfl rfl rfl (ent_f rfl (evl2 (ev_t rfl) (ev_t rfl)) (enters en70)) (told_ct _ (pathPutT p t x).isSome _ _ (alR_rep (F8.get 0 rfl) F8.chg) (okT_fit hoky) (okT_w hoky)) (fun e w9 hw9 => ?_))
    rw [told_self hoky] at hw9
    obtain ⟨x1, G1, rfl, C9, hs1, hb1⟩ := hw9
    have F9 := F8.new C9 (sep G1 _ x1.val) hs1 hb1
    refine ⟨_, rfl, ?_⟩
    refine Ops.step (One.val rfl rfl rfl (yld_extract rfl (ev_t rfl) rfl) ?_)
    refine Ops.step (One.val rfl rfl rfl (yld_extract rfl (ev_t rfl) rfl) ?_)
    refine Ops.step (One.storeN (vs := [_, _, _, _, _]) F9 2 rfl sz31 rfl rfl rfl (ev_t rfl) (ev_t rfl) rfl rfl hs1.one ?_)
    intro w10 F10
    change Fr _ _ [_, _, blk _ _ [_, _, _, _, _], blk _ _ [_, _, _, _, _], blk _ _ [_, _, _, _, _]] _ at F10
    refine Ops.step (One.val rfl rfl rfl (yld_assign rfl (ev_t rfl)) ?_)
    refine Ops.nil fun a hS => ?_
    refine hK5 _ _ ?_ a hS
    refine Cod.ret fun a hS => ?_
    try simp only [Exit.then, Exit.inBlock]
    exact retct (t := 6) (u := 7) (ty := 31) rfl hS ag31 rfl rfl (F10.range (m := 5) (cs' := [_, _, _, _, _]) 2 rfl rfl) rfl ⟨x1, G1, by rw [hyes]; rfl, F10.chg, by rw [hyes]; exact F10.get 0 rfl, fun b hb => (F10.dom _ (List.mem_of_getElem? (i := 0) rfl) b hb).resolve_left id⟩


noncomputable def updT (t : Tr) (s : Stp) (y : Tr) : Option Tr := if s.m = true then putR t s.key y else setR t y s.pl
def kidT (t : Tr) (i : Nat) (y : Tr) : Tr := .mk t.kind t.num t.str t.keys (t.list.set i y)
theorem okT_kid {t : Tr} (h : okT t = true) {i : Nat} (hi : i < t.list.length) : t.kind = 5 ∧ t.num = 0 ∧ t.str = ⟨#[]⟩ ∧ t.keys = [] ∨ t.kind = 6 ∧ t.num = 0 ∧ t.str = ⟨#[]⟩ := by
  obtain ⟨k, n, s, ks, l⟩ := t
  have hp := (Form.iff.1 (okT_node h).1).2.1
  simp only [Tr.kind, Tr.num, Tr.str, Tr.keys, Tr.list] at hi ⊢
  have h5 : 5 ≤ k := by
    rcases Int.lt_or_le k 5 with h | h
    · rw [hp.z5 h] at hi; simp at hi
    · exact h
  have h6 := hp.k6
  by_cases e : k = 6
  · exact .inr ⟨e, hp.z3 (by omega), hp.z4 (by omega)⟩
  · exact .inl ⟨by omega, hp.z3 (by omega), hp.z4 (by omega), hp.z6 e⟩
theorem get?_lt {α : Type} {l : List α} {i : Nat} {x : α} (h : l[i]? = some x) : ∃ hi : i < l.length, l[i] = x := by
  rcases Nat.lt_or_ge i l.length with hi | hi
  · exact ⟨hi, by rw [List.getElem?_eq_getElem hi] at h; exact Option.some.inj h⟩
  · rw [List.getElem?_eq_none hi] at h; cases h
theorem posK_nth {ks : List ByteArray} (hs : Sorted ks) {i : Nat} (hi : i < ks.length) : posK ks (nth ks i) = i := by
  rcases Nat.lt_trichotomy (posK ks (nth ks i)) i with h | h | h
  · have h1 := posK_at ks (nth ks i) (by omega)
    rw [hs.lt _ _ h hi] at h1
    cases h1
  · exact h
  · have h1 := posK_lt ks (nth ks i) i h
    rw [ltS_self] at h1
    cases h1
theorem step_at {t u : Tr} (h : okT t = true) {i : Nat} (hu : t.list[i]? = some u) : stepT t (stepK t.kind t.keys i) = some u := by
  obtain ⟨hi, rfl⟩ := get?_lt hu
  unfold stepK
  by_cases h6 : t.kind = 6
  · rw [if_pos h6]
    have h1 := partGet_nth h h6 hi
    unfold partGetR at h1
    split at h1
    · exact h1
    · cases h1
  · rw [if_neg h6]
    have h5 : t.kind = 5 := by rcases okT_kid h hi with h | h <;> omega
    have h1 := partAt_nth h h5 hi
    unfold partAtR at h1
    rw [if_pos h] at h1
    exact h1
theorem putT_at {t : Tr} (h : okT t = true) (h6 : t.kind = 6) {i : Nat} (hi : i < t.list.length) (y : Tr) : putT t (nth t.keys i) y = kidT t i y := by
  have hl := okT_len h h6
  have hp := posK_nth (okT_sorted h) (i := i) (by omega)
  have hb : putB t.keys (nth t.keys i) = true := putB_iff.2 ⟨by rw [hp]; omega, by rw [hp]⟩
  rcases okT_kid h hi with h | ⟨h1, h2, h3⟩
  · omega
  · unfold putT putK putL kidT
    rw [if_pos hb, if_pos hb, hp, h1, h2, h3]
theorem setT_at {t : Tr} (h : okT t = true) (h6 : ¬ t.kind = 6) {i : Nat} (hi : i < t.list.length) (y : Tr) : setT t y (i : Int) = kidT t i y := by
  rcases okT_kid h hi with ⟨h1, h2, h3, h4⟩ | h
  · unfold setT setL setZ kidT
    rw [if_neg (by omega), h1, h2, h3, h4, show (i : Int).toNat = i by simp, show i + 1 - t.list.length = 0 by omega]
    simp
  · omega
theorem told_if (x : Tr) : toldR true x = if okT x = true then some x else none := by unfold toldR; rw [Bool.true_and]
theorem upd_at {t y : Tr} (h : okT t = true) {i : Nat} (hi : i < t.list.length) (hy : okT y = true) : updT t (stepK t.kind t.keys i) y = if okT (kidT t i y) = true then some (kidT t i y) else none := by
  unfold updT stepK
  by_cases h6 : t.kind = 6
  · have hk : okS (nth t.keys i) = true := ((okT_six h).2.2 i (by have := okT_len h h6; omega)).1
    rw [if_pos h6]
    simp only [if_true]
    rw [putR_of (putC_of h hy hk (.inr h6)), putT_at h h6 hi, told_if]
  · rw [if_neg h6]
    have h5 : t.kind = 5 := by rcases okT_kid h hi with h | h <;> omega
    have h60 := okT_len60 h
    have hb : setB t y (i : Int) = true := by
      unfold setB
      rw [h, hy, h5]
      simp
      omega
    simp only [Bool.false_eq_true, if_false]
    unfold setR
    rw [if_pos hb, setT_at h h6 hi, told_if]
/-- A way of the tree. -/
def Way : List Stp → Tr → Prop
  | [], _ => True
  | s :: p, t => ∃ i u, t.list[i]? = some u ∧ s = stepK t.kind t.keys i ∧ Way p u
theorem ways_way : ∀ (t : Tr) (p q : List Stp), q ∈ t.ways p → ∃ r, q = p ++ r ∧ Way r t := Tr.ind (p := fun t => ∀ p q, q ∈ t.ways p → ∃ r, q = p ++ r ∧ Way r t) fun k n s ks l H p q hq => by
  rw [Tr.ways] at hq
  rcases List.mem_cons.1 hq with rfl | hq
  · exact ⟨[], by simp, trivial⟩
  · obtain ⟨i, hi, hq⟩ := Tr.waysL_mem hq
    obtain ⟨r, rfl, hr⟩ := H _ (List.getElem_mem hi) _ _ hq
    refine ⟨stepK k ks i :: r, by simp, i, l[i], ?_, rfl, hr⟩
    show l[i]? = _
    exact List.getElem?_eq_getElem hi
theorem waysR_way {t : Tr} {q : List Stp} (h : q ∈ waysR t) : okT t = true ∧ Way q t := by
  unfold waysR at h
  split at h
  · rename_i ho
    obtain ⟨r, rfl, hr⟩ := ways_way t [] q h
    exact ⟨ho, by simpa using hr⟩
  · simp at h
theorem put_cons {s : Stp} {p : List Stp} {t x a u : Tr} {i : Nat} (h : pathPutT (s :: p) t x = some a) (ht : okT t = true) (hx : okT x = true) (hu : t.list[i]? = some u) (hs : s = stepK t.kind t.keys i) :
    ∃ z, pathPutT p u x = some z ∧ a = kidT t i z ∧ okT a = true := by
  subst hs
  rw [pathPutT, step_at ht hu] at h
  simp only at h
  cases hp : pathPutT p u x with
  | none => rw [hp] at h; cases h
  | some z =>
    rw [hp] at h
    have h' : updT t (stepK t.kind t.keys i) z = some a := h
    rw [upd_at ht (get?_lt hu).1 (pathPutT_ok hx _ _ _ hp)] at h'
    split at h'
    · rename_i ho
      obtain rfl := Option.some.inj h'
      exact ⟨z, rfl, rfl, ho⟩
    · cases h'
theorem kid_self {t u z : Tr} {i : Nat} (hu : t.list[i]? = some u) : (kidT t i z).list[i]? = some z := by
  show (t.list.set i z)[i]? = _
  rw [List.getElem?_set_self (get?_lt hu).1]
theorem kid_other {t z : Tr} {i j : Nat} (h : i ≠ j) : (kidT t i z).list[j]? = t.list[j]? := by
  show (t.list.set i z)[j]? = _
  rw [List.getElem?_set_ne h]
theorem kid_same {t y z : Tr} {i : Nat} : kidT (kidT t i y) i z = kidT t i z := by
  show Tr.mk _ _ _ _ ((t.list.set i y).set i z) = Tr.mk _ _ _ _ (t.list.set i z)
  rw [List.set_set]
  rfl
theorem kid_comm {t y z : Tr} {i j : Nat} (h : i ≠ j) : kidT (kidT t i y) j z = kidT (kidT t j z) i y := by
  show Tr.mk _ _ _ _ ((t.list.set i y).set j z) = Tr.mk _ _ _ _ ((t.list.set j z).set i y)
  rw [List.set_comm _ _ h]
  rfl
theorem put_path {x : Tr} (hx : okT x = true) : ∀ (p : List Stp) (t a : Tr), okT t = true → Way p t → pathPutT p t x = some a → pathT p a = some x
  | [], t, a, _, _, h => by rw [pathPutT] at h; obtain rfl := Option.some.inj h; rfl
  | s :: p, t, a, ht, hw, h => by
    obtain ⟨i, u, hu, hs, hw⟩ := hw
    obtain ⟨z, hz, rfl, ho⟩ := put_cons h ht hx hu hs
    have hok : okT u = true := okT_child ht (List.mem_of_getElem? hu)
    rw [pathT, show stepT (kidT t i z) s = some z by rw [hs]; exact step_at (t := kidT t i z) ho (kid_self hu)]
    exact put_path hx p u z hok hw hz
theorem two_ways {x y : Tr} (hx : okT x = true) (hy : okT y = true) : ∀ (p q : List Stp) (t a b c d : Tr), okT t = true → Way p t → Way q t → (∃ (k : Nat) (s s' : Stp), p[k]? = some s ∧ q[k]? = some s' ∧ s ≠ s') →
    pathPutT p t x = some a → pathPutT q a y = some b → pathPutT q t y = some c → pathPutT p c x = some d → b = d ∧ pathT p b = some x
  | [], _, _, _, _, _, _, _, _, _, ⟨k, s, s', h, _⟩, _, _, _, _ => by simp at h
  | _ :: _, [], _, _, _, _, _, _, _, _, ⟨k, s, s', _, h, _⟩, _, _, _, _ => by simp at h
  | s :: p, r :: q, t, a, b, c, d, ht, hw, hw', hap, h1, h2, h3, h4 => by
    obtain ⟨i, u, hu, hs, hw⟩ := hw
    obtain ⟨j, v, hv, hr, hw'⟩ := hw'
    obtain ⟨a', ha, rfl, hoa⟩ := put_cons h1 ht hx hu hs
    obtain ⟨c', hc, rfl, hoc⟩ := put_cons h3 ht hy hv hr
    have hou : okT u = true := okT_child ht (List.mem_of_getElem? hu)
    by_cases e : i = j
    · subst e
      obtain rfl : u = v := by rw [hu] at hv; exact Option.some.inj hv
      obtain rfl : s = r := hs.trans hr.symm
      obtain ⟨b', hb, rfl, hob⟩ := put_cons h2 hoa hy (kid_self hu) hs
      obtain ⟨d', hd, rfl, hod⟩ := put_cons h4 hoc hx (kid_self hu) hs
      have hap' : ∃ (k : Nat) (s s' : Stp), p[k]? = some s ∧ q[k]? = some s' ∧ s ≠ s' := by
        obtain ⟨k, z, z', e1, e2, e3⟩ := hap
        cases k with
        | zero => simp at e1 e2; exact absurd (e1.symm.trans e2) e3
        | succ k => exact ⟨k, z, z', by simpa using e1, by simpa using e2, e3⟩
      obtain ⟨rfl, hg⟩ := two_ways hx hy p q u a' b' c' d' hou hw hw' hap' ha hb hc hd
      rw [kid_same] at hob ⊢
      refine ⟨kid_same.symm, ?_⟩
      rw [pathT, show stepT (kidT t i b') s = some b' by rw [hs]; exact step_at (t := kidT t i b') hob (kid_self hu)]
      exact hg
    · obtain ⟨b', hb, rfl, hob⟩ := put_cons h2 hoa hy ((kid_other e).trans hv) hr
      obtain ⟨d', hd, rfl, hod⟩ := put_cons h4 hoc hx ((kid_other (Ne.symm e)).trans hu) hs
      obtain rfl : c' = b' := by rw [hb] at hc; exact (Option.some.inj hc).symm
      obtain rfl : a' = d' := by rw [hd] at ha; exact (Option.some.inj ha).symm
      refine ⟨kid_comm e, ?_⟩
      rw [pathT, show stepT (kidT (kidT t i a') j c') s = some a' by rw [hs]; exact step_at (t := kidT (kidT t i a') j c') hob ((kid_other (Ne.symm e)).trans (kid_self hu))]
      exact put_path hx p u a' hou hw ha
theorem ppR_some {t x : Tr} {p : List Stp} {r : Option Tr} (hr : r = ppR t p x) (h : r.isSome = true) : okT x = true ∧ pathOk p = true ∧ pathPutT p t x = some (r.getD zeroT) := by
  subst hr
  unfold ppR at h ⊢
  split at h
  · rename_i hc
    rw [if_pos hc]
    simp only [Bool.and_eq_true] at hc
    cases hp : pathPutT p t x with
    | none => rw [hp] at h; cases h
    | some z => exact ⟨hc.2, hc.1.2, rfl⟩
  · cases h
theorem fin_two {t x y : Tr} {p q : List Stp} {r1 r2 r3 r4 r5 : Option Tr} (hp : p ∈ waysR t) (hq : q ∈ waysR t) (hap : ∃ (k : Nat) (s s' : Stp), p[k]? = some s ∧ q[k]? = some s' ∧ s ≠ s')
    (h1 : r1 = ppR t p x) (h2 : r2 = ppR (r1.getD zeroT) q y) (h3 : r3 = ppR t q y) (h4 : r4 = ppR (r3.getD zeroT) p x) (h5 : r5 = pathR (r2.getD zeroT) p) (e1 : r1.isSome = true) (e2 : r2.isSome = true) (e3 : r3.isSome = true) (e4 : r4.isSome = true) :
    r2.getD zeroT = r4.getD zeroT ∧ r5.getD zeroT = x := by
  obtain ⟨ht, hwp⟩ := waysR_way hp
  obtain ⟨-, hwq⟩ := waysR_way hq
  obtain ⟨hx, hpo, f1⟩ := ppR_some h1 e1
  obtain ⟨hy, -, f2⟩ := ppR_some h2 e2
  obtain ⟨-, -, f3⟩ := ppR_some h3 e3
  obtain ⟨-, -, f4⟩ := ppR_some h4 e4
  obtain ⟨g1, g2⟩ := two_ways hx hy p q t _ _ _ _ ht hwp hwq hap f1 f2 f3 f4
  refine ⟨g1, ?_⟩
  have hb : okT (r2.getD zeroT) = true := by rw [h2]; exact ppR_ok _ _ _
  rw [h5]
  unfold pathR
  rw [if_pos (by rw [hb, hpo]; rfl), g2]
  rfl


theorem sepPR {w : World} {l : List (List Stp)} {v : Value} {xs : List Value} (h : (bun (sepP l v xs)).is w) (hl : xs.length = l.length) : RepPP Any w l v := by
  have h' : Mem (sepP l v xs) w := h
  exact sepP_rep (Mem.get 0 rfl h') (Mem.get 1 rfl h') hl
theorem rangeAt_keep {w w' : World} {b o : Nat} {cs : List Value} (hr : w.rangeAt b o cs) (h : w'.heap[b]? = w.heap[b]?) : w'.rangeAt b o cs := fun j v hj => by
  have hc := hr j v hj
  rw [World.cell?_of_block (w := w) h]
  exact hc
/-- Two rows of steps and the cells where a row holds them, that nobody writes. -/
def twoW (G : Nat → Prop) (b o i j : Nat) (p q : List Stp) (x y : Value) : Res := ⟨G, fun w => RepP G w p x ∧ RepP G w q y ∧ (G b ∧ w.rangeAt b (o + i * 1) [x] ∧ w.rangeAt b (o + j * 1) [y]) ∧ ∀ k, G k → k < w.heap.size,
  fun w w' h hi => ⟨RepE.keep hi.1 fun k hk hF => h k hk hF, RepE.keep hi.2.1 fun k hk hF => h k hk hF, ⟨hi.2.2.1.1, rangeAt_keep hi.2.2.1.2.1 (h b (hi.2.2.2 b hi.2.2.1.1) hi.2.2.1.1), rangeAt_keep hi.2.2.1.2.2 (h b (hi.2.2.2 b hi.2.2.1.1) hi.2.2.1.1)⟩, lt_keep hi.2.2.2 h⟩, fun w hi k hk => hi.2.2.2 k hk⟩
theorem tw_p {G b o i j p q x y} {w : World} (h : (twoW G b o i j p q x y).is w) : RepP G w p x := h.1
theorem tw_q {G b o i j p q x y} {w : World} (h : (twoW G b o i j p q x y).is w) : RepP G w q y := h.2.1
theorem tw_x {G b o i j p q x y} {w : World} (h : (twoW G b o i j p q x y).is w) : w.rangeAt b (o + i * 1) [x] := h.2.2.1.2.1
theorem tw_y {G b o i j p q x y} {w : World} (h : (twoW G b o i j p q x y).is w) : w.rangeAt b (o + j * 1) [y] := h.2.2.1.2.2
theorem Fr.toTwo {X : Nat → Prop} {w0 w : World} {L : List Res} {S : Res} {l : List (List Stp)} {A : Option Addr} {m c : Nat} {xs : List Value} (h : Fr X w0 (S :: bun (sepP l (.slice A m c) xs) :: L) w) (hl : xs.length = l.length) (i j : Nat) (hi : i < l.length) (hj : j < l.length) :
    ∃ b o Ap cp Aq cq G, A = some ⟨b, o, none⟩ ∧ Fr X w0 (twoW G b o i j l[i] l[j] (.slice Ap l[i].length cp) (.slice Aq l[j].length cq) :: L) w := by
  have hm : Mem (sepP l (.slice A m c) xs) w := h.get 1 rfl
  have h1 := Mem.get 0 rfl hm
  have h2 : Mem (rowsP l xs) w := Mem.get 1 rfl hm
  have hr : RepE vCells 1 _ w xs (.slice A m c) := own_rep (enc := vCells) (sz := 1) (fun _ => rfl) h1
  obtain ⟨b, o, e, hF, hri⟩ := hr.at i (by omega)
  obtain ⟨b', o', e', -, hrj⟩ := hr.at j (by omega)
  obtain ⟨rfl, rfl⟩ : b = b' ∧ o = o' := by rw [e] at e'; simpa using e'
  have hpi : RepP _ w l[i] (xs[i]'(by omega)) := own_rep (enc := pCells) (sz := 3) (fun _ => rfl) (Mem.get i (rowsP_get i hi (by omega)) h2)
  have hpj : RepP _ w l[j] (xs[j]'(by omega)) := own_rep (enc := pCells) (sz := 3) (fun _ => rfl) (Mem.get j (rowsP_get j hj (by omega)) h2)
  obtain ⟨Ap, cp, ex, -⟩ := hpi.open
  obtain ⟨Aq, cq, ey, -⟩ := hpj.open
  have hG : ∀ k, (bun (sepP l (.slice A m c) xs)).fp k → k < w.heap.size := (bun (sepP l (.slice A m c) xs)).lt w hm
  have g1 : ∀ k, (own 46 1 (.slice A m c) xs.length (xs.flatMap vCells)).fp k → (bun (sepP l (.slice A m c) xs)).fp k := fun k hk => ⟨_, by simp [sepP], hk⟩
  have g2 : ∀ (n : Nat) (hn : n < l.length) k, (rowP l[n] (xs[n]'(by omega))).fp k → (bun (sepP l (.slice A m c) xs)).fp k := fun n hn k hk => ⟨bun (rowsP l xs), by simp [sepP], _, List.mem_of_getElem? (rowsP_get n hn (by omega)), hk⟩
  refine ⟨b, o, Ap, cp, Aq, cq, (bun (sepP l (.slice A m c) xs)).fp, e, h.tell _ ⟨⟨?_, ?_, ⟨g1 b hF, ?_, ?_⟩, hG⟩, fun k hk q hq hqk => h.mem.2.2.2.1 k hk q hq hqk, h.mem.2.2.2.2⟩ fun r hr k hk => ?_⟩
  · rw [← ex]; exact hpi.weak fun k hk => g2 i hi k hk
  · rw [← ey]; exact hpj.weak fun k hk => g2 j hj k hk
  · rw [← ex]; exact hri
  · rw [← ey]; exact hrj
  · rcases List.mem_cons.1 hr with rfl | hr
    · exact ⟨bun (sepP l (.slice A m c) xs), by simp, hk⟩
    · exact ⟨r, by simp [hr], hk⟩
theorem tw_rngP {G b o i j p q c} {y : Value} {Ap : Option Addr} {w : World} (h : (twoW G b o i j p q (.slice Ap p.length c) y).is w) (k : Nat) (hk : k < p.length) {pb po : Nat} (e : Ap = some ⟨pb, po, none⟩) : w.rangeAt pb (po + k * 3) (pCells p[k]) := by
  obtain ⟨b', o', e', -, hr⟩ := h.1.at k hk
  obtain ⟨rfl, rfl⟩ : pb = b' ∧ po = o' := by rw [e] at e'; simpa using e'
  exact hr
theorem tw_rngQ {G b o i j p q c} {x : Value} {Aq : Option Addr} {w : World} (h : (twoW G b o i j p q x (.slice Aq q.length c)).is w) (k : Nat) (hk : k < q.length) {pb po : Nat} (e : Aq = some ⟨pb, po, none⟩) : w.rangeAt pb (po + k * 3) (pCells q[k]) := by
  obtain ⟨b', o', e', -, hr⟩ := h.2.1.at k hk
  obtain ⟨rfl, rfl⟩ : pb = b' ∧ po = o' := by rw [e] at e'; simpa using e'
  exact hr
theorem tw_addr {G b o i j p q c} {y : Value} {Ap : Option Addr} {w : World} (h : (twoW G b o i j p q (.slice Ap p.length c) y).is w) (k : Nat) (hk : k < p.length) : ∃ pb po, Ap = some ⟨pb, po, none⟩ := by
  obtain ⟨b', o', e', -, hr⟩ := h.1.at k hk
  exact ⟨b', o', e'⟩
theorem tw_addrQ {G b o i j p q c} {x : Value} {Aq : Option Addr} {w : World} (h : (twoW G b o i j p q x (.slice Aq q.length c)).is w) (k : Nat) (hk : k < q.length) : ∃ pb po, Aq = some ⟨pb, po, none⟩ := by
  obtain ⟨b', o', e', -, hr⟩ := h.2.1.at k hk
  exact ⟨b', o', e'⟩
section
variable {P : Program} {n : Nat} {S : Env} {o : Oper} {g : Bool} {w : World} {x y : Operand} {t' : TypeId}
theorem step_eql (s u : Stp) (w : World) : (Op.equalIn 10000 52 (.agg (pCells s).toArray) (.agg (pCells u).toArray)).run Try.prog w = .ok (decide (s = u)) w := by
  have hS : Try.prog.underlying 52 = some (.struct (Try.prog.fieldsOf 52)) := by kernel_rfl
  have hp : Try.prog.stoodInHeld 52 = false := by kernel_rfl
  have hF : (Try.prog.fieldsOf 52).toList.map (fun f => (f.name, f.type, f.offset)) = [("Map", 4, 0), ("Key", 9, 1), ("At", 3, 2)] := by kernel_rfl
  have u1 : Try.prog.underlying 4 = some .bool := by kernel_rfl
  have u2 : Try.prog.underlying 9 = some .string := by kernel_rfl
  have u3 : Try.prog.underlying 3 = some (.int .i64) := by kernel_rfl
  obtain ⟨m, k, i⟩ := s
  obtain ⟨m', k', i'⟩ := u
  rw [show (10000 : Nat) = 9999 + 1 from rfl, run_equalIn_agg w 9999 52 _ _ hS hp]
  generalize (Try.prog.fieldsOf 52).toList = fs at hF
  obtain ⟨f1, fs, rfl⟩ : ∃ a l, fs = a :: l := by cases fs with | nil => simp at hF | cons a l => exact ⟨a, l, rfl⟩
  obtain ⟨f2, fs, rfl⟩ : ∃ a l, fs = a :: l := by cases fs with | nil => simp at hF | cons a l => exact ⟨a, l, rfl⟩
  obtain ⟨f3, fs, rfl⟩ : ∃ a l, fs = a :: l := by cases fs with | nil => simp at hF | cons a l => exact ⟨a, l, rfl⟩
  simp only [List.map_cons, List.cons.injEq, Prod.mk.injEq, List.map_eq_nil_iff] at hF
  obtain ⟨⟨n1, t1, o1⟩, ⟨n2, t2, o2⟩, ⟨n3, t3, o3⟩, rfl⟩ := hF
  have p1 : ∀ (c : Array Value) (v : Value), c[0]? = some v → (part 4 c 0).run Try.prog w = .ok v w := fun c v h => by simp [part, isAgg, run_underlying u1, h]
  have p2 : ∀ (c : Array Value) (v : Value), c[1]? = some v → (part 9 c 1).run Try.prog w = .ok v w := fun c v h => by simp [part, isAgg, run_underlying u2, h]
  have p3 : ∀ (c : Array Value) (v : Value), c[2]? = some v → (part 3 c 2).run Try.prog w = .ok v w := fun c v h => by simp [part, isAgg, run_underlying u3, h]
  simp only [Op.eqFields, n1, n2, n3, t1, t2, t3, o1, o2, o3, pCells]
  rw [if_pos (by decide), if_pos (by decide), if_pos (by decide)]
  simp only [Sem.run_bind, p1 #[.bool m, .string k, .int .i64 i] (.bool m) rfl, p1 #[.bool m', .string k', .int .i64 i'] (.bool m') rfl, p2 #[.bool m, .string k, .int .i64 i] (.string k) rfl, p2 #[.bool m', .string k', .int .i64 i'] (.string k') rfl,
    p3 #[.bool m, .string k, .int .i64 i] (.int .i64 i) rfl, p3 #[.bool m', .string k', .int .i64 i'] (.int .i64 i') rfl, Result.andThen_ok, run_equalIn_bool' (P := Try.prog) w 9998 _ _ _ u1, run_equalIn_string (P := Try.prog) w 9998 _ _ _ u2, run_equalIn_int (P := Try.prog) w 9998 _ _ _ _ _ u3, Sem.run_ite, bytes_beq, Sem.run_pure, Stp.mk.injEq]
  by_cases h1 : m = m' <;> by_cases h2 : k = k' <;> by_cases h3 : i = i' <;> simp [h1, h2, h3]
theorem yld_neqStep {s u : Stp} (ho : o.op = .binOp .neq 52 x y t') (hx : Ev S g x (.agg (pCells s).toArray)) (hy : Ev S g y (.agg (pCells u).toArray)) : Yld Try.prog n S o g w (.bool (!decide (s = u))) := fun a hs hg => by
  have ex := hx n a hs hg
  have ey := hy n a hs hg
  generalize a.eval = ρ at ex ey ⊢
  have hG : Try.prog.eqGuardType Try.prog.depth 52 = false := by kernel_rfl
  simp [execOp, ho, ex, ey, run_eqGuard_agg _ _ _ _ _ _ _ hG, run_neq_struct, step_eql]
end
theorem no52 {a : Tr} (b : Bool) (h : (((decide (a = a)) == b) || b) = true) : True := trivial
theorem path_ok {x : Tr} : ∀ {p : List Stp} {t : Tr}, okT t = true → pathT p t = some x → okT x = true
  | [], t, h, e => by rw [pathT] at e; obtain rfl := Option.some.inj e; exact h
  | s :: p, t, h, e => by
    rw [pathT] at e
    cases hs : stepT t s with
    | none => rw [hs] at e; cases e
    | some y => rw [hs] at e; exact path_ok (step_ok h hs) e
theorem pathR_ok (t : Tr) (p : List Stp) : okT ((pathR t p).getD zeroT) = true := getD_ok fun x hx => by
  unfold pathR at hx
  split at hx
  · rename_i h
    simp at h
    exact path_ok h.1 hx
  · cases hx
theorem fin9 {b1 b2 b3 b4 : Bool} {a b c d : Tr} (h : b1 = true → b2 = true → b3 = true → b4 = true → a = b ∧ c = d) : (((((!b1) || (!b2)) || (!b3)) || (!b4)) || (decide (a = b) && decide (c = d))) = true := by
  cases b1 <;> cases b2 <;> cases b3 <;> cases b4 <;> simp
  exact h rfl rfl rfl rfl
theorem apart_of {p q : List Stp} {k : Nat} (hk : k < p.length) (hk' : k < q.length) (h : (!decide (p[k] = q[k])) = true) : ∃ (k : Nat) (s s' : Stp), p[k]? = some s ∧ q[k]? = some s' ∧ s ≠ s' :=
  ⟨k, p[k], q[k], List.getElem?_eq_getElem hk, List.getElem?_eq_getElem hk', by simpa using h⟩
theorem waysR_keys {t : Tr} {q : List Stp} (h : q ∈ waysR t) : ∀ s ∈ q, s.key.size ≤ 9223372036854775807 := by
  obtain ⟨ho, hw⟩ := waysR_way h
  clear h
  induction q generalizing t with
  | nil => intro s hs; simp at hs
  | cons r q ih =>
    obtain ⟨i, u, hu, rfl, hw⟩ := hw
    intro s hs
    rcases List.mem_cons.1 hs with rfl | hs
    · unfold stepK
      split
      · rename_i h6
        have := okS_size ((okT_six ho).2.2 i (by have := okT_len ho h6; have := (get?_lt hu).1; omega)).1
        show (nth t.keys i).size ≤ _
        omega
      · show (0 : Nat) ≤ _
        omega
    · exact ih (okT_child ho (List.mem_of_getElem? hu)) hw s hs

set_option maxHeartbeats 8000000 in
set_option maxRecDepth 100000 in
theorem walk (code more : List UInt8) (v u : Value) (w : World) (hp : RepE bCells 1 Any w code v) (hq : RepE bCells 1 Any w more u) :
    Calls Try.prog 9 #[v, u] w fun e w' => e = .returned (.bool true) ∧ Chg No w w' := by
  obtain ⟨A, c, rfl, -⟩ := hp.open
  obtain ⟨B, d, rfl, -⟩ := hq.open
  refine enter Try.func9 rfl rfl rfl ?_
  have F0 := Fr.start w
  refine Cod.seq fun K1 hK1 => ?_
  refine Cod.region ?_
  refine Ops.step (One.val rfl rfl rfl (yld_assign rfl ev_c) ?_)
  refine Ops.nil fun a hS => ?_
  refine hK1 _ _ ?_ a hS
  refine Cod.seq fun K2 hK2 => ?_
  refine Cod.seq fun K3 hK3 => ?_
  refine Cod.region ?_
  refine Ops.step (One.val rfl rfl rfl (yld_move rfl (ev_t rfl)) ?_)
  refine Ops.step (One.val rfl rfl rfl (yld_len sl45 rfl (ev_t rfl)) ?_)
  refine Ops.step (One.val rfl rfl rfl (yld_gtr rfl (ev_t rfl) ev_c) ?_)
  refine Ops.step (One.val rfl rfl rfl (yld_move rfl (ev_t rfl)) ?_)
  refine Ops.step (One.val (gd_some rfl rfl) rfl rfl (yld_move rfl (ev_t rfl)) ?_)
  refine Ops.step (One.val (gd_some rfl rfl) rfl rfl (yld_len sl45 rfl (ev_g rfl)) ?_)
  refine Ops.step (One.val (gd_some rfl rfl) rfl rfl (yld_gtr rfl (ev_g rfl) ev_c) ?_)
  refine Ops.step (One.val rfl rfl rfl (yld_or rfl (ev_t rfl) (ev_g rfl)) ?_)
  refine Ops.nil fun a hS => ?_
  refine hK3 _ _ ?_ a hS
  refine Cod.cond rfl (fun hc30 => ?_) (fun hc30 => ?_)
  · skip
    refine Cod.seq fun K4 hK4 => ?_
    refine Cod.region ?_
    refine Ops.step (One.val rfl rfl rfl (yld_assign rfl ev_c) ?_)
    refine Ops.nil fun a hS => ?_
    refine hK4 _ _ ?_ a hS
    refine Cod.ret fun a hS => ?_
    try simp only [Exit.then, Exit.inBlock]
    exact ret1 (t := 4) rfl hS rfl ⟨rfl, F0.chg⟩
  · skip
    refine Cod.skip fun a hS => ?_
    refine hK2 _ _ ?_ a hS
    refine Cod.seq fun K5 hK5 => ?_
    refine Cod.region ?_
    refine Ops.step (One.val rfl rfl rfl (yld_move rfl (ev_t rfl)) ?_)
    refine Ops.step (One.call rfl rfl rfl (ent_f rfl (evl1 (ev_t rfl)) (enters en44)) (drawAll_ct code _ _ (hp.chg F0.chg)) (fun e w1 hw1 => ?_))
    obtain ⟨xa, ta, rfl, C1, hrsa, hda⟩ := hw1
    have hwa := hda.wt
    obtain ⟨Grsa, hGa⟩ : ∃ G, G = New w w1 := ⟨_, rfl⟩
    rw [← hGa] at hrsa
    obtain ⟨A3a, c3a, A4a, c4a, hxa⟩ := rep_x (rps_get hrsa 0 rfl)
    subst hxa
    have F1 := F0.new C1 (rps Grsa [(ta, (x5 ta.kind ta.num ta.str (.slice A3a ta.keys.length c3a) (.slice A4a ta.list.length c4a)).val)]) hrsa (by rw [hGa]; exact New.new)
    refine ⟨_, rfl, ?_⟩
    refine Ops.step (One.alloc F1 zero31 rfl rfl rfl rfl ?_)
    intro b1 w2 hb1 F2
    change Fr _ _ [blk _ _ [_, _, _, _, _], _] _ at F2
    refine Ops.step (One.storeN (vs := [_, _, _, _, _]) F2 0 rfl sz31 rfl rfl rfl (ev_t rfl) (ev_t rfl) rfl rfl (rps_oneC (F2.get 1 rfl) 0 rfl) ?_)
    intro w3 F3
    change Fr _ _ [blk _ _ [_, _, _, _, _], _] _ at F3
    refine Ops.nil fun a hS => ?_
    refine hK5 _ _ ?_ a hS
    refine Cod.seq fun K6 hK6 => ?_
    refine Cod.region ?_
    refine Ops.step (One.val rfl rfl rfl (yld_move rfl (ev_t rfl)) ?_)
    refine Ops.step (One.call rfl rfl rfl (ent_f rfl (evl1 (ev_t rfl)) (enters en45)) (drawOk_ct more _ _ (hq.chg F3.chg)) (fun e w4 hw4 => ?_))
    obtain ⟨xc, tc, rfl, C4, hrsc, hdc⟩ := hw4
    have hwc := hdc.wt
    obtain ⟨Grsc, hGc⟩ : ∃ G, G = New w3 w4 := ⟨_, rfl⟩
    rw [← hGc] at hrsc
    obtain ⟨A3c, c3c, A4c, c4c, hxc⟩ := rep_x (rps_get hrsc 0 rfl)
    subst hxc
    have F4 := F3.new C4 (rps Grsc [(tc, (x5 tc.kind tc.num tc.str (.slice A3c tc.keys.length c3c) (.slice A4c tc.list.length c4c)).val)]) hrsc (by rw [hGc]; exact New.new)
    refine ⟨_, rfl, ?_⟩
    refine Ops.step (One.alloc F4 zero31 rfl rfl rfl rfl ?_)
    intro b2 w5 hb2 F5
    change Fr _ _ [blk _ _ [_, _, _, _, _], _, blk _ _ [_, _, _, _, _], _] _ at F5
    refine Ops.step (One.storeN (vs := [_, _, _, _, _]) F5 0 rfl sz31 rfl rfl rfl (ev_t rfl) (ev_t rfl) rfl rfl (rps_oneC (F5.get 1 rfl) 0 rfl) ?_)
    intro w6 F6
    change Fr _ _ [blk _ _ [_, _, _, _, _], _, blk _ _ [_, _, _, _, _], _] _ at F6
    refine Ops.nil fun a hS => ?_
    refine hK6 _ _ ?_ a hS
    refine Cod.seq fun K7 hK7 => ?_
    refine Cod.region ?_
    refine Ops.step (One.val rfl rfl rfl (yld_loadN ag31 rfl (ev_t rfl) (fun _ => F6.range (m := 5) (cs' := [_, _, _, _, _]) 2 rfl rfl) rfl) ?_)
    refine Ops.step (One.call rfl rfl rfl (ent_f rfl (evl1 (ev_t rfl)) (enters en13)) (all_ct ta _ _ (rps_get (F6.get 3 rfl) 0 rfl) hda.fit (by omega)) (fun e w7 hw7 => ?_))
    obtain ⟨e1, xs1, rfl, hl1, C7, hm1, hb1⟩ := hw7
    obtain ⟨Al1, cl1, hel1, -⟩ := (sepPR hm1 hl1).open
    subst hel1
    have F7 := F6.new C7 (bun (sepP (waysR ta) (.slice Al1 (waysR ta).length cl1) xs1)) hm1 hb1
    refine ⟨_, rfl, ?_⟩
    refine Ops.step (One.val rfl rfl rfl (yld_assign rfl (ev_t rfl)) ?_)
    refine Ops.nil fun a hS => ?_
    refine hK7 _ _ ?_ a hS
    refine Cod.seq fun K8 hK8 => ?_
    refine Cod.seq fun K9 hK9 => ?_
    refine Cod.region ?_
    refine Ops.step (One.val rfl rfl rfl (yld_move rfl (ev_t rfl)) ?_)
    refine Ops.step (One.val rfl rfl rfl (yld_len sl27 rfl (ev_t rfl)) ?_)
    refine Ops.step (One.val rfl rfl rfl (yld_loadN ag31 rfl (ev_t rfl) (fun _ => F7.range (m := 5) (cs' := [_, _, _, _, _]) 3 rfl rfl) rfl) ?_)
    refine Ops.step (One.call rfl rfl rfl (ent_f rfl (evl1 (ev_t rfl)) (enters en11)) (specAll_ct ta _ _ (rps_get (F7.get 4 rfl) 0 rfl) hda.fit (by omega)) (fun e w8 hw8 => ?_))
    obtain ⟨e2, xs2, rfl, hl2, C8, hm2, hb2⟩ := hw8
    obtain ⟨Al2, cl2, hel2, -⟩ := (sepPR hm2 hl2).open
    subst hel2
    have F8 := F7.new C8 (bun (sepP (waysR ta) (.slice Al2 (waysR ta).length cl2) xs2)) hm2 hb2
    refine ⟨_, rfl, ?_⟩
    refine Ops.step (One.val rfl rfl rfl (yld_len sl27 rfl (ev_t rfl)) ?_)
    refine Ops.step (One.val rfl rfl rfl (yld_neq rfl (ev_t rfl) (ev_t rfl)) ?_)
    refine Ops.step (One.val rfl rfl rfl (yld_move rfl (ev_t rfl)) ?_)
    refine Ops.step (One.val (gd_some rfl rfl) rfl rfl (yld_move rfl (ev_t rfl)) ?_)
    refine Ops.step (One.val (gd_some rfl rfl) rfl rfl (yld_len sl27 rfl (ev_g rfl)) ?_)
    refine Ops.step (One.val (gd_some rfl rfl) rfl rfl (yld_lss rfl (ev_g rfl) ev_c) ?_)
    refine Ops.step (One.val rfl rfl rfl (yld_or rfl (ev_t rfl) (ev_g rfl)) ?_)
    refine Ops.step (One.val rfl rfl rfl (yld_move rfl (ev_t rfl)) ?_)
    refine Ops.step (One.val (gd_some rfl rfl) rfl rfl (yld_loadN ag31 rfl (ev_t rfl) (fun _ => F8.range (m := 5) (cs' := [_, _, _, _, _]) 2 rfl rfl) rfl) ?_)
    refine Ops.step (One.gcall (R := Chg No w8) (gd_some rfl rfl) rfl rfl (ent_f rfl (evl1 (ev_g rfl)) (enters en42)) (Chg.refl _ _) (fun hg => specOk_ct tc _ _ (rps_get (F8.get 3 rfl) 0 rfl) hdc.fit (by omega)) ?_)
    intro w9 C9
    have F9 := F8.call C9
    refine Ops.step (One.val (gd_some rfl rfl) rfl rfl (yld_not rfl (ev_g rfl)) ?_)
    refine Ops.step (One.val rfl rfl rfl (yld_or rfl (ev_t rfl) (ev_g rfl)) ?_)
    refine Ops.nil fun a hS => ?_
    refine hK9 _ _ ?_ a hS
    refine Cod.cond rfl (fun hc52 => ?_) (fun hc52 => ?_)
    · skip
      skip
      refine Cod.seq fun K10 hK10 => ?_
      refine Cod.region ?_
      refine Ops.step (One.val rfl rfl rfl (yld_move rfl (ev_t rfl)) ?_)
      refine Ops.step (One.val rfl rfl rfl (yld_len sl27 rfl (ev_t rfl)) ?_)
      refine Ops.step (One.val rfl rfl rfl (yld_loadN ag31 rfl (ev_t rfl) (fun _ => F9.range (m := 5) (cs' := [_, _, _, _, _]) 4 rfl rfl) rfl) ?_)
      refine Ops.step (One.call rfl rfl rfl (ent_f rfl (evl1 (ev_t rfl)) (enters en11)) (specAll_ct ta _ _ (rps_get (F9.get 5 rfl) 0 rfl) hda.fit (by omega)) (fun e w10 hw10 => ?_))
      obtain ⟨e3, xs3, rfl, hl3, C10, hm3, hb3⟩ := hw10
      obtain ⟨Al3, cl3, hel3, -⟩ := (sepPR hm3 hl3).open
      subst hel3
      have F10 := F9.new C10 (bun (sepP (waysR ta) (.slice Al3 (waysR ta).length cl3) xs3)) hm3 hb3
      refine ⟨_, rfl, ?_⟩
      refine Ops.step (One.val rfl rfl rfl (yld_len sl27 rfl (ev_t rfl)) ?_)
      refine Ops.step (One.val rfl rfl rfl (yld_eql rfl (ev_t rfl) (ev_t rfl)) ?_)
      refine Ops.step (One.val rfl rfl rfl (yld_assign rfl (ev_t rfl)) ?_)
      refine Ops.nil fun a hS => ?_
      refine hK10 _ _ ?_ a hS
      refine Cod.ret fun a hS => ?_
      try simp only [Exit.then, Exit.inBlock]
      exact ret1 (t := 4) rfl hS rfl ⟨ret_b (by simp), F10.chg⟩
    · skip
      have hlen : 2 ≤ (waysR ta).length := by
        have h := hc52
        simp at h
        omega
      have hkp : more.length % (waysR ta).length < (waysR ta).length := Nat.mod_lt _ (by omega)
      have hkq : code.length % (waysR ta).length < (waysR ta).length := Nat.mod_lt _ (by omega)
      obtain ⟨ab, ao, Ap, cp, Aq, cq, G2, rfl, F11⟩ := Fr.toTwo F9 hl1 _ _ hkp hkq
      obtain ⟨wp, hwp⟩ : ∃ p, p = (waysR ta)[more.length % (waysR ta).length] := ⟨_, rfl⟩
      obtain ⟨wq, hwq⟩ : ∃ p, p = (waysR ta)[code.length % (waysR ta).length] := ⟨_, rfl⟩
      rw [← hwp, ← hwq] at F11
      have hmp : wp ∈ waysR ta := by rw [hwp]; exact List.getElem_mem _
      have hmq : wq ∈ waysR ta := by rw [hwq]; exact List.getElem_mem _
      have hsp := waysR_keys hmp
      have hsq := waysR_keys hmq
      have hshp := waysR_short ta wp hmp
      have hshq := waysR_short ta wq hmq
      refine Cod.skip fun a hS => ?_
      refine hK8 _ _ ?_ a hS
      refine Cod.seq fun K11 hK11 => ?_
      refine Cod.region ?_
      refine Ops.step (One.val rfl rfl rfl (yld_move rfl (ev_t rfl)) ?_)
      refine Ops.step (One.val rfl rfl rfl (yld_move rfl (ev_t rfl)) ?_)
      refine Ops.step (One.val rfl rfl rfl (yld_len sl45 rfl (ev_t rfl)) ?_)
      refine Ops.step (One.val rfl rfl rfl (yld_move rfl (ev_t rfl)) ?_)
      refine Ops.step (One.val rfl rfl rfl (yld_len sl27 rfl (ev_t rfl)) ?_)
      refine Ops.step (One.val rfl rfl rfl (yld_remI more.length (waysR ta).length rfl (ev_t rfl) (ev_t rfl) rfl rfl (by omega)) ?_)
      refine Ops.step (One.val rfl rfl rfl (yld_indexN (i := more.length % (waysR ta).length) sl27 rfl (ev_t rfl) (ev_t rfl) (fun _ => hkp)) ?_)
      refine Ops.step (One.val rfl rfl rfl (yld_load1 on46 rfl (ev_t rfl) (fun _ => rangeAt_cell (tw_x (F11.get 0 rfl)) (j := 0) rfl)) ?_)
      refine Ops.step (One.val rfl rfl rfl (yld_assign rfl (ev_t rfl)) ?_)
      refine Ops.nil fun a hS => ?_
      refine hK11 _ _ ?_ a hS
      refine Cod.seq fun K12 hK12 => ?_
      refine Cod.region ?_
      refine Ops.step (One.val rfl rfl rfl (yld_move rfl (ev_t rfl)) ?_)
      refine Ops.step (One.val rfl rfl rfl (yld_move rfl (ev_t rfl)) ?_)
      refine Ops.step (One.val rfl rfl rfl (yld_len sl45 rfl (ev_t rfl)) ?_)
      refine Ops.step (One.val rfl rfl rfl (yld_move rfl (ev_t rfl)) ?_)
      refine Ops.step (One.val rfl rfl rfl (yld_len sl27 rfl (ev_t rfl)) ?_)
      refine Ops.step (One.val rfl rfl rfl (yld_remI code.length (waysR ta).length rfl (ev_t rfl) (ev_t rfl) rfl rfl (by omega)) ?_)
      refine Ops.step (One.val rfl rfl rfl (yld_indexN (i := code.length % (waysR ta).length) sl27 rfl (ev_t rfl) (ev_t rfl) (fun _ => hkq)) ?_)
      refine Ops.step (One.val rfl rfl rfl (yld_load1 on46 rfl (ev_t rfl) (fun _ => rangeAt_cell (tw_y (F11.get 0 rfl)) (j := 0) rfl)) ?_)
      refine Ops.step (One.val rfl rfl rfl (yld_assign rfl (ev_t rfl)) ?_)
      refine Ops.nil fun a hS => ?_
      refine hK12 _ _ ?_ a hS
      refine Cod.seq fun K13 hK13 => ?_
      refine Cod.region ?_
      refine Ops.step (One.val rfl rfl rfl (yld_assign rfl ev_c) ?_)
      refine Ops.nil fun a hS => ?_
      refine hK13 _ _ ?_ a hS
      refine Cod.seq fun K14 hK14 => ?_
      refine Cod.seq fun K15 hK15 => ?_
      refine Cod.region ?_
      refine Ops.step (One.val rfl rfl rfl (yld_assign rfl ev_c) ?_)
      refine Ops.nil fun a hS => ?_
      refine hK15 _ _ ?_ a hS
      refine Cod.block ?_
      have F12 := F11.pull 4 rfl
      have F13 := F12.pull 4 rfl
      have F14 := F13.pull 4 rfl
      have F15 := F14.pull 4 rfl
      have F16 := F15.pull 4 rfl
      refine Cod.loop (fun i : Nat × Bool => [(5, true, .pointer (some ⟨b1, 0, none⟩)), (6, true, .pointer (some ⟨b2, 0, none⟩)), (8, true, .slice Ap wp.length cp), (9, true, .slice Aq wq.length cq), (10, true, .bool i.2), (11, true, .int .i64 (i.1 : Int))]) (fun i w' => i.1 ≤ wp.length ∧ i.1 ≤ wq.length ∧ (i.2 = true → ∃ (k : Nat) (s s' : Stp), wp[k]? = some s ∧ wq[k]? = some s' ∧ s ≠ s') ∧ Fr No w [twoW G2 ab ao (more.length % (waysR ta).length) (code.length % (waysR ta).length) wp wq (.slice Ap wp.length cp) (.slice Aq wq.length cq), blk b2 31 (enc5 (x5 tc.kind tc.num tc.str (.slice A3c tc.keys.length c3c) (.slice A4c tc.list.length c4c))), rps Grsc [(tc, (x5 tc.kind tc.num tc.str (.slice A3c tc.keys.length c3c) (.slice A4c tc.list.length c4c)).val)], blk b1 31 (enc5 (x5 ta.kind ta.num ta.str (.slice A3a ta.keys.length c3a) (.slice A4a ta.list.length c4a))), rps Grsa [(ta, (x5 ta.kind ta.num ta.str (.slice A3a ta.keys.length c3a) (.slice A4a ta.list.length c4a)).val)]] w') (fun i => wp.length - i.1) (0, false) ⟨rfl, rfl, rfl, rfl, rfl, rfl, trivial⟩ ⟨Nat.zero_le _, Nat.zero_le _, by simp, F16⟩ ?_
      intro i w11 hW K16 hK16
      obtain ⟨ix, ap⟩ := i
      obtain ⟨hi0, hi1, hap, F17⟩ := hW
      dsimp only at *
      refine Cod.seq fun K17 hK17 => ?_
      refine Cod.seq fun K18 hK18 => ?_
      refine Cod.region ?_
      refine Ops.step (One.val rfl rfl rfl (yld_move rfl (ev_t rfl)) ?_)
      refine Ops.step (One.val rfl rfl rfl (yld_move rfl (ev_t rfl)) ?_)
      refine Ops.step (One.val rfl rfl rfl (yld_len sl46 rfl (ev_t rfl)) ?_)
      refine Ops.step (One.val rfl rfl rfl (yld_lss rfl (ev_t rfl) (ev_t rfl)) ?_)
      refine Ops.step (One.val rfl rfl rfl (yld_move rfl (ev_t rfl)) ?_)
      refine Ops.step (One.val (gd_some rfl rfl) rfl rfl (yld_move rfl (ev_t rfl)) ?_)
      refine Ops.step (One.val (gd_some rfl rfl) rfl rfl (yld_move rfl (ev_t rfl)) ?_)
      refine Ops.step (One.val (gd_some rfl rfl) rfl rfl (yld_len sl46 rfl (ev_g rfl)) ?_)
      refine Ops.step (One.val (gd_some rfl rfl) rfl rfl (yld_lss rfl (ev_g rfl) (ev_g rfl)) ?_)
      refine Ops.step (One.val rfl rfl rfl (yld_and rfl (ev_t rfl) (ev_g rfl)) ?_)
      refine Ops.step (One.val rfl rfl rfl (yld_move rfl (ev_t rfl)) ?_)
      refine Ops.step (One.val (gd_some rfl rfl) rfl rfl (yld_move rfl (ev_t rfl)) ?_)
      refine Ops.step (One.val (gd_some rfl rfl) rfl rfl (yld_not rfl (ev_g rfl)) ?_)
      refine Ops.step (One.val rfl rfl rfl (yld_and rfl (ev_t rfl) (ev_g rfl)) ?_)
      refine Ops.nil fun a hS => ?_
      refine hK18 _ _ ?_ a hS
      refine Cod.cond rfl (fun hc88 => ?_) (fun hc88 => ?_)
      · skip
        obtain ⟨hi, hj⟩ : ix < wp.length ∧ ix < wq.length := by
          have h := hc88
          simp at h
          omega
        refine Cod.skip fun a hS => ?_
        refine hK17 _ _ ?_ a hS
        refine Cod.seq fun K19 hK19 => ?_
        refine Cod.block ?_
        have F18 := F17.drew
        obtain ⟨pb, po, hA⟩ := tw_addr (F18.get 0 rfl) ix hi
        obtain ⟨qb, qo, hB⟩ := tw_addrQ (F18.get 0 rfl) ix hj
        refine Cod.draw (C_of ((((F18.erase 4).erase 3).erase 2).erase 1)) (by kernel_rfl) ?_
        refine Hops.take 0 rfl (by kernel_rfl) (fun _ _ _ h => h) rfl rfl rfl ((((F18.erase 4).erase 3).erase 2).erase 1) (fun w F => (yld_move rfl (ev_t rfl))) ?_
        refine Hops.take 1 rfl (by kernel_rfl) (fun _ _ _ h => h) rfl rfl rfl ((((F18.erase 4).erase 3).erase 2).erase 1) (fun w F => (yld_move rfl (ev_t rfl))) ?_
        refine Hops.take 2 rfl (by kernel_rfl) (fun _ _ _ h => h) rfl rfl rfl ((((F18.erase 4).erase 3).erase 2).erase 1) (fun w F => (yld_indexG (b := pb) (q := po) (i := ix) sl46 rfl (ev_t rfl) (ev_t rfl) (fun _ => hA) (fun _ => hi))) ?_
        refine Hops.take 3 rfl (by kernel_rfl) (fun _ _ _ h => h) rfl rfl rfl ((((F18.erase 4).erase 3).erase 2).erase 1) (fun w F => (yld_loadN (cs := pCells wp[ix]) ag52 rfl (ev_t rfl) (fun _ => tw_rngP (F.get 0 rfl) ix hi hA) rfl)) ?_
        refine Hops.take 4 rfl (by kernel_rfl) (fun _ _ _ h => h) rfl rfl rfl ((((F18.erase 4).erase 3).erase 2).erase 1) (fun w F => (yld_move rfl (ev_t rfl))) ?_
        refine Hops.take 5 rfl (by kernel_rfl) (fun _ _ _ h => h) rfl rfl rfl ((((F18.erase 4).erase 3).erase 2).erase 1) (fun w F => (yld_move rfl (ev_t rfl))) ?_
        refine Hops.take 6 rfl (by kernel_rfl) (fun _ _ _ h => h) rfl rfl rfl ((((F18.erase 4).erase 3).erase 2).erase 1) (fun w F => (yld_indexG (b := qb) (q := qo) (i := ix) sl46 rfl (ev_t rfl) (ev_t rfl) (fun _ => hB) (fun _ => hj))) ?_
        refine Hops.take 7 rfl (by kernel_rfl) (fun _ _ _ h => h) rfl rfl rfl ((((F18.erase 4).erase 3).erase 2).erase 1) (fun w F => (yld_loadN (cs := pCells wq[ix]) ag52 rfl (ev_t rfl) (fun _ => tw_rngQ (F.get 0 rfl) ix hj hB) rfl)) ?_
        refine Hops.take 8 rfl (by kernel_rfl) (fun _ _ _ h => h) rfl rfl rfl ((((F18.erase 4).erase 3).erase 2).erase 1) (fun w F => (yld_neqStep rfl (ev_t rfl) (ev_t rfl))) ?_
        refine Hops.one 9 rfl (by kernel_rfl) (One.val rfl rfl rfl (yld_assign rfl (ev_t rfl)) ?_)
        refine ⟨((((F18.erase 4).erase 3).erase 2).erase 1), ?_⟩
        refine Hops.nil (by kernel_rfl) fun a hS => ?_
        refine hK19 _ _ ?_ a hS
        refine Cod.region ?_
        refine Ops.step (One.val rfl rfl rfl (yld_move rfl (ev_t rfl)) ?_)
        refine Ops.step (One.val rfl rfl rfl (yld_inc rfl (ev_t rfl) (fun _ => by omega)) ?_)
        refine Ops.step (One.val rfl rfl rfl (yld_assign rfl (ev_t rfl)) ?_)
        refine Ops.nil fun a hS => ?_
        have F19 := F18.pull 4 rfl
        have F20 := F19.pull 4 rfl
        have F21 := F20.pull 4 rfl
        have F22 := F21.pull 4 rfl
        have F23 := F22.pull 4 rfl
        exact hK16 (ix + 1, _) _ a (hS.sub ⟨rfl, rfl, rfl, rfl, rfl, rfl, trivial⟩) ⟨by show ix + 1 ≤ _; omega, by show ix + 1 ≤ _; omega, fun h => apart_of hi hj h, F23⟩ (by show wp.length - (ix + 1) < wp.length - ix; omega)
      · skip
        skip
        refine Cod.exit fun a hS => ?_
        simp only [Exit.then, Exit.inBlock, ↓reduceIte]
        refine hK14 _ _ ?_ a hS
        refine Cod.seq fun K20 hK20 => ?_
        refine Cod.seq fun K21 hK21 => ?_
        refine Cod.region ?_
        refine Ops.step (One.val rfl rfl rfl (yld_move rfl (ev_t rfl)) ?_)
        refine Ops.step (One.val rfl rfl rfl (yld_not rfl (ev_t rfl)) ?_)
        refine Ops.nil fun a hS => ?_
        refine hK21 _ _ ?_ a hS
        refine Cod.cond rfl (fun hc101 => ?_) (fun hc101 => ?_)
        · skip
          skip
          refine Cod.seq fun K22 hK22 => ?_
          refine Cod.region ?_
          refine Ops.step (One.val rfl rfl rfl (yld_assign rfl ev_c) ?_)
          refine Ops.nil fun a hS => ?_
          refine hK22 _ _ ?_ a hS
          refine Cod.ret fun a hS => ?_
          try simp only [Exit.then, Exit.inBlock]
          exact ret1 (t := 4) rfl hS rfl ⟨rfl, F17.chg⟩
        · skip
          have hapt := hap (by simpa using hc101)
          refine Cod.skip fun a hS => ?_
          refine hK20 _ _ ?_ a hS
          refine Cod.seq fun K23 hK23 => ?_
          refine Cod.region ?_
          refine Ops.step (One.val rfl rfl rfl (yld_build (cells := [.int .i64 2, .int .i64 0, .string ⟨#[]⟩, .slice none 0 0, .slice none 0 0]) rfl (evp1 ev_c) (by kernel_rfl)) ?_)
          refine Ops.step (One.alloc F17 zero31 rfl rfl rfl rfl ?_)
          intro b3 w12 hb3 F24
          change Fr _ _ [blk _ _ [_, _, _, _, _], _, blk _ _ [_, _, _, _, _], _, blk _ _ [_, _, _, _, _], _] _ at F24
          refine Ops.step (One.storeN (vs := [_, _, _, _, _]) F24 0 rfl sz31 rfl rfl rfl (ev_t rfl) (ev_t rfl) rfl rfl rfl ?_)
          intro w13 F25
          change Fr _ _ [blk _ _ [_, _, _, _, _], _, blk _ _ [_, _, _, _, _], _, blk _ _ [_, _, _, _, _], _] _ at F25
          refine Ops.nil fun a hS => ?_
          refine hK23 _ _ ?_ a hS
          refine Cod.seq fun K24 hK24 => ?_
          refine Cod.region ?_
          refine Ops.step (One.val rfl rfl rfl (yld_loadN ag31 rfl (ev_t rfl) (fun _ => F25.range (m := 5) (cs' := [_, _, _, _, _]) 4 rfl rfl) rfl) ?_)
          refine Ops.step (One.val rfl rfl rfl (yld_move rfl (ev_t rfl)) ?_)
          refine Ops.step (One.val rfl rfl rfl (yld_loadN ag31 rfl (ev_t rfl) (fun _ => F25.range (m := 5) (cs' := [_, _, _, _, _]) 2 rfl rfl) rfl) ?_)
          refine Ops.step (One.call rfl rfl rfl (ent_f rfl (evl3 (ev_t rfl) (ev_t rfl) (ev_t rfl)) (enters en46)) (PathPut_ct ta wp tc hsp _ _ _ _ (rps_get (F25.get 5 rfl) 0 rfl) ((tw_p (F25.get 1 rfl)).weak fun _ _ => trivial) (rps_get (F25.get 3 rfl) 0 rfl) hda.fit hdc.fit) (fun e w14 hw14 => ?_))
          obtain ⟨R1, hR1⟩ : ∃ R, R = ppR ta wp tc := ⟨_, rfl⟩
          have hO1 : okT (R1.getD zeroT) = true := by rw [hR1]; exact ppR_ok ta wp tc
          rw [← hR1] at hw14
          obtain ⟨e1, E1, rfl, C14, hE1, hEb1⟩ := hw14
          obtain ⟨A3e1, c3e1, A4e1, c4e1, hxe1⟩ := rep_x hE1.rep
          subst hxe1
          have F26 := F25.new C14 (sep E1 (R1.getD zeroT) (x5 (R1.getD zeroT).kind (R1.getD zeroT).num (R1.getD zeroT).str (.slice A3e1 (R1.getD zeroT).keys.length c3e1) (.slice A4e1 (R1.getD zeroT).list.length c4e1)).val) hE1 hEb1
          refine ⟨_, rfl, ?_⟩
          refine Ops.step (One.val rfl rfl rfl (yld_move rfl (ev_t rfl)) ?_)
          refine Ops.step (One.val rfl rfl rfl (yld_extract rfl (ev_t rfl) rfl) ?_)
          refine Ops.step (One.val rfl rfl rfl (yld_extract rfl (ev_t rfl) rfl) ?_)
          refine Ops.step (One.alloc F26 zero31 rfl rfl rfl rfl ?_)
          intro b4 w15 hb4 F27
          change Fr _ _ [blk _ _ [_, _, _, _, _], _, blk _ _ [_, _, _, _, _], _, blk _ _ [_, _, _, _, _], _, blk _ _ [_, _, _, _, _], _] _ at F27
          refine Ops.step (One.storeN (vs := [_, _, _, _, _]) F27 0 rfl sz31 rfl rfl rfl (ev_t rfl) (ev_t rfl) rfl rfl (Sep.one (x := (x5 (R1.getD zeroT).kind (R1.getD zeroT).num (R1.getD zeroT).str (.slice A3e1 (R1.getD zeroT).keys.length c3e1) (.slice A4e1 (R1.getD zeroT).list.length c4e1))) (F27.get 1 rfl)) ?_)
          intro w16 F28
          change Fr _ _ [blk _ _ [_, _, _, _, _], _, blk _ _ [_, _, _, _, _], _, blk _ _ [_, _, _, _, _], _, blk _ _ [_, _, _, _, _], _] _ at F28
          refine Ops.step (One.val rfl rfl rfl (yld_assign rfl (ev_t rfl)) ?_)
          refine Ops.nil fun a hS => ?_
          refine hK24 _ _ ?_ a hS
          refine Cod.seq fun K25 hK25 => ?_
          refine Cod.region ?_
          refine Ops.step (One.val rfl rfl rfl (yld_loadN ag31 rfl (ev_t rfl) (fun _ => F28.range (m := 5) (cs' := [_, _, _, _, _]) 0 rfl rfl) rfl) ?_)
          refine Ops.step (One.val rfl rfl rfl (yld_move rfl (ev_t rfl)) ?_)
          refine Ops.step (One.val rfl rfl rfl (yld_loadN ag31 rfl (ev_t rfl) (fun _ => F28.range (m := 5) (cs' := [_, _, _, _, _]) 2 rfl rfl) rfl) ?_)
          refine Ops.step (One.call rfl rfl rfl (ent_f rfl (evl3 (ev_t rfl) (ev_t rfl) (ev_t rfl)) (enters en46)) (PathPut_ct (R1.getD zeroT) wq (Tr.mk 2 0 ⟨#[]⟩ [] []) hsq _ _ _ _ (F28.get 1 rfl).rep ((tw_q (F28.get 3 rfl)).weak fun _ _ => trivial) (rep_leaf _ 2 0 ⟨#[]⟩) (okT_fit hO1) (leaf_fit 2 0 (by decide))) (fun e w17 hw17 => ?_))
          obtain ⟨R2, hR2⟩ : ∃ R, R = ppR (R1.getD zeroT) wq (Tr.mk 2 0 ⟨#[]⟩ [] []) := ⟨_, rfl⟩
          have hO2 : okT (R2.getD zeroT) = true := by rw [hR2]; exact ppR_ok (R1.getD zeroT) wq (Tr.mk 2 0 ⟨#[]⟩ [] [])
          rw [← hR2] at hw17
          obtain ⟨e2, E2, rfl, C17, hE2, hEb2⟩ := hw17
          obtain ⟨A3e2, c3e2, A4e2, c4e2, hxe2⟩ := rep_x hE2.rep
          subst hxe2
          have F29 := F28.new C17 (sep E2 (R2.getD zeroT) (x5 (R2.getD zeroT).kind (R2.getD zeroT).num (R2.getD zeroT).str (.slice A3e2 (R2.getD zeroT).keys.length c3e2) (.slice A4e2 (R2.getD zeroT).list.length c4e2)).val) hE2 hEb2
          refine ⟨_, rfl, ?_⟩
          refine Ops.step (One.val rfl rfl rfl (yld_move rfl (ev_t rfl)) ?_)
          refine Ops.step (One.val rfl rfl rfl (yld_extract rfl (ev_t rfl) rfl) ?_)
          refine Ops.step (One.val rfl rfl rfl (yld_extract rfl (ev_t rfl) rfl) ?_)
          refine Ops.step (One.alloc F29 zero31 rfl rfl rfl rfl ?_)
          intro b5 w18 hb5 F30
          change Fr _ _ [blk _ _ [_, _, _, _, _], _, blk _ _ [_, _, _, _, _], _, blk _ _ [_, _, _, _, _], _, blk _ _ [_, _, _, _, _], _, blk _ _ [_, _, _, _, _], _] _ at F30
          refine Ops.step (One.storeN (vs := [_, _, _, _, _]) F30 0 rfl sz31 rfl rfl rfl (ev_t rfl) (ev_t rfl) rfl rfl (Sep.one (x := (x5 (R2.getD zeroT).kind (R2.getD zeroT).num (R2.getD zeroT).str (.slice A3e2 (R2.getD zeroT).keys.length c3e2) (.slice A4e2 (R2.getD zeroT).list.length c4e2))) (F30.get 1 rfl)) ?_)
          intro w19 F31
          change Fr _ _ [blk _ _ [_, _, _, _, _], _, blk _ _ [_, _, _, _, _], _, blk _ _ [_, _, _, _, _], _, blk _ _ [_, _, _, _, _], _, blk _ _ [_, _, _, _, _], _] _ at F31
          refine Ops.step (One.val rfl rfl rfl (yld_assign rfl (ev_t rfl)) ?_)
          refine Ops.nil fun a hS => ?_
          refine hK25 _ _ ?_ a hS
          refine Cod.seq fun K26 hK26 => ?_
          refine Cod.region ?_
          refine Ops.step (One.val rfl rfl rfl (yld_loadN ag31 rfl (ev_t rfl) (fun _ => F31.range (m := 5) (cs' := [_, _, _, _, _]) 8 rfl rfl) rfl) ?_)
          refine Ops.step (One.val rfl rfl rfl (yld_move rfl (ev_t rfl)) ?_)
          refine Ops.step (One.val rfl rfl rfl (yld_loadN ag31 rfl (ev_t rfl) (fun _ => F31.range (m := 5) (cs' := [_, _, _, _, _]) 4 rfl rfl) rfl) ?_)
          refine Ops.step (One.call rfl rfl rfl (ent_f rfl (evl3 (ev_t rfl) (ev_t rfl) (ev_t rfl)) (enters en46)) (PathPut_ct ta wq (Tr.mk 2 0 ⟨#[]⟩ [] []) hsq _ _ _ _ (rps_get (F31.get 9 rfl) 0 rfl) ((tw_q (F31.get 5 rfl)).weak fun _ _ => trivial) (rep_leaf _ 2 0 ⟨#[]⟩) hda.fit (leaf_fit 2 0 (by decide))) (fun e w20 hw20 => ?_))
          obtain ⟨R3, hR3⟩ : ∃ R, R = ppR ta wq (Tr.mk 2 0 ⟨#[]⟩ [] []) := ⟨_, rfl⟩
          have hO3 : okT (R3.getD zeroT) = true := by rw [hR3]; exact ppR_ok ta wq (Tr.mk 2 0 ⟨#[]⟩ [] [])
          rw [← hR3] at hw20
          obtain ⟨e3, E3, rfl, C20, hE3, hEb3⟩ := hw20
          obtain ⟨A3e3, c3e3, A4e3, c4e3, hxe3⟩ := rep_x hE3.rep
          subst hxe3
          have F32 := F31.new C20 (sep E3 (R3.getD zeroT) (x5 (R3.getD zeroT).kind (R3.getD zeroT).num (R3.getD zeroT).str (.slice A3e3 (R3.getD zeroT).keys.length c3e3) (.slice A4e3 (R3.getD zeroT).list.length c4e3)).val) hE3 hEb3
          refine ⟨_, rfl, ?_⟩
          refine Ops.step (One.val rfl rfl rfl (yld_move rfl (ev_t rfl)) ?_)
          refine Ops.step (One.val rfl rfl rfl (yld_extract rfl (ev_t rfl) rfl) ?_)
          refine Ops.step (One.val rfl rfl rfl (yld_extract rfl (ev_t rfl) rfl) ?_)
          refine Ops.step (One.alloc F32 zero31 rfl rfl rfl rfl ?_)
          intro b6 w21 hb6 F33
          change Fr _ _ [blk _ _ [_, _, _, _, _], _, blk _ _ [_, _, _, _, _], _, blk _ _ [_, _, _, _, _], _, blk _ _ [_, _, _, _, _], _, blk _ _ [_, _, _, _, _], _, blk _ _ [_, _, _, _, _], _] _ at F33
          refine Ops.step (One.storeN (vs := [_, _, _, _, _]) F33 0 rfl sz31 rfl rfl rfl (ev_t rfl) (ev_t rfl) rfl rfl (Sep.one (x := (x5 (R3.getD zeroT).kind (R3.getD zeroT).num (R3.getD zeroT).str (.slice A3e3 (R3.getD zeroT).keys.length c3e3) (.slice A4e3 (R3.getD zeroT).list.length c4e3))) (F33.get 1 rfl)) ?_)
          intro w22 F34
          change Fr _ _ [blk _ _ [_, _, _, _, _], _, blk _ _ [_, _, _, _, _], _, blk _ _ [_, _, _, _, _], _, blk _ _ [_, _, _, _, _], _, blk _ _ [_, _, _, _, _], _, blk _ _ [_, _, _, _, _], _] _ at F34
          refine Ops.step (One.val rfl rfl rfl (yld_assign rfl (ev_t rfl)) ?_)
          refine Ops.nil fun a hS => ?_
          refine hK26 _ _ ?_ a hS
          refine Cod.seq fun K27 hK27 => ?_
          refine Cod.region ?_
          refine Ops.step (One.val rfl rfl rfl (yld_loadN ag31 rfl (ev_t rfl) (fun _ => F34.range (m := 5) (cs' := [_, _, _, _, _]) 0 rfl rfl) rfl) ?_)
          refine Ops.step (One.val rfl rfl rfl (yld_move rfl (ev_t rfl)) ?_)
          refine Ops.step (One.val rfl rfl rfl (yld_loadN ag31 rfl (ev_t rfl) (fun _ => F34.range (m := 5) (cs' := [_, _, _, _, _]) 8 rfl rfl) rfl) ?_)
          refine Ops.step (One.call rfl rfl rfl (ent_f rfl (evl3 (ev_t rfl) (ev_t rfl) (ev_t rfl)) (enters en46)) (PathPut_ct (R3.getD zeroT) wp tc hsp _ _ _ _ (F34.get 1 rfl).rep ((tw_p (F34.get 7 rfl)).weak fun _ _ => trivial) (rps_get (F34.get 9 rfl) 0 rfl) (okT_fit hO3) hdc.fit) (fun e w23 hw23 => ?_))
          obtain ⟨R4, hR4⟩ : ∃ R, R = ppR (R3.getD zeroT) wp tc := ⟨_, rfl⟩
          have hO4 : okT (R4.getD zeroT) = true := by rw [hR4]; exact ppR_ok (R3.getD zeroT) wp tc
          rw [← hR4] at hw23
          obtain ⟨e4, E4, rfl, C23, hE4, hEb4⟩ := hw23
          obtain ⟨A3e4, c3e4, A4e4, c4e4, hxe4⟩ := rep_x hE4.rep
          subst hxe4
          have F35 := F34.new C23 (sep E4 (R4.getD zeroT) (x5 (R4.getD zeroT).kind (R4.getD zeroT).num (R4.getD zeroT).str (.slice A3e4 (R4.getD zeroT).keys.length c3e4) (.slice A4e4 (R4.getD zeroT).list.length c4e4)).val) hE4 hEb4
          refine ⟨_, rfl, ?_⟩
          refine Ops.step (One.val rfl rfl rfl (yld_move rfl (ev_t rfl)) ?_)
          refine Ops.step (One.val rfl rfl rfl (yld_extract rfl (ev_t rfl) rfl) ?_)
          refine Ops.step (One.val rfl rfl rfl (yld_extract rfl (ev_t rfl) rfl) ?_)
          refine Ops.step (One.alloc F35 zero31 rfl rfl rfl rfl ?_)
          intro b7 w24 hb7 F36
          change Fr _ _ [blk _ _ [_, _, _, _, _], _, blk _ _ [_, _, _, _, _], _, blk _ _ [_, _, _, _, _], _, blk _ _ [_, _, _, _, _], _, blk _ _ [_, _, _, _, _], _, blk _ _ [_, _, _, _, _], _, blk _ _ [_, _, _, _, _], _] _ at F36
          refine Ops.step (One.storeN (vs := [_, _, _, _, _]) F36 0 rfl sz31 rfl rfl rfl (ev_t rfl) (ev_t rfl) rfl rfl (Sep.one (x := (x5 (R4.getD zeroT).kind (R4.getD zeroT).num (R4.getD zeroT).str (.slice A3e4 (R4.getD zeroT).keys.length c3e4) (.slice A4e4 (R4.getD zeroT).list.length c4e4))) (F36.get 1 rfl)) ?_)
          intro w25 F37
          change Fr _ _ [blk _ _ [_, _, _, _, _], _, blk _ _ [_, _, _, _, _], _, blk _ _ [_, _, _, _, _], _, blk _ _ [_, _, _, _, _], _, blk _ _ [_, _, _, _, _], _, blk _ _ [_, _, _, _, _], _, blk _ _ [_, _, _, _, _], _] _ at F37
          refine Ops.step (One.val rfl rfl rfl (yld_assign rfl (ev_t rfl)) ?_)
          refine Ops.nil fun a hS => ?_
          refine hK27 _ _ ?_ a hS
          refine Cod.seq fun K28 hK28 => ?_
          refine Cod.region ?_
          refine Ops.step (One.val rfl rfl rfl (yld_loadN ag31 rfl (ev_t rfl) (fun _ => F37.range (m := 5) (cs' := [_, _, _, _, _]) 4 rfl rfl) rfl) ?_)
          refine Ops.step (One.val rfl rfl rfl (yld_move rfl (ev_t rfl)) ?_)
          refine Ops.step (One.call rfl rfl rfl (ent_f rfl (evl2 (ev_t rfl) (ev_t rfl)) (enters en25)) (pathGet_ct (R2.getD zeroT) wp hsp _ _ _ (F37.get 5 rfl).rep ((tw_p (F37.get 9 rfl)).weak fun _ _ => trivial) (okT_fit hO2) (okT_w hO2)) (fun e w26 hw26 => ?_))
          obtain ⟨R5, hR5⟩ : ∃ R, R = pathR (R2.getD zeroT) wp := ⟨_, rfl⟩
          have hO5 : okT (R5.getD zeroT) = true := by rw [hR5]; exact pathR_ok (R2.getD zeroT) wp
          rw [← hR5] at hw26
          obtain ⟨e5, E5, rfl, C26, hE5, hEb5⟩ := hw26
          obtain ⟨A3e5, c3e5, A4e5, c4e5, hxe5⟩ := rep_x hE5.rep
          subst hxe5
          have F38 := F37.new C26 (sep E5 (R5.getD zeroT) (x5 (R5.getD zeroT).kind (R5.getD zeroT).num (R5.getD zeroT).str (.slice A3e5 (R5.getD zeroT).keys.length c3e5) (.slice A4e5 (R5.getD zeroT).list.length c4e5)).val) hE5 hEb5
          refine ⟨_, rfl, ?_⟩
          refine Ops.step (One.val rfl rfl rfl (yld_move rfl (ev_t rfl)) ?_)
          refine Ops.step (One.val rfl rfl rfl (yld_extract rfl (ev_t rfl) rfl) ?_)
          refine Ops.step (One.val rfl rfl rfl (yld_extract rfl (ev_t rfl) rfl) ?_)
          refine Ops.step (One.alloc F38 zero31 rfl rfl rfl rfl ?_)
          intro b8 w27 hb8 F39
          change Fr _ _ [blk _ _ [_, _, _, _, _], _, blk _ _ [_, _, _, _, _], _, blk _ _ [_, _, _, _, _], _, blk _ _ [_, _, _, _, _], _, blk _ _ [_, _, _, _, _], _, blk _ _ [_, _, _, _, _], _, blk _ _ [_, _, _, _, _], _, blk _ _ [_, _, _, _, _], _] _ at F39
          refine Ops.step (One.storeN (vs := [_, _, _, _, _]) F39 0 rfl sz31 rfl rfl rfl (ev_t rfl) (ev_t rfl) rfl rfl (Sep.one (x := (x5 (R5.getD zeroT).kind (R5.getD zeroT).num (R5.getD zeroT).str (.slice A3e5 (R5.getD zeroT).keys.length c3e5) (.slice A4e5 (R5.getD zeroT).list.length c4e5))) (F39.get 1 rfl)) ?_)
          intro w28 F40
          change Fr _ _ [blk _ _ [_, _, _, _, _], _, blk _ _ [_, _, _, _, _], _, blk _ _ [_, _, _, _, _], _, blk _ _ [_, _, _, _, _], _, blk _ _ [_, _, _, _, _], _, blk _ _ [_, _, _, _, _], _, blk _ _ [_, _, _, _, _], _, blk _ _ [_, _, _, _, _], _] _ at F40
          refine Ops.step (One.val rfl rfl rfl (yld_assign rfl (ev_t rfl)) ?_)
          refine Ops.nil fun a hS => ?_
          refine hK28 _ _ ?_ a hS
          refine Cod.seq fun K29 hK29 => ?_
          refine Cod.region ?_
          refine Ops.step (One.val rfl rfl rfl (yld_move rfl (ev_t rfl)) ?_)
          refine Ops.step (One.val rfl rfl rfl (yld_not rfl (ev_t rfl)) ?_)
          refine Ops.step (One.val rfl rfl rfl (yld_move rfl (ev_t rfl)) ?_)
          refine Ops.step (One.val (gd_some rfl rfl) rfl rfl (yld_move rfl (ev_t rfl)) ?_)
          refine Ops.step (One.val (gd_some rfl rfl) rfl rfl (yld_not rfl (ev_g rfl)) ?_)
          refine Ops.step (One.val rfl rfl rfl (yld_or rfl (ev_t rfl) (ev_g rfl)) ?_)
          refine Ops.step (One.val rfl rfl rfl (yld_move rfl (ev_t rfl)) ?_)
          refine Ops.step (One.val (gd_some rfl rfl) rfl rfl (yld_move rfl (ev_t rfl)) ?_)
          refine Ops.step (One.val (gd_some rfl rfl) rfl rfl (yld_not rfl (ev_g rfl)) ?_)
          refine Ops.step (One.val rfl rfl rfl (yld_or rfl (ev_t rfl) (ev_g rfl)) ?_)
          refine Ops.step (One.val rfl rfl rfl (yld_move rfl (ev_t rfl)) ?_)
          refine Ops.step (One.val (gd_some rfl rfl) rfl rfl (yld_move rfl (ev_t rfl)) ?_)
          refine Ops.step (One.val (gd_some rfl rfl) rfl rfl (yld_not rfl (ev_g rfl)) ?_)
          refine Ops.step (One.val rfl rfl rfl (yld_or rfl (ev_t rfl) (ev_g rfl)) ?_)
          refine Ops.step (One.val rfl rfl rfl (yld_move rfl (ev_t rfl)) ?_)
          refine Ops.step (One.val (gd_some rfl rfl) rfl rfl (yld_loadN ag31 rfl (ev_t rfl) (fun _ => F40.range (m := 5) (cs' := [_, _, _, _, _]) 6 rfl rfl) rfl) ?_)
          refine Ops.step (One.val (gd_some rfl rfl) rfl rfl (yld_loadN ag31 rfl (ev_t rfl) (fun _ => F40.range (m := 5) (cs' := [_, _, _, _, _]) 2 rfl rfl) rfl) ?_)
          refine Ops.step (One.gcall (R := Chg No w28) (gd_some rfl rfl) rfl rfl (ent_f rfl (evl2 (ev_g rfl) (ev_g rfl)) (enters en27)) (Chg.refl _ _) (fun hg => valSame_ct (R2.getD zeroT) (R4.getD zeroT) _ _ _ (F40.get 7 rfl).rep (F40.get 3 rfl).rep) ?_)
          intro w29 C29
          have F41 := F40.call C29
          refine Ops.step (One.val (gd_some rfl rfl) rfl rfl (yld_move rfl (ev_g rfl)) ?_)
          refine Ops.step (One.val (gd_some rfl rfl) rfl rfl (yld_loadN ag31 rfl (ev_t rfl) (fun _ => F41.range (m := 5) (cs' := [_, _, _, _, _]) 0 rfl rfl) rfl) ?_)
          refine Ops.step (One.val (gd_some rfl rfl) rfl rfl (yld_loadN ag31 rfl (ev_t rfl) (fun _ => F41.range (m := 5) (cs' := [_, _, _, _, _]) 12 rfl rfl) rfl) ?_)
          refine Ops.step (One.gcall (R := Chg No w29) (gd_some rfl rfl) rfl rfl (ent_f rfl (evl2 (ev_g rfl) (ev_g rfl)) (enters en27)) (Chg.refl _ _) (fun hg => valSame_ct (R5.getD zeroT) tc _ _ _ (F41.get 1 rfl).rep (rps_get (F41.get 13 rfl) 0 rfl)) ?_)
          intro w30 C30
          have F42 := F41.call C30
          refine Ops.step (One.val (gd_some rfl rfl) rfl rfl (yld_and rfl (ev_g rfl) (ev_g rfl)) ?_)
          refine Ops.step (One.val rfl rfl rfl (yld_or rfl (ev_t rfl) (ev_g rfl)) ?_)
          refine Ops.step (One.val rfl rfl rfl (yld_assign rfl (ev_t rfl)) ?_)
          refine Ops.nil fun a hS => ?_
          refine hK29 _ _ ?_ a hS
          refine Cod.ret fun a hS => ?_
          try simp only [Exit.then, Exit.inBlock]
          exact ret1 (t := 4) rfl hS rfl ⟨ret_b (fin9 fun q1 q2 q3 q4 => fin_two hmp hmq hapt hR1 hR2 hR3 hR4 hR5 q1 q2 q3 q4), F42.chg⟩


theorem ownKnob_none : ownKnob Try.prog.godebug = none := by kernel_rfl
theorem params_ok : ∀ t ∈ Try.f9.params.toList, Try.prog.readableRec t = true ∧ t < Try.prog.types.size := by
  rw [Try.params9]
  intro t ht
  simp only [List.mem_cons, List.not_mem_nil, or_false] at ht
  rcases ht with rfl | rfl <;> exact ⟨by kernel_rfl, of_decide_eq_true (by kernel_rfl)⟩
set_option maxRecDepth 100000 in
theorem lifted (os : Os) (started : os.Started) (H : Type) (enc : TypeId × Value → H) :
    ReturnsInHanded {} Try.checked os 9 .any (Rows.fnPathTwoSpec.pre6 enc Try.prog Try.f9 Rows.fnPathTwoRow.domain false) (Rows.fnPathTwoSpec.post enc Try.prog Try.f9 false true false false) := by
  refine returnsInHanded_of_change (C := Try.checked) ownKnob_none started (by kernel_rfl) Try.func9
    (ChangeSpec.witness6 (enc := enc) (C := Try.checked) false ⟨#[], #[.slice none 0 0, .slice none 0 0], []⟩ 8 (by kernel_rfl) (by kernel_rfl) (by kernel_rfl) (by kernel_rfl)) ?_
  intro W base args ds gs before hval0 hW hcnd _
  have hval : ∀ (j : Nat) t v, Try.f9.params[j]? = some t → args[j]? = some v → Value.okWide Try.prog W .any base t v := hval0
  have hW' := hW
  obtain ⟨p, q, hA0, hV, rfl, hfz, hnd⟩ := hW
  have hA : DataW.TrodAll enc Try.prog W 0 (fun _ => true) true Try.f9.params.toList args.toList ds p := hA0
  rw [Try.params9] at hA hval
  obtain ⟨v0, v1, d0, d1, p0, p1, rfl, rfl, rfl, h0, h1⟩ := trodAll_two hA
  obtain ⟨rfl, rfl⟩ := trodVars_none hV
  obtain ⟨code, hp⟩ := open_bytes (hval 0 _ v0 rfl rfl) h0
  obtain ⟨more, hq⟩ := open_bytes (hval 1 _ v1 rfl rfl) h1
  refine (walk code more v0 v1 W hp hq).mono fun e W' ⟨he, hc⟩ => ?_
  subst he
  exact ⟨_, rfl, post_chg laidOut rfl params_ok hW' (fun _ _ _ => (trodAll_cons_mk (shut_bool Try.underlying4 _) trodAll_mk0)) rfl rfl hc (ok_one (by kernel_rfl) rfl (okWide_bool_mk Try.underlying4 _))⟩

theorem over : Rows.fnPathTwoRow.holds Try.pinned (OpenSpec.ofChange Rows.fnPathTwoSpec) :=
  OpenClaim.holds_of_wide 9 Try.f9 rfl rfl rfl rfl rfl rfl rfl ⟨rfl, rfl, rfl, rfl, rfl⟩ rfl rfl rfl rfl rfl (by kernel_rfl) Try.func9 (by kernel_rfl)
    (of_decide_eq_true (by kernel_rfl)) (by unfold Func.isWrapper; first | (rw [if_pos (by decide +kernel)]; kernel_rfl) | (rw [if_neg (by decide +kernel)]; exact ⟨rfl, rfl⟩))
    (fun os started H enc _ => lifted os started H enc)

/-- The statement. -/
theorem proved : Rows.FnPathTwoSaid := over
#print axioms proved

end GPathTwo
end Go.Proofs.Ytodbflfelimppaa.Eng
