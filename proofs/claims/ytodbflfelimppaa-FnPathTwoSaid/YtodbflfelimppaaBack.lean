/- Walks of both RowBack: a row, turned about. -/
import Derived.Test.YtodbflfelimppaaCom
import Derived.Test.YtodbflfelimppaaNil
namespace Go.Proofs.Ytodbflfelimppaa.Eng
open Go.RowKit
set_option linter.unusedVariables false
set_option linter.unusedSimpArgs false
set_option maxHeartbeats 1000000


noncomputable def backR (t : Tr) : Option Tr := if rowT t = true then toldR true (.mk 5 0 ⟨#[]⟩ [] t.list.reverse) else none
theorem sumN_reverse {α : Type} (f : α → Nat) : ∀ p : List α, sumN f p.reverse = sumN f p
  | [] => rfl
  | x :: p => by rw [List.reverse_cons, sumN_append, sumN_reverse f p, sumN_cons, sumN_cons]; simp [sumN]; omega
theorem backR_mkn (t : Tr) : ((backR t).getD zeroT).keys.length + sumN Tr.mkn ((backR t).getD zeroT).list ≤ 3 * t.wt + 3 := by
  unfold backR
  split
  · have h1 := told_mkn (.mk 5 0 ⟨#[]⟩ [] t.list.reverse)
    have h3 := t.wt_list
    rw [row_wt, List.length_reverse, sumN_reverse] at h1
    omega
  · show 0 + 0 ≤ _
    omega
def subN (k : Int) : Nat → Int
  | 0 => k
  | n + 1 => k - ((n + 1 : Nat) : Int)
theorem subN_eq (k : Int) (n : Nat) : subN k n = k - (n : Int) := by
  cases n with
  | zero => simp [subN]
  | succ n => rfl
/-- The first i and the last i are changed about. -/
def Turned (xs ys : List V5) (i : Nat) : Prop := ys.length = xs.length ∧ ∀ k, k < xs.length → ys[k]? = if k < i ∨ xs.length ≤ k + i then xs[xs.length - 1 - k]? else xs[k]?
theorem Turned.zero (xs : List V5) : Turned xs xs 0 := ⟨rfl, fun k hk => by rw [if_neg (by omega)]⟩
theorem Turned.end {xs ys : List V5} {i : Nat} (h : Turned xs ys i) (hi : xs.length ≤ 2 * i + 1) : ys = xs.reverse := by
  apply List.ext_getElem?
  intro k
  by_cases hk : k < xs.length
  · rw [h.2 k hk, List.getElem?_reverse hk]
    split
    · rfl
    · rw [show xs.length - 1 - k = k by omega]
  · rw [List.getElem?_eq_none (by rw [h.1]; omega), List.getElem?_eq_none (by simp; omega)]
theorem Turned.next {xs ys : List V5} {i : Nat} {x y : V5} (h : Turned xs ys i) (hi : 2 * i + 1 < xs.length) (hx : ys[i]? = some x) (hy : ys[xs.length - 1 - i]? = some y) : Turned xs ((ys.set i y).set (xs.length - 1 - i) x) (i + 1) := by
  have h1 := h.2 i (by omega)
  rw [if_neg (by omega), hx] at h1
  have h2 := h.2 (xs.length - 1 - i) (by omega)
  rw [if_neg (by omega), hy] at h2
  refine ⟨by simp [h.1], fun k hk => ?_⟩
  have hl := h.1
  rw [List.getElem?_set, List.getElem?_set]
  by_cases e1 : xs.length - 1 - i = k
  · rw [if_pos e1, if_pos (by simp; omega), if_pos (by omega), show xs.length - 1 - k = i by omega, ← h1]
  · rw [if_neg e1]
    by_cases e2 : i = k
    · subst e2
      rw [if_pos rfl, if_pos (by omega), if_pos (by omega), ← h2]
    · rw [if_neg e2, h.2 k hk]
      by_cases e3 : k < i ∨ xs.length ≤ k + i
      · rw [if_pos e3, if_pos (by omega)]
      · rw [if_neg e3, if_neg (by omega)]
theorem own_at {α : Type} {enc : α → List Value} {sz : Nat} (he : ∀ x, (enc x).length = sz) {w : World} {e b len cap n : Nat} {xs : List α} (h : (own e sz (.slice (some ⟨b, 0, none⟩) len cap) n (xs.flatMap enc)).is w) (hn : xs.length = n) (i : Nat) {x : α} (hx : xs[i]? = some x) : w.rangeAt b (0 + i * sz) (enc x) := by
  subst hn
  obtain ⟨hi, rfl⟩ := List.getElem?_eq_some_iff.1 hx
  rw [Nat.zero_add]
  exact own_range he h i hi
theorem AL.reverse {w : World} {rs : List Tr} {xs : List V5} (h : AL w rs xs) : AL w rs.reverse xs.reverse := by
  refine ⟨by simp [h.1], fun j h1 h2 => ?_⟩
  have hl := h.1
  simp only [List.getElem_reverse, hl]
  exact h.2 _ _ _

set_option maxRecDepth 100000 in
theorem cloneS_ct (l : List Tr) (v : Value) (w0 w : World) (hp : RepL Any w0 l v) (hc0 : Chg No w0 w) (hn : l.length ≤ 1048576) : Calls Try.prog 86 #[v] w fun e w' => ∃ v' ys, e = .returned v' ∧ Chg No w w' ∧ (own 31 5 v' ys.length (ys.flatMap enc5)).is w' ∧ AL w0 l ys ∧ ∀ k, v'.ownBlock = some k → w.heap.size ≤ k := by
  obtain ⟨ys, hre, hal⟩ := hp.v5
  have hyl := hal.1
  obtain ⟨A, c, rfl, hnn⟩ := hre.open
  refine enter Try.func86 rfl rfl rfl ?_
  have F0 := Fr.start w
  refine Cod.seq fun K1 hK1 => ?_
  refine Cod.region ?_
  refine Ops.step (One.val rfl rfl rfl (yld_assign rfl ev_c) ?_)
  refine Ops.nil fun a hS => ?_
  refine hK1 _ _ ?_ a hS
  refine Cod.seq fun K2 hK2 => ?_
  refine Cod.seq fun K3 hK3 => ?_
  refine Cod.region ?_
  refine Ops.step (One.val rfl rfl rfl (yld_move rfl (ev_t rfl)) ?_)
  refine Ops.step (One.val rfl rfl rfl (yld_nileq sl29 rfl (ev_t rfl)) ?_)
  refine Ops.nil fun a hS => ?_
  refine hK3 _ _ ?_ a hS
  refine Cod.cond rfl (fun hc4 => ?_) (fun hc4 => ?_)
  · skip
    have hA : A = none := by cases A <;> simp at hc4 ⊢
    have hys : ys = [] := by
      subst hA
      obtain ⟨A2, c2, e2, -, -, h2⟩ := hre
      by_cases hne : ys = []
      · exact hne
      · obtain ⟨b, o, e3, -⟩ := h2 hne
        subst e3
        simp at e2
    refine Cod.seq fun K4 hK4 => ?_
    refine Cod.region ?_
    refine Ops.step (One.val rfl rfl rfl (yld_assign rfl ev_c) ?_)
    refine Ops.nil fun a hS => ?_
    refine hK4 _ _ ?_ a hS
    refine Cod.ret fun a hS => ?_
    try simp only [Exit.then, Exit.inBlock]
    exact ret1 (t := 2) rfl hS rfl ⟨.slice none 0 0, ys, rfl, F0.chg, by rw [hys]; exact World.ownsRow_nil _ 0 31 5, hal, fun k hk => by simp [Value.ownBlock] at hk⟩
  · skip
    refine Cod.skip fun a hS => ?_
    refine hK2 _ _ ?_ a hS
    refine Cod.seq fun K5 hK5 => ?_
    refine Cod.region ?_
    refine Ops.step (One.buildNil enc5 F0 sl29 rfl rfl rfl rfl ?_)
    intro b1 w1 hb1 F1
    refine Ops.step (One.val rfl rfl rfl (yld_move rfl (ev_t rfl)) ?_)
    refine Ops.step (One.append (enc := enc5) ys F1 0 rfl sl29 zero31 rfl rfl (fun _ => rfl) rfl rfl rfl rfl (ev_t rfl) (ev_t rfl) (hre.chg (hc0.trans F1.chg)) hal.cells (by simp; omega) (by simp; omega) ?_)
    intro u2 w2 hu2 F2
    change Fr _ _ [_] _ at F2
    refine Ops.step (One.val rfl rfl rfl (yld_assign rfl (ev_t rfl)) ?_)
    refine Ops.nil fun a hS => ?_
    refine hK5 _ _ ?_ a hS
    refine Cod.ret fun a hS => ?_
    try simp only [Exit.then, Exit.inBlock]
    exact ret1 (t := 2) rfl hS rfl ⟨u2, ys, rfl, F2.chg, F2.get 0 rfl, hal, fun b hb => (F2.dom _ (List.mem_cons_self ..) b hb).resolve_left id⟩

set_option maxRecDepth 100000 in
theorem reverse_ct (xs : List V5) (v : Value) (w : World) (h : (own 31 5 v xs.length (xs.flatMap enc5)).is w) (hone : ∀ x ∈ xs, (enc5 x).all (·.oneCell') = true) (hn : xs.length ≤ 1048576) :
    Calls Try.prog 87 #[v] w fun e w' => e = .returned (.tuple #[]) ∧ Chg (fun b => v.ownBlock = some b) w w' ∧ (own 31 5 v xs.reverse.length (xs.reverse.flatMap enc5)).is w' := by
  obtain ⟨A, m0, c0, hv⟩ := own_form h
  have hm0 : m0 = xs.length := own_len h hv
  subst hv
  subst hm0
  refine enter Try.func87 rfl rfl rfl ?_
  have F0 := Fr.lend _ h
  refine Cod.seq fun K1 hK1 => ?_
  refine Cod.region ?_
  refine Ops.step (One.val rfl rfl rfl (yld_move rfl (ev_t rfl)) ?_)
  refine Ops.step (One.val rfl rfl rfl (yld_len sl29 rfl (ev_t rfl)) ?_)
  refine Ops.step (One.val rfl rfl rfl (yld_sub rfl (ev_t rfl) ev_c (fun _ => by omega)) ?_)
  refine Ops.step (One.val rfl rfl rfl (yld_assign rfl ev_c) ?_)
  refine Ops.step (One.val rfl rfl rfl (yld_assign rfl (ev_t rfl)) ?_)
  refine Ops.nil fun a hS => ?_
  refine hK1 _ _ ?_ a hS
  refine Cod.block ?_
  refine Cod.loop (fun i : Nat × List V5 => [(0, true, .slice A xs.length c0), (2, true, .int .i64 (i.1 : Int)), (3, true, .int .i64 (subN ((xs.length : Int) - 1) i.1))]) (fun i w' => Turned xs i.2 i.1 ∧ (∀ x ∈ i.2, (enc5 x).all (·.oneCell') = true) ∧ i.1 ≤ xs.length ∧ Fr (fun b => (Value.slice A xs.length c0).ownBlock = some b) w [own 31 5 (.slice A xs.length c0) xs.length (i.2.flatMap enc5)] w') (fun i => xs.length - i.1) (0, xs) ⟨rfl, rfl, rfl, trivial⟩ ⟨Turned.zero xs, hone, Nat.zero_le _, F0⟩ ?_
  intro i w1 hW K2 hK2
  obtain ⟨i, ys⟩ := i
  obtain ⟨htu, hon, hil, F1⟩ := hW
  dsimp only at *
  simp only [subN_eq]
  have hyl := htu.1
  refine Cod.seq fun K3 hK3 => ?_
  refine Cod.seq fun K4 hK4 => ?_
  refine Cod.region ?_
  refine Ops.step (One.val rfl rfl rfl (yld_move rfl (ev_t rfl)) ?_)
  refine Ops.step (One.val rfl rfl rfl (yld_move rfl (ev_t rfl)) ?_)
  refine Ops.step (One.val rfl rfl rfl (yld_lss rfl (ev_t rfl) (ev_t rfl)) ?_)
  refine Ops.nil fun a hS => ?_
  refine hK4 _ _ ?_ a hS
  refine Cod.cond rfl (fun hc9 => ?_) (fun hc9 => ?_)
  · skip
    have hij : (i : Int) < (xs.length : Int) - 1 - (i : Int) := by simpa using hc9
    rw [show (xs.length : Int) - 1 - (i : Int) = ((xs.length - 1 - i : Nat) : Int) by omega]
    obtain ⟨bb, cap, hv, -, -⟩ := World.ownsRow.form (F1.get 0 rfl) (by omega)
    obtain ⟨rfl, -⟩ : A = some ⟨bb, 0, none⟩ ∧ c0 = cap := by simpa using hv
    obtain ⟨x, hx⟩ : ∃ x, ys[i]? = some x := ⟨_, List.getElem?_eq_getElem (by omega)⟩
    obtain ⟨y, hy⟩ : ∃ y, ys[xs.length - 1 - i]? = some y := ⟨_, List.getElem?_eq_getElem (by omega)⟩
    have hox := hon x (List.mem_of_getElem? hx)
    have hoy := hon y (List.mem_of_getElem? hy)
    refine Cod.skip fun a hS => ?_
    refine hK3 _ _ ?_ a hS
    refine Cod.seq fun K5 hK5 => ?_
    refine Cod.block ?_
    have F2 := F1.drew
    refine Cod.draw (C_of F2.drop1) (by kernel_rfl) ?_
    refine Hops.take 0 rfl (by kernel_rfl) (fun _ _ _ h => h) rfl rfl rfl F2.drop1 (fun w F => (yld_move rfl (ev_t rfl))) ?_
    refine Hops.take 1 rfl (by kernel_rfl) (fun _ _ _ h => h) rfl rfl rfl F2.drop1 (fun w F => (yld_move rfl (ev_t rfl))) ?_
    refine Hops.take 2 rfl (by kernel_rfl) (fun _ _ _ h => h) rfl rfl rfl F2.drop1 (fun w F => (yld_move rfl (ev_t rfl))) ?_
    refine Hops.take 3 rfl (by kernel_rfl) (fun _ _ _ h => h) rfl rfl rfl F2.drop1 (fun w F => (yld_move rfl (ev_t rfl))) ?_
    refine Hops.take 4 rfl (by kernel_rfl) (fun _ _ _ h => h) rfl rfl rfl F2.drop1 (fun w F => (yld_move rfl (ev_t rfl))) ?_
    refine Hops.take 5 rfl (by kernel_rfl) (fun _ _ _ h => h) rfl rfl rfl F2.drop1 (fun w F => (yld_move rfl (ev_t rfl))) ?_
    refine Hops.take 6 rfl (by kernel_rfl) (fun _ _ _ h => h) rfl rfl rfl F2.drop1 (fun w F => (yld_indexN sl29 rfl (ev_t rfl) (ev_t rfl) (fun _ => by omega))) ?_
    refine Hops.take 8 rfl (by kernel_rfl) (fun _ _ _ h => h) rfl rfl rfl F2.drop1 (fun w F => (yld_move rfl (ev_t rfl))) ?_
    refine Hops.take 9 rfl (by kernel_rfl) (fun _ _ _ h => h) rfl rfl rfl F2.drop1 (fun w F => (yld_move rfl (ev_t rfl))) ?_
    refine Hops.take 10 rfl (by kernel_rfl) (fun _ _ _ h => h) rfl rfl rfl F2.drop1 (fun w F => (yld_indexN sl29 rfl (ev_t rfl) (ev_t rfl) (fun _ => by omega))) ?_
    refine Hops.two 7 11 rfl rfl (by kernel_rfl) ?_ ?_
    · skip
      refine (One.val rfl rfl rfl (yld_loadN (cs := enc5 y) ag31 rfl (ev_t rfl) (fun _ => own_at (enc := enc5) (fun _ => rfl) (F2.get 0 rfl) hyl (xs.length - 1 - i) hy) rfl) ?_)
      refine ⟨F2.drop1, ?_⟩
      refine Hops.one 11 rfl (by kernel_rfl) (One.val rfl rfl rfl (yld_loadN (cs := enc5 x) ag31 rfl (ev_t rfl) (fun _ => own_at (enc := enc5) (fun _ => rfl) (F2.get 0 rfl) hyl i hx) rfl) ?_)
      refine ⟨F2.drop1, ?_⟩
      refine Hops.take 12 rfl (by kernel_rfl) (fun _ _ _ h => h) rfl rfl rfl F2.drop1 (fun w F => (yld_indexN sl29 rfl (ev_t rfl) (ev_t rfl) (fun _ => by omega))) ?_
      refine Hops.one 13 rfl (by kernel_rfl) (One.storeRow (enc := enc5) y (fun _ => rfl) F2 0 rfl hyl (by omega) sz31 rfl rfl rfl rfl (ev_t rfl) (ev_t rfl) hoy ?_)
      intro w2 F3
      refine ⟨F3.drop1, ?_⟩
      change Fr _ _ [_] _ at F3
      refine Hops.take 14 rfl (by kernel_rfl) (fun _ _ _ h => h) rfl rfl rfl F3.drop1 (fun w F => (yld_indexN sl29 rfl (ev_t rfl) (ev_t rfl) (fun _ => by omega))) ?_
      refine Hops.one 15 rfl (by kernel_rfl) (One.storeRow (enc := enc5) x (fun _ => rfl) F3 0 rfl (by rw [List.length_set]; exact hyl) (by omega) sz31 rfl rfl rfl rfl (ev_t rfl) (ev_t rfl) hox ?_)
      intro w3 F4
      refine ⟨F4.drop1, ?_⟩
      change Fr _ _ [_] _ at F4
      refine Hops.nil (by kernel_rfl) fun a hS => ?_
      refine hK5 _ _ ?_ a hS
      refine Cod.region ?_
      refine Ops.step (One.val rfl rfl rfl (yld_move rfl (ev_t rfl)) ?_)
      refine Ops.step (One.val rfl rfl rfl (yld_inc rfl (ev_t rfl) (fun _ => by omega)) ?_)
      refine Ops.step (One.val rfl rfl rfl (yld_move rfl (ev_t rfl)) ?_)
      refine Ops.step (One.val rfl rfl rfl (yld_sub rfl (ev_t rfl) ev_c (fun _ => by omega)) ?_)
      refine Ops.step (One.val rfl rfl rfl (yld_assign rfl (ev_t rfl)) ?_)
      refine Ops.step (One.val rfl rfl rfl (yld_assign rfl (ev_t rfl)) ?_)
      refine Ops.nil fun a hS => ?_
      rw [show ((xs.length - 1 - i : Nat) : Int) - 1 = subN ((xs.length : Int) - 1) (i + 1) by rw [subN_eq]; omega] at hS
      exact hK2 (i + 1, (ys.set i y).set (xs.length - 1 - i) x) _ a (hS.sub ⟨rfl, rfl, rfl, trivial⟩) ⟨htu.next (by omega) hx hy, fun z hz => by
          rcases List.mem_or_eq_of_mem_set hz with hz | rfl
          · rcases List.mem_or_eq_of_mem_set hz with hz | rfl
            · exact hon z hz
            · exact hon _ (List.mem_of_getElem? hy)
          · exact hon _ (List.mem_of_getElem? hx), by omega, F4⟩ (by show xs.length - (i + 1) < xs.length - i; omega)
    · skip
      refine (One.val rfl rfl rfl (yld_loadN (cs := enc5 x) ag31 rfl (ev_t rfl) (fun _ => own_at (enc := enc5) (fun _ => rfl) (F2.get 0 rfl) hyl i hx) rfl) ?_)
      refine ⟨F2.drop1, ?_⟩
      refine Hops.one 7 rfl (by kernel_rfl) (One.val rfl rfl rfl (yld_loadN (cs := enc5 y) ag31 rfl (ev_t rfl) (fun _ => own_at (enc := enc5) (fun _ => rfl) (F2.get 0 rfl) hyl (xs.length - 1 - i) hy) rfl) ?_)
      refine ⟨F2.drop1, ?_⟩
      refine Hops.take 12 rfl (by kernel_rfl) (fun _ _ _ h => h) rfl rfl rfl F2.drop1 (fun w F => (yld_indexN sl29 rfl (ev_t rfl) (ev_t rfl) (fun _ => by omega))) ?_
      refine Hops.one 13 rfl (by kernel_rfl) (One.storeRow (enc := enc5) y (fun _ => rfl) F2 0 rfl hyl (by omega) sz31 rfl rfl rfl rfl (ev_t rfl) (ev_t rfl) hoy ?_)
      intro w4 F5
      refine ⟨F5.drop1, ?_⟩
      change Fr _ _ [_] _ at F5
      refine Hops.take 14 rfl (by kernel_rfl) (fun _ _ _ h => h) rfl rfl rfl F5.drop1 (fun w F => (yld_indexN sl29 rfl (ev_t rfl) (ev_t rfl) (fun _ => by omega))) ?_
      refine Hops.one 15 rfl (by kernel_rfl) (One.storeRow (enc := enc5) x (fun _ => rfl) F5 0 rfl (by rw [List.length_set]; exact hyl) (by omega) sz31 rfl rfl rfl rfl (ev_t rfl) (ev_t rfl) hox ?_)
      intro w5 F6
      refine ⟨F6.drop1, ?_⟩
      change Fr _ _ [_] _ at F6
      refine Hops.nil (by kernel_rfl) fun a hS => ?_
      refine hK5 _ _ ?_ a hS
      refine Cod.region ?_
      refine Ops.step (One.val rfl rfl rfl (yld_move rfl (ev_t rfl)) ?_)
      refine Ops.step (One.val rfl rfl rfl (yld_inc rfl (ev_t rfl) (fun _ => by omega)) ?_)
      refine Ops.step (One.val rfl rfl rfl (yld_move rfl (ev_t rfl)) ?_)
      refine Ops.step (One.val rfl rfl rfl (yld_sub rfl (ev_t rfl) ev_c (fun _ => by omega)) ?_)
      refine Ops.step (One.val rfl rfl rfl (yld_assign rfl (ev_t rfl)) ?_)
      refine Ops.step (One.val rfl rfl rfl (yld_assign rfl (ev_t rfl)) ?_)
      refine Ops.nil fun a hS => ?_
      rw [show ((xs.length - 1 - i : Nat) : Int) - 1 = subN ((xs.length : Int) - 1) (i + 1) by rw [subN_eq]; omega] at hS
      exact hK2 (i + 1, (ys.set i y).set (xs.length - 1 - i) x) _ a (hS.sub ⟨rfl, rfl, rfl, trivial⟩) ⟨htu.next (by omega) hx hy, fun z hz => by
          rcases List.mem_or_eq_of_mem_set hz with hz | rfl
          · rcases List.mem_or_eq_of_mem_set hz with hz | rfl
            · exact hon z hz
            · exact hon _ (List.mem_of_getElem? hy)
          · exact hon _ (List.mem_of_getElem? hx), by omega, F6⟩ (by show xs.length - (i + 1) < xs.length - i; omega)
  · skip
    have hend := htu.end (by simp at hc9; omega)
    refine Cod.exit fun a hS => ?_
    simp only [Exit.then, Exit.inBlock, ↓reduceIte]
    exact ret0 rfl hS ⟨rfl, F1.chg, by rw [List.length_reverse, ← hend]; exact F1.get 0 rfl⟩

set_option maxRecDepth 100000 in
theorem back_ct (t : Tr) (v : Value) (w : World) (hr : Rep Any w t v) (hf : t.Fit) (hw : t.wt ≤ 1048576) : Calls Try.prog 33 #[v] w (Gives w (backR t)) := by
  obtain ⟨v3, v4, ev, h3, h4⟩ := hr.form
  subst ev
  obtain ⟨A4, c4, rfl, hn4⟩ := h4.open
  have hwl := t.wt_list
  have hfit : ∀ x ∈ t.list.reverse, x.Fit := fun x hx => hf.list x (by simpa using hx)
  refine enter Try.func33 rfl rfl rfl ?_
  have F0 := Fr.start w
  refine Cod.seq fun K1 hK1 => ?_
  refine Cod.region ?_
  refine Ops.step (One.box F0 rfl rfl rfl rfl (ev_t rfl) ?_)
  intro b1 w1 hb1 F1
  change Fr _ _ [blk _ _ [_, _, _, _, _]] _ at F1
  refine Ops.step (One.alloc F1 zero31 rfl rfl rfl rfl ?_)
  intro b2 w2 hb2 F2
  change Fr _ _ [blk _ _ [_, _, _, _, _], blk _ _ [_, _, _, _, _]] _ at F2
  refine Ops.step (One.val rfl rfl rfl (yld_assign rfl ev_c) ?_)
  refine Ops.nil fun a hS => ?_
  refine hK1 _ _ ?_ a hS
  refine Cod.seq fun K2 hK2 => ?_
  refine Cod.seq fun K3 hK3 => ?_
  refine Cod.region ?_
  refine Ops.step (One.val rfl rfl rfl (yld_loadN ag31 rfl (ev_t rfl) (fun _ => F2.range (m := 5) (cs' := [_, _, _, _, _]) 1 rfl rfl) rfl) ?_)
  refine Ops.step (One.call rfl rfl rfl (ent_f rfl (evl1 (ev_t rfl)) (enters en81)) (isRow_ct t _ _ (hr.chg F2.chg) hf) (fun e w3 hw3 => ?_))
  obtain ⟨rfl, C3⟩ := hw3
  have F3 := F2.call C3
  refine ⟨_, rfl, ?_⟩
  refine Ops.step (One.val rfl rfl rfl (yld_not rfl (ev_t rfl)) ?_)
  refine Ops.nil fun a hS => ?_
  refine hK3 _ _ ?_ a hS
  refine Cod.cond rfl (fun hc7 => ?_) (fun hc7 => ?_)
  · skip
    have hno : backR t = none := by
      have hc : (!(rowT t)) = true := hc7
      unfold backR
      cases h1 : rowT t <;> simp [h1] at hc ⊢
    refine Cod.seq fun K4 hK4 => ?_
    refine Cod.region ?_
    refine Ops.step (One.val rfl rfl rfl (yld_build (cells := [.int .i64 0, .int .i64 0, .string ⟨#[]⟩, .slice none 0 0, .slice none 0 0]) rfl (evp0) (by kernel_rfl)) ?_)
    refine Ops.step (One.storeN (vs := [_, _, _, _, _]) F3 0 rfl sz31 rfl rfl rfl (ev_t rfl) (ev_t rfl) rfl rfl rfl ?_)
    intro w4 F4
    change Fr _ _ [blk _ _ [_, _, _, _, _], blk _ _ [_, _, _, _, _]] _ at F4
    refine Ops.step (One.val rfl rfl rfl (yld_assign rfl ev_c) ?_)
    refine Ops.nil fun a hS => ?_
    refine hK4 _ _ ?_ a hS
    refine Cod.ret fun a hS => ?_
    try simp only [Exit.then, Exit.inBlock]
    exact retct (t := 2) (u := 3) (ty := 31) rfl hS ag31 rfl rfl (F4.range (m := 5) (cs' := [_, _, _, _, _]) 0 rfl rfl) rfl ⟨z5, No, by rw [hno]; rfl, F4.chg, by rw [hno]; exact sep_leaf _ 0 0 ⟨#[]⟩, fun k hk => hk.elim⟩
  · skip
    have hyes : backR t = toldR true (.mk 5 0 ⟨#[]⟩ [] (t.list.reverse)) := by
      have hc : (!(rowT t)) = false := hc7
      unfold backR
      cases h1 : rowT t <;> simp [h1] at hc ⊢
    refine Cod.skip fun a hS => ?_
    refine hK2 _ _ ?_ a hS
    refine Cod.seq fun K5 hK5 => ?_
    refine Cod.region ?_
    refine Ops.step (One.val rfl rfl rfl (yld_field fi31_4 rfl (ev_t rfl)) ?_)
    refine Ops.step (One.val rfl rfl rfl (yld_load1 on29 rfl (ev_t rfl) (fun _ => F3.cell 1 rfl rfl)) ?_)
    refine Ops.step (One.call rfl rfl rfl (ent_f rfl (evl1 (ev_t rfl)) (enters en86)) (cloneS_ct t.list _ w _ h4 F3.chg (by omega)) (fun e w5 hw5 => ?_))
    obtain ⟨u, ys, rfl, C5, ho, hal, hob⟩ := hw5
    have F5 := F3.new C5 (own _ 5 u ys.length _) ho hob
    refine ⟨_, rfl, ?_⟩
    refine Ops.step (One.val rfl rfl rfl (yld_assign rfl (ev_t rfl)) ?_)
    refine Ops.nil fun a hS => ?_
    refine hK5 _ _ ?_ a hS
    refine Cod.seq fun K6 hK6 => ?_
    refine Cod.region ?_
    refine Ops.step (One.val rfl rfl rfl (yld_move rfl (ev_t rfl)) ?_)
    refine Ops.step (One.call rfl rfl rfl (ent_f rfl (evl1 (ev_t rfl)) (enters en87)) (reverse_ct ys u _ (F5.get 0 rfl) hal.cells (by have := hal.1; omega)) (fun e w6 hw6 => ?_))
    obtain ⟨rfl, C6, ho2⟩ := hw6
    have F6 := F5.upd 0 rfl C6 (fun _ hk => .inl hk) (own _ 5 u ys.reverse.length _) ho2 (fun _ hk => .inl hk)
    change Fr _ _ [_, _, _] _ at F6
    refine ⟨_, rfl, ?_⟩
    refine Ops.nil fun a hS => ?_
    refine hK6 _ _ ?_ a hS
    refine Cod.seq fun K7 hK7 => ?_
    refine Cod.region ?_
    refine Ops.step (One.val rfl rfl rfl (yld_move rfl (ev_t rfl)) ?_)
    refine Ops.step (One.call rfl rfl rfl (ent_f rfl (evl1 (ev_t rfl)) (enters en88)) (row_ct u _ (own_form (F6.get 0 rfl))) (fun e w7 hw7 => ?_))
    obtain ⟨rfl, C7⟩ := hw7
    have F7 := F6.call C7
    refine ⟨_, rfl, ?_⟩
    refine Ops.step (One.call rfl rfl rfl (ent_f rfl (evl2 (ev_t rfl) ev_c) (enters en70)) (told_ct (.mk 5 0 ⟨#[]⟩ [] t.list.reverse) true _ _ (Rep.close (RepE.nil _ _) ((hal.reverse.chg F7.chg).repL (F7.get 0 rfl))) (.mk (Nat.zero_le _) (by simp) hfit) (by rw [row_wt, List.length_reverse, sumN_reverse]; omega)) (fun e w8 hw8 => ?_))
    obtain ⟨x1, G1, rfl, C8, hs1, hb1⟩ := hw8
    have F8 := F7.new C8 (sep G1 _ x1.val) hs1 hb1
    refine ⟨_, rfl, ?_⟩
    refine Ops.step (One.val rfl rfl rfl (yld_extract rfl (ev_t rfl) rfl) ?_)
    refine Ops.step (One.val rfl rfl rfl (yld_extract rfl (ev_t rfl) rfl) ?_)
    refine Ops.step (One.storeN (vs := [_, _, _, _, _]) F8 2 rfl sz31 rfl rfl rfl (ev_t rfl) (ev_t rfl) rfl rfl hs1.one ?_)
    intro w9 F9
    change Fr _ _ [_, _, blk _ _ [_, _, _, _, _], blk _ _ [_, _, _, _, _]] _ at F9
    refine Ops.step (One.val rfl rfl rfl (yld_assign rfl (ev_t rfl)) ?_)
    refine Ops.nil fun a hS => ?_
    refine hK7 _ _ ?_ a hS
    refine Cod.ret fun a hS => ?_
    try simp only [Exit.then, Exit.inBlock]
    exact retct (t := 2) (u := 3) (ty := 31) rfl hS ag31 rfl rfl (F9.range (m := 5) (cs' := [_, _, _, _, _]) 2 rfl rfl) rfl ⟨x1, G1, by rw [hyes]; rfl, F9.chg, by rw [hyes]; exact F9.get 0 rfl, fun b hb => (F9.dom _ (List.mem_of_getElem? (i := 0) rfl) b hb).resolve_left id⟩

end Go.Proofs.Ytodbflfelimppaa.Eng
