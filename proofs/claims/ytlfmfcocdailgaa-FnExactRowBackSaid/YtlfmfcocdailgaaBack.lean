/- Walks of both RowBack: a row, turned about. -/
import Derived.Test.YtlfmfcocdailgaaTold
import Derived.Test.YtlfmfcocdailgaaAli
import Derived.Test.YtlfmfcocdailgaaNil
namespace Go.Proofs.Ytlfmfcocdailgaa.Eng
open Go.RowKit
set_option linter.unusedVariables false
set_option linter.unusedSimpArgs false


theorem RepE.nil {α : Type} {enc : α → List Value} {sz : Nat} (F : Nat → Prop) (w : World) : RepE enc sz F w [] (.slice none 0 0) := ⟨none, 0, rfl, Nat.le_refl _, by omega, fun h => absurd rfl h⟩
theorem Tr.Fit.list {t : Tr} (h : t.Fit) : ∀ x ∈ t.list, x.Fit := by
  cases h with
  | mk hs hks hl => exact hl
theorem sumN_append {α : Type} (f : α → Nat) : ∀ p q : List α, sumN f (p ++ q) = sumN f p + sumN f q
  | [], q => by simp [sumN]
  | x :: p, q => by rw [List.cons_append, sumN_cons, sumN_cons, sumN_append f p q]; omega
theorem row_wt (l : List Tr) : (Tr.mk 5 0 ⟨#[]⟩ [] l).wt = l.length + sumN Tr.wt l := by
  rw [Tr.wt_mk]
  show 0 + (0 + 0) + _ = _
  omega
theorem told_mkn (T : Tr) : ((toldR true T).getD zeroT).keys.length + sumN Tr.mkn ((toldR true T).getD zeroT).list ≤ 3 * T.wt + 3 := by
  have := T.mkn_list
  unfold toldR
  split
  · exact this
  · show 0 + 0 ≤ _
    omega

noncomputable def backR (t : Tr) : Option Tr := if rowT t = true then toldR true (.mk 5 0 ⟨#[]⟩ [] t.list.reverse) else none
theorem sumN_reverse {α : Type} (f : α → Nat) : ∀ p : List α, sumN f p.reverse = sumN f p
  | [] => rfl
  | x :: p => by rw [List.reverse_cons, sumN_append, sumN_reverse f p, sumN_cons, sumN_cons]; simp [sumN]; omega
theorem backR_mkn (t : Tr) : ((backR t).getD zeroT).keys.length + sumN Tr.mkn ((backR t).getD zeroT).list ≤ 3 * t.wt + 3 := by
  unfold backR
  split
  · have h1 := told_mkn (.mk 5 0 ⟨#[]⟩ [] t.list.reverse)
    have h3 := t.wt_list
    rw [row_wt, List.length_reverse, sumN_reverse] at h1
    omega
  · show 0 + 0 ≤ _
    omega
def subN (k : Int) : Nat → Int
  | 0 => k
  | n + 1 => k - ((n + 1 : Nat) : Int)
theorem subN_eq (k : Int) (n : Nat) : subN k n = k - (n : Int) := by
  cases n with
  | zero => simp [subN]
  | succ n => rfl
/-- The first i and the last i are changed about. -/
def Turned (xs ys : List V5) (i : Nat) : Prop := ys.length = xs.length ∧ ∀ k, k < xs.length → ys[k]? = if k < i ∨ xs.length ≤ k + i then xs[xs.length - 1 - k]? else xs[k]?
theorem Turned.zero (xs : List V5) : Turned xs xs 0 := ⟨rfl, fun k hk => by rw [if_neg (by omega)]⟩
theorem Turned.end {xs ys : List V5} {i : Nat} (h : Turned xs ys i) (hi : xs.length ≤ 2 * i + 1) : ys = xs.reverse := by
  apply List.ext_getElem?
  intro k
  by_cases hk : k < xs.length
  · rw [h.2 k hk, List.getElem?_reverse hk]
    split
    · rfl
    · rw [show xs.length - 1 - k = k by omega]
  · rw [List.getElem?_eq_none (by rw [h.1]; omega), List.getElem?_eq_none (by simp; omega)]
theorem Turned.next {xs ys : List V5} {i : Nat} {x y : V5} (h : Turned xs ys i) (hi : 2 * i + 1 < xs.length) (hx : ys[i]? = some x) (hy : ys[xs.length - 1 - i]? = some y) : Turned xs ((ys.set i y).set (xs.length - 1 - i) x) (i + 1) := by
  have h1 := h.2 i (by omega)
  rw [if_neg (by omega), hx] at h1
  have h2 := h.2 (xs.length - 1 - i) (by omega)
  rw [if_neg (by omega), hy] at h2
  refine ⟨by simp [h.1], fun k hk => ?_⟩
  have hl := h.1
  rw [List.getElem?_set, List.getElem?_set]
  by_cases e1 : xs.length - 1 - i = k
  · rw [if_pos e1, if_pos (by simp; omega), if_pos (by omega), show xs.length - 1 - k = i by omega, ← h1]
  · rw [if_neg e1]
    by_cases e2 : i = k
    · subst e2
      rw [if_pos rfl, if_pos (by omega), if_pos (by omega), ← h2]
    · rw [if_neg e2, h.2 k hk]
      by_cases e3 : k < i ∨ xs.length ≤ k + i
      · rw [if_pos e3, if_pos (by omega)]
      · rw [if_neg e3, if_neg (by omega)]
theorem own_at {α : Type} {enc : α → List Value} {sz : Nat} (he : ∀ x, (enc x).length = sz) {w : World} {e b len cap n : Nat} {xs : List α} (h : (own e sz (.slice (some ⟨b, 0, none⟩) len cap) n (xs.flatMap enc)).is w) (hn : xs.length = n) (i : Nat) {x : α} (hx : xs[i]? = some x) : w.rangeAt b (0 + i * sz) (enc x) := by
  subst hn
  obtain ⟨hi, rfl⟩ := List.getElem?_eq_some_iff.1 hx
  rw [Nat.zero_add]
  exact own_range he h i hi
theorem AL.reverse {w : World} {rs : List Tr} {xs : List V5} (h : AL w rs xs) : AL w rs.reverse xs.reverse := by
  refine ⟨by simp [h.1], fun j h1 h2 => ?_⟩
  have hl := h.1
  simp only [List.getElem_reverse, hl]
  exact h.2 _ _ _

set_option maxRecDepth 100000 in
theorem specBack_ct (t : Tr) (v : Value) (w : World) (hr : Rep Any w t v) (hf : t.Fit) (hw : t.wt ≤ 1048576) : Calls Try.prog 36 #[v] w (Gives w (backR t)) := by
  obtain ⟨v3, v4, ev, h3, h4⟩ := hr.form
  subst ev
  obtain ⟨A4, c4, rfl, hn4⟩ := h4.open
  have hwl := t.wt_list
  have hfit : ∀ x ∈ t.list.reverse, x.Fit := fun x hx => hf.list x (by simpa using hx)
  refine enter Try.func36 rfl rfl rfl ?_
  have F0 := Fr.start w
  refine Cod.seq fun K1 hK1 => ?_
  refine Cod.region ?_
  refine Ops.step (One.box F0 rfl rfl rfl rfl (ev_t rfl) ?_)
  intro b1 w1 hb1 F1
  change Fr _ _ [blk _ _ [_, _, _, _, _]] _ at F1
  refine Ops.step (One.alloc F1 zero29 rfl rfl rfl rfl ?_)
  intro b2 w2 hb2 F2
  change Fr _ _ [blk _ _ [_, _, _, _, _], blk _ _ [_, _, _, _, _]] _ at F2
  refine Ops.step (One.val rfl rfl rfl (yld_assign rfl ev_c) ?_)
  refine Ops.nil fun a hS => ?_
  refine hK1 _ _ ?_ a hS
  refine Cod.seq fun K2 hK2 => ?_
  refine Cod.seq fun K3 hK3 => ?_
  refine Cod.region ?_
  refine Ops.step (One.val rfl rfl rfl (yld_loadN ag29 rfl (ev_t rfl) (fun _ => F2.range (m := 5) (cs' := [_, _, _, _, _]) 1 rfl rfl) rfl) ?_)
  refine Ops.step (One.call rfl rfl rfl (ent_f rfl (evl1 (ev_t rfl)) (enters en80)) (l4Row_ct t _ _ (hr.chg F2.chg) hf hw) (fun e w3 hw3 => ?_))
  obtain ⟨rfl, C3⟩ := hw3
  have F3 := F2.call C3
  refine ⟨_, rfl, ?_⟩
  refine Ops.step (One.val rfl rfl rfl (yld_not rfl (ev_t rfl)) ?_)
  refine Ops.nil fun a hS => ?_
  refine hK3 _ _ ?_ a hS
  refine Cod.cond rfl (fun hc8 => ?_) (fun hc8 => ?_)
  · skip
    have hno : backR t = none := by
      have hc : (!(rowT t)) = true := hc8
      unfold backR
      cases h1 : rowT t <;> simp [h1] at hc ⊢
    refine Cod.seq fun K4 hK4 => ?_
    refine Cod.region ?_
    refine Ops.step (One.val rfl rfl rfl (yld_build (cells := [.int .i64 0, .int .i64 0, .string ⟨#[]⟩, .slice none 0 0, .slice none 0 0]) rfl (evp0) (by kernel_rfl)) ?_)
    refine Ops.step (One.storeN (vs := [_, _, _, _, _]) F3 0 rfl sz29 rfl rfl rfl (ev_t rfl) (ev_t rfl) rfl rfl rfl ?_)
    intro w4 F4
    change Fr _ _ [blk _ _ [_, _, _, _, _], blk _ _ [_, _, _, _, _]] _ at F4
    refine Ops.step (One.val rfl rfl rfl (yld_assign rfl ev_c) ?_)
    refine Ops.nil fun a hS => ?_
    refine hK4 _ _ ?_ a hS
    refine Cod.ret fun a hS => ?_
    try simp only [Exit.then, Exit.inBlock]
    exact retct (t := 2) (u := 3) (ty := 29) rfl hS ag29 rfl rfl (F4.range (m := 5) (cs' := [_, _, _, _, _]) 0 rfl rfl) rfl ⟨z5, No, by rw [hno]; rfl, F4.chg, by rw [hno]; exact sep_leaf _ 0 0 ⟨#[]⟩, fun k hk => hk.elim⟩
  · skip
    have hyes : backR t = toldR true (.mk 5 0 ⟨#[]⟩ [] (t.list.reverse)) := by
      have hc : (!(rowT t)) = false := hc8
      unfold backR
      cases h1 : rowT t <;> simp [h1] at hc ⊢
    refine Cod.skip fun a hS => ?_
    refine hK2 _ _ ?_ a hS
    refine Cod.seq fun K5 hK5 => ?_
    refine Cod.region ?_
    refine Ops.step (One.buildNil enc5 F3 sl27 rfl rfl rfl rfl ?_)
    intro b3 w5 hb3 F5
    refine Ops.step (One.val rfl rfl rfl (yld_assign rfl (ev_t rfl)) ?_)
    refine Ops.nil fun a hS => ?_
    refine hK5 _ _ ?_ a hS
    refine Cod.seq fun K6 hK6 => ?_
    refine Cod.seq fun K7 hK7 => ?_
    refine Cod.region ?_
    refine Ops.step (One.val rfl rfl rfl (yld_field fi29_4 rfl (ev_t rfl)) ?_)
    refine Ops.step (One.val rfl rfl rfl (yld_load1 on27 rfl (ev_t rfl) (fun _ => F5.cell 2 rfl rfl)) ?_)
    refine Ops.step (One.val rfl rfl rfl (yld_len sl27 rfl (ev_t rfl)) ?_)
    refine Ops.step (One.val rfl rfl rfl (yld_sub rfl (ev_t rfl) ev_c (fun _ => by omega)) ?_)
    refine Ops.step (One.val rfl rfl rfl (yld_assign rfl (ev_t rfl)) ?_)
    refine Ops.nil fun a hS => ?_
    refine hK7 _ _ ?_ a hS
    refine Cod.block ?_
    refine Cod.loop (fun i : Nat × List V5 × Value => [(1, true, .pointer (some ⟨b1, 0, none⟩)), (2, true, .pointer (some ⟨b2, 0, none⟩)), (4, true, i.2.2), (5, true, .int .i64 (subN ((t.list.length : Int) - 1) i.1))]) (fun i w' => i.1 ≤ t.list.length ∧ AL w (t.list.reverse.take i.1) i.2.1 ∧ Fr No w [own 29 5 i.2.2 i.2.1.length (i.2.1.flatMap enc5), blk b2 29 [.int .i64 0, .int .i64 0, .string ⟨#[]⟩, .slice none 0 0, .slice none 0 0], blk b1 29 [.int .i64 t.kind, .int .i64 t.num, .string t.str, v3, .slice A4 t.list.length c4]] w') (fun i => t.list.length - i.1) (0, [], .slice (some ⟨b3, 0, none⟩) 0 0) ⟨rfl, rfl, rfl, rfl, trivial⟩ ⟨Nat.zero_le _, AL.nil w, F5⟩ ?_
    intro i w6 hW K8 hK8
    obtain ⟨i, xs, u⟩ := i
    obtain ⟨hi, hal, F6⟩ := hW
    dsimp only at *
    simp only [subN_eq]
    refine Cod.seq fun K9 hK9 => ?_
    refine Cod.seq fun K10 hK10 => ?_
    refine Cod.region ?_
    refine Ops.step (One.val rfl rfl rfl (yld_move rfl (ev_t rfl)) ?_)
    refine Ops.step (One.val rfl rfl rfl (yld_geq rfl (ev_t rfl) ev_c) ?_)
    refine Ops.nil fun a hS => ?_
    refine hK10 _ _ ?_ a hS
    refine Cod.cond rfl (fun hc16 => ?_) (fun hc16 => ?_)
    · skip
      have hi : i < t.list.length := by simp at hc16; omega
      rw [show (t.list.length : Int) - 1 - (i : Int) = ((t.list.length - 1 - i : Nat) : Int) by omega]
      obtain ⟨b, o, cs, rfl, -, hlc, hr1, ht⟩ := h4.at (t.list.length - 1 - i) (by omega)
      obtain ⟨y1, y2, y3, y4, y5, rfl⟩ := five hlc
      have hone := ht.one
      have hal2 : AL w (t.list.reverse.take (i + 1)) (xs ++ [⟨y1, y2, y3, y4, y5⟩]) := by
        rw [List.take_succ_eq_append_getElem (by simpa using hi)]
        refine hal.append (AL.one ?_)
        rw [List.getElem_reverse]
        exact ht
      have hl2 : xs.length + 1 ≤ 1048576 := by have := hal2.1; simp at this; omega
      refine Cod.skip fun a hS => ?_
      refine hK9 _ _ ?_ a hS
      refine Cod.seq fun K11 hK11 => ?_
      refine Cod.block ?_
      refine Cod.region ?_
      refine Ops.step (One.val rfl rfl rfl (yld_move rfl (ev_t rfl)) ?_)
      refine Ops.step (One.val rfl rfl rfl (yld_field fi29_4 rfl (ev_t rfl)) ?_)
      refine Ops.step (One.val rfl rfl rfl (yld_load1 on27 rfl (ev_t rfl) (fun _ => F6.cell 2 rfl rfl)) ?_)
      refine Ops.step (One.val rfl rfl rfl (yld_move rfl (ev_t rfl)) ?_)
      refine Ops.step (One.val rfl rfl rfl (yld_indexN sl27 rfl (ev_t rfl) (ev_t rfl) (fun _ => by omega)) ?_)
      refine Ops.step (One.val rfl rfl rfl (yld_loadN ag29 rfl (ev_t rfl) (fun _ => rng hr1 F6.chg) rfl) ?_)
      refine Ops.step (One.buildSlice (cells := (enc5 ⟨y1, y2, y3, y4, y5⟩)) F6 sl27 zero29 rfl rfl rfl rfl (evp1 (ev_t rfl)) rfl rfl (by kernel_rfl) ?_)
      intro b4 w7 hb4 F7
      refine Ops.step (One.append (enc := enc5) [⟨y1, y2, y3, y4, y5⟩] F7 1 rfl sl27 zero29 rfl rfl (fun _ => rfl) rfl rfl rfl rfl (ev_t rfl) (ev_t rfl) ((blk_rep (enc := enc5) (sz := 5) (xs := [⟨y1, y2, y3, y4, y5⟩]) (fun _ => rfl) (F7.get 0 rfl) (by simp) (by simp)).weak fun _ _ => trivial) (one_all hone) (by simp; omega) (by simp; omega) ?_)
      intro u2 w8 hu2 F8
      change Fr _ _ [_, _, blk _ _ [_, _, _, _, _], blk _ _ [_, _, _, _, _]] _ at F8
      refine Ops.step (One.val rfl rfl rfl (yld_assign rfl (ev_t rfl)) ?_)
      refine Ops.nil fun a hS => ?_
      refine hK11 _ _ ?_ a hS
      refine Cod.region ?_
      refine Ops.step (One.val rfl rfl rfl (yld_move rfl (ev_t rfl)) ?_)
      refine Ops.step (One.val rfl rfl rfl (yld_sub rfl (ev_t rfl) ev_c (fun _ => by omega)) ?_)
      refine Ops.step (One.val rfl rfl rfl (yld_assign rfl (ev_t rfl)) ?_)
      refine Ops.nil fun a hS => ?_
      rw [show ((t.list.length - 1 - i : Nat) : Int) - 1 = subN ((t.list.length : Int) - 1) (i + 1) by rw [subN_eq]; omega] at hS
      refine hK8 (i + 1, _, u2) _ a (hS.sub ⟨rfl, rfl, rfl, rfl, trivial⟩) ⟨by show i + 1 ≤ _; omega, hal2, F8.drop1⟩ (by show t.list.length - (i + 1) < t.list.length - i; omega)
    · skip
      obtain rfl : i = t.list.length := by simp at hc16; omega
      rw [← List.length_reverse, List.take_length] at hal
      refine Cod.exit fun a hS => ?_
      simp only [Exit.then, Exit.inBlock, ↓reduceIte]
      refine hK6 _ _ ?_ a hS
      refine Cod.seq fun K12 hK12 => ?_
      refine Cod.region ?_
      refine Ops.step (One.val rfl rfl rfl (yld_move rfl (ev_t rfl)) ?_)
      refine Ops.step (One.call rfl rfl rfl (ent_f rfl (evl1 (ev_t rfl)) (enters en79)) (l4Of_ct u _ (own_form (F6.get 0 rfl))) (fun e w9 hw9 => ?_))
      obtain ⟨rfl, C9⟩ := hw9
      have F9 := F6.call C9
      refine ⟨_, rfl, ?_⟩
      refine Ops.step (One.call rfl rfl rfl (ent_f rfl (evl1 (ev_t rfl)) (enters en66)) (l2Told_ct (.mk 5 0 ⟨#[]⟩ [] t.list.reverse) _ _ (Rep.close (RepE.nil _ _) ((hal.chg F9.chg).repL (F9.get 0 rfl))) (.mk (Nat.zero_le _) (by simp) hfit) (by rw [row_wt, List.length_reverse, sumN_reverse]; omega)) (fun e w10 hw10 => ?_))
      obtain ⟨x1, G1, rfl, C10, hs1, hb1⟩ := hw10
      have F10 := F9.new C10 (sep G1 _ x1.val) hs1 hb1
      refine ⟨_, rfl, ?_⟩
      refine Ops.step (One.val rfl rfl rfl (yld_extract rfl (ev_t rfl) rfl) ?_)
      refine Ops.step (One.val rfl rfl rfl (yld_extract rfl (ev_t rfl) rfl) ?_)
      refine Ops.step (One.storeN (vs := [_, _, _, _, _]) F10 2 rfl sz29 rfl rfl rfl (ev_t rfl) (ev_t rfl) rfl rfl hs1.one ?_)
      intro w11 F11
      change Fr _ _ [_, _, blk _ _ [_, _, _, _, _], blk _ _ [_, _, _, _, _]] _ at F11
      refine Ops.step (One.val rfl rfl rfl (yld_assign rfl (ev_t rfl)) ?_)
      refine Ops.nil fun a hS => ?_
      refine hK12 _ _ ?_ a hS
      refine Cod.ret fun a hS => ?_
      try simp only [Exit.then, Exit.inBlock]
      exact retct (t := 2) (u := 3) (ty := 29) rfl hS ag29 rfl rfl (F11.range (m := 5) (cs' := [_, _, _, _, _]) 2 rfl rfl) rfl ⟨x1, G1, by rw [hyes]; rfl, F11.chg, by rw [hyes]; exact F11.get 0 rfl, fun b hb => (F11.dom _ (List.mem_of_getElem? (i := 0) rfl) b hb).resolve_left id⟩

set_option maxRecDepth 100000 in
theorem cloneS_ct (l : List Tr) (v : Value) (w0 w : World) (hp : RepL Any w0 l v) (hc0 : Chg No w0 w) (hn : l.length ≤ 1048576) : Calls Try.prog 69 #[v] w fun e w' => ∃ v' ys, e = .returned v' ∧ Chg No w w' ∧ (own 29 5 v' ys.length (ys.flatMap enc5)).is w' ∧ AL w0 l ys ∧ ∀ k, v'.ownBlock = some k → w.heap.size ≤ k := by
  obtain ⟨ys, hre, hal⟩ := hp.v5
  have hyl := hal.1
  obtain ⟨A, c, rfl, hnn⟩ := hre.open
  refine enter Try.func69 rfl rfl rfl ?_
  have F0 := Fr.start w
  refine Cod.seq fun K1 hK1 => ?_
  refine Cod.region ?_
  refine Ops.step (One.val rfl rfl rfl (yld_assign rfl ev_c) ?_)
  refine Ops.nil fun a hS => ?_
  refine hK1 _ _ ?_ a hS
  refine Cod.seq fun K2 hK2 => ?_
  refine Cod.seq fun K3 hK3 => ?_
  refine Cod.region ?_
  refine Ops.step (One.val rfl rfl rfl (yld_move rfl (ev_t rfl)) ?_)
  refine Ops.step (One.val rfl rfl rfl (yld_nileq sl27 rfl (ev_t rfl)) ?_)
  refine Ops.nil fun a hS => ?_
  refine hK3 _ _ ?_ a hS
  refine Cod.cond rfl (fun hc4 => ?_) (fun hc4 => ?_)
  · skip
    have hA : A = none := by cases A <;> simp at hc4 ⊢
    have hys : ys = [] := by
      subst hA
      obtain ⟨A2, c2, e2, -, -, h2⟩ := hre
      by_cases hne : ys = []
      · exact hne
      · obtain ⟨b, o, e3, -⟩ := h2 hne
        subst e3
        simp at e2
    refine Cod.seq fun K4 hK4 => ?_
    refine Cod.region ?_
    refine Ops.step (One.val rfl rfl rfl (yld_assign rfl ev_c) ?_)
    refine Ops.nil fun a hS => ?_
    refine hK4 _ _ ?_ a hS
    refine Cod.ret fun a hS => ?_
    try simp only [Exit.then, Exit.inBlock]
    exact ret1 (t := 2) rfl hS rfl ⟨.slice none 0 0, ys, rfl, F0.chg, by rw [hys]; exact World.ownsRow_nil _ 0 29 5, hal, fun k hk => by simp [Value.ownBlock] at hk⟩
  · skip
    refine Cod.skip fun a hS => ?_
    refine hK2 _ _ ?_ a hS
    refine Cod.seq fun K5 hK5 => ?_
    refine Cod.region ?_
    refine Ops.step (One.buildNil enc5 F0 sl27 rfl rfl rfl rfl ?_)
    intro b1 w1 hb1 F1
    refine Ops.step (One.val rfl rfl rfl (yld_move rfl (ev_t rfl)) ?_)
    refine Ops.step (One.append (enc := enc5) ys F1 0 rfl sl27 zero29 rfl rfl (fun _ => rfl) rfl rfl rfl rfl (ev_t rfl) (ev_t rfl) (hre.chg (hc0.trans F1.chg)) hal.cells (by simp; omega) (by simp; omega) ?_)
    intro u2 w2 hu2 F2
    change Fr _ _ [_] _ at F2
    refine Ops.step (One.val rfl rfl rfl (yld_assign rfl (ev_t rfl)) ?_)
    refine Ops.nil fun a hS => ?_
    refine hK5 _ _ ?_ a hS
    refine Cod.ret fun a hS => ?_
    try simp only [Exit.then, Exit.inBlock]
    exact ret1 (t := 2) rfl hS rfl ⟨u2, ys, rfl, F2.chg, F2.get 0 rfl, hal, fun b hb => (F2.dom _ (List.mem_cons_self ..) b hb).resolve_left id⟩

set_option maxRecDepth 100000 in
theorem reverse_ct (xs : List V5) (v : Value) (w : World) (h : (own 29 5 v xs.length (xs.flatMap enc5)).is w) (hone : ∀ x ∈ xs, (enc5 x).all (·.oneCell') = true) (hn : xs.length ≤ 1048576) :
    Calls Try.prog 82 #[v] w fun e w' => e = .returned (.tuple #[]) ∧ Chg (fun b => v.ownBlock = some b) w w' ∧ (own 29 5 v xs.reverse.length (xs.reverse.flatMap enc5)).is w' := by
  obtain ⟨A, m0, c0, hv⟩ := own_form h
  have hm0 : m0 = xs.length := own_len h hv
  subst hv
  subst hm0
  refine enter Try.func82 rfl rfl rfl ?_
  have F0 := Fr.lend _ h
  refine Cod.seq fun K1 hK1 => ?_
  refine Cod.region ?_
  refine Ops.step (One.val rfl rfl rfl (yld_move rfl (ev_t rfl)) ?_)
  refine Ops.step (One.val rfl rfl rfl (yld_len sl27 rfl (ev_t rfl)) ?_)
  refine Ops.step (One.val rfl rfl rfl (yld_sub rfl (ev_t rfl) ev_c (fun _ => by omega)) ?_)
  refine Ops.step (One.val rfl rfl rfl (yld_assign rfl ev_c) ?_)
  refine Ops.step (One.val rfl rfl rfl (yld_assign rfl (ev_t rfl)) ?_)
  refine Ops.nil fun a hS => ?_
  refine hK1 _ _ ?_ a hS
  refine Cod.block ?_
  refine Cod.loop (fun i : Nat × List V5 => [(0, true, .slice A xs.length c0), (2, true, .int .i64 (i.1 : Int)), (3, true, .int .i64 (subN ((xs.length : Int) - 1) i.1))]) (fun i w' => Turned xs i.2 i.1 ∧ (∀ x ∈ i.2, (enc5 x).all (·.oneCell') = true) ∧ i.1 ≤ xs.length ∧ Fr (fun b => (Value.slice A xs.length c0).ownBlock = some b) w [own 29 5 (.slice A xs.length c0) xs.length (i.2.flatMap enc5)] w') (fun i => xs.length - i.1) (0, xs) ⟨rfl, rfl, rfl, trivial⟩ ⟨Turned.zero xs, hone, Nat.zero_le _, F0⟩ ?_
  intro i w1 hW K2 hK2
  obtain ⟨i, ys⟩ := i
  obtain ⟨htu, hon, hil, F1⟩ := hW
  dsimp only at *
  simp only [subN_eq]
  have hyl := htu.1
  refine Cod.seq fun K3 hK3 => ?_
  refine Cod.seq fun K4 hK4 => ?_
  refine Cod.region ?_
  refine Ops.step (One.val rfl rfl rfl (yld_move rfl (ev_t rfl)) ?_)
  refine Ops.step (One.val rfl rfl rfl (yld_move rfl (ev_t rfl)) ?_)
  refine Ops.step (One.val rfl rfl rfl (yld_lss rfl (ev_t rfl) (ev_t rfl)) ?_)
  refine Ops.nil fun a hS => ?_
  refine hK4 _ _ ?_ a hS
  refine Cod.cond rfl (fun hc9 => ?_) (fun hc9 => ?_)
  · skip
    have hij : (i : Int) < (xs.length : Int) - 1 - (i : Int) := by simpa using hc9
    rw [show (xs.length : Int) - 1 - (i : Int) = ((xs.length - 1 - i : Nat) : Int) by omega]
    obtain ⟨bb, cap, hv, -, -⟩ := World.ownsRow.form (F1.get 0 rfl) (by omega)
    obtain ⟨rfl, -⟩ : A = some ⟨bb, 0, none⟩ ∧ c0 = cap := by simpa using hv
    obtain ⟨x, hx⟩ : ∃ x, ys[i]? = some x := ⟨_, List.getElem?_eq_getElem (by omega)⟩
    obtain ⟨y, hy⟩ : ∃ y, ys[xs.length - 1 - i]? = some y := ⟨_, List.getElem?_eq_getElem (by omega)⟩
    have hox := hon x (List.mem_of_getElem? hx)
    have hoy := hon y (List.mem_of_getElem? hy)
    refine Cod.skip fun a hS => ?_
    refine hK3 _ _ ?_ a hS
    refine Cod.seq fun K5 hK5 => ?_
    refine Cod.block ?_
    have F2 := F1.drew
    refine Cod.draw (C_of F2.drop1) (by kernel_rfl) ?_
    refine Hops.take 0 rfl (by kernel_rfl) (fun _ _ _ h => h) rfl rfl rfl F2.drop1 (fun w F => (yld_move rfl (ev_t rfl))) ?_
    refine Hops.take 1 rfl (by kernel_rfl) (fun _ _ _ h => h) rfl rfl rfl F2.drop1 (fun w F => (yld_move rfl (ev_t rfl))) ?_
    refine Hops.take 2 rfl (by kernel_rfl) (fun _ _ _ h => h) rfl rfl rfl F2.drop1 (fun w F => (yld_move rfl (ev_t rfl))) ?_
    refine Hops.take 3 rfl (by kernel_rfl) (fun _ _ _ h => h) rfl rfl rfl F2.drop1 (fun w F => (yld_move rfl (ev_t rfl))) ?_
    refine Hops.take 4 rfl (by kernel_rfl) (fun _ _ _ h => h) rfl rfl rfl F2.drop1 (fun w F => (yld_move rfl (ev_t rfl))) ?_
    refine Hops.take 5 rfl (by kernel_rfl) (fun _ _ _ h => h) rfl rfl rfl F2.drop1 (fun w F => (yld_move rfl (ev_t rfl))) ?_
    refine Hops.take 6 rfl (by kernel_rfl) (fun _ _ _ h => h) rfl rfl rfl F2.drop1 (fun w F => (yld_indexN sl27 rfl (ev_t rfl) (ev_t rfl) (fun _ => by omega))) ?_
    refine Hops.take 8 rfl (by kernel_rfl) (fun _ _ _ h => h) rfl rfl rfl F2.drop1 (fun w F => (yld_move rfl (ev_t rfl))) ?_
    refine Hops.take 9 rfl (by kernel_rfl) (fun _ _ _ h => h) rfl rfl rfl F2.drop1 (fun w F => (yld_move rfl (ev_t rfl))) ?_
    refine Hops.take 10 rfl (by kernel_rfl) (fun _ _ _ h => h) rfl rfl rfl F2.drop1 (fun w F => (yld_indexN sl27 rfl (ev_t rfl) (ev_t rfl) (fun _ => by omega))) ?_
    refine Hops.two 7 11 rfl rfl (by kernel_rfl) ?_ ?_
    · skip
      refine (One.val rfl rfl rfl (yld_loadN (cs := enc5 y) ag29 rfl (ev_t rfl) (fun _ => own_at (enc := enc5) (fun _ => rfl) (F2.get 0 rfl) hyl (xs.length - 1 - i) hy) rfl) ?_)
      refine ⟨F2.drop1, ?_⟩
      refine Hops.one 11 rfl (by kernel_rfl) (One.val rfl rfl rfl (yld_loadN (cs := enc5 x) ag29 rfl (ev_t rfl) (fun _ => own_at (enc := enc5) (fun _ => rfl) (F2.get 0 rfl) hyl i hx) rfl) ?_)
      refine ⟨F2.drop1, ?_⟩
      refine Hops.take 12 rfl (by kernel_rfl) (fun _ _ _ h => h) rfl rfl rfl F2.drop1 (fun w F => (yld_indexN sl27 rfl (ev_t rfl) (ev_t rfl) (fun _ => by omega))) ?_
      refine Hops.one 13 rfl (by kernel_rfl) (One.storeRow (enc := enc5) y (fun _ => rfl) F2 0 rfl hyl (by omega) sz29 rfl rfl rfl rfl (ev_t rfl) (ev_t rfl) hoy ?_)
      intro w2 F3
      refine ⟨F3.drop1, ?_⟩
      change Fr _ _ [_] _ at F3
      refine Hops.take 14 rfl (by kernel_rfl) (fun _ _ _ h => h) rfl rfl rfl F3.drop1 (fun w F => (yld_indexN sl27 rfl (ev_t rfl) (ev_t rfl) (fun _ => by omega))) ?_
      refine Hops.one 15 rfl (by kernel_rfl) (One.storeRow (enc := enc5) x (fun _ => rfl) F3 0 rfl (by rw [List.length_set]; exact hyl) (by omega) sz29 rfl rfl rfl rfl (ev_t rfl) (ev_t rfl) hox ?_)
      intro w3 F4
      refine ⟨F4.drop1, ?_⟩
      change Fr _ _ [_] _ at F4
      refine Hops.nil (by kernel_rfl) fun a hS => ?_
      refine hK5 _ _ ?_ a hS
      refine Cod.region ?_
      refine Ops.step (One.val rfl rfl rfl (yld_move rfl (ev_t rfl)) ?_)
      refine Ops.step (One.val rfl rfl rfl (yld_inc rfl (ev_t rfl) (fun _ => by omega)) ?_)
      refine Ops.step (One.val rfl rfl rfl (yld_move rfl (ev_t rfl)) ?_)
      refine Ops.step (One.val rfl rfl rfl (yld_sub rfl (ev_t rfl) ev_c (fun _ => by omega)) ?_)
      refine Ops.step (One.val rfl rfl rfl (yld_assign rfl (ev_t rfl)) ?_)
      refine Ops.step (One.val rfl rfl rfl (yld_assign rfl (ev_t rfl)) ?_)
      refine Ops.nil fun a hS => ?_
      rw [show ((xs.length - 1 - i : Nat) : Int) - 1 = subN ((xs.length : Int) - 1) (i + 1) by rw [subN_eq]; omega] at hS
      exact hK2 (i + 1, (ys.set i y).set (xs.length - 1 - i) x) _ a (hS.sub ⟨rfl, rfl, rfl, trivial⟩) ⟨htu.next (by omega) hx hy, fun z hz => by
          rcases List.mem_or_eq_of_mem_set hz with hz | rfl
          · rcases List.mem_or_eq_of_mem_set hz with hz | rfl
            · exact hon z hz
            · exact hon _ (List.mem_of_getElem? hy)
          · exact hon _ (List.mem_of_getElem? hx), by omega, F4⟩ (by show xs.length - (i + 1) < xs.length - i; omega)
    · skip
      refine (One.val rfl rfl rfl (yld_loadN (cs := enc5 x) ag29 rfl (ev_t rfl) (fun _ => own_at (enc := enc5) (fun _ => rfl) (F2.get 0 rfl) hyl i hx) rfl) ?_)
      refine ⟨F2.drop1, ?_⟩
      refine Hops.one 7 rfl (by kernel_rfl) (One.val rfl rfl rfl (yld_loadN (cs := enc5 y) ag29 rfl (ev_t rfl) (fun _ => own_at (enc := enc5) (fun _ => rfl) (F2.get 0 rfl) hyl (xs.length - 1 - i) hy) rfl) ?_)
      refine ⟨F2.drop1, ?_⟩
      refine Hops.take 12 rfl (by kernel_rfl) (fun _ _ _ h => h) rfl rfl rfl F2.drop1 (fun w F => (yld_indexN sl27 rfl (ev_t rfl) (ev_t rfl) (fun _ => by omega))) ?_
      refine Hops.one 13 rfl (by kernel_rfl) (One.storeRow (enc := enc5) y (fun _ => rfl) F2 0 rfl hyl (by omega) sz29 rfl rfl rfl rfl (ev_t rfl) (ev_t rfl) hoy ?_)
      intro w4 F5
      refine ⟨F5.drop1, ?_⟩
      change Fr _ _ [_] _ at F5
      refine Hops.take 14 rfl (by kernel_rfl) (fun _ _ _ h => h) rfl rfl rfl F5.drop1 (fun w F => (yld_indexN sl27 rfl (ev_t rfl) (ev_t rfl) (fun _ => by omega))) ?_
      refine Hops.one 15 rfl (by kernel_rfl) (One.storeRow (enc := enc5) x (fun _ => rfl) F5 0 rfl (by rw [List.length_set]; exact hyl) (by omega) sz29 rfl rfl rfl rfl (ev_t rfl) (ev_t rfl) hox ?_)
      intro w5 F6
      refine ⟨F6.drop1, ?_⟩
      change Fr _ _ [_] _ at F6
      refine Hops.nil (by kernel_rfl) fun a hS => ?_
      refine hK5 _ _ ?_ a hS
      refine Cod.region ?_
      refine Ops.step (One.val rfl rfl rfl (yld_move rfl (ev_t rfl)) ?_)
      refine Ops.step (One.val rfl rfl rfl (yld_inc rfl (ev_t rfl) (fun _ => by omega)) ?_)
      refine Ops.step (One.val rfl rfl rfl (yld_move rfl (ev_t rfl)) ?_)
      refine Ops.step (One.val rfl rfl rfl (yld_sub rfl (ev_t rfl) ev_c (fun _ => by omega)) ?_)
      refine Ops.step (One.val rfl rfl rfl (yld_assign rfl (ev_t rfl)) ?_)
      refine Ops.step (One.val rfl rfl rfl (yld_assign rfl (ev_t rfl)) ?_)
      refine Ops.nil fun a hS => ?_
      rw [show ((xs.length - 1 - i : Nat) : Int) - 1 = subN ((xs.length : Int) - 1) (i + 1) by rw [subN_eq]; omega] at hS
      exact hK2 (i + 1, (ys.set i y).set (xs.length - 1 - i) x) _ a (hS.sub ⟨rfl, rfl, rfl, trivial⟩) ⟨htu.next (by omega) hx hy, fun z hz => by
          rcases List.mem_or_eq_of_mem_set hz with hz | rfl
          · rcases List.mem_or_eq_of_mem_set hz with hz | rfl
            · exact hon z hz
            · exact hon _ (List.mem_of_getElem? hy)
          · exact hon _ (List.mem_of_getElem? hx), by omega, F6⟩ (by show xs.length - (i + 1) < xs.length - i; omega)
  · skip
    have hend := htu.end (by simp at hc9; omega)
    refine Cod.exit fun a hS => ?_
    simp only [Exit.then, Exit.inBlock, ↓reduceIte]
    exact ret0 rfl hS ⟨rfl, F1.chg, by rw [List.length_reverse, ← hend]; exact F1.get 0 rfl⟩

set_option maxRecDepth 100000 in
theorem back_ct (t : Tr) (v : Value) (w : World) (hr : Rep Any w t v) (hf : t.Fit) (hw : t.wt ≤ 1048576) : Calls Try.prog 37 #[v] w (Gives w (backR t)) := by
  obtain ⟨v3, v4, ev, h3, h4⟩ := hr.form
  subst ev
  obtain ⟨A4, c4, rfl, hn4⟩ := h4.open
  have hwl := t.wt_list
  have hfit : ∀ x ∈ t.list.reverse, x.Fit := fun x hx => hf.list x (by simpa using hx)
  refine enter Try.func37 rfl rfl rfl ?_
  have F0 := Fr.start w
  refine Cod.seq fun K1 hK1 => ?_
  refine Cod.region ?_
  refine Ops.step (One.box F0 rfl rfl rfl rfl (ev_t rfl) ?_)
  intro b1 w1 hb1 F1
  change Fr _ _ [blk _ _ [_, _, _, _, _]] _ at F1
  refine Ops.step (One.alloc F1 zero29 rfl rfl rfl rfl ?_)
  intro b2 w2 hb2 F2
  change Fr _ _ [blk _ _ [_, _, _, _, _], blk _ _ [_, _, _, _, _]] _ at F2
  refine Ops.step (One.val rfl rfl rfl (yld_assign rfl ev_c) ?_)
  refine Ops.nil fun a hS => ?_
  refine hK1 _ _ ?_ a hS
  refine Cod.seq fun K2 hK2 => ?_
  refine Cod.seq fun K3 hK3 => ?_
  refine Cod.region ?_
  refine Ops.step (One.val rfl rfl rfl (yld_loadN ag29 rfl (ev_t rfl) (fun _ => F2.range (m := 5) (cs' := [_, _, _, _, _]) 1 rfl rfl) rfl) ?_)
  refine Ops.step (One.call rfl rfl rfl (ent_f rfl (evl1 (ev_t rfl)) (enters en81)) (isRow_ct t _ _ (hr.chg F2.chg) hf) (fun e w3 hw3 => ?_))
  obtain ⟨rfl, C3⟩ := hw3
  have F3 := F2.call C3
  refine ⟨_, rfl, ?_⟩
  refine Ops.step (One.val rfl rfl rfl (yld_not rfl (ev_t rfl)) ?_)
  refine Ops.nil fun a hS => ?_
  refine hK3 _ _ ?_ a hS
  refine Cod.cond rfl (fun hc7 => ?_) (fun hc7 => ?_)
  · skip
    have hno : backR t = none := by
      have hc : (!(rowT t)) = true := hc7
      unfold backR
      cases h1 : rowT t <;> simp [h1] at hc ⊢
    refine Cod.seq fun K4 hK4 => ?_
    refine Cod.region ?_
    refine Ops.step (One.val rfl rfl rfl (yld_build (cells := [.int .i64 0, .int .i64 0, .string ⟨#[]⟩, .slice none 0 0, .slice none 0 0]) rfl (evp0) (by kernel_rfl)) ?_)
    refine Ops.step (One.storeN (vs := [_, _, _, _, _]) F3 0 rfl sz29 rfl rfl rfl (ev_t rfl) (ev_t rfl) rfl rfl rfl ?_)
    intro w4 F4
    change Fr _ _ [blk _ _ [_, _, _, _, _], blk _ _ [_, _, _, _, _]] _ at F4
    refine Ops.step (One.val rfl rfl rfl (yld_assign rfl ev_c) ?_)
    refine Ops.nil fun a hS => ?_
    refine hK4 _ _ ?_ a hS
    refine Cod.ret fun a hS => ?_
    try simp only [Exit.then, Exit.inBlock]
    exact retct (t := 2) (u := 3) (ty := 29) rfl hS ag29 rfl rfl (F4.range (m := 5) (cs' := [_, _, _, _, _]) 0 rfl rfl) rfl ⟨z5, No, by rw [hno]; rfl, F4.chg, by rw [hno]; exact sep_leaf _ 0 0 ⟨#[]⟩, fun k hk => hk.elim⟩
  · skip
    have hyes : backR t = toldR true (.mk 5 0 ⟨#[]⟩ [] (t.list.reverse)) := by
      have hc : (!(rowT t)) = false := hc7
      unfold backR
      cases h1 : rowT t <;> simp [h1] at hc ⊢
    refine Cod.skip fun a hS => ?_
    refine hK2 _ _ ?_ a hS
    refine Cod.seq fun K5 hK5 => ?_
    refine Cod.region ?_
    refine Ops.step (One.val rfl rfl rfl (yld_field fi29_4 rfl (ev_t rfl)) ?_)
    refine Ops.step (One.val rfl rfl rfl (yld_load1 on27 rfl (ev_t rfl) (fun _ => F3.cell 1 rfl rfl)) ?_)
    refine Ops.step (One.call rfl rfl rfl (ent_f rfl (evl1 (ev_t rfl)) (enters en69)) (cloneS_ct t.list _ w _ h4 F3.chg (by omega)) (fun e w5 hw5 => ?_))
    obtain ⟨u, ys, rfl, C5, ho, hal, hob⟩ := hw5
    have F5 := F3.new C5 (own _ 5 u ys.length _) ho hob
    refine ⟨_, rfl, ?_⟩
    refine Ops.step (One.val rfl rfl rfl (yld_assign rfl (ev_t rfl)) ?_)
    refine Ops.nil fun a hS => ?_
    refine hK5 _ _ ?_ a hS
    refine Cod.seq fun K6 hK6 => ?_
    refine Cod.region ?_
    refine Ops.step (One.val rfl rfl rfl (yld_move rfl (ev_t rfl)) ?_)
    refine Ops.step (One.call rfl rfl rfl (ent_f rfl (evl1 (ev_t rfl)) (enters en82)) (reverse_ct ys u _ (F5.get 0 rfl) hal.cells (by have := hal.1; omega)) (fun e w6 hw6 => ?_))
    obtain ⟨rfl, C6, ho2⟩ := hw6
    have F6 := F5.upd 0 rfl C6 (fun _ hk => .inl hk) (own _ 5 u ys.reverse.length _) ho2 (fun _ hk => .inl hk)
    change Fr _ _ [_, _, _] _ at F6
    refine ⟨_, rfl, ?_⟩
    refine Ops.nil fun a hS => ?_
    refine hK6 _ _ ?_ a hS
    refine Cod.seq fun K7 hK7 => ?_
    refine Cod.region ?_
    refine Ops.step (One.val rfl rfl rfl (yld_move rfl (ev_t rfl)) ?_)
    refine Ops.step (One.call rfl rfl rfl (ent_f rfl (evl1 (ev_t rfl)) (enters en65)) (row_ct u _ (own_form (F6.get 0 rfl))) (fun e w7 hw7 => ?_))
    obtain ⟨rfl, C7⟩ := hw7
    have F7 := F6.call C7
    refine ⟨_, rfl, ?_⟩
    refine Ops.step (One.call rfl rfl rfl (ent_f rfl (evl2 (ev_t rfl) ev_c) (enters en64)) (told_ct (.mk 5 0 ⟨#[]⟩ [] t.list.reverse) true _ _ (Rep.close (RepE.nil _ _) ((hal.reverse.chg F7.chg).repL (F7.get 0 rfl))) (.mk (Nat.zero_le _) (by simp) hfit) (by rw [row_wt, List.length_reverse, sumN_reverse]; omega)) (fun e w8 hw8 => ?_))
    obtain ⟨x1, G1, rfl, C8, hs1, hb1⟩ := hw8
    have F8 := F7.new C8 (sep G1 _ x1.val) hs1 hb1
    refine ⟨_, rfl, ?_⟩
    refine Ops.step (One.val rfl rfl rfl (yld_extract rfl (ev_t rfl) rfl) ?_)
    refine Ops.step (One.val rfl rfl rfl (yld_extract rfl (ev_t rfl) rfl) ?_)
    refine Ops.step (One.storeN (vs := [_, _, _, _, _]) F8 2 rfl sz29 rfl rfl rfl (ev_t rfl) (ev_t rfl) rfl rfl hs1.one ?_)
    intro w9 F9
    change Fr _ _ [_, _, blk _ _ [_, _, _, _, _], blk _ _ [_, _, _, _, _]] _ at F9
    refine Ops.step (One.val rfl rfl rfl (yld_assign rfl (ev_t rfl)) ?_)
    refine Ops.nil fun a hS => ?_
    refine hK7 _ _ ?_ a hS
    refine Cod.ret fun a hS => ?_
    try simp only [Exit.then, Exit.inBlock]
    exact retct (t := 2) (u := 3) (ty := 29) rfl hS ag29 rfl rfl (F9.range (m := 5) (cs' := [_, _, _, _, _]) 2 rfl rfl) rfl ⟨x1, G1, by rw [hyes]; rfl, F9.chg, by rw [hyes]; exact F9.get 0 rfl, fun b hb => (F9.dom _ (List.mem_of_getElem? (i := 0) rfl) b hb).resolve_left id⟩

end Go.Proofs.Ytlfmfcocdailgaa.Eng
