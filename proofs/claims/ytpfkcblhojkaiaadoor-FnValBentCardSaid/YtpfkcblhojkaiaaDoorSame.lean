/- Walks of both ValSame and what they call: they tell just whether two trees are one. For every two trees that memory can hold. -/
import Derived.Test.YtpfkcblhojkaiaaDoorVal0
namespace Go.Proofs.YtpfkcblhojkaiaaDoor.Eng
open Go.RowKit
set_option linter.unusedVariables false
set_option linter.unusedSimpArgs false
set_option maxHeartbeats 1000000


/-- What a ValSame says of one tree. -/
def SameOk (f : FuncId) (t : Tr) : Prop := ∀ (t' : Tr) (v v' : Value) (w : World), Rep Any w t v → Rep Any w t' v' →
    Calls Tryd.prog f #[v, v'] w fun e w' => e = .returned (.bool (decide (t = t'))) ∧ Chg No w w'
theorem tr_eq (k n : Int) (s : ByteArray) (ks : List ByteArray) (l : List Tr) (k' n' : Int) (s' : ByteArray) (ks' : List ByteArray) (l' : List Tr) : (Tr.mk k n s ks l = Tr.mk k' n' s' ks' l') ↔ k = k' ∧ n = n' ∧ s = s' ∧ ks = ks' ∧ l = l' := by simp

set_option maxRecDepth 100000 in
theorem specSame_of (k n : Int) (s : ByteArray) (ks : List ByteArray) (l : List Tr) (H : ∀ t ∈ l, SameOk 101 t) : SameOk 101 (.mk k n s ks l) := by
  intro t' v v' w hr hr'
  obtain ⟨v3, v4, rfl, h3, h4⟩ := hr.open
  obtain ⟨k', n', s', ks', l'⟩ := t'
  obtain ⟨v3', v4', rfl, h3', h4'⟩ := hr'.open
  obtain ⟨A3, c3, rfl, hn3⟩ := h3.open
  obtain ⟨A4, c4, rfl, hn4⟩ := h4.open
  obtain ⟨A3', c3', rfl, hn3'⟩ := h3'.open
  obtain ⟨A4', c4', rfl, hn4'⟩ := h4'.open
  refine enter Tryd.func101 rfl rfl rfl ?_
  have F0 := Fr.start w
  refine Cod.seq fun K1 hK1 => ?_
  refine Cod.region ?_
  refine Ops.step (One.box F0 rfl rfl rfl rfl (ev_t rfl) ?_)
  intro b1 w1 hb1 F1
  change Fr _ _ [blk _ _ [_, _, _, _, _]] _ at F1
  refine Ops.step (One.box F1 rfl rfl rfl rfl (ev_t rfl) ?_)
  intro b2 w2 hb2 F2
  change Fr _ _ [blk _ _ [_, _, _, _, _], blk _ _ [_, _, _, _, _]] _ at F2
  refine Ops.step (One.val rfl rfl rfl (yld_assign rfl ev_c) ?_)
  refine Ops.nil fun a hS => ?_
  refine hK1 _ _ ?_ a hS
  refine Cod.seq fun K2 hK2 => ?_
  refine Cod.seq fun K3 hK3 => ?_
  refine Cod.region ?_
  refine Ops.step (One.val rfl rfl rfl (yld_field fi33_0 rfl (ev_t rfl)) ?_)
  refine Ops.step (One.val rfl rfl rfl (yld_load1 on3 rfl (ev_t rfl) (fun _ => F2.cell 1 rfl rfl)) ?_)
  refine Ops.step (One.val rfl rfl rfl (yld_field fi33_0 rfl (ev_t rfl)) ?_)
  refine Ops.step (One.val rfl rfl rfl (yld_load1 on3 rfl (ev_t rfl) (fun _ => F2.cell 0 rfl rfl)) ?_)
  refine Ops.step (One.val rfl rfl rfl (yld_neq rfl (ev_t rfl) (ev_t rfl)) ?_)
  refine Ops.step (One.val rfl rfl rfl (yld_move rfl (ev_t rfl)) ?_)
  refine Ops.step (One.val (gd_some rfl rfl) rfl rfl (yld_field fi33_1 rfl (ev_t rfl)) ?_)
  refine Ops.step (One.val (gd_some rfl rfl) rfl rfl (yld_load1 on3 rfl (ev_g rfl) (fun _ => F2.cell 1 rfl rfl)) ?_)
  refine Ops.step (One.val (gd_some rfl rfl) rfl rfl (yld_field fi33_1 rfl (ev_t rfl)) ?_)
  refine Ops.step (One.val (gd_some rfl rfl) rfl rfl (yld_load1 on3 rfl (ev_g rfl) (fun _ => F2.cell 0 rfl rfl)) ?_)
  refine Ops.step (One.val (gd_some rfl rfl) rfl rfl (yld_neq rfl (ev_g rfl) (ev_g rfl)) ?_)
  refine Ops.step (One.val rfl rfl rfl (yld_or rfl (ev_t rfl) (ev_g rfl)) ?_)
  refine Ops.step (One.val rfl rfl rfl (yld_move rfl (ev_t rfl)) ?_)
  refine Ops.step (One.val (gd_some rfl rfl) rfl rfl (yld_field fi33_2 rfl (ev_t rfl)) ?_)
  refine Ops.step (One.val (gd_some rfl rfl) rfl rfl (yld_load1 on9 rfl (ev_g rfl) (fun _ => F2.cell 1 rfl rfl)) ?_)
  refine Ops.step (One.val (gd_some rfl rfl) rfl rfl (yld_field fi33_2 rfl (ev_t rfl)) ?_)
  refine Ops.step (One.val (gd_some rfl rfl) rfl rfl (yld_load1 on9 rfl (ev_g rfl) (fun _ => F2.cell 0 rfl rfl)) ?_)
  refine Ops.step (One.val (gd_some rfl rfl) rfl rfl (yld_sneq rfl (ev_g rfl) (ev_g rfl)) ?_)
  refine Ops.step (One.val rfl rfl rfl (yld_or rfl (ev_t rfl) (ev_g rfl)) ?_)
  refine Ops.step (One.val rfl rfl rfl (yld_move rfl (ev_t rfl)) ?_)
  refine Ops.step (One.val (gd_some rfl rfl) rfl rfl (yld_field fi33_3 rfl (ev_t rfl)) ?_)
  refine Ops.step (One.val (gd_some rfl rfl) rfl rfl (yld_load1 on22 rfl (ev_g rfl) (fun _ => F2.cell 1 rfl rfl)) ?_)
  refine Ops.step (One.val (gd_some rfl rfl) rfl rfl (yld_len sl22 rfl (ev_g rfl)) ?_)
  refine Ops.step (One.val (gd_some rfl rfl) rfl rfl (yld_field fi33_3 rfl (ev_t rfl)) ?_)
  refine Ops.step (One.val (gd_some rfl rfl) rfl rfl (yld_load1 on22 rfl (ev_g rfl) (fun _ => F2.cell 0 rfl rfl)) ?_)
  refine Ops.step (One.val (gd_some rfl rfl) rfl rfl (yld_len sl22 rfl (ev_g rfl)) ?_)
  refine Ops.step (One.val (gd_some rfl rfl) rfl rfl (yld_neq rfl (ev_g rfl) (ev_g rfl)) ?_)
  refine Ops.step (One.val rfl rfl rfl (yld_or rfl (ev_t rfl) (ev_g rfl)) ?_)
  refine Ops.step (One.val rfl rfl rfl (yld_move rfl (ev_t rfl)) ?_)
  refine Ops.step (One.val (gd_some rfl rfl) rfl rfl (yld_field fi33_4 rfl (ev_t rfl)) ?_)
  refine Ops.step (One.val (gd_some rfl rfl) rfl rfl (yld_load1 on31 rfl (ev_g rfl) (fun _ => F2.cell 1 rfl rfl)) ?_)
  refine Ops.step (One.val (gd_some rfl rfl) rfl rfl (yld_len sl31 rfl (ev_g rfl)) ?_)
  refine Ops.step (One.val (gd_some rfl rfl) rfl rfl (yld_field fi33_4 rfl (ev_t rfl)) ?_)
  refine Ops.step (One.val (gd_some rfl rfl) rfl rfl (yld_load1 on31 rfl (ev_g rfl) (fun _ => F2.cell 0 rfl rfl)) ?_)
  refine Ops.step (One.val (gd_some rfl rfl) rfl rfl (yld_len sl31 rfl (ev_g rfl)) ?_)
  refine Ops.step (One.val (gd_some rfl rfl) rfl rfl (yld_neq rfl (ev_g rfl) (ev_g rfl)) ?_)
  refine Ops.step (One.val rfl rfl rfl (yld_or rfl (ev_t rfl) (ev_g rfl)) ?_)
  refine Ops.nil fun a hS => ?_
  refine hK3 _ _ ?_ a hS
  refine Cod.cond rfl (fun hc43 => ?_) (fun hc43 => ?_)
  · skip
    have hne : Tr.mk k n s ks l ≠ Tr.mk k' n' s' ks' l' := by
      intro h
      obtain ⟨rfl, rfl, rfl, rfl, rfl⟩ := (tr_eq ..).1 h
      simp at hc43
    refine Cod.seq fun K4 hK4 => ?_
    refine Cod.region ?_
    refine Ops.step (One.val rfl rfl rfl (yld_assign rfl ev_c) ?_)
    refine Ops.nil fun a hS => ?_
    refine hK4 _ _ ?_ a hS
    refine Cod.ret fun a hS => ?_
    try simp only [Exit.then, Exit.inBlock]
    exact ret1 (t := 4) rfl hS rfl ⟨by rw [decide_eq_false hne], F2.chg⟩
  · skip
    have hq : k = k' ∧ n = n' ∧ s = s' ∧ ks.length = ks'.length ∧ l.length = l'.length := by
      simp at hc43
      obtain ⟨⟨⟨⟨q1, q2⟩, q3⟩, q4⟩, q5⟩ := hc43
      exact ⟨q1, q2, q3, by omega, by omega⟩
    obtain ⟨q1, q2, q3, hlk, hll⟩ := hq
    refine Cod.skip fun a hS => ?_
    refine hK2 _ _ ?_ a hS
    refine Cod.seq fun K5 hK5 => ?_
    refine Cod.seq fun K6 hK6 => ?_
    refine Cod.region ?_
    refine Ops.step (One.val rfl rfl rfl (yld_assign rfl ev_c) ?_)
    refine Ops.nil fun a hS => ?_
    refine hK6 _ _ ?_ a hS
    refine Cod.block ?_
    refine Cod.loop (fun i : Nat => [(2, true, .pointer (some ⟨b1, 0, none⟩)), (3, true, .pointer (some ⟨b2, 0, none⟩)), (5, true, .int .i64 (i : Int))]) (fun i w' => i ≤ ks.length ∧ (∀ j (h1 : j < ks.length) (h2 : j < ks'.length), j < i → ks[j] = ks'[j]) ∧ Fr No w [blk b2 33 [.int .i64 k', .int .i64 n', .string s', .slice A3' ks'.length c3', .slice A4' l'.length c4'], blk b1 33 [.int .i64 k, .int .i64 n, .string s, .slice A3 ks.length c3, .slice A4 l.length c4]] w') (fun i => ks.length - i) 0 ⟨rfl, rfl, rfl, trivial⟩ ⟨Nat.zero_le _, fun j _ _ h => by omega, F2⟩ ?_
    intro i w3 hW K7 hK7
    obtain ⟨hi, hall, F3⟩ := hW
    refine Cod.seq fun K8 hK8 => ?_
    refine Cod.seq fun K9 hK9 => ?_
    refine Cod.region ?_
    refine Ops.step (One.val rfl rfl rfl (yld_move rfl (ev_t rfl)) ?_)
    refine Ops.step (One.val rfl rfl rfl (yld_field fi33_3 rfl (ev_t rfl)) ?_)
    refine Ops.step (One.val rfl rfl rfl (yld_load1 on22 rfl (ev_t rfl) (fun _ => F3.cell 1 rfl rfl)) ?_)
    refine Ops.step (One.val rfl rfl rfl (yld_len sl22 rfl (ev_t rfl)) ?_)
    refine Ops.step (One.val rfl rfl rfl (yld_lss rfl (ev_t rfl) (ev_t rfl)) ?_)
    refine Ops.nil fun a hS => ?_
    refine hK9 _ _ ?_ a hS
    refine Cod.cond rfl (fun hc48 => ?_) (fun hc48 => ?_)
    · skip
      have hi : i < ks.length := by simpa using hc48
      have hi2 : i < ks'.length := by omega
      obtain ⟨b, o, rfl, -, hr⟩ := h3.at i hi
      obtain ⟨b3, o3, rfl, -, hr2⟩ := h3'.at i hi2
      refine Cod.skip fun a hS => ?_
      refine hK8 _ _ ?_ a hS
      refine Cod.seq fun K10 hK10 => ?_
      refine Cod.block ?_
      refine Cod.seq fun K11 hK11 => ?_
      have F4 := F3.drew
      refine Cod.draw (C_of F4) (by kernel_rfl) ?_
      refine Hops.take 0 rfl (by kernel_rfl) (fun _ _ _ h => h) rfl rfl rfl F4 (fun w F => (yld_field fi33_3 rfl (ev_t rfl))) ?_
      refine Hops.take 1 rfl (by kernel_rfl) (fun _ _ _ h => h) rfl rfl rfl F4 (fun w F => (yld_load1 on22 rfl (ev_t rfl) (fun _ => F.cell 1 rfl rfl))) ?_
      refine Hops.take 2 rfl (by kernel_rfl) (fun _ _ _ h => h) rfl rfl rfl F4 (fun w F => (yld_move rfl (ev_t rfl))) ?_
      refine Hops.take 3 rfl (by kernel_rfl) (fun _ _ _ h => h) rfl rfl rfl F4 (fun w F => (yld_indexN sl22 rfl (ev_t rfl) (ev_t rfl) (fun _ => by omega))) ?_
      refine Hops.take 4 rfl (by kernel_rfl) (fun _ _ _ h => h) rfl rfl rfl F4 (fun w F => (yld_load1 on9 rfl (ev_t rfl) (fun _ => rangeAt_cell (rng hr F.chg) (j := 0) rfl))) ?_
      refine Hops.take 5 rfl (by kernel_rfl) (fun _ _ _ h => h) rfl rfl rfl F4 (fun w F => (yld_field fi33_3 rfl (ev_t rfl))) ?_
      refine Hops.take 6 rfl (by kernel_rfl) (fun _ _ _ h => h) rfl rfl rfl F4 (fun w F => (yld_load1 on22 rfl (ev_t rfl) (fun _ => F.cell 0 rfl rfl))) ?_
      refine Hops.take 7 rfl (by kernel_rfl) (fun _ _ _ h => h) rfl rfl rfl F4 (fun w F => (yld_move rfl (ev_t rfl))) ?_
      refine Hops.take 8 rfl (by kernel_rfl) (fun _ _ _ h => h) rfl rfl rfl F4 (fun w F => (yld_indexN sl22 rfl (ev_t rfl) (ev_t rfl) (fun _ => by omega))) ?_
      refine Hops.take 9 rfl (by kernel_rfl) (fun _ _ _ h => h) rfl rfl rfl F4 (fun w F => (yld_load1 on9 rfl (ev_t rfl) (fun _ => rangeAt_cell (rng hr2 F.chg) (j := 0) rfl))) ?_
      refine Hops.take 10 rfl (by kernel_rfl) (fun _ _ _ h => h) rfl rfl rfl F4 (fun w F => (yld_sneq rfl (ev_t rfl) (ev_t rfl))) ?_
      refine Hops.nil (by kernel_rfl) fun a hS => ?_
      refine hK11 _ _ ?_ a hS
      refine Cod.cond rfl (fun hc61 => ?_) (fun hc61 => ?_)
      · skip
        have hne : Tr.mk k n s ks l ≠ Tr.mk k' n' s' ks' l' := by
          intro h
          obtain ⟨rfl, rfl, rfl, rfl, rfl⟩ := (tr_eq ..).1 h
          simp at hc61
        refine Cod.seq fun K12 hK12 => ?_
        refine Cod.region ?_
        refine Ops.step (One.val rfl rfl rfl (yld_assign rfl ev_c) ?_)
        refine Ops.nil fun a hS => ?_
        refine hK12 _ _ ?_ a hS
        refine Cod.ret fun a hS => ?_
        try simp only [Exit.then, Exit.inBlock]
        exact ret1 (t := 4) rfl hS rfl ⟨by rw [decide_eq_false hne], F4.chg⟩
      · skip
        have hsame : ks[i] = ks'[i] := by simpa using hc61
        refine Cod.skip fun a hS => ?_
        refine hK10 _ _ ?_ a hS
        refine Cod.region ?_
        refine Ops.step (One.val rfl rfl rfl (yld_move rfl (ev_t rfl)) ?_)
        refine Ops.step (One.val rfl rfl rfl (yld_inc rfl (ev_t rfl) (fun _ => by omega)) ?_)
        refine Ops.step (One.val rfl rfl rfl (yld_assign rfl (ev_t rfl)) ?_)
        refine Ops.nil fun a hS => ?_
        exact hK7 (i + 1) _ a (hS.sub ⟨rfl, rfl, rfl, trivial⟩) ⟨by omega, fun j h1 h2 hji => if h : j = i then (by subst h; exact hsame) else hall j h1 h2 (by omega), F4⟩ (by omega)
    · skip
      have heqk : ks = ks' := list_eq_of hlk fun j h1 h2 => hall j h1 h2 (by simp at hc48; omega)
      refine Cod.exit fun a hS => ?_
      simp only [Exit.then, Exit.inBlock, ↓reduceIte]
      refine hK5 _ _ ?_ a hS
      refine Cod.seq fun K13 hK13 => ?_
      refine Cod.seq fun K14 hK14 => ?_
      refine Cod.region ?_
      refine Ops.step (One.val rfl rfl rfl (yld_assign rfl ev_c) ?_)
      refine Ops.nil fun a hS => ?_
      refine hK14 _ _ ?_ a hS
      refine Cod.block ?_
      refine Cod.loop (fun i : Nat => [(2, true, .pointer (some ⟨b1, 0, none⟩)), (3, true, .pointer (some ⟨b2, 0, none⟩)), (6, true, .int .i64 (i : Int))]) (fun i w' => i ≤ l.length ∧ (∀ j (h1 : j < l.length) (h2 : j < l'.length), j < i → l[j] = l'[j]) ∧ Fr No w [blk b2 33 [.int .i64 k', .int .i64 n', .string s', .slice A3' ks'.length c3', .slice A4' l'.length c4'], blk b1 33 [.int .i64 k, .int .i64 n, .string s, .slice A3 ks.length c3, .slice A4 l.length c4]] w') (fun i => l.length - i) 0 ⟨rfl, rfl, rfl, trivial⟩ ⟨Nat.zero_le _, fun j _ _ h => by omega, F3⟩ ?_
      intro i w4 hW K15 hK15
      clear hall hi
      obtain ⟨hi, hall, F5⟩ := hW
      refine Cod.seq fun K16 hK16 => ?_
      refine Cod.seq fun K17 hK17 => ?_
      refine Cod.region ?_
      refine Ops.step (One.val rfl rfl rfl (yld_move rfl (ev_t rfl)) ?_)
      refine Ops.step (One.val rfl rfl rfl (yld_field fi33_4 rfl (ev_t rfl)) ?_)
      refine Ops.step (One.val rfl rfl rfl (yld_load1 on31 rfl (ev_t rfl) (fun _ => F5.cell 1 rfl rfl)) ?_)
      refine Ops.step (One.val rfl rfl rfl (yld_len sl31 rfl (ev_t rfl)) ?_)
      refine Ops.step (One.val rfl rfl rfl (yld_lss rfl (ev_t rfl) (ev_t rfl)) ?_)
      refine Ops.nil fun a hS => ?_
      refine hK17 _ _ ?_ a hS
      refine Cod.cond rfl (fun hc66 => ?_) (fun hc66 => ?_)
      · skip
        have hi : i < l.length := by simpa using hc66
        have hi2 : i < l'.length := by omega
        obtain ⟨b, o, cs, rfl, -, hlc, hr, ht⟩ := h4.at i hi
        obtain ⟨b3, o3, cs2, rfl, -, hlc2, hr2, ht2⟩ := h4'.at i hi2
        refine Cod.skip fun a hS => ?_
        refine hK16 _ _ ?_ a hS
        refine Cod.seq fun K18 hK18 => ?_
        refine Cod.block ?_
        refine Cod.seq fun K19 hK19 => ?_
        have F6 := F5.drew
        refine Cod.draw (C_of F6) (by kernel_rfl) ?_
        refine Hops.take 0 rfl (by kernel_rfl) (fun _ _ _ h => h) rfl rfl rfl F6 (fun w F => (yld_field fi33_4 rfl (ev_t rfl))) ?_
        refine Hops.take 1 rfl (by kernel_rfl) (fun _ _ _ h => h) rfl rfl rfl F6 (fun w F => (yld_load1 on31 rfl (ev_t rfl) (fun _ => F.cell 1 rfl rfl))) ?_
        refine Hops.take 2 rfl (by kernel_rfl) (fun _ _ _ h => h) rfl rfl rfl F6 (fun w F => (yld_move rfl (ev_t rfl))) ?_
        refine Hops.take 3 rfl (by kernel_rfl) (fun _ _ _ h => h) rfl rfl rfl F6 (fun w F => (yld_indexN sl31 rfl (ev_t rfl) (ev_t rfl) (fun _ => by omega))) ?_
        refine Hops.take 4 rfl (by kernel_rfl) (fun _ _ _ h => h) rfl rfl rfl F6 (fun w F => (yld_loadN ag33 rfl (ev_t rfl) (fun _ => rng hr F.chg) hlc)) ?_
        refine Hops.take 5 rfl (by kernel_rfl) (fun _ _ _ h => h) rfl rfl rfl F6 (fun w F => (yld_field fi33_4 rfl (ev_t rfl))) ?_
        refine Hops.take 6 rfl (by kernel_rfl) (fun _ _ _ h => h) rfl rfl rfl F6 (fun w F => (yld_load1 on31 rfl (ev_t rfl) (fun _ => F.cell 0 rfl rfl))) ?_
        refine Hops.take 7 rfl (by kernel_rfl) (fun _ _ _ h => h) rfl rfl rfl F6 (fun w F => (yld_move rfl (ev_t rfl))) ?_
        refine Hops.take 8 rfl (by kernel_rfl) (fun _ _ _ h => h) rfl rfl rfl F6 (fun w F => (yld_indexN sl31 rfl (ev_t rfl) (ev_t rfl) (fun _ => by omega))) ?_
        refine Hops.take 9 rfl (by kernel_rfl) (fun _ _ _ h => h) rfl rfl rfl F6 (fun w F => (yld_loadN ag33 rfl (ev_t rfl) (fun _ => rng hr2 F.chg) hlc2)) ?_
        refine Hops.one 10 rfl (by kernel_rfl) (One.call rfl rfl rfl (ent_f rfl (evl2 (ev_t rfl) (ev_t rfl)) (enters en101)) (H _ (List.getElem_mem hi) l'[i] _ _ _ (ht.chg F6.chg) (ht2.chg F6.chg)) (fun e w5 hw5 => ?_))
        obtain ⟨rfl, C5⟩ := hw5
        have F7 := F6.call C5
        refine ⟨_, rfl, ?_⟩
        refine ⟨F7, ?_⟩
        refine Hops.take 11 rfl (by kernel_rfl) (fun _ _ _ h => h) rfl rfl rfl F7 (fun w F => (yld_not rfl (ev_t rfl))) ?_
        refine Hops.nil (by kernel_rfl) fun a hS => ?_
        refine hK19 _ _ ?_ a hS
        refine Cod.cond rfl (fun hc80 => ?_) (fun hc80 => ?_)
        · skip
          have hne : Tr.mk k n s ks l ≠ Tr.mk k' n' s' ks' l' := by
            intro h
            obtain ⟨rfl, rfl, rfl, rfl, rfl⟩ := (tr_eq ..).1 h
            simp at hc80
          refine Cod.seq fun K20 hK20 => ?_
          refine Cod.region ?_
          refine Ops.step (One.val rfl rfl rfl (yld_assign rfl ev_c) ?_)
          refine Ops.nil fun a hS => ?_
          refine hK20 _ _ ?_ a hS
          refine Cod.ret fun a hS => ?_
          try simp only [Exit.then, Exit.inBlock]
          exact ret1 (t := 4) rfl hS rfl ⟨by rw [decide_eq_false hne], F7.chg⟩
        · skip
          have hsame : l[i] = l'[i] := by simpa using hc80
          refine Cod.skip fun a hS => ?_
          refine hK18 _ _ ?_ a hS
          refine Cod.region ?_
          refine Ops.step (One.val rfl rfl rfl (yld_move rfl (ev_t rfl)) ?_)
          refine Ops.step (One.val rfl rfl rfl (yld_inc rfl (ev_t rfl) (fun _ => by omega)) ?_)
          refine Ops.step (One.val rfl rfl rfl (yld_assign rfl (ev_t rfl)) ?_)
          refine Ops.nil fun a hS => ?_
          exact hK15 (i + 1) _ a (hS.sub ⟨rfl, rfl, rfl, trivial⟩) ⟨by omega, fun j h1 h2 hji => if h : j = i then (by subst h; exact hsame) else hall j h1 h2 (by omega), F7⟩ (by omega)
      · skip
        have heql : l = l' := list_eq_of hll fun j h1 h2 => hall j h1 h2 (by simp at hc66; omega)
        refine Cod.exit fun a hS => ?_
        simp only [Exit.then, Exit.inBlock, ↓reduceIte]
        refine hK13 _ _ ?_ a hS
        refine Cod.seq fun K21 hK21 => ?_
        refine Cod.region ?_
        refine Ops.step (One.val rfl rfl rfl (yld_assign rfl ev_c) ?_)
        refine Ops.nil fun a hS => ?_
        refine hK21 _ _ ?_ a hS
        refine Cod.ret fun a hS => ?_
        try simp only [Exit.then, Exit.inBlock]
        exact ret1 (t := 4) rfl hS rfl ⟨by rw [decide_eq_true ((tr_eq ..).2 ⟨q1, q2, q3, heqk, heql⟩)], F5.chg⟩


theorem specSame_ct (t : Tr) : SameOk 101 t := Tr.ind (p := SameOk 101) specSame_of t

set_option maxRecDepth 100000 in
theorem slEqual_ct (p q : List ByteArray) (v v' : Value) (w : World) (hp : RepS Any w p v) (hq : RepS Any w q v') :
    Calls Tryd.prog 77 #[v, v'] w fun e w' => e = .returned (.bool (decide (p = q))) ∧ Chg No w w' := by
  obtain ⟨A, c, rfl, hn⟩ := hp.open
  obtain ⟨A', c', rfl, hn'⟩ := hq.open
  refine enter Tryd.func77 rfl rfl rfl ?_
  have F0 := Fr.start w
  refine Cod.seq fun K1 hK1 => ?_
  refine Cod.region ?_
  refine Ops.step (One.val rfl rfl rfl (yld_assign rfl ev_c) ?_)
  refine Ops.nil fun a hS => ?_
  refine hK1 _ _ ?_ a hS
  refine Cod.seq fun K2 hK2 => ?_
  refine Cod.seq fun K3 hK3 => ?_
  refine Cod.region ?_
  refine Ops.step (One.val rfl rfl rfl (yld_move rfl (ev_t rfl)) ?_)
  refine Ops.step (One.val rfl rfl rfl (yld_len sl22 rfl (ev_t rfl)) ?_)
  refine Ops.step (One.val rfl rfl rfl (yld_move rfl (ev_t rfl)) ?_)
  refine Ops.step (One.val rfl rfl rfl (yld_len sl22 rfl (ev_t rfl)) ?_)
  refine Ops.step (One.val rfl rfl rfl (yld_neq rfl (ev_t rfl) (ev_t rfl)) ?_)
  refine Ops.nil fun a hS => ?_
  refine hK3 _ _ ?_ a hS
  refine Cod.cond rfl (fun hc10 => ?_) (fun hc10 => ?_)
  · skip
    have hne : p ≠ q := by rintro rfl; simp at hc10
    refine Cod.seq fun K4 hK4 => ?_
    refine Cod.region ?_
    refine Ops.step (One.val rfl rfl rfl (yld_assign rfl ev_c) ?_)
    refine Ops.nil fun a hS => ?_
    refine hK4 _ _ ?_ a hS
    refine Cod.ret fun a hS => ?_
    try simp only [Exit.then, Exit.inBlock]
    exact ret1 (t := 4) rfl hS rfl ⟨by rw [decide_eq_false hne], F0.chg⟩
  · skip
    have hlen : p.length = q.length := by simp at hc10; omega
    refine Cod.skip fun a hS => ?_
    refine hK2 _ _ ?_ a hS
    refine Cod.seq fun K5 hK5 => ?_
    refine Cod.seq fun K6 hK6 => ?_
    refine Cod.region ?_
    refine Ops.step (One.val rfl rfl rfl (yld_move rfl (ev_t rfl)) ?_)
    refine Ops.step (One.val rfl rfl rfl (yld_len sl22 rfl (ev_t rfl)) ?_)
    refine Ops.step (One.val rfl rfl rfl (yld_move rfl ev_c) ?_)
    refine Ops.nil fun a hS => ?_
    refine hK6 _ _ ?_ a hS
    refine Cod.block ?_
    refine Cod.loop (fun i : Nat => [(0, true, .slice A p.length c), (1, true, .slice A' q.length c'), (12, true, .int .i64 (p.length : Int)), (13, true, .int .i64 (i : Int))]) (fun i w' => i ≤ p.length ∧ (∀ j (h1 : j < p.length) (h2 : j < q.length), j < i → p[j] = q[j]) ∧ Fr No w [] w') (fun i => p.length - i) 0 ⟨rfl, rfl, rfl, rfl, trivial⟩ ⟨Nat.zero_le _, fun j _ _ h => by omega, F0⟩ ?_
    intro i w1 hW K7 hK7
    obtain ⟨hi, hall, F1⟩ := hW
    refine Cod.seq fun K8 hK8 => ?_
    refine Cod.region ?_
    refine Ops.step (One.val rfl rfl rfl (yld_lss rfl (ev_t rfl) (ev_t rfl)) ?_)
    refine Ops.nil fun a hS => ?_
    refine hK8 _ _ ?_ a hS
    refine Cod.seq fun K9 hK9 => ?_
    refine Cod.cond rfl (fun hc14 => ?_) (fun hc14 => ?_)
    · skip
      have hi : i < p.length := by simpa using hc14
      have hi2 : i < q.length := by omega
      obtain ⟨b, o, rfl, -, hr⟩ := hp.at i hi
      obtain ⟨b2, o2, rfl, -, hr2⟩ := hq.at i hi2
      refine Cod.skip fun a hS => ?_
      refine hK9 _ _ ?_ a hS
      refine Cod.seq fun K10 hK10 => ?_
      refine Cod.block ?_
      refine Cod.seq fun K11 hK11 => ?_
      refine Cod.region ?_
      refine Ops.step (One.val rfl rfl rfl (yld_move rfl (ev_t rfl)) ?_)
      refine Ops.step (One.val rfl rfl rfl (yld_assign rfl (ev_t rfl)) ?_)
      refine Ops.nil fun a hS => ?_
      refine hK11 _ _ ?_ a hS
      refine Cod.seq fun K12 hK12 => ?_
      have F2 := F1.drew
      refine Cod.draw (C_of F2) (by kernel_rfl) ?_
      refine Hops.take 0 rfl (by kernel_rfl) (fun _ _ _ h => h) rfl rfl rfl F2 (fun w F => (yld_move rfl (ev_t rfl))) ?_
      refine Hops.take 1 rfl (by kernel_rfl) (fun _ _ _ h => h) rfl rfl rfl F2 (fun w F => (yld_move rfl (ev_t rfl))) ?_
      refine Hops.take 2 rfl (by kernel_rfl) (fun _ _ _ h => h) rfl rfl rfl F2 (fun w F => (yld_indexN sl22 rfl (ev_t rfl) (ev_t rfl) (fun _ => by omega))) ?_
      refine Hops.take 3 rfl (by kernel_rfl) (fun _ _ _ h => h) rfl rfl rfl F2 (fun w F => (yld_load1 on9 rfl (ev_t rfl) (fun _ => rangeAt_cell (rng hr F.chg) (j := 0) rfl))) ?_
      refine Hops.take 4 rfl (by kernel_rfl) (fun _ _ _ h => h) rfl rfl rfl F2 (fun w F => (yld_move rfl (ev_t rfl))) ?_
      refine Hops.take 5 rfl (by kernel_rfl) (fun _ _ _ h => h) rfl rfl rfl F2 (fun w F => (yld_move rfl (ev_t rfl))) ?_
      refine Hops.take 6 rfl (by kernel_rfl) (fun _ _ _ h => h) rfl rfl rfl F2 (fun w F => (yld_indexN sl22 rfl (ev_t rfl) (ev_t rfl) (fun _ => by omega))) ?_
      refine Hops.take 7 rfl (by kernel_rfl) (fun _ _ _ h => h) rfl rfl rfl F2 (fun w F => (yld_load1 on9 rfl (ev_t rfl) (fun _ => rangeAt_cell (rng hr2 F.chg) (j := 0) rfl))) ?_
      refine Hops.take 8 rfl (by kernel_rfl) (fun _ _ _ h => h) rfl rfl rfl F2 (fun w F => (yld_sneq rfl (ev_t rfl) (ev_t rfl))) ?_
      refine Hops.nil (by kernel_rfl) fun a hS => ?_
      refine hK12 _ _ ?_ a hS
      refine Cod.cond rfl (fun hc24 => ?_) (fun hc24 => ?_)
      · skip
        have hne : p ≠ q := by rintro rfl; simp at hc24
        refine Cod.seq fun K13 hK13 => ?_
        refine Cod.region ?_
        refine Ops.step (One.val rfl rfl rfl (yld_assign rfl ev_c) ?_)
        refine Ops.nil fun a hS => ?_
        refine hK13 _ _ ?_ a hS
        refine Cod.ret fun a hS => ?_
        try simp only [Exit.then, Exit.inBlock]
        exact ret1 (t := 4) rfl hS rfl ⟨by rw [decide_eq_false hne], F2.chg⟩
      · skip
        have hsame : p[i] = q[i] := by simpa using hc24
        refine Cod.skip fun a hS => ?_
        refine hK10 _ _ ?_ a hS
        refine Cod.region ?_
        refine Ops.step (One.val rfl rfl rfl (yld_inc rfl (ev_t rfl) (fun _ => by omega)) ?_)
        refine Ops.step (One.val rfl rfl rfl (yld_move rfl (ev_t rfl)) ?_)
        refine Ops.nil fun a hS => ?_
        exact hK7 (i + 1) _ a (hS.sub ⟨rfl, rfl, rfl, rfl, trivial⟩) ⟨by omega, fun j h1 h2 hji => if h : j = i then (by subst h; exact hsame) else hall j h1 h2 (by omega), F2⟩ (by omega)
    · skip
      have heq : p = q := list_eq_of hlen fun j h1 h2 => hall j h1 h2 (by simp at hc14; omega)
      refine Cod.exit fun a hS => ?_
      simp only [Exit.then, Exit.inBlock, ↓reduceIte]
      refine hK5 _ _ ?_ a hS
      refine Cod.seq fun K14 hK14 => ?_
      refine Cod.region ?_
      refine Ops.step (One.val rfl rfl rfl (yld_assign rfl ev_c) ?_)
      refine Ops.nil fun a hS => ?_
      refine hK14 _ _ ?_ a hS
      refine Cod.ret fun a hS => ?_
      try simp only [Exit.then, Exit.inBlock]
      exact ret1 (t := 4) rfl hS rfl ⟨by rw [decide_eq_true heq], F1.chg⟩

set_option maxRecDepth 100000 in
theorem equalFunc_of (p q : List Tr) (H : ∀ t ∈ p, SameOk 39 t) (v v' : Value) (w : World) (hp : RepL Any w p v) (hq : RepL Any w q v') :
    Calls Tryd.prog 78 #[v, v', .func (.func 39) #[] #[]] w fun e w' => e = .returned (.bool (decide (p = q))) ∧ Chg No w w' := by
  obtain ⟨A, c, rfl, hn⟩ := hp.open
  obtain ⟨A', c', rfl, hn'⟩ := hq.open
  refine enter Tryd.func78 rfl rfl rfl ?_
  have F0 := Fr.start w
  refine Cod.seq fun K1 hK1 => ?_
  refine Cod.region ?_
  refine Ops.step (One.val rfl rfl rfl (yld_assign rfl ev_c) ?_)
  refine Ops.nil fun a hS => ?_
  refine hK1 _ _ ?_ a hS
  refine Cod.seq fun K2 hK2 => ?_
  refine Cod.seq fun K3 hK3 => ?_
  refine Cod.region ?_
  refine Ops.step (One.val rfl rfl rfl (yld_move rfl (ev_t rfl)) ?_)
  refine Ops.step (One.val rfl rfl rfl (yld_len sl31 rfl (ev_t rfl)) ?_)
  refine Ops.step (One.val rfl rfl rfl (yld_move rfl (ev_t rfl)) ?_)
  refine Ops.step (One.val rfl rfl rfl (yld_len sl31 rfl (ev_t rfl)) ?_)
  refine Ops.step (One.val rfl rfl rfl (yld_neq rfl (ev_t rfl) (ev_t rfl)) ?_)
  refine Ops.nil fun a hS => ?_
  refine hK3 _ _ ?_ a hS
  refine Cod.cond rfl (fun hc14 => ?_) (fun hc14 => ?_)
  · skip
    have hne : p ≠ q := by rintro rfl; simp at hc14
    refine Cod.seq fun K4 hK4 => ?_
    refine Cod.region ?_
    refine Ops.step (One.val rfl rfl rfl (yld_assign rfl ev_c) ?_)
    refine Ops.nil fun a hS => ?_
    refine hK4 _ _ ?_ a hS
    refine Cod.ret fun a hS => ?_
    try simp only [Exit.then, Exit.inBlock]
    exact ret1 (t := 6) rfl hS rfl ⟨by rw [decide_eq_false hne], F0.chg⟩
  · skip
    have hlen : p.length = q.length := by simp at hc14; omega
    refine Cod.skip fun a hS => ?_
    refine hK2 _ _ ?_ a hS
    refine Cod.seq fun K5 hK5 => ?_
    refine Cod.seq fun K6 hK6 => ?_
    refine Cod.region ?_
    refine Ops.step (One.val rfl rfl rfl (yld_move rfl (ev_t rfl)) ?_)
    refine Ops.step (One.val rfl rfl rfl (yld_len sl31 rfl (ev_t rfl)) ?_)
    refine Ops.step (One.val rfl rfl rfl (yld_move rfl ev_c) ?_)
    refine Ops.nil fun a hS => ?_
    refine hK6 _ _ ?_ a hS
    refine Cod.block ?_
    refine Cod.loop (fun i : Nat => [(1, true, .slice A' q.length c'), (2, true, .func (.func 39) #[] #[]), (15, true, .slice A p.length c), (16, true, .int .i64 (p.length : Int)), (17, true, .int .i64 (i : Int))]) (fun i w' => i ≤ p.length ∧ (∀ j (h1 : j < p.length) (h2 : j < q.length), j < i → p[j] = q[j]) ∧ Fr No w [] w') (fun i => p.length - i) 0 ⟨rfl, rfl, rfl, rfl, rfl, trivial⟩ ⟨Nat.zero_le _, fun j _ _ h => by omega, F0⟩ ?_
    intro i w1 hW K7 hK7
    obtain ⟨hi, hall, F1⟩ := hW
    refine Cod.seq fun K8 hK8 => ?_
    refine Cod.region ?_
    refine Ops.step (One.val rfl rfl rfl (yld_lss rfl (ev_t rfl) (ev_t rfl)) ?_)
    refine Ops.nil fun a hS => ?_
    refine hK8 _ _ ?_ a hS
    refine Cod.seq fun K9 hK9 => ?_
    refine Cod.cond rfl (fun hc18 => ?_) (fun hc18 => ?_)
    · skip
      have hi : i < p.length := by simpa using hc18
      have hi2 : i < q.length := by omega
      obtain ⟨b, o, cs, rfl, -, hlc, hr, ht⟩ := hp.at i hi
      obtain ⟨b2, o2, cs2, rfl, -, hlc2, hr2, ht2⟩ := hq.at i hi2
      obtain ⟨y1, y2, y3, y4, y5, rfl⟩ := five hlc
      obtain ⟨z1, z2, z3, z4, z5, rfl⟩ := five hlc2
      refine Cod.skip fun a hS => ?_
      refine hK9 _ _ ?_ a hS
      refine Cod.seq fun K10 hK10 => ?_
      refine Cod.block ?_
      refine Cod.seq fun K11 hK11 => ?_
      refine Cod.region ?_
      refine Ops.step (One.val rfl rfl rfl (yld_move rfl (ev_t rfl)) ?_)
      refine Ops.step (One.val rfl rfl rfl (yld_indexN sl31 rfl (ev_t rfl) (ev_t rfl) (fun _ => by omega)) ?_)
      refine Ops.step (One.val rfl rfl rfl (yld_loadN ag33 rfl (ev_t rfl) (fun _ => rng hr F1.chg) rfl) ?_)
      refine Ops.step (One.alloc F1 zero33 rfl rfl rfl rfl ?_)
      intro b1 w2 hb1 F2
      change Fr _ _ [blk _ _ [_, _, _, _, _]] _ at F2
      refine Ops.step (One.val rfl rfl rfl (yld_assign rfl (ev_t rfl)) ?_)
      refine Ops.step (One.storeN (vs := [_, _, _, _, _]) F2 0 rfl sz33 rfl rfl rfl (ev_t rfl) (ev_t rfl) rfl rfl ht.one ?_)
      intro w3 F3
      change Fr _ _ [blk _ _ [_, _, _, _, _]] _ at F3
      refine Ops.nil fun a hS => ?_
      refine hK11 _ _ ?_ a hS
      refine Cod.seq fun K12 hK12 => ?_
      refine Cod.region ?_
      refine Ops.step (One.val rfl rfl rfl (yld_move rfl (ev_t rfl)) ?_)
      refine Ops.step (One.val rfl rfl rfl (yld_move rfl (ev_t rfl)) ?_)
      refine Ops.step (One.val rfl rfl rfl (yld_indexN sl31 rfl (ev_t rfl) (ev_t rfl) (fun _ => by omega)) ?_)
      refine Ops.step (One.val rfl rfl rfl (yld_loadN ag33 rfl (ev_t rfl) (fun _ => rng hr2 F3.chg) rfl) ?_)
      refine Ops.step (One.alloc F3 zero33 rfl rfl rfl rfl ?_)
      intro b2 w4 hb2 F4
      change Fr _ _ [blk _ _ [_, _, _, _, _], blk _ _ [_, _, _, _, _]] _ at F4
      refine Ops.step (One.storeN (vs := [_, _, _, _, _]) F4 0 rfl sz33 rfl rfl rfl (ev_t rfl) (ev_t rfl) rfl rfl ht2.one ?_)
      intro w5 F5
      change Fr _ _ [blk _ _ [_, _, _, _, _], blk _ _ [_, _, _, _, _]] _ at F5
      refine Ops.nil fun a hS => ?_
      refine hK12 _ _ ?_ a hS
      refine Cod.seq fun K13 hK13 => ?_
      refine Cod.region ?_
      refine Ops.step (One.val rfl rfl rfl (yld_move rfl (ev_t rfl)) ?_)
      refine Ops.step (One.val rfl rfl rfl (yld_loadN ag33 rfl (ev_t rfl) (fun _ => F5.range (m := 5) (cs' := [_, _, _, _, _]) 1 rfl rfl) rfl) ?_)
      refine Ops.step (One.val rfl rfl rfl (yld_loadN ag33 rfl (ev_t rfl) (fun _ => F5.range (m := 5) (cs' := [_, _, _, _, _]) 0 rfl rfl) rfl) ?_)
      refine Ops.step (One.call rfl rfl rfl (ent_c0 rfl (ev_t rfl) (evl2 (ev_t rfl) (ev_t rfl)) (enters en39)) (H _ (List.getElem_mem hi) q[i] _ _ _ (ht.chg F5.chg) (ht2.chg F5.chg)) (fun e w6 hw6 => ?_))
      obtain ⟨rfl, C6⟩ := hw6
      have F6 := F5.call C6
      refine ⟨_, rfl, ?_⟩
      refine Ops.step (One.val rfl rfl rfl (yld_not rfl (ev_t rfl)) ?_)
      refine Ops.nil fun a hS => ?_
      refine hK13 _ _ ?_ a hS
      refine Cod.cond rfl (fun hc30 => ?_) (fun hc30 => ?_)
      · skip
        have hne : p ≠ q := by rintro rfl; simp at hc30
        refine Cod.seq fun K14 hK14 => ?_
        refine Cod.region ?_
        refine Ops.step (One.val rfl rfl rfl (yld_assign rfl ev_c) ?_)
        refine Ops.nil fun a hS => ?_
        refine hK14 _ _ ?_ a hS
        refine Cod.ret fun a hS => ?_
        try simp only [Exit.then, Exit.inBlock]
        exact ret1 (t := 6) rfl hS rfl ⟨by rw [decide_eq_false hne], F6.chg⟩
      · skip
        have hsame : p[i] = q[i] := by simpa using hc30
        refine Cod.skip fun a hS => ?_
        refine hK10 _ _ ?_ a hS
        refine Cod.region ?_
        refine Ops.step (One.val rfl rfl rfl (yld_inc rfl (ev_t rfl) (fun _ => by omega)) ?_)
        refine Ops.step (One.val rfl rfl rfl (yld_move rfl (ev_t rfl)) ?_)
        refine Ops.nil fun a hS => ?_
        exact hK7 (i + 1) _ a (hS.sub ⟨rfl, rfl, rfl, rfl, rfl, trivial⟩) ⟨by omega, fun j h1 h2 hji => if h : j = i then (by subst h; exact hsame) else hall j h1 h2 (by omega), F6.drop1.drop1⟩ (by omega)
    · skip
      have heq : p = q := list_eq_of hlen fun j h1 h2 => hall j h1 h2 (by simp at hc18; omega)
      refine Cod.exit fun a hS => ?_
      simp only [Exit.then, Exit.inBlock, ↓reduceIte]
      refine hK5 _ _ ?_ a hS
      refine Cod.seq fun K15 hK15 => ?_
      refine Cod.region ?_
      refine Ops.step (One.val rfl rfl rfl (yld_assign rfl ev_c) ?_)
      refine Ops.nil fun a hS => ?_
      refine hK15 _ _ ?_ a hS
      refine Cod.ret fun a hS => ?_
      try simp only [Exit.then, Exit.inBlock]
      exact ret1 (t := 6) rfl hS rfl ⟨by rw [decide_eq_true heq], F1.chg⟩

set_option maxRecDepth 100000 in
theorem valSame_of (k n : Int) (s : ByteArray) (ks : List ByteArray) (l : List Tr) (H : ∀ t ∈ l, SameOk 39 t) : SameOk 39 (.mk k n s ks l) := by
  intro t' v v' w hr hr'
  obtain ⟨v3, v4, rfl, h3, h4⟩ := hr.open
  obtain ⟨k', n', s', ks', l'⟩ := t'
  obtain ⟨v3', v4', rfl, h3', h4'⟩ := hr'.open
  refine enter Tryd.func39 rfl rfl rfl ?_
  have F0 := Fr.start w
  refine Cod.seq fun K1 hK1 => ?_
  refine Cod.region ?_
  refine Ops.step (One.box F0 rfl rfl rfl rfl (ev_t rfl) ?_)
  intro b1 w1 hb1 F1
  change Fr _ _ [blk _ _ [_, _, _, _, _]] _ at F1
  refine Ops.step (One.box F1 rfl rfl rfl rfl (ev_t rfl) ?_)
  intro b2 w2 hb2 F2
  change Fr _ _ [blk _ _ [_, _, _, _, _], blk _ _ [_, _, _, _, _]] _ at F2
  refine Ops.step (One.val rfl rfl rfl (yld_assign rfl ev_c) ?_)
  refine Ops.nil fun a hS => ?_
  refine hK1 _ _ ?_ a hS
  refine Cod.seq fun K2 hK2 => ?_
  refine Cod.region ?_
  refine Ops.step (One.val rfl rfl rfl (yld_field fi33_0 rfl (ev_t rfl)) ?_)
  refine Ops.step (One.val rfl rfl rfl (yld_load1 on3 rfl (ev_t rfl) (fun _ => F2.cell 1 rfl rfl)) ?_)
  refine Ops.step (One.val rfl rfl rfl (yld_field fi33_0 rfl (ev_t rfl)) ?_)
  refine Ops.step (One.val rfl rfl rfl (yld_load1 on3 rfl (ev_t rfl) (fun _ => F2.cell 0 rfl rfl)) ?_)
  refine Ops.step (One.val rfl rfl rfl (yld_eql rfl (ev_t rfl) (ev_t rfl)) ?_)
  refine Ops.step (One.val rfl rfl rfl (yld_move rfl (ev_t rfl)) ?_)
  refine Ops.step (One.val (gd_some rfl rfl) rfl rfl (yld_field fi33_1 rfl (ev_t rfl)) ?_)
  refine Ops.step (One.val (gd_some rfl rfl) rfl rfl (yld_load1 on3 rfl (ev_g rfl) (fun _ => F2.cell 1 rfl rfl)) ?_)
  refine Ops.step (One.val (gd_some rfl rfl) rfl rfl (yld_field fi33_1 rfl (ev_t rfl)) ?_)
  refine Ops.step (One.val (gd_some rfl rfl) rfl rfl (yld_load1 on3 rfl (ev_g rfl) (fun _ => F2.cell 0 rfl rfl)) ?_)
  refine Ops.step (One.val (gd_some rfl rfl) rfl rfl (yld_eql rfl (ev_g rfl) (ev_g rfl)) ?_)
  refine Ops.step (One.val rfl rfl rfl (yld_and rfl (ev_t rfl) (ev_g rfl)) ?_)
  refine Ops.step (One.val rfl rfl rfl (yld_move rfl (ev_t rfl)) ?_)
  refine Ops.step (One.val (gd_some rfl rfl) rfl rfl (yld_field fi33_2 rfl (ev_t rfl)) ?_)
  refine Ops.step (One.val (gd_some rfl rfl) rfl rfl (yld_load1 on9 rfl (ev_g rfl) (fun _ => F2.cell 1 rfl rfl)) ?_)
  refine Ops.step (One.val (gd_some rfl rfl) rfl rfl (yld_field fi33_2 rfl (ev_t rfl)) ?_)
  refine Ops.step (One.val (gd_some rfl rfl) rfl rfl (yld_load1 on9 rfl (ev_g rfl) (fun _ => F2.cell 0 rfl rfl)) ?_)
  refine Ops.step (One.val (gd_some rfl rfl) rfl rfl (yld_seql rfl (ev_g rfl) (ev_g rfl)) ?_)
  refine Ops.step (One.val rfl rfl rfl (yld_and rfl (ev_t rfl) (ev_g rfl)) ?_)
  refine Ops.step (One.val rfl rfl rfl (yld_move rfl (ev_t rfl)) ?_)
  refine Ops.step (One.val (gd_some rfl rfl) rfl rfl (yld_field fi33_3 rfl (ev_t rfl)) ?_)
  refine Ops.step (One.val (gd_some rfl rfl) rfl rfl (yld_load1 on22 rfl (ev_g rfl) (fun _ => F2.cell 1 rfl rfl)) ?_)
  refine Ops.step (One.val (gd_some rfl rfl) rfl rfl (yld_field fi33_3 rfl (ev_t rfl)) ?_)
  refine Ops.step (One.val (gd_some rfl rfl) rfl rfl (yld_load1 on22 rfl (ev_g rfl) (fun _ => F2.cell 0 rfl rfl)) ?_)
  refine Ops.step (One.gcall (R := Chg No w2) (gd_some rfl rfl) rfl rfl (ent_f rfl (evl2 (ev_g rfl) (ev_g rfl)) (enters en77)) (Chg.refl _ _) (fun hg => slEqual_ct _ _ _ _ _ (h3.chg F2.chg) (h3'.chg F2.chg)) ?_)
  intro w3 C3
  have F3 := F2.call C3
  refine Ops.step (One.val rfl rfl rfl (yld_and rfl (ev_t rfl) (ev_g rfl)) ?_)
  refine Ops.step (One.val rfl rfl rfl (yld_move rfl (ev_t rfl)) ?_)
  refine Ops.step (One.val (gd_some rfl rfl) rfl rfl (yld_field fi33_4 rfl (ev_t rfl)) ?_)
  refine Ops.step (One.val (gd_some rfl rfl) rfl rfl (yld_load1 on31 rfl (ev_g rfl) (fun _ => F3.cell 1 rfl rfl)) ?_)
  refine Ops.step (One.val (gd_some rfl rfl) rfl rfl (yld_field fi33_4 rfl (ev_t rfl)) ?_)
  refine Ops.step (One.val (gd_some rfl rfl) rfl rfl (yld_load1 on31 rfl (ev_g rfl) (fun _ => F3.cell 0 rfl rfl)) ?_)
  refine Ops.step (One.gcall (R := Chg No w3) (gd_some rfl rfl) rfl rfl (ent_f rfl (evl3 (ev_g rfl) (ev_g rfl) ev_f) (enters en78)) (Chg.refl _ _) (fun hg => equalFunc_of _ _ H _ _ _ (h4.chg F3.chg) (h4'.chg F3.chg)) ?_)
  intro w4 C4
  have F4 := F3.call C4
  refine Ops.step (One.val rfl rfl rfl (yld_and rfl (ev_t rfl) (ev_g rfl)) ?_)
  refine Ops.step (One.val rfl rfl rfl (yld_assign rfl (ev_t rfl)) ?_)
  refine Ops.nil fun a hS => ?_
  refine hK2 _ _ ?_ a hS
  refine Cod.ret fun a hS => ?_
  try simp only [Exit.then, Exit.inBlock]
  exact ret1 (t := 4) rfl hS rfl ⟨ret_b (by rw [Bool.eq_iff_iff]; simp [and_assoc]), F4.chg⟩


theorem valSame_ct (t : Tr) : SameOk 39 t := Tr.ind (p := SameOk 39) valSame_of t

end Go.Proofs.YtpfkcblhojkaiaaDoor.Eng
