/- Walks of both RowHas and what they call: whether a tree is a row, and whether another is one of its elements. -/
import Derived.Test.YtodbflfelimppaaSame
import Derived.Test.YtodbflfelimppaaIsRow
namespace Go.Proofs.Ytodbflfelimppaa.Eng
open Go.RowKit
set_option linter.unusedVariables false
set_option linter.unusedSimpArgs false
set_option maxHeartbeats 1000000


noncomputable def hasB (t u : Tr) : Bool := rowT t && okT u
noncomputable def hasA (t u : Tr) : Bool := if hasB t u = true then t.list.any (fun y => decide (u = y)) else false

set_option maxRecDepth 100000 in
theorem hasFn_ct (t u : Tr) (v v' : Value) (cs : List Value) (b ty : Nat) (w : World) (hr : Rep Any w t v) (hb : (blk b ty cs).is w) (hr' : Rep Any w u (.agg cs.toArray)) (hl : cs.length = 5) :
    Calls Try.prog 83 #[v, .pointer (some ⟨b, 0, none⟩)] w fun e w' => e = .returned (.bool (decide (u = t))) ∧ Chg No w w' := by
  obtain ⟨v3, v4, ev, -, -⟩ := hr.form
  subst ev
  have hrg : w.rangeAt b 0 cs := blk_range hb (q := 0) (m := cs.length) (by simp)
  refine enter Try.func83 rfl rfl rfl ?_
  have F0 := Fr.start w
  refine Cod.seq fun K1 hK1 => ?_
  refine Cod.region ?_
  refine Ops.step (One.box F0 rfl rfl rfl rfl (ev_t rfl) ?_)
  intro b1 w1 hb1 F1
  change Fr _ _ [blk _ _ [_, _, _, _, _]] _ at F1
  refine Ops.step (One.val rfl rfl rfl (yld_assign rfl ev_c) ?_)
  refine Ops.nil fun a hS => ?_
  refine hK1 _ _ ?_ a hS
  refine Cod.seq fun K2 hK2 => ?_
  refine Cod.region ?_
  refine Ops.step (One.val rfl rfl rfl (yld_loadN ag31 rfl (ev_t rfl) (fun _ => rng hrg F1.chg) hl) ?_)
  refine Ops.step (One.val rfl rfl rfl (yld_loadN ag31 rfl (ev_t rfl) (fun _ => F1.range (m := 5) (cs' := [_, _, _, _, _]) 0 rfl rfl) rfl) ?_)
  refine Ops.step (One.call rfl rfl rfl (ent_f rfl (evl2 (ev_t rfl) (ev_t rfl)) (enters en27)) (valSame_ct u t _ _ _ (hr'.chg F1.chg) (hr.chg F1.chg)) (fun e w2 hw2 => ?_))
  obtain ⟨rfl, C2⟩ := hw2
  have F2 := F1.call C2
  refine ⟨_, rfl, ?_⟩
  refine Ops.step (One.val rfl rfl rfl (yld_assign rfl (ev_t rfl)) ?_)
  refine Ops.nil fun a hS => ?_
  refine hK2 _ _ ?_ a hS
  refine Cod.ret fun a hS => ?_
  try simp only [Exit.then, Exit.inBlock]
  exact ret1 (t := 3) rfl hS rfl ⟨rfl, F2.chg⟩

set_option maxRecDepth 100000 in
theorem indexFunc_of (p : List Tr) (cv : Array Value) (g : Tr → Bool) (v : Value) (w : World) (hp : RepL Any w p v)
    (H : ∀ t ∈ p, ∀ v w', Chg No w w' → Rep Any w' t v → Calls Try.prog 83 (#[v] ++ cv) w' fun e w2 => e = .returned (.bool (g t)) ∧ Chg No w' w2) :
    Calls Try.prog 125 #[v, .func (.func 83) #[] cv] w fun e w' => ∃ r : Int, e = .returned (.int .i64 r) ∧ decide (0 ≤ r) = p.any g ∧ Chg No w w' := by
  obtain ⟨A, c, rfl, hn⟩ := hp.open
  refine enter Try.func125 rfl rfl rfl ?_
  have F0 := Fr.start w
  refine Cod.seq fun K1 hK1 => ?_
  refine Cod.region ?_
  refine Ops.step (One.val rfl rfl rfl (yld_assign rfl ev_c) ?_)
  refine Ops.nil fun a hS => ?_
  refine hK1 _ _ ?_ a hS
  refine Cod.seq fun K2 hK2 => ?_
  refine Cod.seq fun K3 hK3 => ?_
  refine Cod.region ?_
  refine Ops.step (One.val rfl rfl rfl (yld_move rfl (ev_t rfl)) ?_)
  refine Ops.step (One.val rfl rfl rfl (yld_len sl29 rfl (ev_t rfl)) ?_)
  refine Ops.step (One.val rfl rfl rfl (yld_move rfl ev_c) ?_)
  refine Ops.nil fun a hS => ?_
  refine hK3 _ _ ?_ a hS
  refine Cod.block ?_
  refine Cod.loop (fun i : Nat => [(0, true, .slice A p.length c), (1, true, .func (.func 83) #[] cv), (7, true, .int .i64 (p.length : Int)), (8, true, .int .i64 (i : Int))]) (fun i w' => i ≤ p.length ∧ p.any g = (p.drop i).any g ∧ Fr No w [] w') (fun i => p.length - i) 0 ⟨rfl, rfl, rfl, rfl, trivial⟩ ⟨Nat.zero_le _, rfl, F0⟩ ?_
  intro i w1 hW K4 hK4
  obtain ⟨hi, hall, F1⟩ := hW
  refine Cod.seq fun K5 hK5 => ?_
  refine Cod.region ?_
  refine Ops.step (One.val rfl rfl rfl (yld_lss rfl (ev_t rfl) (ev_t rfl)) ?_)
  refine Ops.nil fun a hS => ?_
  refine hK5 _ _ ?_ a hS
  refine Cod.seq fun K6 hK6 => ?_
  refine Cod.cond rfl (fun hc9 => ?_) (fun hc9 => ?_)
  · skip
    have hi : i < p.length := by simpa using hc9
    obtain ⟨b, o, cs, rfl, -, hlc, hr, ht⟩ := hp.at i hi
    refine Cod.skip fun a hS => ?_
    refine hK6 _ _ ?_ a hS
    refine Cod.seq fun K7 hK7 => ?_
    refine Cod.block ?_
    refine Cod.seq fun K8 hK8 => ?_
    refine Cod.region ?_
    refine Ops.step (One.val rfl rfl rfl (yld_move rfl (ev_t rfl)) ?_)
    refine Ops.step (One.val rfl rfl rfl (yld_assign rfl (ev_t rfl)) ?_)
    refine Ops.nil fun a hS => ?_
    refine hK8 _ _ ?_ a hS
    refine Cod.seq fun K9 hK9 => ?_
    refine Cod.region ?_
    refine Ops.step (One.val rfl rfl rfl (yld_move rfl (ev_t rfl)) ?_)
    refine Ops.step (One.val rfl rfl rfl (yld_move rfl (ev_t rfl)) ?_)
    refine Ops.step (One.val rfl rfl rfl (yld_move rfl (ev_t rfl)) ?_)
    refine Ops.step (One.val rfl rfl rfl (yld_indexN sl29 rfl (ev_t rfl) (ev_t rfl) (fun _ => by omega)) ?_)
    refine Ops.step (One.val rfl rfl rfl (yld_loadN ag31 rfl (ev_t rfl) (fun _ => rng hr F1.chg) hlc) ?_)
    refine Ops.step (One.call rfl rfl rfl (ent_c rfl (ev_t rfl) (evl1 (ev_t rfl)) (enters en83)) (H _ (List.getElem_mem hi) _ _ F1.chg (ht.chg F1.chg)) (fun e w2 hw2 => ?_))
    obtain ⟨rfl, C2⟩ := hw2
    have F2 := F1.call C2
    refine ⟨_, rfl, ?_⟩
    refine Ops.nil fun a hS => ?_
    refine hK9 _ _ ?_ a hS
    refine Cod.cond rfl (fun hc16 => ?_) (fun hc16 => ?_)
    · skip
      refine Cod.seq fun K10 hK10 => ?_
      refine Cod.region ?_
      refine Ops.step (One.val rfl rfl rfl (yld_move rfl (ev_t rfl)) ?_)
      refine Ops.step (One.val rfl rfl rfl (yld_assign rfl (ev_t rfl)) ?_)
      refine Ops.nil fun a hS => ?_
      refine hK10 _ _ ?_ a hS
      refine Cod.ret fun a hS => ?_
      try simp only [Exit.then, Exit.inBlock]
      exact ret1 (t := 4) rfl hS rfl ⟨_, rfl, by rw [hall, List.drop_eq_getElem_cons hi, List.any_cons, hc16]; simp, F2.chg⟩
    · skip
      refine Cod.skip fun a hS => ?_
      refine hK7 _ _ ?_ a hS
      refine Cod.region ?_
      refine Ops.step (One.val rfl rfl rfl (yld_inc rfl (ev_t rfl) (fun _ => by omega)) ?_)
      refine Ops.step (One.val rfl rfl rfl (yld_move rfl (ev_t rfl)) ?_)
      refine Ops.nil fun a hS => ?_
      exact hK4 (i + 1) _ a (hS.sub ⟨rfl, rfl, rfl, rfl, trivial⟩) ⟨by omega, by rw [hall, List.drop_eq_getElem_cons hi, List.any_cons, hc16, Bool.false_or], F2⟩ (by omega)
  · skip
    obtain rfl : i = p.length := by simp at hc9; omega
    rw [List.drop_length] at hall
    refine Cod.exit fun a hS => ?_
    simp only [Exit.then, Exit.inBlock, ↓reduceIte]
    refine hK2 _ _ ?_ a hS
    refine Cod.seq fun K11 hK11 => ?_
    refine Cod.region ?_
    refine Ops.step (One.val rfl rfl rfl (yld_assign rfl ev_c) ?_)
    refine Ops.nil fun a hS => ?_
    refine hK11 _ _ ?_ a hS
    refine Cod.ret fun a hS => ?_
    try simp only [Exit.then, Exit.inBlock]
    exact ret1 (t := 4) rfl hS rfl ⟨_, rfl, by rw [hall]; simp, F1.chg⟩

set_option maxRecDepth 100000 in
theorem containsFunc_of (p : List Tr) (cv : Array Value) (g : Tr → Bool) (v : Value) (w : World) (hp : RepL Any w p v)
    (H : ∀ t ∈ p, ∀ v w', Chg No w w' → Rep Any w' t v → Calls Try.prog 83 (#[v] ++ cv) w' fun e w2 => e = .returned (.bool (g t)) ∧ Chg No w' w2) :
    Calls Try.prog 82 #[v, .func (.func 83) #[] cv] w fun e w' => e = .returned (.bool (p.any g)) ∧ Chg No w w' := by
  refine enter Try.func82 rfl rfl rfl ?_
  have F0 := Fr.start w
  refine Cod.seq fun K1 hK1 => ?_
  refine Cod.region ?_
  refine Ops.step (One.val rfl rfl rfl (yld_assign rfl ev_c) ?_)
  refine Ops.nil fun a hS => ?_
  refine hK1 _ _ ?_ a hS
  refine Cod.seq fun K2 hK2 => ?_
  refine Cod.region ?_
  refine Ops.step (One.val rfl rfl rfl (yld_move rfl (ev_t rfl)) ?_)
  refine Ops.step (One.val rfl rfl rfl (yld_move rfl (ev_t rfl)) ?_)
  refine Ops.step (One.call rfl rfl rfl (ent_f rfl (evl2 (ev_t rfl) (ev_t rfl)) (enters en125)) (indexFunc_of p cv g v _ (hp.chg F0.chg) (fun t ht v w2 hc hr => H t ht v w2 (F0.chg.trans hc) hr)) (fun e w1 hw1 => ?_))
  obtain ⟨r, rfl, hrd, C1⟩ := hw1
  have F1 := F0.call C1
  refine ⟨_, rfl, ?_⟩
  refine Ops.step (One.val rfl rfl rfl (yld_geq rfl (ev_t rfl) ev_c) ?_)
  refine Ops.step (One.val rfl rfl rfl (yld_assign rfl (ev_t rfl)) ?_)
  refine Ops.nil fun a hS => ?_
  refine hK2 _ _ ?_ a hS
  refine Cod.ret fun a hS => ?_
  try simp only [Exit.then, Exit.inBlock]
  exact ret1 (t := 4) rfl hS rfl ⟨by rw [hrd], F1.chg⟩

set_option maxRecDepth 100000 in
theorem rowHas_ct (t u : Tr) (v v' : Value) (w : World) (hr : Rep Any w t v) (hr' : Rep Any w u v') (hf : t.Fit) (hf' : u.Fit) :
    Calls Try.prog 31 #[v, v'] w fun e w' => e = .returned (.tuple #[.bool (hasA t u), .bool (hasB t u)]) ∧ Chg No w w' := by
  obtain ⟨v3, v4, ev, h3, h4⟩ := hr.form
  subst ev
  obtain ⟨v3', v4', ev', h3', h4'⟩ := hr'.form
  subst ev'
  refine enter Try.func31 rfl rfl rfl ?_
  have F0 := Fr.start w
  refine Cod.seq fun K1 hK1 => ?_
  refine Cod.region ?_
  refine Ops.step (One.box F0 rfl rfl rfl rfl (ev_t rfl) ?_)
  intro b1 w1 hb1 F1
  change Fr _ _ [blk _ _ [_, _, _, _, _]] _ at F1
  refine Ops.step (One.box F1 rfl rfl rfl rfl (ev_t rfl) ?_)
  intro b2 w2 hb2 F2
  change Fr _ _ [blk _ _ [_, _, _, _, _], blk _ _ [_, _, _, _, _]] _ at F2
  refine Ops.step (One.val rfl rfl rfl (yld_assign rfl ev_c) ?_)
  refine Ops.step (One.val rfl rfl rfl (yld_assign rfl ev_c) ?_)
  refine Ops.nil fun a hS => ?_
  refine hK1 _ _ ?_ a hS
  refine Cod.seq fun K2 hK2 => ?_
  refine Cod.seq fun K3 hK3 => ?_
  refine Cod.region ?_
  refine Ops.step (One.val rfl rfl rfl (yld_loadN ag31 rfl (ev_t rfl) (fun _ => F2.range (m := 5) (cs' := [_, _, _, _, _]) 1 rfl rfl) rfl) ?_)
  refine Ops.step (One.call rfl rfl rfl (ent_f rfl (evl1 (ev_t rfl)) (enters en81)) (isRow_ct t _ _ (hr.chg F2.chg) hf) (fun e w3 hw3 => ?_))
  obtain ⟨rfl, C3⟩ := hw3
  have F3 := F2.call C3
  refine ⟨_, rfl, ?_⟩
  refine Ops.step (One.val rfl rfl rfl (yld_not rfl (ev_t rfl)) ?_)
  refine Ops.step (One.val rfl rfl rfl (yld_move rfl (ev_t rfl)) ?_)
  refine Ops.step (One.val (gd_some rfl rfl) rfl rfl (yld_loadN ag31 rfl (ev_t rfl) (fun _ => F3.range (m := 5) (cs' := [_, _, _, _, _]) 0 rfl rfl) rfl) ?_)
  refine Ops.step (One.gcall (R := Chg No w3) (gd_some rfl rfl) rfl rfl (ent_f rfl (evl1 (ev_g rfl)) (enters en43)) (Chg.refl _ _) (fun hg => valOk_ct u _ _ (hr'.chg F3.chg) hf') ?_)
  intro w4 C4
  have F4 := F3.call C4
  refine Ops.step (One.val (gd_some rfl rfl) rfl rfl (yld_not rfl (ev_g rfl)) ?_)
  refine Ops.step (One.val rfl rfl rfl (yld_or rfl (ev_t rfl) (ev_g rfl)) ?_)
  refine Ops.nil fun a hS => ?_
  refine hK3 _ _ ?_ a hS
  refine Cod.cond rfl (fun hc13 => ?_) (fun hc13 => ?_)
  · skip
    have hc : (!(rowT t) || !(okT u)) = true := hc13
    have hno : hasB t u = false := by
      unfold hasB
      cases h1 : rowT t <;> cases h2 : okT u <;> simp [h1, h2] at hc ⊢
    have hno2 : hasA t u = false := by unfold hasA; rw [if_neg (by rw [hno]; simp)]
    refine Cod.seq fun K4 hK4 => ?_
    refine Cod.region ?_
    refine Ops.step (One.val rfl rfl rfl (yld_assign rfl ev_c) ?_)
    refine Ops.step (One.val rfl rfl rfl (yld_assign rfl ev_c) ?_)
    refine Ops.nil fun a hS => ?_
    refine hK4 _ _ ?_ a hS
    refine Cod.ret fun a hS => ?_
    try simp only [Exit.then, Exit.inBlock]
    exact ret2 (t := 4) (u := 5) rfl hS rfl rfl ⟨by rw [hno, hno2], F4.chg⟩
  · skip
    have hc : (!(rowT t) || !(okT u)) = false := hc13
    have hyes : hasB t u = true := by
      unfold hasB
      cases h1 : rowT t <;> cases h2 : okT u <;> simp [h1, h2] at hc ⊢
    have hyes2 : hasA t u = t.list.any (fun y => decide (u = y)) := by unfold hasA; rw [if_pos hyes]
    refine Cod.skip fun a hS => ?_
    refine hK2 _ _ ?_ a hS
    refine Cod.seq fun K5 hK5 => ?_
    refine Cod.region ?_
    refine Ops.step (One.val rfl rfl rfl (yld_field fi31_4 rfl (ev_t rfl)) ?_)
    refine Ops.step (One.val rfl rfl rfl (yld_load1 on29 rfl (ev_t rfl) (fun _ => F4.cell 1 rfl rfl)) ?_)
    refine Ops.step (One.val rfl rfl rfl (yld_func rfl (evl1 (ev_t rfl))) ?_)
    refine Ops.step (One.call rfl rfl rfl (ent_f rfl (evl2 (ev_t rfl) (ev_t rfl)) (enters en82)) (containsFunc_of t.list _ (fun y => decide (u = y)) _ _ (h4.chg F4.chg) (fun y hy vy w2 hc hry => by
    have hb := (blk b2 31 _).keep _ _ (fun k hk _ => hc.block k hk id) (F4.get 0 rfl)
    have := hasFn_ct y u vy v4' _ b2 _ w2 hry hb ((hr'.chg F4.chg).chg hc) rfl
    simpa using this)) (fun e w5 hw5 => ?_))
    obtain ⟨rfl, C5⟩ := hw5
    have F5 := F4.call C5
    refine ⟨_, rfl, ?_⟩
    refine Ops.step (One.val rfl rfl rfl (yld_assign rfl (ev_t rfl)) ?_)
    refine Ops.step (One.val rfl rfl rfl (yld_assign rfl ev_c) ?_)
    refine Ops.nil fun a hS => ?_
    refine hK5 _ _ ?_ a hS
    refine Cod.ret fun a hS => ?_
    try simp only [Exit.then, Exit.inBlock]
    exact ret2 (t := 4) (u := 5) rfl hS rfl rfl ⟨by rw [hyes, hyes2], F5.chg⟩

set_option maxRecDepth 100000 in
theorem specHas_ct (t u : Tr) (v v' : Value) (w : World) (hr : Rep Any w t v) (hr' : Rep Any w u v') (hf : t.Fit) (hf' : u.Fit) (hw : t.wt ≤ 1048576) (hw' : u.wt ≤ 1048576) :
    Calls Try.prog 32 #[v, v'] w fun e w' => e = .returned (.tuple #[.bool (hasA t u), .bool (hasB t u)]) ∧ Chg No w w' := by
  obtain ⟨v3, v4, ev, h3, h4⟩ := hr.form
  subst ev
  obtain ⟨v3', v4', ev', h3', h4'⟩ := hr'.form
  subst ev'
  refine enter Try.func32 rfl rfl rfl ?_
  have F0 := Fr.start w
  refine Cod.seq fun K1 hK1 => ?_
  refine Cod.region ?_
  refine Ops.step (One.box F0 rfl rfl rfl rfl (ev_t rfl) ?_)
  intro b1 w1 hb1 F1
  change Fr _ _ [blk _ _ [_, _, _, _, _]] _ at F1
  refine Ops.step (One.box F1 rfl rfl rfl rfl (ev_t rfl) ?_)
  intro b2 w2 hb2 F2
  change Fr _ _ [blk _ _ [_, _, _, _, _], blk _ _ [_, _, _, _, _]] _ at F2
  refine Ops.step (One.val rfl rfl rfl (yld_assign rfl ev_c) ?_)
  refine Ops.step (One.val rfl rfl rfl (yld_assign rfl ev_c) ?_)
  refine Ops.nil fun a hS => ?_
  refine hK1 _ _ ?_ a hS
  refine Cod.seq fun K2 hK2 => ?_
  refine Cod.seq fun K3 hK3 => ?_
  refine Cod.region ?_
  refine Ops.step (One.val rfl rfl rfl (yld_loadN ag31 rfl (ev_t rfl) (fun _ => F2.range (m := 5) (cs' := [_, _, _, _, _]) 1 rfl rfl) rfl) ?_)
  refine Ops.step (One.call rfl rfl rfl (ent_f rfl (evl1 (ev_t rfl)) (enters en84)) (l4Row_ct t _ _ (hr.chg F2.chg) hf hw) (fun e w3 hw3 => ?_))
  obtain ⟨rfl, C3⟩ := hw3
  have F3 := F2.call C3
  refine ⟨_, rfl, ?_⟩
  refine Ops.step (One.val rfl rfl rfl (yld_not rfl (ev_t rfl)) ?_)
  refine Ops.step (One.val rfl rfl rfl (yld_move rfl (ev_t rfl)) ?_)
  refine Ops.step (One.val (gd_some rfl rfl) rfl rfl (yld_loadN ag31 rfl (ev_t rfl) (fun _ => F3.range (m := 5) (cs' := [_, _, _, _, _]) 0 rfl rfl) rfl) ?_)
  refine Ops.step (One.gcall (R := Chg No w3) (gd_some rfl rfl) rfl rfl (ent_f rfl (evl1 (ev_g rfl)) (enters en42)) (Chg.refl _ _) (fun hg => specOk_ct u _ _ (hr'.chg F3.chg) hf' hw') ?_)
  intro w4 C4
  have F4 := F3.call C4
  refine Ops.step (One.val (gd_some rfl rfl) rfl rfl (yld_not rfl (ev_g rfl)) ?_)
  refine Ops.step (One.val rfl rfl rfl (yld_or rfl (ev_t rfl) (ev_g rfl)) ?_)
  refine Ops.nil fun a hS => ?_
  refine hK3 _ _ ?_ a hS
  refine Cod.cond rfl (fun hc14 => ?_) (fun hc14 => ?_)
  · skip
    have hc : (!(rowT t) || !(okT u)) = true := hc14
    have hno : hasB t u = false := by
      unfold hasB
      cases h1 : rowT t <;> cases h2 : okT u <;> simp [h1, h2] at hc ⊢
    have hno2 : hasA t u = false := by unfold hasA; rw [if_neg (by rw [hno]; simp)]
    refine Cod.seq fun K4 hK4 => ?_
    refine Cod.region ?_
    refine Ops.step (One.val rfl rfl rfl (yld_assign rfl ev_c) ?_)
    refine Ops.step (One.val rfl rfl rfl (yld_assign rfl ev_c) ?_)
    refine Ops.nil fun a hS => ?_
    refine hK4 _ _ ?_ a hS
    refine Cod.ret fun a hS => ?_
    try simp only [Exit.then, Exit.inBlock]
    exact ret2 (t := 4) (u := 5) rfl hS rfl rfl ⟨by rw [hno, hno2], F4.chg⟩
  · skip
    have hc : (!(rowT t) || !(okT u)) = false := hc14
    have hyes : hasB t u = true := by
      unfold hasB
      cases h1 : rowT t <;> cases h2 : okT u <;> simp [h1, h2] at hc ⊢
    have hyes2 : hasA t u = t.list.any (fun y => decide (u = y)) := by unfold hasA; rw [if_pos hyes]
    obtain ⟨A4, c4, rfl, hn4⟩ := h4.open
    refine Cod.skip fun a hS => ?_
    refine hK2 _ _ ?_ a hS
    refine Cod.seq fun K5 hK5 => ?_
    refine Cod.seq fun K6 hK6 => ?_
    refine Cod.region ?_
    refine Ops.step (One.val rfl rfl rfl (yld_assign rfl ev_c) ?_)
    refine Ops.nil fun a hS => ?_
    refine hK6 _ _ ?_ a hS
    refine Cod.block ?_
    refine Cod.loop (fun i : Nat => [(2, true, .pointer (some ⟨b1, 0, none⟩)), (3, true, .pointer (some ⟨b2, 0, none⟩)), (6, true, .int .i64 (i : Int))]) (fun i w' => i ≤ t.list.length ∧ t.list.any (fun y => decide (u = y)) = (t.list.drop i).any (fun y => decide (u = y)) ∧ Fr No w [blk b2 31 [.int .i64 u.kind, .int .i64 u.num, .string u.str, v3', v4'], blk b1 31 [.int .i64 t.kind, .int .i64 t.num, .string t.str, v3, .slice A4 t.list.length c4]] w') (fun i => t.list.length - i) 0 ⟨rfl, rfl, rfl, trivial⟩ ⟨Nat.zero_le _, rfl, F4⟩ ?_
    intro i w5 hW K7 hK7
    obtain ⟨hi, hall, F5⟩ := hW
    refine Cod.seq fun K8 hK8 => ?_
    refine Cod.seq fun K9 hK9 => ?_
    refine Cod.region ?_
    refine Ops.step (One.val rfl rfl rfl (yld_move rfl (ev_t rfl)) ?_)
    refine Ops.step (One.val rfl rfl rfl (yld_field fi31_4 rfl (ev_t rfl)) ?_)
    refine Ops.step (One.val rfl rfl rfl (yld_load1 on29 rfl (ev_t rfl) (fun _ => F5.cell 1 rfl rfl)) ?_)
    refine Ops.step (One.val rfl rfl rfl (yld_len sl29 rfl (ev_t rfl)) ?_)
    refine Ops.step (One.val rfl rfl rfl (yld_lss rfl (ev_t rfl) (ev_t rfl)) ?_)
    refine Ops.nil fun a hS => ?_
    refine hK9 _ _ ?_ a hS
    refine Cod.cond rfl (fun hc19 => ?_) (fun hc19 => ?_)
    · skip
      have hi : i < t.list.length := by simpa using hc19
      obtain ⟨b, o, cs, rfl, -, hlc, hr1, ht⟩ := h4.at i hi
      refine Cod.skip fun a hS => ?_
      refine hK8 _ _ ?_ a hS
      refine Cod.seq fun K10 hK10 => ?_
      refine Cod.block ?_
      refine Cod.seq fun K11 hK11 => ?_
      have F6 := F5.drew
      refine Cod.draw (C_of F6) (by kernel_rfl) ?_
      refine Hops.take 0 rfl (by kernel_rfl) (fun _ _ _ h => h) rfl rfl rfl F6 (fun w F => (yld_field fi31_4 rfl (ev_t rfl))) ?_
      refine Hops.take 1 rfl (by kernel_rfl) (fun _ _ _ h => h) rfl rfl rfl F6 (fun w F => (yld_load1 on29 rfl (ev_t rfl) (fun _ => F.cell 1 rfl rfl))) ?_
      refine Hops.take 2 rfl (by kernel_rfl) (fun _ _ _ h => h) rfl rfl rfl F6 (fun w F => (yld_move rfl (ev_t rfl))) ?_
      refine Hops.take 3 rfl (by kernel_rfl) (fun _ _ _ h => h) rfl rfl rfl F6 (fun w F => (yld_indexN sl29 rfl (ev_t rfl) (ev_t rfl) (fun _ => by omega))) ?_
      refine Hops.take 4 rfl (by kernel_rfl) (fun _ _ _ h => h) rfl rfl rfl F6 (fun w F => (yld_loadN ag31 rfl (ev_t rfl) (fun _ => rng hr1 F.chg) hlc)) ?_
      refine Hops.take 5 rfl (by kernel_rfl) (fun _ _ _ h => h) rfl rfl rfl F6 (fun w F => (yld_loadN ag31 rfl (ev_t rfl) (fun _ => F.range (m := 5) (cs' := [_, _, _, _, _]) 0 rfl rfl) rfl)) ?_
      refine Hops.one 6 rfl (by kernel_rfl) (One.call rfl rfl rfl (ent_f rfl (evl2 (ev_t rfl) (ev_t rfl)) (enters en85)) (specSame_ct t.list[i] u _ _ _ (ht.chg F6.chg) (hr'.chg F6.chg)) (fun e w6 hw6 => ?_))
      obtain ⟨rfl, C6⟩ := hw6
      have F7 := F6.call C6
      refine ⟨_, rfl, ?_⟩
      refine ⟨F7, ?_⟩
      refine Hops.nil (by kernel_rfl) fun a hS => ?_
      refine hK11 _ _ ?_ a hS
      refine Cod.cond rfl (fun hc28 => ?_) (fun hc28 => ?_)
      · skip
        have hey : decide (u = t.list[i]) = true := by simpa [eq_comm] using hc28
        refine Cod.seq fun K12 hK12 => ?_
        refine Cod.region ?_
        refine Ops.step (One.val rfl rfl rfl (yld_assign rfl ev_c) ?_)
        refine Ops.step (One.val rfl rfl rfl (yld_assign rfl ev_c) ?_)
        refine Ops.nil fun a hS => ?_
        refine hK12 _ _ ?_ a hS
        refine Cod.ret fun a hS => ?_
        try simp only [Exit.then, Exit.inBlock]
        exact ret2 (t := 4) (u := 5) rfl hS rfl rfl ⟨by rw [hyes, hyes2, hall, List.drop_eq_getElem_cons hi, List.any_cons, hey, Bool.true_or], F7.chg⟩
      · skip
        have hne : decide (u = t.list[i]) = false := by simpa [eq_comm] using hc28
        refine Cod.skip fun a hS => ?_
        refine hK10 _ _ ?_ a hS
        refine Cod.region ?_
        refine Ops.step (One.val rfl rfl rfl (yld_move rfl (ev_t rfl)) ?_)
        refine Ops.step (One.val rfl rfl rfl (yld_inc rfl (ev_t rfl) (fun _ => by omega)) ?_)
        refine Ops.step (One.val rfl rfl rfl (yld_assign rfl (ev_t rfl)) ?_)
        refine Ops.nil fun a hS => ?_
        exact hK7 (i + 1) _ a (hS.sub ⟨rfl, rfl, rfl, trivial⟩) ⟨by omega, by rw [hall, List.drop_eq_getElem_cons hi, List.any_cons, hne, Bool.false_or], F7⟩ (by omega)
    · skip
      obtain rfl : i = t.list.length := by simp at hc19; omega
      rw [List.drop_length] at hall
      refine Cod.exit fun a hS => ?_
      simp only [Exit.then, Exit.inBlock, ↓reduceIte]
      refine hK5 _ _ ?_ a hS
      refine Cod.seq fun K13 hK13 => ?_
      refine Cod.region ?_
      refine Ops.step (One.val rfl rfl rfl (yld_assign rfl ev_c) ?_)
      refine Ops.step (One.val rfl rfl rfl (yld_assign rfl ev_c) ?_)
      refine Ops.nil fun a hS => ?_
      refine hK13 _ _ ?_ a hS
      refine Cod.ret fun a hS => ?_
      try simp only [Exit.then, Exit.inBlock]
      exact ret2 (t := 4) (u := 5) rfl hS rfl rfl ⟨by rw [hyes, hyes2, hall]; rfl, F5.chg⟩

end Go.Proofs.Ytodbflfelimppaa.Eng
