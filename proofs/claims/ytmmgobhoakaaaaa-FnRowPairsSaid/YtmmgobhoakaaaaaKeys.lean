/- Walks of both PartKeys: the places or the keys of a tree's parts, as a row. -/
import Derived.Test.YtmmgobhoakaaaaaAt
namespace Go.Proofs.Ytmmgobhoakaaaaa.Eng
open Go.RowKit
set_option linter.unusedVariables false
set_option linter.unusedSimpArgs false
set_option maxHeartbeats 1000000


/-- Trees without memory. -/
def Leaf (rs : List Tr) (xs : List V5) : Prop := xs.length = rs.length ∧ ∀ j (h : j < rs.length) (h' : j < xs.length), ∃ k n s, rs[j] = .mk k n s [] [] ∧ xs[j] = x5 k n s (.slice none 0 0) (.slice none 0 0)
theorem Leaf.nil : Leaf [] [] := ⟨rfl, fun j h => by simp at h⟩
theorem Leaf.snoc {rs : List Tr} {xs : List V5} (h : Leaf rs xs) (k n : Int) (s : ByteArray) : Leaf (rs ++ [.mk k n s [] []]) (xs ++ [x5 k n s (.slice none 0 0) (.slice none 0 0)]) := by
  have hl := h.1
  refine ⟨by simp [hl], fun j h1 h2 => ?_⟩
  by_cases hj : j < rs.length
  · rw [List.getElem_append_left hj, List.getElem_append_left (by omega)]
    exact h.2 j hj (by omega)
  · rw [List.getElem_append_right (by omega), List.getElem_append_right (by omega)]
    refine ⟨k, n, s, ?_, ?_⟩
    · have : j - rs.length = 0 := by simp at h1; omega
      simp [this]
    · have : j - xs.length = 0 := by simp at h1; omega
      simp [this]
theorem Leaf.al {rs : List Tr} {xs : List V5} (h : Leaf rs xs) (w : World) : AL w rs xs := ⟨h.1, fun j h1 h2 => by
  obtain ⟨k, n, s, e1, e2⟩ := h.2 j h1 h2
  rw [e1, e2]
  exact Rep.close (RepE.nil _ _) (RepL.nil _ _)⟩
theorem Leaf.kd {rs : List Tr} {xs : List V5} (h : Leaf rs xs) (w : World) : Kd w No rs xs := by
  have hl := h.1
  refine ⟨fun j => if hj : j < xs.length then xs[j] else z5, fun _ => No, fun j hj => ?_, fun j hj => ?_, fun _ _ _ h => h, fun _ _ _ _ _ h => h.elim, fun _ h => h.elim⟩
  · simp only [dif_pos (show j < xs.length by omega)]
    rw [List.getElem?_eq_getElem]
  · simp only [dif_pos (show j < xs.length by omega)]
    obtain ⟨k, n, s, e1, e2⟩ := h.2 j hj (by omega)
    rw [e1, e2]
    exact sep_leaf w k n s
def keyT (t : Tr) (i : Nat) : Tr := if t.kind = 5 then numT i else strT' (nth t.keys i)
def keysL (t : Tr) (m : Nat) : List Tr := (List.range m).map (keyT t)
def keysT (t : Tr) : Tr := .mk 5 0 ⟨#[]⟩ [] (keysL t t.list.length)
noncomputable def keysR (t : Tr) : Option Tr := if okT t = true ∧ 5 ≤ t.kind then some (keysT t) else none
theorem keysL_step (t : Tr) (i : Nat) : keysL t (i + 1) = keysL t i ++ [keyT t i] := by simp [keysL, List.range_succ]
theorem keyT_ok {t : Tr} (h : okT t = true) (hk : 5 ≤ t.kind) (i : Nat) (hi : i < t.list.length) : Form 5 (keyT t i) ∧ (keyT t i).cnt = 1 ∧ (keyT t i).wt ≤ 12 ∧ (keyT t i).Fit := by
  obtain ⟨h6, hl, hks⟩ := okT_six h
  have hs := okT_short h
  unfold keyT
  by_cases h5 : t.kind = 5
  · rw [if_pos h5]
    refine ⟨.mk (by omega) (leafP (fun h => absurd rfl h) (fun _ => rfl) (fun _ => rfl) (fun _ => rfl) (by omega) (by omega) (by omega) okS_nil) (by simp), ?_, ?_, .mk (Nat.zero_le _) (by simp) (by simp)⟩
    · unfold numT; rw [Tr.cnt_mk]; rfl
    · unfold numT; rw [Tr.wt_mk]; decide
  · rw [if_neg h5]
    have hki := hks i (by have := hl (by omega); omega)
    have hsz := okS_size hki.1
    refine ⟨.mk (by omega) (leafP (fun _ => rfl) (fun h => absurd rfl h) (fun _ => rfl) (fun _ => rfl) (by omega) (by omega) (by omega) hki.1) (by simp), ?_, ?_, .mk (by omega) (by simp) (by simp)⟩
    · unfold strT'; rw [Tr.cnt_mk]; rfl
    · unfold strT'
      rw [Tr.wt_mk]
      show (nth t.keys i).size + (0 + 0) + (0 + 0) ≤ 12
      omega
theorem keysT_ok {t : Tr} (h : okT t = true) (hk : 5 ≤ t.kind) : okT (keysT t) = true ∧ (keysT t).Fit ∧ (keysT t).wt ≤ 1048576 := by
  have hs := okT_short h
  have hm : ∀ x ∈ keysL t t.list.length, ∃ i, i < t.list.length ∧ x = keyT t i := fun x hx => by
    obtain ⟨i, hi, rfl⟩ := List.mem_map.1 hx
    exact ⟨i, by simpa using hi, rfl⟩
  have hll : (keysL t t.list.length).length = t.list.length := by simp [keysL]
  refine ⟨?_, .mk (Nat.zero_le _) (by simp) fun x hx => ?_, ?_⟩
  · unfold okT
    simp only [Bool.and_eq_true, decide_eq_true_eq]
    refine ⟨Form.mk (by omega) (leafP (fun _ => rfl) (fun _ => rfl) (fun _ => rfl) (fun h => by omega) (by omega) (by omega) (by omega) okS_nil) fun x hx => ?_, ?_⟩
    · obtain ⟨i, hi, rfl⟩ := hm x hx
      exact (keyT_ok h hk i hi).1
    · unfold keysT
      rw [Tr.cnt_mk, sumN_one fun x hx => by obtain ⟨i, hi, rfl⟩ := hm x hx; exact (keyT_ok h hk i hi).2.1, hll]
      omega
  · obtain ⟨i, hi, rfl⟩ := hm x hx
    exact (keyT_ok h hk i hi).2.2.2
  · unfold keysT
    rw [Tr.wt_mk, hll]
    have hb := sumN_bound (f := Tr.wt) (b := 12) (l := keysL t t.list.length) fun x hx => by obtain ⟨i, hi, rfl⟩ := hm x hx; exact (keyT_ok h hk i hi).2.2.1
    rw [hll] at hb
    show 0 + (0 + 0) + (t.list.length + _) ≤ _
    omega
theorem keysR_mkn (t : Tr) : ((keysR t).getD zeroT).keys.length + sumN Tr.mkn ((keysR t).getD zeroT).list ≤ 3 * 1048576 + 3 := by
  unfold keysR
  split
  · rename_i h
    exact wt_mkn _ _ (keysT_ok h.1 h.2).2.2
  · show 0 + 0 ≤ _
    omega
theorem told_keys {t : Tr} (h : okT t = true) (hk : 5 ≤ t.kind) : toldR true (keysT t) = some (keysT t) := by
  show (if (true && okT (keysT t)) = true then some (keysT t) else none) = _
  rw [(keysT_ok h hk).1]
  rfl

set_option maxRecDepth 100000 in
theorem keys_ct (t : Tr) (v : Value) (w : World) (hr : Rep Any w t v) (hf : t.Fit) (hw : t.wt ≤ 1048576) : Calls Try.prog 56 #[v] w (Gives w (keysR t)) := by
  obtain ⟨v3, v4, ev, h3, h4⟩ := hr.form
  subst ev
  obtain ⟨A3, c3, rfl, hn3⟩ := h3.open
  obtain ⟨A4, c4, rfl, hn4⟩ := h4.open
  have hwl := t.wt_list
  refine enter Try.func56 rfl rfl rfl ?_
  have F0 := Fr.start w
  refine Cod.seq fun K1 hK1 => ?_
  refine Cod.region ?_
  refine Ops.step (One.box F0 rfl rfl rfl rfl (ev_t rfl) ?_)
  intro b1 w1 hb1 F1
  change Fr _ _ [blk _ _ [_, _, _, _, _]] _ at F1
  refine Ops.step (One.alloc F1 zero26 rfl rfl rfl rfl ?_)
  intro b2 w2 hb2 F2
  change Fr _ _ [blk _ _ [_, _, _, _, _], blk _ _ [_, _, _, _, _]] _ at F2
  refine Ops.step (One.val rfl rfl rfl (yld_assign rfl ev_c) ?_)
  refine Ops.nil fun a hS => ?_
  refine hK1 _ _ ?_ a hS
  refine Cod.seq fun K2 hK2 => ?_
  refine Cod.seq fun K3 hK3 => ?_
  refine Cod.region ?_
  refine Ops.step (One.val rfl rfl rfl (yld_loadN ag26 rfl (ev_t rfl) (fun _ => F2.range (m := 5) (cs' := [_, _, _, _, _]) 1 rfl rfl) rfl) ?_)
  refine Ops.step (One.call rfl rfl rfl (ent_f rfl (evl1 (ev_t rfl)) (enters en36)) (valOk_ct t _ _ (hr.chg F2.chg) hf) (fun e w3 hw3 => ?_))
  obtain ⟨rfl, C3⟩ := hw3
  have F3 := F2.call C3
  refine ⟨_, rfl, ?_⟩
  refine Ops.step (One.val rfl rfl rfl (yld_not rfl (ev_t rfl)) ?_)
  refine Ops.step (One.val rfl rfl rfl (yld_move rfl (ev_t rfl)) ?_)
  refine Ops.step (One.val (gd_some rfl rfl) rfl rfl (yld_field fi26_0 rfl (ev_t rfl)) ?_)
  refine Ops.step (One.val (gd_some rfl rfl) rfl rfl (yld_load1 on3 rfl (ev_g rfl) (fun _ => F3.cell 1 rfl rfl)) ?_)
  refine Ops.step (One.val (gd_some rfl rfl) rfl rfl (yld_lss rfl (ev_g rfl) ev_c) ?_)
  refine Ops.step (One.val rfl rfl rfl (yld_or rfl (ev_t rfl) (ev_g rfl)) ?_)
  refine Ops.nil fun a hS => ?_
  refine hK3 _ _ ?_ a hS
  refine Cod.cond rfl (fun hc13 => ?_) (fun hc13 => ?_)
  · skip
    have hno : keysR t = none := by
      have hc : (!(okT t) || decide (t.kind < 5)) = true := hc13
      unfold keysR
      cases h1 : okT t <;> simp [h1] at hc ⊢
      omega
    refine Cod.seq fun K4 hK4 => ?_
    refine Cod.region ?_
    refine Ops.step (One.val rfl rfl rfl (yld_build (cells := [.int .i64 0, .int .i64 0, .string ⟨#[]⟩, .slice none 0 0, .slice none 0 0]) rfl (evp0) (by kernel_rfl)) ?_)
    refine Ops.step (One.storeN (vs := [_, _, _, _, _]) F3 0 rfl sz26 rfl rfl rfl (ev_t rfl) (ev_t rfl) rfl rfl rfl ?_)
    intro w4 F4
    change Fr _ _ [blk _ _ [_, _, _, _, _], blk _ _ [_, _, _, _, _]] _ at F4
    refine Ops.step (One.val rfl rfl rfl (yld_assign rfl ev_c) ?_)
    refine Ops.nil fun a hS => ?_
    refine hK4 _ _ ?_ a hS
    refine Cod.ret fun a hS => ?_
    try simp only [Exit.then, Exit.inBlock]
    exact retct (t := 2) (u := 3) (ty := 26) rfl hS ag26 rfl rfl (F4.range (m := 5) (cs' := [_, _, _, _, _]) 0 rfl rfl) rfl ⟨z5, No, by rw [hno]; rfl, F4.chg, by rw [hno]; exact sep_leaf _ 0 0 ⟨#[]⟩, fun k hk => hk.elim⟩
  · skip
    have hc : (!(okT t) || decide (t.kind < 5)) = false := hc13
    have hok : okT t = true := by
      cases h1 : okT t <;> simp [h1] at hc ⊢
    have hk5 : 5 ≤ t.kind := by
      rw [hok] at hc
      simp at hc
      omega
    have hyes : keysR t = some (keysT t) := by
      unfold keysR
      rw [if_pos ⟨hok, hk5⟩]
    have hk6 := okT_six hok
    have hlen := okT_short hok
    refine Cod.skip fun a hS => ?_
    refine hK2 _ _ ?_ a hS
    refine Cod.seq fun K5 hK5 => ?_
    refine Cod.region ?_
    refine Ops.step (One.buildNil enc5 F3 sl24 rfl rfl rfl rfl ?_)
    intro b3 w5 hb3 F5
    refine Ops.step (One.val rfl rfl rfl (yld_assign rfl (ev_t rfl)) ?_)
    refine Ops.nil fun a hS => ?_
    refine hK5 _ _ ?_ a hS
    refine Cod.seq fun K6 hK6 => ?_
    refine Cod.seq fun K7 hK7 => ?_
    refine Cod.region ?_
    refine Ops.step (One.val rfl rfl rfl (yld_field fi26_4 rfl (ev_t rfl)) ?_)
    refine Ops.step (One.val rfl rfl rfl (yld_load1 on24 rfl (ev_t rfl) (fun _ => F5.cell 2 rfl rfl)) ?_)
    refine Ops.step (One.val rfl rfl rfl (yld_len sl24 rfl (ev_t rfl)) ?_)
    refine Ops.step (One.val rfl rfl rfl (yld_move rfl ev_c) ?_)
    refine Ops.nil fun a hS => ?_
    refine hK7 _ _ ?_ a hS
    refine Cod.block ?_
    refine Cod.loop (fun i : Nat × List V5 × Value => [(1, true, .pointer (some ⟨b1, 0, none⟩)), (2, true, .pointer (some ⟨b2, 0, none⟩)), (4, true, i.2.2), (18, true, .int .i64 (t.list.length : Int)), (19, true, .int .i64 (i.1 : Int))]) (fun i w' => i.1 ≤ t.list.length ∧ Leaf (keysL t i.1) i.2.1 ∧ Fr No w [own 26 5 i.2.2 i.2.1.length (i.2.1.flatMap enc5), blk b2 26 [.int .i64 0, .int .i64 0, .string ⟨#[]⟩, .slice none 0 0, .slice none 0 0], blk b1 26 [.int .i64 t.kind, .int .i64 t.num, .string t.str, .slice A3 t.keys.length c3, .slice A4 t.list.length c4]] w') (fun i => t.list.length - i.1) (0, [], .slice (some ⟨b3, 0, none⟩) 0 0) ⟨rfl, rfl, rfl, rfl, rfl, trivial⟩ ⟨Nat.zero_le _, Leaf.nil, F5⟩ ?_
    intro i w6 hW K8 hK8
    obtain ⟨i, xs, u⟩ := i
    obtain ⟨hi, hlf, F6⟩ := hW
    dsimp only at *
    have hkl : (keysL t i).length = i := by simp [keysL]
    refine Cod.seq fun K9 hK9 => ?_
    refine Cod.region ?_
    refine Ops.step (One.val rfl rfl rfl (yld_lss rfl (ev_t rfl) (ev_t rfl)) ?_)
    refine Ops.nil fun a hS => ?_
    refine hK9 _ _ ?_ a hS
    refine Cod.seq fun K10 hK10 => ?_
    refine Cod.cond rfl (fun hc20 => ?_) (fun hc20 => ?_)
    · skip
      have hi : i < t.list.length := by simpa using hc20
      have hst : keysL t (i + 1) = keysL t i ++ [keyT t i] := keysL_step t i
      refine Cod.skip fun a hS => ?_
      refine hK10 _ _ ?_ a hS
      refine Cod.seq fun K11 hK11 => ?_
      refine Cod.block ?_
      refine Cod.seq fun K12 hK12 => ?_
      refine Cod.region ?_
      refine Ops.step (One.val rfl rfl rfl (yld_move rfl (ev_t rfl)) ?_)
      refine Ops.step (One.val rfl rfl rfl (yld_assign rfl (ev_t rfl)) ?_)
      refine Ops.nil fun a hS => ?_
      refine hK12 _ _ ?_ a hS
      refine Cod.seq fun K13 hK13 => ?_
      refine Cod.region ?_
      refine Ops.step (One.val rfl rfl rfl (yld_field fi26_0 rfl (ev_t rfl)) ?_)
      refine Ops.step (One.val rfl rfl rfl (yld_load1 on3 rfl (ev_t rfl) (fun _ => F6.cell 2 rfl rfl)) ?_)
      refine Ops.step (One.val rfl rfl rfl (yld_eql rfl (ev_t rfl) ev_c) ?_)
      refine Ops.nil fun a hS => ?_
      refine hK13 _ _ ?_ a hS
      refine Cod.cond rfl (fun hc24 => ?_) (fun hc24 => ?_)
      · skip
        have hk : t.kind = 6 := by simpa using hc24
        have hik : i < t.keys.length := by have := hk6.2.1 (by omega); omega
        obtain ⟨b, o, rfl, -, hr1⟩ := h3.at i hik
        have hlf2 : Leaf (keysL t (i + 1)) (xs ++ [x5 4 0 t.keys[i] (.slice none 0 0) (.slice none 0 0)]) := by rw [hst, keyT, if_neg (by omega), nth_eq hik]; exact hlf.snoc _ _ _
        refine Cod.region ?_
        refine Ops.step (One.val rfl rfl rfl (yld_move rfl (ev_t rfl)) ?_)
        refine Ops.step (One.val rfl rfl rfl (yld_field fi26_3 rfl (ev_t rfl)) ?_)
        refine Ops.step (One.val rfl rfl rfl (yld_load1 on23 rfl (ev_t rfl) (fun _ => F6.cell 2 rfl rfl)) ?_)
        refine Ops.step (One.val rfl rfl rfl (yld_move rfl (ev_t rfl)) ?_)
        refine Ops.step (One.val rfl rfl rfl (yld_indexN sl23 rfl (ev_t rfl) (ev_t rfl) (fun _ => by omega)) ?_)
        refine Ops.step (One.val rfl rfl rfl (yld_load1 on9 rfl (ev_t rfl) (fun _ => rangeAt_cell (rng hr1 F6.chg) (j := 0) rfl)) ?_)
        refine Ops.step (One.call rfl rfl rfl (ent_f rfl (evl1 (ev_t rfl)) (enters en94)) (str_ct _ _) (fun e w7 hw7 => ?_))
        obtain ⟨rfl, C7⟩ := hw7
        have F7 := F6.call C7
        refine ⟨_, rfl, ?_⟩
        refine Ops.step (One.buildSlice (cells := (enc5 (x5 4 0 t.keys[i] (.slice none 0 0) (.slice none 0 0)))) F7 sl24 zero26 rfl rfl rfl rfl (evp1 (ev_t rfl)) rfl rfl (by kernel_rfl) ?_)
        intro b4 w8 hb4 F8
        refine Ops.step (One.append (enc := enc5) [x5 4 0 t.keys[i] (.slice none 0 0) (.slice none 0 0)] F8 1 rfl sl24 zero26 rfl rfl (fun _ => rfl) rfl rfl rfl rfl (ev_t rfl) (ev_t rfl) ((blk_rep (enc := enc5) (sz := 5) (xs := [x5 4 0 t.keys[i] (.slice none 0 0) (.slice none 0 0)]) (fun _ => rfl) (F8.get 0 rfl) (by simp) (by simp)).weak fun _ _ => trivial) (one_all rfl) (by have := hlf.1; rw [hkl] at this; simp; omega) (by have := hlf.1; rw [hkl] at this; simp; omega) ?_)
        intro u2 w9 hu2 F9
        change Fr _ _ [_, _, blk _ _ [_, _, _, _, _], blk _ _ [_, _, _, _, _]] _ at F9
        refine Ops.step (One.val rfl rfl rfl (yld_assign rfl (ev_t rfl)) ?_)
        refine Ops.nil fun a hS => ?_
        refine hK11 _ _ ?_ a hS
        refine Cod.region ?_
        refine Ops.step (One.val rfl rfl rfl (yld_inc rfl (ev_t rfl) (fun _ => by omega)) ?_)
        refine Ops.step (One.val rfl rfl rfl (yld_move rfl (ev_t rfl)) ?_)
        refine Ops.nil fun a hS => ?_
        refine hK8 (i + 1, _, u2) _ a (hS.sub ⟨rfl, rfl, rfl, rfl, rfl, trivial⟩) ⟨by show i + 1 ≤ _; omega, hlf2, F9.drop1⟩ (by show t.list.length - (i + 1) < t.list.length - i; omega)
      · skip
        have hk : t.kind = 5 := by simp at hc24; omega
        have hlf2 : Leaf (keysL t (i + 1)) (xs ++ [x5 3 (i : Int) ⟨#[]⟩ (.slice none 0 0) (.slice none 0 0)]) := by rw [hst, keyT, if_pos hk]; exact hlf.snoc _ _ _
        refine Cod.region ?_
        refine Ops.step (One.val rfl rfl rfl (yld_move rfl (ev_t rfl)) ?_)
        refine Ops.step (One.val rfl rfl rfl (yld_move rfl (ev_t rfl)) ?_)
        refine Ops.step (One.call rfl rfl rfl (ent_f rfl (evl1 (ev_t rfl)) (enters en95)) (num_ct _ _) (fun e w10 hw10 => ?_))
        obtain ⟨rfl, C10⟩ := hw10
        have F10 := F6.call C10
        refine ⟨_, rfl, ?_⟩
        refine Ops.step (One.buildSlice (cells := (enc5 (x5 3 (i : Int) ⟨#[]⟩ (.slice none 0 0) (.slice none 0 0)))) F10 sl24 zero26 rfl rfl rfl rfl (evp1 (ev_t rfl)) rfl rfl (by kernel_rfl) ?_)
        intro b5 w11 hb5 F11
        refine Ops.step (One.append (enc := enc5) [x5 3 (i : Int) ⟨#[]⟩ (.slice none 0 0) (.slice none 0 0)] F11 1 rfl sl24 zero26 rfl rfl (fun _ => rfl) rfl rfl rfl rfl (ev_t rfl) (ev_t rfl) ((blk_rep (enc := enc5) (sz := 5) (xs := [x5 3 (i : Int) ⟨#[]⟩ (.slice none 0 0) (.slice none 0 0)]) (fun _ => rfl) (F11.get 0 rfl) (by simp) (by simp)).weak fun _ _ => trivial) (one_all rfl) (by have := hlf.1; rw [hkl] at this; simp; omega) (by have := hlf.1; rw [hkl] at this; simp; omega) ?_)
        intro u2 w12 hu2 F12
        change Fr _ _ [_, _, blk _ _ [_, _, _, _, _], blk _ _ [_, _, _, _, _]] _ at F12
        refine Ops.step (One.val rfl rfl rfl (yld_assign rfl (ev_t rfl)) ?_)
        refine Ops.nil fun a hS => ?_
        refine hK11 _ _ ?_ a hS
        refine Cod.region ?_
        refine Ops.step (One.val rfl rfl rfl (yld_inc rfl (ev_t rfl) (fun _ => by omega)) ?_)
        refine Ops.step (One.val rfl rfl rfl (yld_move rfl (ev_t rfl)) ?_)
        refine Ops.nil fun a hS => ?_
        refine hK8 (i + 1, _, u2) _ a (hS.sub ⟨rfl, rfl, rfl, rfl, rfl, trivial⟩) ⟨by show i + 1 ≤ _; omega, hlf2, F12.drop1⟩ (by show t.list.length - (i + 1) < t.list.length - i; omega)
    · skip
      obtain rfl : i = t.list.length := by simp at hc20; omega
      refine Cod.exit fun a hS => ?_
      simp only [Exit.then, Exit.inBlock, ↓reduceIte]
      refine hK6 _ _ ?_ a hS
      refine Cod.seq fun K14 hK14 => ?_
      refine Cod.region ?_
      refine Ops.step (One.val rfl rfl rfl (yld_move rfl (ev_t rfl)) ?_)
      refine Ops.step (One.call rfl rfl rfl (ent_f rfl (evl1 (ev_t rfl)) (enters en76)) (row_ct u _ (own_form (F6.get 0 rfl))) (fun e w13 hw13 => ?_))
      obtain ⟨rfl, C13⟩ := hw13
      have F13 := F6.call C13
      refine ⟨_, rfl, ?_⟩
      refine Ops.step (One.call rfl rfl rfl (ent_f rfl (evl2 (ev_t rfl) ev_c) (enters en75)) (told_ct (keysT t) true _ _ (Rep.close (RepE.nil _ _) ((hlf.al _).repL (F13.get 0 rfl))) (keysT_ok hok hk5).2.1 (keysT_ok hok hk5).2.2) (fun e w14 hw14 => ?_))
      rw [told_keys hok hk5] at hw14
      obtain ⟨x1, G1, rfl, C14, hs1, hb1⟩ := hw14
      have F14 := F13.new C14 (sep G1 _ x1.val) hs1 hb1
      refine ⟨_, rfl, ?_⟩
      refine Ops.step (One.val rfl rfl rfl (yld_extract rfl (ev_t rfl) rfl) ?_)
      refine Ops.step (One.val rfl rfl rfl (yld_extract rfl (ev_t rfl) rfl) ?_)
      refine Ops.step (One.storeN (vs := [_, _, _, _, _]) F14 2 rfl sz26 rfl rfl rfl (ev_t rfl) (ev_t rfl) rfl rfl hs1.one ?_)
      intro w15 F15
      change Fr _ _ [_, _, blk _ _ [_, _, _, _, _], blk _ _ [_, _, _, _, _]] _ at F15
      refine Ops.step (One.val rfl rfl rfl (yld_assign rfl (ev_t rfl)) ?_)
      refine Ops.nil fun a hS => ?_
      refine hK14 _ _ ?_ a hS
      refine Cod.ret fun a hS => ?_
      try simp only [Exit.then, Exit.inBlock]
      exact retct (t := 2) (u := 3) (ty := 26) rfl hS ag26 rfl rfl (F15.range (m := 5) (cs' := [_, _, _, _, _]) 2 rfl rfl) rfl ⟨x1, G1, by rw [hyes]; rfl, F15.chg, by rw [hyes]; exact F15.get 0 rfl, fun b hb => (F15.dom _ (List.mem_of_getElem? (i := 0) rfl) b hb).resolve_left id⟩

end Go.Proofs.Ytmmgobhoakaaaaa.Eng
