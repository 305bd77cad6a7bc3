/- Walks of both RowPairs: the keys of a tree with its parts, as rows of two. -/
import Derived.Test.YtmmgobhoakaaaaaAt
namespace Go.Proofs.Ytmmgobhoakaaaaa.Eng
open Go.RowKit
set_option linter.unusedVariables false
set_option linter.unusedSimpArgs false
set_option maxHeartbeats 1000000




def ALF (F : Nat → Prop) (w : World) (rs : List Tr) (xs : List V5) : Prop := xs.length = rs.length ∧ ∀ j (h : j < rs.length) (h' : j < xs.length), Rep F w rs[j] xs[j].val
theorem ALF.al {F w rs xs} (h : ALF F w rs xs) : AL w rs xs := ⟨h.1, fun j h1 h2 => (h.2 j h1 h2).weak fun _ _ => trivial⟩
theorem ALF.weak {F G : Nat → Prop} {w rs xs} (h : ALF F w rs xs) (hfg : ∀ k, F k → G k) : ALF G w rs xs := ⟨h.1, fun j h1 h2 => (h.2 j h1 h2).weak hfg⟩
theorem ALF.snoc {F : Nat → Prop} {w rs xs} (h : ALF F w rs xs) {t : Tr} {x : V5} (hx : Rep F w t x.val) : ALF F w (rs ++ [t]) (xs ++ [x]) := by
  have he := h.1
  refine ⟨by simp [he], fun j h1 h2 => ?_⟩
  by_cases hj : j < rs.length
  · rw [List.getElem_append_left hj, List.getElem_append_left (by omega)]
    exact h.2 j hj (by omega)
  · rw [List.getElem_append_right (by omega), List.getElem_append_right (by omega)]
    have e1 : j - rs.length = 0 := by simp at h1; omega
    have e2 : j - xs.length = 0 := by simp at h1; omega
    simp only [e1, e2]
    exact hx
/-- Trees that lie in what was there and in blocks of G. -/
def alR (w0 : World) (G : Nat → Prop) (rs : List Tr) (xs : List V5) : Res where
  fp := G
  is w := (∀ k, G k → k < w.heap.size) ∧ ∃ u : World, (∀ k, k < w0.heap.size → u.heap[k]? = w0.heap[k]?) ∧ ALF (fun k => k < w0.heap.size ∨ G k) u rs xs ∧ ∀ k, G k → w.heap[k]? = u.heap[k]?
  keep w w' h hi := by
    obtain ⟨h1, u, h2, h3, h4⟩ := hi
    exact ⟨lt_keep h1 h, u, h2, h3, fun k hk => (h k (h1 k hk) hk).trans (h4 k hk)⟩
  lt w hi := hi.1
theorem alR.use {w0 w : World} {G : Nat → Prop} {rs xs} (h : (alR w0 G rs xs).is w) (hc : Chg No w0 w) : ALF (fun k => k < w0.heap.size ∨ G k) w rs xs := by
  obtain ⟨h1, u, h2, h3, h4⟩ := h
  refine ⟨h3.1, fun j a b => (h3.2 j a b).keep fun k hk hF => ?_⟩
  rcases hF with hF | hF
  · rw [hc.block k hF id, h2 k hF]
  · exact h4 k hF
theorem Fr.al0 {X : Nat → Prop} {w0 w w1 : World} {L : List Res} {r : Res} (h : Fr X w0 (r :: L) w) : Fr X w0 (r :: alR w1 No [] [] :: L) w := by
  obtain ⟨h1, h2, h3⟩ := h.mem
  refine h.tell _ ⟨h1, fun k hk q hq hqk => ?_, ⟨fun k hk => hk.elim, w1, fun _ _ => rfl, ⟨rfl, fun j hj => by simp at hj⟩, fun k hk => hk.elim⟩, fun k hk => hk.elim, h3⟩ fun q hq k hk => ?_
  · rcases List.mem_cons.1 hq with rfl | hq
    · exact hqk.elim
    · exact h2 k hk q hq hqk
  · rcases List.mem_cons.1 hq with rfl | hq
    · exact ⟨_, List.mem_cons_self .., hk⟩
    · rcases List.mem_cons.1 hq with rfl | hq
      · exact hk.elim
      · exact ⟨q, by simp [hq], hk⟩
/-- One more, in a block of its own. -/
theorem Fr.alIn {w0 w : World} {L : List Res} {r : Res} {G : Nat → Prop} {b ty : Nat} {cells : List Value} {rs : List Tr} {xs : List V5} {t : Tr} {x : V5} (h : Fr No w0 (blk b ty cells :: r :: alR w0 G rs xs :: L) w) (ht : Rep (fun k => k < w0.heap.size ∨ k = b) w t x.val) : Fr No w0 (r :: alR w0 (fun k => G k ∨ k = b) (rs ++ [t]) (xs ++ [x]) :: L) w := by
  obtain ⟨h1, h2, h3, h4, h5, h6, h7⟩ := h.mem
  have hal := alR.use h5 h.chg
  refine h.tell _ ⟨h3, fun k hk q hq hqk => ?_, ⟨fun k hk => ?_, w, fun k hk => h.chg.block k hk id, (hal.weak fun k hk => by rcases hk with hk | hk; exact .inl hk; exact .inr (.inl hk)).snoc (ht.weak fun k hk => by rcases hk with hk | hk; exact .inl hk; exact .inr (.inr hk)), fun _ _ => rfl⟩, fun k hk q hq hqk => ?_, h7⟩ fun q hq k hk => ?_
  · rcases List.mem_cons.1 hq with rfl | hq
    · rcases hqk with hqk | hqk
      · exact h4 k hk (alR w0 G rs xs) (by simp) hqk
      · exact h2 k hqk r (by simp) hk
    · exact h4 k hk q (by simp [hq]) hqk
  · rcases hk with hk | hk
    · exact (alR w0 G rs xs).lt w h5 k hk
    · exact (blk b ty cells).lt w h1 k hk
  · rcases hk with hk | hk
    · exact h6 k hk q hq hqk
    · exact h2 k hk q (by simp [hq]) hqk
  · rcases List.mem_cons.1 hq with rfl | hq
    · exact ⟨q, by simp, hk⟩
    · rcases List.mem_cons.1 hq with rfl | hq
      · rcases hk with hk | hk
        · exact ⟨alR w0 G rs xs, by simp, hk⟩
        · exact ⟨blk b ty cells, by simp, hk⟩
      · exact ⟨q, by simp [hq], hk⟩
theorem repL_ofE {F : Nat → Prop} {w : World} {rs : List Tr} {xs : List V5} {v : Value} (h : RepE enc5 5 F w xs v) (ha : ALF F w rs xs) : RepL F w rs v := by
  obtain ⟨A, c, e1, e2, e3, e4⟩ := h
  rw [ha.1] at e1 e2
  refine ⟨A, c, fun i => if hi : i < xs.length then enc5 xs[i] else enc5 z5, e1, e2, e3, fun hm => ?_, fun i hi => ?_⟩
  · obtain ⟨b, o, e5, eF, e6⟩ := e4 (by intro e; rw [e] at ha; have := ha.1; simp at this; omega)
    refine ⟨b, o, e5, eF, fun i hi => ?_⟩
    have hi' : i < xs.length := by rw [ha.1]; exact hi
    simp only [dif_pos hi']
    exact ⟨rfl, e6 i hi'⟩
  · have hi' : i < xs.length := by rw [ha.1]; exact hi
    simp only [dif_pos hi']
    rw [enc5_val]
    exact ha.2 i hi hi'
def pairT (k : ByteArray) (x : Tr) : Tr := .mk 5 0 ⟨#[]⟩ [] [strT' k, x]
def nthT (l : List Tr) (i : Nat) : Tr := l.getD i zeroT
def pairsL (t : Tr) (m : Nat) : List Tr := (List.range m).map fun i => pairT (nth t.keys i) (nthT t.list i)
def pairsT (t : Tr) : Tr := .mk 5 0 ⟨#[]⟩ [] (pairsL t t.list.length)
noncomputable def pairsR (t : Tr) : Option Tr := if okT t = true ∧ t.kind = 6 then toldR true (pairsT t) else none
theorem pairsL_step (t : Tr) (i : Nat) : pairsL t (i + 1) = pairsL t i ++ [pairT (nth t.keys i) (nthT t.list i)] := by simp [pairsL, List.range_succ]
theorem nthP {t : Tr} {i : Nat} (h : i < t.keys.length) (h' : i < t.list.length) : pairT (nth t.keys i) (nthT t.list i) = pairT t.keys[i] t.list[i] := by rw [nth_eq h]; simp [nthT, h']
theorem pair_wt (k : ByteArray) (x : Tr) : (pairT k x).wt = 2 + k.size + x.wt := by
  unfold pairT strT'
  rw [Tr.wt_mk, sumN_cons, sumN_cons, Tr.wt_mk]
  show 0 + (0 + 0) + (2 + (k.size + (0 + 0) + (0 + 0) + (x.wt + 0))) = _
  omega
theorem pairs_sum (t : Tr) : ∀ m, m ≤ t.keys.length → m ≤ t.list.length → sumN Tr.wt (pairsL t m) = 2 * m + sumN ByteArray.size (t.keys.take m) + sumN Tr.wt (t.list.take m)
  | 0, _, _ => by simp [pairsL, sumN]
  | m + 1, h1, h2 => by
    rw [pairsL_step, sumNa, pairs_sum t m (by omega) (by omega), sumN_take _ _ _ (show m < t.keys.length by omega), sumN_take _ _ _ (show m < t.list.length by omega), nthP (by omega) (by omega)]
    rw [sumN_cons, pair_wt]
    show _ + (_ + 0) = _
    omega
theorem pairsT_wt {t : Tr} (h : okT t = true) (hl : t.keys.length = t.list.length) : (pairsT t).wt ≤ 1048576 := by
  obtain ⟨h1, h2⟩ := okT_node h
  have h3 := form_wt h1
  have h4 := t.wt_list
  have h5 := pairs_sum t t.list.length (by omega) (Nat.le_refl _)
  have h6 : (pairsL t t.list.length).length = t.list.length := by simp [pairsL]
  have h7 := t.wt_keys
  unfold pairsT
  rw [Tr.wt_mk, h5, h6, List.take_length, ← hl, List.take_length]
  show 0 + (0 + 0) + _ ≤ _
  omega
theorem pairsT_fit {t : Tr} (hf : t.Fit) (hl : t.keys.length = t.list.length) : (pairsT t).Fit := .mk (Nat.zero_le _) (by simp) fun x hx => by
  obtain ⟨i, hi, rfl⟩ := List.mem_map.1 hx
  have hi' : i < t.list.length := by simpa using hi
  rw [nthP (by omega) hi']
  refine .mk (Nat.zero_le _) (by simp) fun y hy => ?_
  rcases (by simpa using hy : y = strT' t.keys[i] ∨ y = t.list[i]) with rfl | rfl
  · exact .mk (hf.keys _ (List.getElem_mem _)) (by simp) (by simp)
  · exact hf.list _ (List.getElem_mem _)
theorem pairsR_mkn (t : Tr) : ((pairsR t).getD zeroT).keys.length + sumN Tr.mkn ((pairsR t).getD zeroT).list ≤ 3 * 1048576 + 3 := by
  unfold pairsR
  split
  · rename_i h
    have h1 := pairsT_wt h.1 (okT_len h.1 h.2)
    unfold toldR
    split
    · exact wt_mkn _ _ h1
    · show 0 + 0 ≤ _
      omega
  · show 0 + 0 ≤ _
    omega

set_option maxRecDepth 100000 in
theorem pairs_ct (t : Tr) (v : Value) (w : World) (hr : Rep Any w t v) (hf : t.Fit) (hw : t.wt ≤ 1048576) : Calls Try.prog 29 #[v] w (Gives w (pairsR t)) := by
  obtain ⟨v3, v4, ev, h3, h4⟩ := hr.form
  subst ev
  obtain ⟨A3, c3, rfl, hn3⟩ := h3.open
  obtain ⟨A4, c4, rfl, hn4⟩ := h4.open
  have hwl := t.wt_list
  refine enter Try.func29 rfl rfl rfl ?_
  have F0 := Fr.start w
  refine Cod.seq fun K1 hK1 => ?_
  refine Cod.region ?_
  refine Ops.step (One.box F0 rfl rfl rfl rfl (ev_t rfl) ?_)
  intro b1 w1 hb1 F1
  change Fr _ _ [blk _ _ [_, _, _, _, _]] _ at F1
  refine Ops.step (One.alloc F1 zero26 rfl rfl rfl rfl ?_)
  intro b2 w2 hb2 F2
  change Fr _ _ [blk _ _ [_, _, _, _, _], blk _ _ [_, _, _, _, _]] _ at F2
  refine Ops.step (One.val rfl rfl rfl (yld_assign rfl ev_c) ?_)
  refine Ops.nil fun a hS => ?_
  refine hK1 _ _ ?_ a hS
  refine Cod.seq fun K2 hK2 => ?_
  refine Cod.seq fun K3 hK3 => ?_
  refine Cod.region ?_
  refine Ops.step (One.val rfl rfl rfl (yld_loadN ag26 rfl (ev_t rfl) (fun _ => F2.range (m := 5) (cs' := [_, _, _, _, _]) 1 rfl rfl) rfl) ?_)
  refine Ops.step (One.call rfl rfl rfl (ent_f rfl (evl1 (ev_t rfl)) (enters en36)) (valOk_ct t _ _ (hr.chg F2.chg) hf) (fun e w3 hw3 => ?_))
  obtain ⟨rfl, C3⟩ := hw3
  have F3 := F2.call C3
  refine ⟨_, rfl, ?_⟩
  refine Ops.step (One.val rfl rfl rfl (yld_not rfl (ev_t rfl)) ?_)
  refine Ops.step (One.val rfl rfl rfl (yld_move rfl (ev_t rfl)) ?_)
  refine Ops.step (One.val (gd_some rfl rfl) rfl rfl (yld_field fi26_0 rfl (ev_t rfl)) ?_)
  refine Ops.step (One.val (gd_some rfl rfl) rfl rfl (yld_load1 on3 rfl (ev_g rfl) (fun _ => F3.cell 1 rfl rfl)) ?_)
  refine Ops.step (One.val (gd_some rfl rfl) rfl rfl (yld_neq rfl (ev_g rfl) ev_c) ?_)
  refine Ops.step (One.val rfl rfl rfl (yld_or rfl (ev_t rfl) (ev_g rfl)) ?_)
  refine Ops.nil fun a hS => ?_
  refine hK3 _ _ ?_ a hS
  refine Cod.cond rfl (fun hc14 => ?_) (fun hc14 => ?_)
  · skip
    have hno : pairsR t = none := by
      have hc : (!(okT t) || (t.kind != 6)) = true := hc14
      unfold pairsR
      cases h1 : okT t <;> simp [h1] at hc ⊢
      exact fun h => absurd h hc
    refine Cod.seq fun K4 hK4 => ?_
    refine Cod.region ?_
    refine Ops.step (One.val rfl rfl rfl (yld_build (cells := [.int .i64 0, .int .i64 0, .string ⟨#[]⟩, .slice none 0 0, .slice none 0 0]) rfl (evp0) (by kernel_rfl)) ?_)
    refine Ops.step (One.storeN (vs := [_, _, _, _, _]) F3 0 rfl sz26 rfl rfl rfl (ev_t rfl) (ev_t rfl) rfl rfl rfl ?_)
    intro w4 F4
    change Fr _ _ [blk _ _ [_, _, _, _, _], blk _ _ [_, _, _, _, _]] _ at F4
    refine Ops.step (One.val rfl rfl rfl (yld_assign rfl ev_c) ?_)
    refine Ops.nil fun a hS => ?_
    refine hK4 _ _ ?_ a hS
    refine Cod.ret fun a hS => ?_
    try simp only [Exit.then, Exit.inBlock]
    exact retct (t := 2) (u := 3) (ty := 26) rfl hS ag26 rfl rfl (F4.range (m := 5) (cs' := [_, _, _, _, _]) 0 rfl rfl) rfl ⟨z5, No, by rw [hno]; rfl, F4.chg, by rw [hno]; exact sep_leaf _ 0 0 ⟨#[]⟩, fun k hk => hk.elim⟩
  · skip
    have hc : (!(okT t) || (t.kind != 6)) = false := hc14
    have hok : okT t = true := by
      cases h1 : okT t <;> simp [h1] at hc ⊢
    have hk6 : t.kind = 6 := by
      rw [hok] at hc
      simpa using hc
    have hyes : pairsR t = toldR true (pairsT t) := by
      unfold pairsR
      rw [if_pos ⟨hok, hk6⟩]
    have hkl := okT_len hok hk6
    have hpw := pairsT_wt hok hkl
    have hpf := pairsT_fit hf hkl
    refine Cod.skip fun a hS => ?_
    refine hK2 _ _ ?_ a hS
    refine Cod.seq fun K5 hK5 => ?_
    refine Cod.region ?_
    refine Ops.step (One.buildNil enc5 F3 sl24 rfl rfl rfl rfl ?_)
    intro b3 w5 hb3 F5
    refine Ops.step (One.val rfl rfl rfl (yld_assign rfl (ev_t rfl)) ?_)
    refine Ops.nil fun a hS => ?_
    refine hK5 _ _ ?_ a hS
    refine Cod.seq fun K6 hK6 => ?_
    refine Cod.seq fun K7 hK7 => ?_
    refine Cod.region ?_
    refine Ops.step (One.val rfl rfl rfl (yld_field fi26_4 rfl (ev_t rfl)) ?_)
    refine Ops.step (One.val rfl rfl rfl (yld_load1 on24 rfl (ev_t rfl) (fun _ => F5.cell 2 rfl rfl)) ?_)
    refine Ops.step (One.val rfl rfl rfl (yld_len sl24 rfl (ev_t rfl)) ?_)
    refine Ops.step (One.val rfl rfl rfl (yld_move rfl ev_c) ?_)
    refine Ops.nil fun a hS => ?_
    refine hK7 _ _ ?_ a hS
    refine Cod.block ?_
    refine Cod.loop (fun i : Nat × List V5 × Value × (Nat → Prop) => [(1, true, .pointer (some ⟨b1, 0, none⟩)), (2, true, .pointer (some ⟨b2, 0, none⟩)), (4, true, i.2.2.1), (18, true, .slice A4 t.list.length c4), (19, true, .int .i64 (t.list.length : Int)), (20, true, .int .i64 (i.1 : Int))]) (fun i w' => i.1 ≤ t.list.length ∧ i.2.1.length = i.1 ∧ Fr No w [own 26 5 i.2.2.1 i.2.1.length (i.2.1.flatMap enc5), alR w i.2.2.2 (pairsL t i.1) i.2.1, blk b2 26 [.int .i64 0, .int .i64 0, .string ⟨#[]⟩, .slice none 0 0, .slice none 0 0], blk b1 26 [.int .i64 t.kind, .int .i64 t.num, .string t.str, .slice A3 t.keys.length c3, .slice A4 t.list.length c4]] w') (fun i => t.list.length - i.1) (0, [], .slice (some ⟨b3, 0, none⟩) 0 0, No) ⟨rfl, rfl, rfl, rfl, rfl, rfl, trivial⟩ ⟨Nat.zero_le _, rfl, F5.al0⟩ ?_
    intro i w6 hW K8 hK8
    obtain ⟨i, xs, u, G⟩ := i
    obtain ⟨hi, hxl, F6⟩ := hW
    dsimp only at *
    refine Cod.seq fun K9 hK9 => ?_
    refine Cod.region ?_
    refine Ops.step (One.val rfl rfl rfl (yld_lss rfl (ev_t rfl) (ev_t rfl)) ?_)
    refine Ops.nil fun a hS => ?_
    refine hK9 _ _ ?_ a hS
    refine Cod.seq fun K10 hK10 => ?_
    refine Cod.cond rfl (fun hc21 => ?_) (fun hc21 => ?_)
    · skip
      have hi : i < t.list.length := by simp at hc21; omega
      have hik : i < t.keys.length := by omega
      obtain ⟨b, o, rfl, -, hr1⟩ := h3.at i hik
      obtain ⟨b4, o4, cs, rfl, -, hlc, hr2, ht⟩ := h4.at i hi
      obtain ⟨y1, y2, y3, y4, y5, rfl⟩ := five hlc
      have hone := ht.one
      have hst : pairsL t (i + 1) = pairsL t i ++ [pairT t.keys[i] t.list[i]] := by rw [pairsL_step, nthP hik hi]
      have hpl : (pairsL t i).length = i := by simp [pairsL]
      refine Cod.skip fun a hS => ?_
      refine hK10 _ _ ?_ a hS
      refine Cod.seq fun K11 hK11 => ?_
      refine Cod.block ?_
      refine Cod.seq fun K12 hK12 => ?_
      refine Cod.region ?_
      refine Ops.step (One.val rfl rfl rfl (yld_move rfl (ev_t rfl)) ?_)
      refine Ops.step (One.val rfl rfl rfl (yld_indexN sl24 rfl (ev_t rfl) (ev_t rfl) (fun _ => by omega)) ?_)
      refine Ops.step (One.val rfl rfl rfl (yld_loadN ag26 rfl (ev_t rfl) (fun _ => rng hr2 F6.chg) rfl) ?_)
      refine Ops.step (One.alloc F6 zero26 rfl rfl rfl rfl ?_)
      intro b4 w7 hb4 F7
      change Fr _ _ [blk _ _ [_, _, _, _, _], _, _, blk _ _ [_, _, _, _, _], blk _ _ [_, _, _, _, _]] _ at F7
      refine Ops.step (One.val rfl rfl rfl (yld_assign rfl (ev_t rfl)) ?_)
      refine Ops.step (One.storeN (vs := [_, _, _, _, _]) F7 0 rfl sz26 rfl rfl rfl (ev_t rfl) (ev_t rfl) rfl rfl hone ?_)
      intro w8 F8
      change Fr _ _ [blk _ _ [_, _, _, _, _], _, _, blk _ _ [_, _, _, _, _], blk _ _ [_, _, _, _, _]] _ at F8
      refine Ops.nil fun a hS => ?_
      refine hK12 _ _ ?_ a hS
      have F9 := F8.drew
      refine Cod.draw (C_of (F9.erase 1)) (by kernel_rfl) ?_
      refine Hops.take 0 rfl (by kernel_rfl) (fun _ _ _ h => h) rfl rfl rfl (F9.erase 1) (fun w F => (yld_move rfl (ev_t rfl))) ?_
      refine Hops.take 1 rfl (by kernel_rfl) (fun _ _ _ h => h) rfl rfl rfl (F9.erase 1) (fun w F => (yld_field fi26_3 rfl (ev_t rfl))) ?_
      refine Hops.take 2 rfl (by kernel_rfl) (fun _ _ _ h => h) rfl rfl rfl (F9.erase 1) (fun w F => (yld_load1 on23 rfl (ev_t rfl) (fun _ => F.cell 3 rfl rfl))) ?_
      refine Hops.take 3 rfl (by kernel_rfl) (fun _ _ _ h => h) rfl rfl rfl (F9.erase 1) (fun w F => (yld_move rfl (ev_t rfl))) ?_
      refine Hops.take 4 rfl (by kernel_rfl) (fun _ _ _ h => h) rfl rfl rfl (F9.erase 1) (fun w F => (yld_indexN sl23 rfl (ev_t rfl) (ev_t rfl) (fun _ => by omega))) ?_
      refine Hops.take 5 rfl (by kernel_rfl) (fun _ _ _ h => h) rfl rfl rfl (F9.erase 1) (fun w F => (yld_load1 on9 rfl (ev_t rfl) (fun _ => rangeAt_cell (rng hr1 F.chg) (j := 0) rfl))) ?_
      refine Hops.take 7 rfl (by kernel_rfl) (fun _ _ _ h => h) rfl rfl rfl (F9.erase 1) (fun w F => (yld_loadN ag26 rfl (ev_t rfl) (fun _ => F.range (m := 5) (cs' := [_, _, _, _, _]) 0 rfl rfl) rfl)) ?_
      refine Hops.one 6 rfl (by kernel_rfl) (One.call rfl rfl rfl (ent_f rfl (evl1 (ev_t rfl)) (enters en94)) (str_ct _ _) (fun e w9 hw9 => ?_))
      obtain ⟨rfl, C9⟩ := hw9
      have F10 := F9.call C9
      refine ⟨_, rfl, ?_⟩
      refine ⟨(F10.erase 1), ?_⟩
      refine Hops.one 8 rfl (by kernel_rfl) (One.buildSlice (cells := ([x5 4 0 t.keys[i] (.slice none 0 0) (.slice none 0 0), ⟨y1, y2, y3, y4, y5⟩].flatMap enc5)) F10 sl24 zero26 rfl rfl rfl rfl (evp2 (ev_t rfl) (ev_t rfl)) rfl rfl (by kernel_rfl) ?_)
      intro b5 w10 hb5 F11
      refine ⟨(F11.erase 2).drop1, ?_⟩
      refine Hops.one 9 rfl (by kernel_rfl) (One.call rfl rfl rfl (ent_f rfl (evl1 (ev_t rfl)) (enters en76)) (row_ct _ _ ⟨_, _, _, rfl⟩) (fun e w11 hw11 => ?_))
      obtain ⟨rfl, C11⟩ := hw11
      have F12 := F11.call C11
      refine ⟨_, rfl, ?_⟩
      refine ⟨(F12.erase 2).drop1, ?_⟩
      refine Hops.one 10 rfl (by kernel_rfl) (One.buildSlice (cells := (enc5 (x5 5 0 ⟨#[]⟩ (.slice none 0 0) (.slice (some ⟨b5, 0, none⟩) 2 2)))) F12 sl24 zero26 rfl rfl rfl rfl (evp1 (ev_t rfl)) rfl rfl (by kernel_rfl) ?_)
      intro b6 w12 hb6 F13
      refine ⟨((F13.erase 3).erase 1).drop1, ?_⟩
      refine Hops.one 11 rfl (by kernel_rfl) (One.append (enc := enc5) [(x5 5 0 ⟨#[]⟩ (.slice none 0 0) (.slice (some ⟨b5, 0, none⟩) 2 2))] F13 3 rfl sl24 zero26 rfl rfl (fun _ => rfl) rfl rfl rfl rfl (ev_t rfl) (ev_t rfl) ((blk_rep (enc := enc5) (sz := 5) (xs := [(x5 5 0 ⟨#[]⟩ (.slice none 0 0) (.slice (some ⟨b5, 0, none⟩) 2 2))]) (fun _ => rfl) (F13.get 0 rfl) (by simp) (by simp)).weak fun _ _ => trivial) (one_all rfl) (by rw [hxl]; simp; omega) (by rw [hxl]; simp; omega) ?_)
      intro u2 w13 hu2 F14
      refine ⟨((F14.erase 3).erase 1).drop1, ?_⟩
      change Fr _ _ [_, _, blk _ _ [_, _, _, _, _], _, _, blk _ _ [_, _, _, _, _], blk _ _ [_, _, _, _, _]] _ at F14
      refine Hops.one 12 rfl (by kernel_rfl) (One.val rfl rfl rfl (yld_assign rfl (ev_t rfl)) ?_)
      refine ⟨((F14.erase 3).erase 1).drop1, ?_⟩
      refine Hops.nil (by kernel_rfl) fun a hS => ?_
      refine hK11 _ _ ?_ a hS
      refine Cod.region ?_
      refine Ops.step (One.val rfl rfl rfl (yld_inc rfl (ev_t rfl) (fun _ => by omega)) ?_)
      refine Ops.step (One.val rfl rfl rfl (yld_move rfl (ev_t rfl)) ?_)
      refine Ops.nil fun a hS => ?_
      have hF0 := (F14.drop1.erase 1)
      have hpair : Rep (fun k => k < w.heap.size ∨ k = b5) w13 (pairT t.keys[i] t.list[i]) (x5 5 0 ⟨#[]⟩ (.slice none 0 0) (.slice (some ⟨b5, 0, none⟩) 2 2)).val := by
        refine Rep.close (RepE.nil _ _) (repL_ofE ((blk_rep (enc := enc5) (sz := 5) (xs := [x5 4 0 t.keys[i] (.slice none 0 0) (.slice none 0 0), ⟨y1, y2, y3, y4, y5⟩]) (fun _ => rfl) (hF0.get 0 rfl) (by simp) (by simp)).weak fun k hk => .inr hk) ⟨rfl, fun j h1 h2 => ?_⟩)
        match j, h1 with
        | 0, _ => exact Rep.close (RepE.nil _ _) (RepL.nil _ _)
        | 1, _ => exact (ht.old.chg hF0.chg).weak fun k hk => .inl hk
      have hF := hF0.alIn hpair
      rw [← hst] at hF
      refine hK8 (i + 1, _, u2, _) _ a (hS.sub ⟨rfl, rfl, rfl, rfl, rfl, rfl, trivial⟩) ⟨by show i + 1 ≤ _; omega, by simp [hxl], hF⟩ (by show t.list.length - (i + 1) < t.list.length - i; omega)
    · skip
      obtain rfl : i = t.list.length := by simp at hc21; omega
      refine Cod.exit fun a hS => ?_
      simp only [Exit.then, Exit.inBlock, ↓reduceIte]
      refine hK6 _ _ ?_ a hS
      refine Cod.seq fun K13 hK13 => ?_
      refine Cod.region ?_
      refine Ops.step (One.val rfl rfl rfl (yld_move rfl (ev_t rfl)) ?_)
      refine Ops.step (One.call rfl rfl rfl (ent_f rfl (evl1 (ev_t rfl)) (enters en76)) (row_ct u _ (own_form (F6.get 0 rfl))) (fun e w14 hw14 => ?_))
      obtain ⟨rfl, C14⟩ := hw14
      have F15 := F6.call C14
      refine ⟨_, rfl, ?_⟩
      refine Ops.step (One.call rfl rfl rfl (ent_f rfl (evl2 (ev_t rfl) ev_c) (enters en75)) (told_ct (pairsT t) true _ _ (Rep.close (RepE.nil _ _) ((ALF.al (alR.use (F15.get 1 rfl) F15.chg)).repL (F15.get 0 rfl))) hpf hpw) (fun e w15 hw15 => ?_))
      obtain ⟨x1, G1, rfl, C15, hs1, hb1⟩ := hw15
      have F16 := F15.new C15 (sep G1 _ x1.val) hs1 hb1
      refine ⟨_, rfl, ?_⟩
      refine Ops.step (One.val rfl rfl rfl (yld_extract rfl (ev_t rfl) rfl) ?_)
      refine Ops.step (One.val rfl rfl rfl (yld_extract rfl (ev_t rfl) rfl) ?_)
      refine Ops.step (One.storeN (vs := [_, _, _, _, _]) F16 3 rfl sz26 rfl rfl rfl (ev_t rfl) (ev_t rfl) rfl rfl hs1.one ?_)
      intro w16 F17
      change Fr _ _ [_, _, _, blk _ _ [_, _, _, _, _], blk _ _ [_, _, _, _, _]] _ at F17
      refine Ops.step (One.val rfl rfl rfl (yld_assign rfl (ev_t rfl)) ?_)
      refine Ops.nil fun a hS => ?_
      refine hK13 _ _ ?_ a hS
      refine Cod.ret fun a hS => ?_
      try simp only [Exit.then, Exit.inBlock]
      exact retct (t := 2) (u := 3) (ty := 26) rfl hS ag26 rfl rfl (F17.range (m := 5) (cs' := [_, _, _, _, _]) 3 rfl rfl) rfl ⟨x1, G1, by rw [hyes]; rfl, F17.chg, by rw [hyes]; exact F17.get 0 rfl, fun b hb => (F17.dom _ (List.mem_of_getElem? (i := 0) rfl) b hb).resolve_left id⟩

set_option maxRecDepth 100000 in
theorem specPairs_ct (t : Tr) (v : Value) (w : World) (hr : Rep Any w t v) (hf : t.Fit) (hw : t.wt ≤ 1048576) : Calls Try.prog 30 #[v] w (Gives w (pairsR t)) := by
  obtain ⟨v3, v4, ev, h3, h4⟩ := hr.form
  subst ev
  obtain ⟨A3, c3, rfl, hn3⟩ := h3.open
  obtain ⟨A4, c4, rfl, hn4⟩ := h4.open
  have hwl := t.wt_list
  refine enter Try.func30 rfl rfl rfl ?_
  have F0 := Fr.start w
  refine Cod.seq fun K1 hK1 => ?_
  refine Cod.region ?_
  refine Ops.step (One.box F0 rfl rfl rfl rfl (ev_t rfl) ?_)
  intro b1 w1 hb1 F1
  change Fr _ _ [blk _ _ [_, _, _, _, _]] _ at F1
  refine Ops.step (One.alloc F1 zero26 rfl rfl rfl rfl ?_)
  intro b2 w2 hb2 F2
  change Fr _ _ [blk _ _ [_, _, _, _, _], blk _ _ [_, _, _, _, _]] _ at F2
  refine Ops.step (One.val rfl rfl rfl (yld_assign rfl ev_c) ?_)
  refine Ops.nil fun a hS => ?_
  refine hK1 _ _ ?_ a hS
  refine Cod.seq fun K2 hK2 => ?_
  refine Cod.seq fun K3 hK3 => ?_
  refine Cod.region ?_
  refine Ops.step (One.val rfl rfl rfl (yld_loadN ag26 rfl (ev_t rfl) (fun _ => F2.range (m := 5) (cs' := [_, _, _, _, _]) 1 rfl rfl) rfl) ?_)
  refine Ops.step (One.call rfl rfl rfl (ent_f rfl (evl1 (ev_t rfl)) (enters en35)) (specOk_ct t _ _ (hr.chg F2.chg) hf hw) (fun e w3 hw3 => ?_))
  obtain ⟨rfl, C3⟩ := hw3
  have F3 := F2.call C3
  refine ⟨_, rfl, ?_⟩
  refine Ops.step (One.val rfl rfl rfl (yld_not rfl (ev_t rfl)) ?_)
  refine Ops.step (One.val rfl rfl rfl (yld_move rfl (ev_t rfl)) ?_)
  refine Ops.step (One.val (gd_some rfl rfl) rfl rfl (yld_field fi26_0 rfl (ev_t rfl)) ?_)
  refine Ops.step (One.val (gd_some rfl rfl) rfl rfl (yld_load1 on3 rfl (ev_g rfl) (fun _ => F3.cell 1 rfl rfl)) ?_)
  refine Ops.step (One.val (gd_some rfl rfl) rfl rfl (yld_neq rfl (ev_g rfl) ev_c) ?_)
  refine Ops.step (One.val rfl rfl rfl (yld_or rfl (ev_t rfl) (ev_g rfl)) ?_)
  refine Ops.nil fun a hS => ?_
  refine hK3 _ _ ?_ a hS
  refine Cod.cond rfl (fun hc13 => ?_) (fun hc13 => ?_)
  · skip
    have hno : pairsR t = none := by
      have hc : (!(okT t) || (t.kind != 6)) = true := hc13
      unfold pairsR
      cases h1 : okT t <;> simp [h1] at hc ⊢
      exact fun h => absurd h hc
    refine Cod.seq fun K4 hK4 => ?_
    refine Cod.region ?_
    refine Ops.step (One.val rfl rfl rfl (yld_build (cells := [.int .i64 0, .int .i64 0, .string ⟨#[]⟩, .slice none 0 0, .slice none 0 0]) rfl (evp0) (by kernel_rfl)) ?_)
    refine Ops.step (One.storeN (vs := [_, _, _, _, _]) F3 0 rfl sz26 rfl rfl rfl (ev_t rfl) (ev_t rfl) rfl rfl rfl ?_)
    intro w4 F4
    change Fr _ _ [blk _ _ [_, _, _, _, _], blk _ _ [_, _, _, _, _]] _ at F4
    refine Ops.step (One.val rfl rfl rfl (yld_assign rfl ev_c) ?_)
    refine Ops.nil fun a hS => ?_
    refine hK4 _ _ ?_ a hS
    refine Cod.ret fun a hS => ?_
    try simp only [Exit.then, Exit.inBlock]
    exact retct (t := 2) (u := 3) (ty := 26) rfl hS ag26 rfl rfl (F4.range (m := 5) (cs' := [_, _, _, _, _]) 0 rfl rfl) rfl ⟨z5, No, by rw [hno]; rfl, F4.chg, by rw [hno]; exact sep_leaf _ 0 0 ⟨#[]⟩, fun k hk => hk.elim⟩
  · skip
    have hc : (!(okT t) || (t.kind != 6)) = false := hc13
    have hok : okT t = true := by
      cases h1 : okT t <;> simp [h1] at hc ⊢
    have hk6 : t.kind = 6 := by
      rw [hok] at hc
      simpa using hc
    have hyes : pairsR t = toldR true (pairsT t) := by
      unfold pairsR
      rw [if_pos ⟨hok, hk6⟩]
    have hkl := okT_len hok hk6
    have hpw := pairsT_wt hok hkl
    have hpf := pairsT_fit hf hkl
    refine Cod.skip fun a hS => ?_
    refine hK2 _ _ ?_ a hS
    refine Cod.seq fun K5 hK5 => ?_
    refine Cod.region ?_
    refine Ops.step (One.buildNil enc5 F3 sl24 rfl rfl rfl rfl ?_)
    intro b3 w5 hb3 F5
    refine Ops.step (One.val rfl rfl rfl (yld_assign rfl (ev_t rfl)) ?_)
    refine Ops.nil fun a hS => ?_
    refine hK5 _ _ ?_ a hS
    refine Cod.seq fun K6 hK6 => ?_
    refine Cod.seq fun K7 hK7 => ?_
    refine Cod.region ?_
    refine Ops.step (One.val rfl rfl rfl (yld_assign rfl ev_c) ?_)
    refine Ops.nil fun a hS => ?_
    refine hK7 _ _ ?_ a hS
    refine Cod.block ?_
    refine Cod.loop (fun i : Nat × List V5 × Value × (Nat → Prop) => [(1, true, .pointer (some ⟨b1, 0, none⟩)), (2, true, .pointer (some ⟨b2, 0, none⟩)), (4, true, i.2.2.1), (5, true, .int .i64 (i.1 : Int))]) (fun i w' => i.1 ≤ t.list.length ∧ i.2.1.length = i.1 ∧ Fr No w [own 26 5 i.2.2.1 i.2.1.length (i.2.1.flatMap enc5), alR w i.2.2.2 (pairsL t i.1) i.2.1, blk b2 26 [.int .i64 0, .int .i64 0, .string ⟨#[]⟩, .slice none 0 0, .slice none 0 0], blk b1 26 [.int .i64 t.kind, .int .i64 t.num, .string t.str, .slice A3 t.keys.length c3, .slice A4 t.list.length c4]] w') (fun i => t.list.length - i.1) (0, [], .slice (some ⟨b3, 0, none⟩) 0 0, No) ⟨rfl, rfl, rfl, rfl, trivial⟩ ⟨Nat.zero_le _, rfl, F5.al0⟩ ?_
    intro i w6 hW K8 hK8
    obtain ⟨i, xs, u, G⟩ := i
    obtain ⟨hi, hxl, F6⟩ := hW
    dsimp only at *
    refine Cod.seq fun K9 hK9 => ?_
    refine Cod.seq fun K10 hK10 => ?_
    refine Cod.region ?_
    refine Ops.step (One.val rfl rfl rfl (yld_move rfl (ev_t rfl)) ?_)
    refine Ops.step (One.val rfl rfl rfl (yld_field fi26_3 rfl (ev_t rfl)) ?_)
    refine Ops.step (One.val rfl rfl rfl (yld_load1 on23 rfl (ev_t rfl) (fun _ => F6.cell 3 rfl rfl)) ?_)
    refine Ops.step (One.val rfl rfl rfl (yld_len sl23 rfl (ev_t rfl)) ?_)
    refine Ops.step (One.val rfl rfl rfl (yld_lss rfl (ev_t rfl) (ev_t rfl)) ?_)
    refine Ops.nil fun a hS => ?_
    refine hK10 _ _ ?_ a hS
    refine Cod.cond rfl (fun hc20 => ?_) (fun hc20 => ?_)
    · skip
      have hi : i < t.list.length := by simp at hc20; omega
      have hik : i < t.keys.length := by omega
      obtain ⟨b, o, rfl, -, hr1⟩ := h3.at i hik
      obtain ⟨b4, o4, cs, rfl, -, hlc, hr2, ht⟩ := h4.at i hi
      obtain ⟨y1, y2, y3, y4, y5, rfl⟩ := five hlc
      have hone := ht.one
      have hst : pairsL t (i + 1) = pairsL t i ++ [pairT t.keys[i] t.list[i]] := by rw [pairsL_step, nthP hik hi]
      have hpl : (pairsL t i).length = i := by simp [pairsL]
      refine Cod.skip fun a hS => ?_
      refine hK9 _ _ ?_ a hS
      refine Cod.seq fun K11 hK11 => ?_
      refine Cod.block ?_
      have F7 := F6.drew
      refine Cod.draw (C_of F7.drop1) (by kernel_rfl) ?_
      refine Hops.take 0 rfl (by kernel_rfl) (fun _ _ _ h => h) rfl rfl rfl F7.drop1 (fun w F => (yld_move rfl (ev_t rfl))) ?_
      refine Hops.take 1 rfl (by kernel_rfl) (fun _ _ _ h => h) rfl rfl rfl F7.drop1 (fun w F => (yld_field fi26_3 rfl (ev_t rfl))) ?_
      refine Hops.take 2 rfl (by kernel_rfl) (fun _ _ _ h => h) rfl rfl rfl F7.drop1 (fun w F => (yld_load1 on23 rfl (ev_t rfl) (fun _ => F.cell 2 rfl rfl))) ?_
      refine Hops.take 3 rfl (by kernel_rfl) (fun _ _ _ h => h) rfl rfl rfl F7.drop1 (fun w F => (yld_move rfl (ev_t rfl))) ?_
      refine Hops.take 4 rfl (by kernel_rfl) (fun _ _ _ h => h) rfl rfl rfl F7.drop1 (fun w F => (yld_indexN sl23 rfl (ev_t rfl) (ev_t rfl) (fun _ => by omega))) ?_
      refine Hops.take 5 rfl (by kernel_rfl) (fun _ _ _ h => h) rfl rfl rfl F7.drop1 (fun w F => (yld_load1 on9 rfl (ev_t rfl) (fun _ => rangeAt_cell (rng hr1 F.chg) (j := 0) rfl))) ?_
      refine Hops.take 6 rfl (by kernel_rfl) (fun _ _ _ h => h) rfl rfl rfl F7.drop1 (fun w F => (yld_build (cells := [.int .i64 4, .int .i64 0, .string t.keys[i], .slice none 0 0, .slice none 0 0]) rfl (evp2 ev_c (ev_t rfl)) (by kernel_rfl))) ?_
      refine Hops.take 7 rfl (by kernel_rfl) (fun _ _ _ h => h) rfl rfl rfl F7.drop1 (fun w F => (yld_field fi26_4 rfl (ev_t rfl))) ?_
      refine Hops.take 8 rfl (by kernel_rfl) (fun _ _ _ h => h) rfl rfl rfl F7.drop1 (fun w F => (yld_load1 on24 rfl (ev_t rfl) (fun _ => F.cell 2 rfl rfl))) ?_
      refine Hops.take 9 rfl (by kernel_rfl) (fun _ _ _ h => h) rfl rfl rfl F7.drop1 (fun w F => (yld_move rfl (ev_t rfl))) ?_
      refine Hops.take 10 rfl (by kernel_rfl) (fun _ _ _ h => h) rfl rfl rfl F7.drop1 (fun w F => (yld_indexN sl24 rfl (ev_t rfl) (ev_t rfl) (fun _ => by omega))) ?_
      refine Hops.take 11 rfl (by kernel_rfl) (fun _ _ _ h => h) rfl rfl rfl F7.drop1 (fun w F => (yld_loadN ag26 rfl (ev_t rfl) (fun _ => rng hr2 F.chg) rfl)) ?_
      refine Hops.one 12 rfl (by kernel_rfl) (One.buildSlice (cells := ([x5 4 0 t.keys[i] (.slice none 0 0) (.slice none 0 0), ⟨y1, y2, y3, y4, y5⟩].flatMap enc5)) F7 sl24 zero26 rfl rfl rfl rfl (evp2 (ev_t rfl) (ev_t rfl)) rfl rfl (by kernel_rfl) ?_)
      intro b4 w7 hb4 F8
      refine ⟨(F8.erase 1).drop1, ?_⟩
      refine Hops.one 13 rfl (by kernel_rfl) (One.call rfl rfl rfl (ent_f rfl (evl1 (ev_t rfl)) (enters en80)) (l4Of_ct _ _ ⟨_, _, _, rfl⟩) (fun e w8 hw8 => ?_))
      obtain ⟨rfl, C8⟩ := hw8
      have F9 := F8.call C8
      refine ⟨_, rfl, ?_⟩
      refine ⟨(F9.erase 1).drop1, ?_⟩
      refine Hops.one 14 rfl (by kernel_rfl) (One.buildSlice (cells := (enc5 (x5 5 0 ⟨#[]⟩ (.slice none 0 0) (.slice (some ⟨b4, 0, none⟩) 2 2)))) F9 sl24 zero26 rfl rfl rfl rfl (evp1 (ev_t rfl)) rfl rfl (by kernel_rfl) ?_)
      intro b5 w9 hb5 F10
      refine ⟨((F10.erase 2).erase 1).drop1, ?_⟩
      refine Hops.one 15 rfl (by kernel_rfl) (One.append (enc := enc5) [(x5 5 0 ⟨#[]⟩ (.slice none 0 0) (.slice (some ⟨b4, 0, none⟩) 2 2))] F10 2 rfl sl24 zero26 rfl rfl (fun _ => rfl) rfl rfl rfl rfl (ev_t rfl) (ev_t rfl) ((blk_rep (enc := enc5) (sz := 5) (xs := [(x5 5 0 ⟨#[]⟩ (.slice none 0 0) (.slice (some ⟨b4, 0, none⟩) 2 2))]) (fun _ => rfl) (F10.get 0 rfl) (by simp) (by simp)).weak fun _ _ => trivial) (one_all rfl) (by rw [hxl]; simp; omega) (by rw [hxl]; simp; omega) ?_)
      intro u2 w10 hu2 F11
      refine ⟨((F11.erase 2).erase 1).drop1, ?_⟩
      change Fr _ _ [_, _, _, _, blk _ _ [_, _, _, _, _], blk _ _ [_, _, _, _, _]] _ at F11
      refine Hops.one 16 rfl (by kernel_rfl) (One.val rfl rfl rfl (yld_assign rfl (ev_t rfl)) ?_)
      refine ⟨((F11.erase 2).erase 1).drop1, ?_⟩
      refine Hops.nil (by kernel_rfl) fun a hS => ?_
      refine hK11 _ _ ?_ a hS
      refine Cod.region ?_
      refine Ops.step (One.val rfl rfl rfl (yld_move rfl (ev_t rfl)) ?_)
      refine Ops.step (One.val rfl rfl rfl (yld_inc rfl (ev_t rfl) (fun _ => by omega)) ?_)
      refine Ops.step (One.val rfl rfl rfl (yld_assign rfl (ev_t rfl)) ?_)
      refine Ops.nil fun a hS => ?_
      have hF0 := F11.drop1
      have hpair : Rep (fun k => k < w.heap.size ∨ k = b4) w10 (pairT t.keys[i] t.list[i]) (x5 5 0 ⟨#[]⟩ (.slice none 0 0) (.slice (some ⟨b4, 0, none⟩) 2 2)).val := by
        refine Rep.close (RepE.nil _ _) (repL_ofE ((blk_rep (enc := enc5) (sz := 5) (xs := [x5 4 0 t.keys[i] (.slice none 0 0) (.slice none 0 0), ⟨y1, y2, y3, y4, y5⟩]) (fun _ => rfl) (hF0.get 0 rfl) (by simp) (by simp)).weak fun k hk => .inr hk) ⟨rfl, fun j h1 h2 => ?_⟩)
        match j, h1 with
        | 0, _ => exact Rep.close (RepE.nil _ _) (RepL.nil _ _)
        | 1, _ => exact (ht.old.chg hF0.chg).weak fun k hk => .inl hk
      have hF := hF0.alIn hpair
      rw [← hst] at hF
      refine hK8 (i + 1, _, u2, _) _ a (hS.sub ⟨rfl, rfl, rfl, rfl, trivial⟩) ⟨by show i + 1 ≤ _; omega, by simp [hxl], hF⟩ (by show t.list.length - (i + 1) < t.list.length - i; omega)
    · skip
      obtain rfl : i = t.list.length := by simp at hc20; omega
      refine Cod.exit fun a hS => ?_
      simp only [Exit.then, Exit.inBlock, ↓reduceIte]
      refine hK6 _ _ ?_ a hS
      refine Cod.seq fun K12 hK12 => ?_
      refine Cod.region ?_
      refine Ops.step (One.val rfl rfl rfl (yld_move rfl (ev_t rfl)) ?_)
      refine Ops.step (One.call rfl rfl rfl (ent_f rfl (evl1 (ev_t rfl)) (enters en80)) (l4Of_ct u _ (own_form (F6.get 0 rfl))) (fun e w11 hw11 => ?_))
      obtain ⟨rfl, C11⟩ := hw11
      have F12 := F6.call C11
      refine ⟨_, rfl, ?_⟩
      refine Ops.step (One.call rfl rfl rfl (ent_f rfl (evl1 (ev_t rfl)) (enters en79)) (l2Told_ct (pairsT t) _ _ (Rep.close (RepE.nil _ _) ((ALF.al (alR.use (F12.get 1 rfl) F12.chg)).repL (F12.get 0 rfl))) hpf hpw) (fun e w12 hw12 => ?_))
      obtain ⟨x1, G1, rfl, C12, hs1, hb1⟩ := hw12
      have F13 := F12.new C12 (sep G1 _ x1.val) hs1 hb1
      refine ⟨_, rfl, ?_⟩
      refine Ops.step (One.val rfl rfl rfl (yld_extract rfl (ev_t rfl) rfl) ?_)
      refine Ops.step (One.val rfl rfl rfl (yld_extract rfl (ev_t rfl) rfl) ?_)
      refine Ops.step (One.storeN (vs := [_, _, _, _, _]) F13 3 rfl sz26 rfl rfl rfl (ev_t rfl) (ev_t rfl) rfl rfl hs1.one ?_)
      intro w13 F14
      change Fr _ _ [_, _, _, blk _ _ [_, _, _, _, _], blk _ _ [_, _, _, _, _]] _ at F14
      refine Ops.step (One.val rfl rfl rfl (yld_assign rfl (ev_t rfl)) ?_)
      refine Ops.nil fun a hS => ?_
      refine hK12 _ _ ?_ a hS
      refine Cod.ret fun a hS => ?_
      try simp only [Exit.then, Exit.inBlock]
      exact retct (t := 2) (u := 3) (ty := 26) rfl hS ag26 rfl rfl (F14.range (m := 5) (cs' := [_, _, _, _, _]) 3 rfl rfl) rfl ⟨x1, G1, by rw [hyes]; rfl, F14.chg, by rw [hyes]; exact F14.get 0 rfl, fun b hb => (F14.dom _ (List.mem_of_getElem? (i := 0) rfl) b hb).resolve_left id⟩

end Go.Proofs.Ytmmgobhoakaaaaa.Eng
