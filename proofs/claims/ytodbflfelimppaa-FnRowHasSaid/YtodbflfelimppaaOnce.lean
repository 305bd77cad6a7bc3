/- Walks of slices.CompactFunc over trees and of RowOnce: a row in order, each tree once. -/
import Derived.Test.YtodbflfelimppaaSort
import Derived.Test.YtodbflfelimppaaSame
namespace Go.Proofs.Ytodbflfelimppaa.Eng
open Go.RowKit
set_option linter.unusedVariables false
set_option linter.unusedSimpArgs false
set_option maxHeartbeats 1000000


noncomputable def goZ (p : Tr) : List (Tr × V5) → List (Tr × V5)
  | [] => []
  | z :: l => if z.1 = p then goZ p l else z :: goZ z.1 l
noncomputable def onceZ : List (Tr × V5) → List (Tr × V5)
  | [] => []
  | z :: l => z :: goZ z.1 l
theorem goZ_map : ∀ (p : Tr) (l : List (Tr × V5)), (goZ p l).map (·.1) = onceG p (l.map (·.1))
  | _, [] => rfl
  | p, z :: l => by
    rw [List.map_cons, goZ, onceG]
    by_cases h : z.1 = p
    · rw [if_pos h, if_pos h]; exact goZ_map p l
    · rw [if_neg h, if_neg h, List.map_cons, goZ_map z.1 l]
theorem onceZ_map : ∀ l : List (Tr × V5), (onceZ l).map (·.1) = onceL (l.map (·.1))
  | [] => rfl
  | z :: l => by rw [List.map_cons, onceZ, onceL, List.map_cons, goZ_map]
theorem goZ_snoc (z : Tr × V5) : ∀ (l : List (Tr × V5)) (p : Tr) (x : Tr × V5), goZ p (l ++ [x, z]) = if z.1 = x.1 then goZ p (l ++ [x]) else goZ p (l ++ [x]) ++ [z]
  | [], p, x => by
    simp only [List.nil_append, goZ]
    by_cases h1 : x.1 = p
    · simp only [if_pos h1]
      by_cases h2 : z.1 = x.1
      · rw [if_pos h2, if_pos (h2.trans h1)]
      · rw [if_neg h2, if_neg (fun e => h2 (e.trans h1.symm))]; rfl
    · simp only [if_neg h1]
      by_cases h2 : z.1 = x.1
      · rw [if_pos h2, if_pos h2]
      · rw [if_neg h2, if_neg h2]; rfl
  | y :: l, p, x => by
    simp only [List.cons_append, goZ]
    by_cases h1 : y.1 = p
    · simp only [if_pos h1]; exact goZ_snoc z l p x
    · simp only [if_neg h1]
      rw [goZ_snoc z l y.1 x]
      by_cases h2 : z.1 = x.1
      · rw [if_pos h2, if_pos h2]
      · rw [if_neg h2, if_neg h2]; rfl
theorem onceZ_snoc (x z : Tr × V5) : ∀ l : List (Tr × V5), onceZ (l ++ [x, z]) = if z.1 = x.1 then onceZ (l ++ [x]) else onceZ (l ++ [x]) ++ [z]
  | [] => by
    simp only [List.nil_append, onceZ, goZ]
    by_cases h : z.1 = x.1
    · rw [if_pos h, if_pos h]
    · rw [if_neg h, if_neg h]; rfl
  | y :: l => by
    simp only [List.cons_append, onceZ]
    rw [goZ_snoc]
    split <;> rfl
theorem onceZ_step (zs : List (Tr × V5)) (p : Nat) (h : p + 1 < zs.length) : onceZ (zs.take (p + 2)) = if zs[p + 1].1 = (zs[p]'(by omega)).1 then onceZ (zs.take (p + 1)) else onceZ (zs.take (p + 1)) ++ [zs[p + 1]] := by
  have h1 : zs.take (p + 2) = zs.take p ++ [zs[p]'(by omega), zs[p + 1]] := by
    rw [List.take_succ_eq_append_getElem h, List.take_succ_eq_append_getElem (by omega : p < zs.length), List.append_assoc]
    rfl
  rw [h1, onceZ_snoc, ← List.take_succ_eq_append_getElem (by omega : p < zs.length)]
theorem onceG_sub : ∀ (p : Tr) (l : List Tr), (onceG p l).Sublist l
  | _, [] => List.Sublist.refl _
  | p, x :: l => by
    unfold onceG
    split
    · exact (onceG_sub p l).trans (List.sublist_cons_self x l)
    · exact (onceG_sub x l).cons_cons x
theorem onceL_sub : ∀ l : List Tr, (onceL l).Sublist l
  | [] => List.Sublist.refl _
  | x :: l => (onceG_sub x l).cons_cons x
theorem sumN_sub {α : Type} (f : α → Nat) {l m : List α} (h : l.Sublist m) : sumN f l ≤ sumN f m := by
  induction h with
  | slnil => exact Nat.le_refl _
  | cons x _ ih => rw [sumN_cons]; omega
  | cons_cons x _ ih => rw [sumN_cons, sumN_cons]; omega
noncomputable def onceR (t : Tr) : Option Tr := if rowT t = true then toldR true (.mk 5 0 ⟨#[]⟩ [] (onceL (sortL Tr.ord t.list))) else none
theorem once_bd {t : Tr} (hf : t.Fit) (hw : t.wt ≤ 1048576) : (Tr.mk 5 0 ⟨#[]⟩ [] (onceL (sortL Tr.ord t.list))).Fit ∧ (Tr.mk 5 0 ⟨#[]⟩ [] (onceL (sortL Tr.ord t.list))).wt ≤ 1048576 := by
  refine ⟨.mk (Nat.zero_le _) (by simp) fun x hx => hf.list x ((sortL_perm _).mem_iff.1 ((onceL_mem x _).1 hx)), ?_⟩
  have := t.wt_list
  have h1 := sumN_sub Tr.wt (onceL_sub (sortL Tr.ord t.list))
  have h2 := (onceL_sub (sortL Tr.ord t.list)).length_le
  rw [sumN_perm Tr.wt (sortL_perm t.list)] at h1
  rw [sortL_len] at h2
  rw [row_wt]
  omega
/-! ### clear -/
section
variable {P : Program} {n : Nat} {ops : Array Oper} {Q : Exit → Act → World → Prop} {S : Env} {w : World} {o : Oper} {N : Env → World → Prop} {X : Nat → Prop} {w0 : World} {L : List Res} {x : Operand}
theorem One.wrd0 {w' : World} {v : Value} (hg : o.guard = none) (hd : o.dst = none) (hy : ∀ a, St n S a → (execOp a.eval o).run P w = .ok (.value v) w') (h : N S w') : One P n ops Q o S w N := fun a hs K hK => by
  simp only [Region.wanted, hg, if_true, Oper.wp, hy a hs, Oper.upon_value, hd]
  exact hK _ _ _ h hs
theorem zero5_one (m : Nat) : ∀ v ∈ (Builtin.zeroCells z5.val.cells m).toList, v.oneCell' = true := fun v hv => by
  simp only [Builtin.zeroCells, Array.toList_map, List.mem_map] at hv
  obtain ⟨i, -, rfl⟩ := hv
  have h5 : z5.val.cells.size = 5 := rfl
  rw [h5]
  have h0 : i % 5 = 0 ∨ i % 5 = 1 ∨ i % 5 = 2 ∨ i % 5 = 3 ∨ i % 5 = 4 := by omega
  rcases h0 with h | h | h | h | h <;> rw [h] <;> rfl
theorem One.clear5 {t by' b q m c len cap : Nat} {cells : List Value} (F : Fr X w0 L w) (k : Nat) (hi : L[k]? = some (own 31 5 (.slice (some ⟨b, 0, none⟩) len cap) len cells)) (ht : sliceT P t 31 5 by' = true) (hz : (P.info? 31).bind (·.zero) = some z5.val)
    (hg : o.guard = none) (hd : o.dst = none) (ho : o.op = .call { callee := .builtin .clear, args := #[x], argTypes := #[t] }) (hx : Ev S true x (.slice (some ⟨b, q, none⟩) m c)) (hm : 0 < m) (hl : q + m * 5 ≤ len * 5)
    (h : ∀ w', Fr X w0 (L.set k (own 31 5 (.slice (some ⟨b, 0, none⟩) len cap) len (putAt cells q (Builtin.zeroCells z5.val.cells m).toList))) w' → N S w') : One P n ops Q o S w N := by
  obtain ⟨hu, i, hin, hs, -⟩ := sliceT_spec ht
  have hzz : i.zero = some z5.val := by simpa [hin] using hz
  have hO : w.ownsRow 0 31 5 (.slice (some ⟨b, 0, none⟩) len cap) len cells := F.get k hi
  have hO' := ownsRow_setCells (q := q) (vs := (Builtin.zeroCells z5.val.cells m).toList) hO
  have hsz : (Builtin.zeroCells z5.val.cells m).toList.length = m * 5 := by simp [size_zeroCells]; rfl
  refine One.wrd0 (v := .tuple #[]) (w' := w.setCells b q (Builtin.zeroCells z5.val.cells m).toList) hg hd (fun a hs' => ?_) (h _ (F.upd k hi (Chg.setCells b _ q w) (fun k' hk => Or.inl (by have h1 : k' = b := hk; subst h1; rfl)) (own _ 5 _ _ _) hO' fun _ hk => Or.inl hk))
  have ex := hx n a hs' rfl
  generalize a.eval = ρ at ex ⊢
  have hst := run_storeCells_cells (P := P) b q (Builtin.zeroCells z5.val.cells m).toList 0 w (fun j hj => by
    rw [Nat.add_zero]
    exact own_some hO (q + j) (by rw [hO.1]; omega)) (fun j hj => hO.frozenAt _) (zero5_one m)
  simp only [Nat.add_zero] at hst
  obtain ⟨m', rfl⟩ : ∃ m', m = m' + 1 := ⟨m - 1, by omega⟩
  have hr : (Builtin.clear_ #[t] o.type #[.slice (some ⟨b, q, none⟩) (m' + 1) c]).run P w = .ok (.tuple #[]) (w.setCells b q (Builtin.zeroCells z5.val.cells (m' + 1)).toList) := by
    simp [Builtin.clear_, run_underlying hu, zeroValue, typeInfo, hin, hzz, hst]
  simp [execOp, ho, resolve, invoke, builtin, ex, hr]
end
theorem own_atA {α : Type} {enc : α → List Value} {sz : Nat} (he : ∀ x, (enc x).length = sz) {w : World} {e b len cap n : Nat} {xs : List α} (h : (own e sz (.slice (some ⟨b, 0, none⟩) len cap) n (xs.flatMap enc)).is w) (hn : xs.length = n) (i : Nat) {x : α} (hx : xs[i]? = some x) (a : Nat) (ha : a = 0 + i * sz) : w.rangeAt b a (enc x) := by
  rw [ha]; exact own_at he h hn i hx
theorem own_cutc {w : World} {e sz b n c k : Nat} {cells : List Value} (h : (own e sz (.slice (some ⟨b, 0, none⟩) n c) n cells).is w) (hk : k ≤ n) : (own e sz (.slice (some ⟨b, 0, none⟩) k c) k (cells.take (k * sz))).is w := by
  obtain ⟨hl, h⟩ := h
  rcases h with ⟨h', _⟩ | ⟨g, cap, cur, h', hb, hg, hnc, hcm, hcs, htake⟩
  · cases h'
  · obtain ⟨rfl, rfl⟩ : b = g ∧ c = cap := by simpa using h'
    have hm := Nat.mul_le_mul_right sz hk
    exact ⟨by rw [List.length_take]; omega, .inr ⟨b, c, cur, rfl, hb, hg, by omega, hcm, hcs, by rw [← htake, List.take_take, Nat.min_eq_left hm]⟩⟩
theorem putAt_take (cells vs : List Value) (q : Nat) : (putAt cells q vs).take q = cells.take q := by
  apply List.ext_getElem?
  intro j
  rw [List.getElem?_take, List.getElem?_take]
  split
  · rw [putAt_get, if_neg (by omega)]
  · rfl


theorem goZ_in {z : Tr × V5} : ∀ {p : Tr} {l : List (Tr × V5)}, z ∈ goZ p l → z ∈ l
  | _, [], h => h
  | p, y :: l, h => by
    unfold goZ at h
    split at h
    · exact List.mem_cons_of_mem _ (goZ_in h)
    · rcases List.mem_cons.1 h with rfl | h
      · exact List.mem_cons_self ..
      · exact List.mem_cons_of_mem _ (goZ_in h)
theorem onceZ_in {z : Tr × V5} : ∀ {l : List (Tr × V5)}, z ∈ onceZ l → z ∈ l
  | [], h => h
  | y :: l, h => by
    rcases List.mem_cons.1 h with rfl | h
    · exact List.mem_cons_self ..
    · exact List.mem_cons_of_mem _ (goZ_in h)

set_option maxHeartbeats 4000000 in
set_option maxRecDepth 100000 in
theorem compact_ct (zs : List (Tr × V5)) (v : Value) (w : World) (h : (own 31 5 v zs.length ((List.map Prod.snd zs).flatMap enc5)).is w) (hz : ∀ z ∈ zs, Rep (fun k => ¬ v.ownBlock = some k) w z.1 z.2.val) (hn : zs.length ≤ 1000) :
    Calls Try.prog 90 #[v, .func (.func 27) #[] #[]] w fun e w' => ∃ v', e = .returned v' ∧ Chg (fun b => v.ownBlock = some b) w w' ∧ (own 31 5 v' (onceZ zs).length ((List.map Prod.snd (onceZ zs)).flatMap enc5)).is w' ∧ ∀ k, v'.ownBlock = some k → v.ownBlock = some k := by
  obtain ⟨A, m0, c0, hv⟩ := own_form h
  have hm0 : m0 = zs.length := own_len h hv
  subst hv
  subst hm0
  refine enter Try.func90 rfl rfl rfl ?_
  have F0 := Fr.lend _ h
  refine Cod.seq fun K1 hK1 => ?_
  refine Cod.region ?_
  refine Ops.step (One.val rfl rfl rfl (yld_assign rfl ev_c) ?_)
  refine Ops.nil fun a hS => ?_
  refine hK1 _ _ ?_ a hS
  refine Cod.seq fun K2 hK2 => ?_
  refine Cod.seq fun K3 hK3 => ?_
  refine Cod.region ?_
  refine Ops.step (One.val rfl rfl rfl (yld_move rfl (ev_t rfl)) ?_)
  refine Ops.step (One.val rfl rfl rfl (yld_len sl29 rfl (ev_t rfl)) ?_)
  refine Ops.step (One.val rfl rfl rfl (yld_lss rfl (ev_t rfl) ev_c) ?_)
  refine Ops.nil fun a hS => ?_
  refine hK3 _ _ ?_ a hS
  refine Cod.cond rfl (fun hc10 => ?_) (fun hc10 => ?_)
  · skip
    have hse : onceZ zs = zs := by
      have h2 : zs.length < 2 := by simp at hc10; omega
      match zs, h2 with
      | [], _ => rfl
      | [z], _ => rfl
    refine Cod.seq fun K4 hK4 => ?_
    refine Cod.region ?_
    refine Ops.step (One.val rfl rfl rfl (yld_move rfl (ev_t rfl)) ?_)
    refine Ops.step (One.val rfl rfl rfl (yld_assign rfl (ev_t rfl)) ?_)
    refine Ops.nil fun a hS => ?_
    refine hK4 _ _ ?_ a hS
    refine Cod.ret fun a hS => ?_
    try simp only [Exit.then, Exit.inBlock]
    exact ret1 (t := 4) rfl hS rfl ⟨_, rfl, F0.chg, by rw [hse]; exact F0.get 0 rfl, fun k hk => hk⟩
  · skip
    have hn2 : 2 ≤ zs.length := by simp at hc10; omega
    obtain ⟨bb, cap, hv, -, -⟩ := World.ownsRow.form (F0.get 0 rfl) (by omega)
    obtain ⟨rfl, hcap⟩ : A = some ⟨bb, 0, none⟩ ∧ c0 = cap := by simpa using hv
    clear hv hcap
    obtain ⟨_, _, hce, hcn, -, -⟩ := own_rep (e := 31) (enc := enc5) (sz := 5) (fun _ => rfl) (by rw [List.length_map]; exact F0.get 0 rfl)
    rw [List.length_map] at hce hcn
    obtain ⟨rfl, rfl⟩ : _ = _ ∧ c0 = _ := by simpa using hce
    refine Cod.skip fun a hS => ?_
    refine hK2 _ _ ?_ a hS
    refine Cod.seq fun K5 hK5 => ?_
    refine Cod.seq fun K6 hK6 => ?_
    refine Cod.region ?_
    refine Ops.step (One.val rfl rfl rfl (yld_assign rfl ev_c) ?_)
    refine Ops.nil fun a hS => ?_
    refine hK6 _ _ ?_ a hS
    refine Cod.block ?_
    refine Cod.loop (fun i : Nat => [(0, true, .slice (some ⟨bb, 0, none⟩) zs.length c0), (1, true, .func (.func 27) #[] #[]), (5, true, .int .i64 ((i + 1 : Nat) : Int))]) (fun i w' => i + 1 ≤ zs.length ∧ onceZ (zs.take (i + 1)) = zs.take (i + 1) ∧ Fr (fun b => (Value.slice (some ⟨bb, 0, none⟩) zs.length c0).ownBlock = some b) w [own 31 5 (.slice (some ⟨bb, 0, none⟩) zs.length c0) zs.length ((List.map Prod.snd zs).flatMap enc5)] w') (fun i => zs.length - i) 0 ⟨rfl, rfl, rfl, trivial⟩ ⟨by omega, by
      cases zs with
      | nil => rfl
      | cons z zs => rfl, F0⟩ ?_
    intro i w1 hW K7 hK7
    obtain ⟨kx, hkx⟩ : ∃ kx, kx = i := ⟨i, rfl⟩
    subst hkx
    obtain ⟨hk, hon, F1⟩ := hW
    have hLl : zs.length = zs.length := rfl
    refine Cod.seq fun K8 hK8 => ?_
    refine Cod.seq fun K9 hK9 => ?_
    refine Cod.region ?_
    refine Ops.step (One.val rfl rfl rfl (yld_move rfl (ev_t rfl)) ?_)
    refine Ops.step (One.val rfl rfl rfl (yld_move rfl (ev_t rfl)) ?_)
    refine Ops.step (One.val rfl rfl rfl (yld_len sl29 rfl (ev_t rfl)) ?_)
    refine Ops.step (One.val rfl rfl rfl (yld_lss rfl (ev_t rfl) (ev_t rfl)) ?_)
    refine Ops.nil fun a hS => ?_
    refine hK9 _ _ ?_ a hS
    refine Cod.cond rfl (fun hc15 => ?_) (fun hc15 => ?_)
    · skip
      have hi : kx + 1 < zs.length := by simp at hc15; omega
      refine Cod.skip fun a hS => ?_
      refine hK8 _ _ ?_ a hS
      refine Cod.seq fun K10 hK10 => ?_
      refine Cod.block ?_
      refine Cod.seq fun K11 hK11 => ?_
      have F2 := F1.drew
      refine Cod.draw (C_of F2) (by kernel_rfl) ?_
      refine Hops.take 0 rfl (by kernel_rfl) (fun _ _ _ h => h) rfl rfl rfl F2 (fun w F => (yld_move rfl (ev_t rfl))) ?_
      refine Hops.take 1 rfl (by kernel_rfl) (fun _ _ _ h => h) rfl rfl rfl F2 (fun w F => (yld_move rfl (ev_t rfl))) ?_
      refine Hops.take 2 rfl (by kernel_rfl) (fun _ _ _ h => h) rfl rfl rfl F2 (fun w F => (yld_move rfl (ev_t rfl))) ?_
      refine Hops.take 3 rfl (by kernel_rfl) (fun _ _ _ h => h) rfl rfl rfl F2 (fun w F => (yld_indexN sl29 rfl (ev_t rfl) (ev_t rfl) (fun _ => by omega))) ?_
      refine Hops.take 4 rfl (by kernel_rfl) (fun _ _ _ h => h) rfl rfl rfl F2 (fun w F => (yld_loadN (cs := enc5 zs[kx + 1].2) ag31 rfl (ev_t rfl) (fun _ => (own_atA (enc := enc5) (fun _ => rfl) (F.get 0 rfl) ((List.length_map ..).trans hLl) (kx + 1) (map_at (List.getElem?_eq_getElem hi)) (0 + (kx + 1) * 5) (by omega))) rfl)) ?_
      refine Hops.take 5 rfl (by kernel_rfl) (fun _ _ _ h => h) rfl rfl rfl F2 (fun w F => (yld_move rfl (ev_t rfl))) ?_
      refine Hops.take 6 rfl (by kernel_rfl) (fun _ _ _ h => h) rfl rfl rfl F2 (fun w F => (yld_move rfl (ev_t rfl))) ?_
      refine Hops.take 7 rfl (by kernel_rfl) (fun _ _ _ h => h) rfl rfl rfl F2 (fun w F => (Yld.castE (v' := .int .i64 (kx : Int)) (yld_sub rfl (ev_t rfl) ev_c (fun _ => by omega)) (fun _ => by rw [show ((kx + 1 : Nat) : Int) - 1 = (kx : Int) by omega]))) ?_
      refine Hops.take 8 rfl (by kernel_rfl) (fun _ _ _ h => h) rfl rfl rfl F2 (fun w F => (yld_indexN sl29 rfl (ev_t rfl) (ev_t rfl) (fun _ => by omega))) ?_
      refine Hops.take 9 rfl (by kernel_rfl) (fun _ _ _ h => h) rfl rfl rfl F2 (fun w F => (yld_loadN (cs := enc5 (zs[kx]'(by omega)).2) ag31 rfl (ev_t rfl) (fun _ => (own_atA (enc := enc5) (fun _ => rfl) (F.get 0 rfl) ((List.length_map ..).trans hLl) (kx) (map_at (List.getElem?_eq_getElem (by omega))) (0 + kx * 5) (by omega))) rfl)) ?_
      refine Hops.one 10 rfl (by kernel_rfl) (One.call rfl rfl rfl (ent_c0 rfl (ev_t rfl) (evl2 (ev_t rfl) (ev_t rfl)) (enters en27)) (valSame_ct zs[kx + 1].1 (zs[kx]'(by omega)).1 _ _ _ (((hz _ (List.getElem_mem _)).keep fun q hq hF => F2.chg.block q hq hF).weak fun _ _ => trivial) (((hz _ (List.getElem_mem _)).keep fun q hq hF => F2.chg.block q hq hF).weak fun _ _ => trivial)) (fun e w2 hw2 => ?_))
      obtain ⟨rfl, C2⟩ := hw2
      have F3 := F2.call C2
      refine ⟨_, rfl, ?_⟩
      refine ⟨F3, ?_⟩
      refine Hops.nil (by kernel_rfl) fun a hS => ?_
      refine hK11 _ _ ?_ a hS
      refine Cod.cond rfl (fun hc28 => ?_) (fun hc28 => ?_)
      · skip
        have heq : zs[kx + 1].1 = (zs[kx]'(by omega)).1 := of_decide_eq_true hc28
        refine Cod.seq fun K12 hK12 => ?_
        refine Cod.region ?_
        refine Ops.step (One.val rfl rfl rfl (yld_move rfl (ev_t rfl)) ?_)
        refine Ops.step (One.val rfl rfl rfl (yld_move rfl (ev_t rfl)) ?_)
        refine Ops.step (One.val rfl rfl rfl (yld_slcL' (kx + 1) sl29 rfl (ev_t rfl) (ev_t rfl) rfl (by omega) (by omega)) ?_)
        refine Ops.step (One.val rfl rfl rfl (yld_assign rfl (ev_t rfl)) ?_)
        refine Ops.nil fun a hS => ?_
        refine hK12 _ _ ?_ a hS
        refine Cod.seq fun K13 hK13 => ?_
        refine Cod.seq fun K14 hK14 => ?_
        refine Cod.region ?_
        refine Ops.step (One.val rfl rfl rfl (yld_assign rfl ev_c) ?_)
        refine Ops.nil fun a hS => ?_
        refine hK14 _ _ ?_ a hS
        refine Cod.block ?_
        refine Cod.loop (fun i : Nat × Nat × List (Tr × V5) => [(0, true, .slice (some ⟨bb, 0, none⟩) zs.length c0), (1, true, .func (.func 27) #[] #[]), (5, true, .int .i64 (i.2.1 : Int)), (6, true, .slice (some ⟨bb, (kx + 1) * 5, none⟩) (zs.length - (kx + 1)) (c0 - (kx + 1))), (7, true, .int .i64 ((i.1 + 1 : Nat) : Int))]) (fun i w' => kx + 1 + i.1 + 1 ≤ zs.length ∧ i.2.1 ≤ kx + 1 + i.1 ∧ i.2.2.length = zs.length ∧ i.2.2.take i.2.1 = onceZ (zs.take (kx + 1 + i.1 + 1)) ∧ (∀ j, kx + 1 + i.1 ≤ j → i.2.2[j]? = zs[j]?) ∧ Fr (fun b => (Value.slice (some ⟨bb, 0, none⟩) zs.length c0).ownBlock = some b) w [own 31 5 (.slice (some ⟨bb, 0, none⟩) zs.length c0) zs.length ((List.map Prod.snd i.2.2).flatMap enc5)] w') (fun i => zs.length - i.1) (0, kx + 1, zs) ⟨rfl, rfl, rfl, rfl, rfl, trivial⟩ ⟨by show kx + 1 + 0 + 1 ≤ _; omega, Nat.le_refl _, rfl, by show zs.take (kx + 1) = onceZ (zs.take (kx + 2)); rw [onceZ_step zs kx hi, if_pos heq, hon], fun _ _ => rfl, F3⟩ ?_
        intro i w3 hW K15 hK15
        obtain ⟨q, kk, L⟩ := i
        obtain ⟨hp, hkk, hLl, hLt, hLs, F4⟩ := hW
        dsimp only at *
        refine Cod.seq fun K16 hK16 => ?_
        refine Cod.seq fun K17 hK17 => ?_
        refine Cod.region ?_
        refine Ops.step (One.val rfl rfl rfl (yld_move rfl (ev_t rfl)) ?_)
        refine Ops.step (One.val rfl rfl rfl (yld_move rfl (ev_t rfl)) ?_)
        refine Ops.step (One.val rfl rfl rfl (yld_len sl29 rfl (ev_t rfl)) ?_)
        refine Ops.step (One.val rfl rfl rfl (yld_lss rfl (ev_t rfl) (ev_t rfl)) ?_)
        refine Ops.nil fun a hS => ?_
        refine hK17 _ _ ?_ a hS
        refine Cod.cond rfl (fun hc35 => ?_) (fun hc35 => ?_)
        · skip
          have hi2 : kx + 1 + q + 1 < zs.length := by simp at hc35; omega
          have hL1 : L[kx + 1 + q + 1]? = some zs[kx + 1 + q + 1] := by rw [hLs _ (by omega)]; exact List.getElem?_eq_getElem hi2
          have hL0 : L[kx + 1 + q]? = some (zs[kx + 1 + q]'(by omega)) := by rw [hLs _ (by omega)]; exact List.getElem?_eq_getElem (by omega)
          refine Cod.skip fun a hS => ?_
          refine hK16 _ _ ?_ a hS
          refine Cod.seq fun K18 hK18 => ?_
          refine Cod.block ?_
          refine Cod.seq fun K19 hK19 => ?_
          have F5 := F4.drew
          refine Cod.draw (C_of F5) (by kernel_rfl) ?_
          refine Hops.take 0 rfl (by kernel_rfl) (fun _ _ _ h => h) rfl rfl rfl F5 (fun w F => (yld_move rfl (ev_t rfl))) ?_
          refine Hops.take 1 rfl (by kernel_rfl) (fun _ _ _ h => h) rfl rfl rfl F5 (fun w F => (yld_move rfl (ev_t rfl))) ?_
          refine Hops.take 2 rfl (by kernel_rfl) (fun _ _ _ h => h) rfl rfl rfl F5 (fun w F => (yld_move rfl (ev_t rfl))) ?_
          refine Hops.take 3 rfl (by kernel_rfl) (fun _ _ _ h => h) rfl rfl rfl F5 (fun w F => (yld_indexN sl29 rfl (ev_t rfl) (ev_t rfl) (fun _ => by omega))) ?_
          refine Hops.take 4 rfl (by kernel_rfl) (fun _ _ _ h => h) rfl rfl rfl F5 (fun w F => (yld_loadN (cs := enc5 zs[kx + 1 + q + 1].2) ag31 rfl (ev_t rfl) (fun _ => (own_atA (enc := enc5) (fun _ => rfl) (F.get 0 rfl) ((List.length_map ..).trans hLl) (kx + 1 + q + 1) (map_at hL1) ((kx + 1) * 5 + (q + 1) * 5) (by omega))) rfl)) ?_
          refine Hops.take 5 rfl (by kernel_rfl) (fun _ _ _ h => h) rfl rfl rfl F5 (fun w F => (yld_move rfl (ev_t rfl))) ?_
          refine Hops.take 6 rfl (by kernel_rfl) (fun _ _ _ h => h) rfl rfl rfl F5 (fun w F => (yld_move rfl (ev_t rfl))) ?_
          refine Hops.take 7 rfl (by kernel_rfl) (fun _ _ _ h => h) rfl rfl rfl F5 (fun w F => (Yld.castE (v' := .int .i64 (q : Int)) (yld_sub rfl (ev_t rfl) ev_c (fun _ => by omega)) (fun _ => by rw [show ((q + 1 : Nat) : Int) - 1 = (q : Int) by omega]))) ?_
          refine Hops.take 8 rfl (by kernel_rfl) (fun _ _ _ h => h) rfl rfl rfl F5 (fun w F => (yld_indexN sl29 rfl (ev_t rfl) (ev_t rfl) (fun _ => by omega))) ?_
          refine Hops.take 9 rfl (by kernel_rfl) (fun _ _ _ h => h) rfl rfl rfl F5 (fun w F => (yld_loadN (cs := enc5 (zs[kx + 1 + q]'(by omega)).2) ag31 rfl (ev_t rfl) (fun _ => (own_atA (enc := enc5) (fun _ => rfl) (F.get 0 rfl) ((List.length_map ..).trans hLl) (kx + 1 + q) (map_at hL0) ((kx + 1) * 5 + q * 5) (by omega))) rfl)) ?_
          refine Hops.one 10 rfl (by kernel_rfl) (One.call rfl rfl rfl (ent_c0 rfl (ev_t rfl) (evl2 (ev_t rfl) (ev_t rfl)) (enters en27)) (valSame_ct zs[kx + 1 + q + 1].1 (zs[kx + 1 + q]'(by omega)).1 _ _ _ (((hz _ (List.getElem_mem _)).keep fun q hq hF => F5.chg.block q hq hF).weak fun _ _ => trivial) (((hz _ (List.getElem_mem _)).keep fun q hq hF => F5.chg.block q hq hF).weak fun _ _ => trivial)) (fun e w4 hw4 => ?_))
          obtain ⟨rfl, C4⟩ := hw4
          have F6 := F5.call C4
          refine ⟨_, rfl, ?_⟩
          refine ⟨F6, ?_⟩
          refine Hops.take 11 rfl (by kernel_rfl) (fun _ _ _ h => h) rfl rfl rfl F6 (fun w F => (yld_not rfl (ev_t rfl))) ?_
          refine Hops.nil (by kernel_rfl) fun a hS => ?_
          refine hK19 _ _ ?_ a hS
          refine Cod.cond rfl (fun hc49 => ?_) (fun hc49 => ?_)
          · skip
            have hne2 : ¬ zs[kx + 1 + q + 1].1 = (zs[kx + 1 + q]'(by omega)).1 := by simpa using hc49
            refine Cod.seq fun K20 hK20 => ?_
            refine Cod.region ?_
            refine Ops.step (One.val rfl rfl rfl (yld_move rfl (ev_t rfl)) ?_)
            refine Ops.step (One.val rfl rfl rfl (yld_move rfl (ev_t rfl)) ?_)
            refine Ops.step (One.val rfl rfl rfl (yld_move rfl (ev_t rfl)) ?_)
            refine Ops.step (One.val rfl rfl rfl (yld_move rfl (ev_t rfl)) ?_)
            refine Ops.step (One.val rfl rfl rfl (yld_indexN sl29 rfl (ev_t rfl) (ev_t rfl) (fun _ => by omega)) ?_)
            refine Ops.step (One.val rfl rfl rfl (yld_loadN (cs := enc5 zs[kx + 1 + q + 1].2) ag31 rfl (ev_t rfl) (fun _ => (own_atA (enc := enc5) (fun _ => rfl) (F6.get 0 rfl) ((List.length_map ..).trans hLl) (kx + 1 + q + 1) (map_at hL1) ((kx + 1) * 5 + (q + 1) * 5) (by omega))) rfl) ?_)
            refine Ops.step (One.val rfl rfl rfl (yld_indexN sl29 rfl (ev_t rfl) (ev_t rfl) (fun _ => by omega)) ?_)
            refine Ops.step (One.storeRow (enc := enc5) zs[kx + 1 + q + 1].2 (fun _ => rfl) F6 0 rfl (by rw [List.length_map]; exact hLl) (by omega) sz31 rfl rfl rfl rfl (ev_t rfl) (ev_t rfl) (V5.one ((hz _ (List.getElem_mem hi2)).weak fun _ _ => trivial)) ?_)
            intro w5 F7
            change Fr _ _ [_] _ at F7
            refine Ops.nil fun a hS => ?_
            refine hK20 _ _ ?_ a hS
            refine Cod.region ?_
            refine Ops.step (One.val rfl rfl rfl (yld_move rfl (ev_t rfl)) ?_)
            refine Ops.step (One.val rfl rfl rfl (yld_inc rfl (ev_t rfl) (fun _ => by omega)) ?_)
            refine Ops.step (One.val rfl rfl rfl (yld_assign rfl (ev_t rfl)) ?_)
            refine Ops.nil fun a hS => ?_
            refine hK18 _ _ ?_ a hS
            refine Cod.region ?_
            refine Ops.step (One.val rfl rfl rfl (yld_move rfl (ev_t rfl)) ?_)
            refine Ops.step (One.val rfl rfl rfl (yld_inc rfl (ev_t rfl) (fun _ => by omega)) ?_)
            refine Ops.step (One.val rfl rfl rfl (yld_assign rfl (ev_t rfl)) ?_)
            refine Ops.nil fun a hS => ?_
            exact hK15 (q + 1, kk + 1, L.set kk (zs[kx + 1 + q + 1]'hi2)) _ a (hS.sub ⟨rfl, rfl, rfl, rfl, rfl, trivial⟩) ⟨by show kx + 1 + (q + 1) + 1 ≤ _; omega, by show kk + 1 ≤ kx + 1 + (q + 1); omega, (List.length_set ..).trans hLl, by
                  show (L.set kk (zs[kx + 1 + q + 1]'hi2)).take (kk + 1) = onceZ (zs.take (kx + 1 + (q + 1) + 1))
                  rw [show kx + 1 + (q + 1) + 1 = kx + 1 + q + 2 by omega, onceZ_step zs (kx + 1 + q) hi2, if_neg hne2, ← hLt, List.take_succ_eq_append_getElem (by rw [List.length_set]; omega), List.getElem_set_self, List.take_set_of_le (Nat.le_refl _)], fun j hj => by
                  show (L.set kk _)[j]? = _
                  rw [List.getElem?_set_ne (by omega), hLs j (by omega)], by rw [← List.map_set] at F7; exact F7⟩ (by show zs.length - (q + 1) < zs.length - q; omega)
          · skip
            have heq2 : zs[kx + 1 + q + 1].1 = (zs[kx + 1 + q]'(by omega)).1 := by simpa using hc49
            refine Cod.skip fun a hS => ?_
            refine hK18 _ _ ?_ a hS
            refine Cod.region ?_
            refine Ops.step (One.val rfl rfl rfl (yld_move rfl (ev_t rfl)) ?_)
            refine Ops.step (One.val rfl rfl rfl (yld_inc rfl (ev_t rfl) (fun _ => by omega)) ?_)
            refine Ops.step (One.val rfl rfl rfl (yld_assign rfl (ev_t rfl)) ?_)
            refine Ops.nil fun a hS => ?_
            exact hK15 (q + 1, kk, L) _ a (hS.sub ⟨rfl, rfl, rfl, rfl, rfl, trivial⟩) ⟨by show kx + 1 + (q + 1) + 1 ≤ _; omega, by show kk ≤ kx + 1 + (q + 1); omega, hLl, by
                  show L.take kk = onceZ (zs.take (kx + 1 + (q + 1) + 1))
                  rw [show kx + 1 + (q + 1) + 1 = kx + 1 + q + 2 by omega, onceZ_step zs (kx + 1 + q) hi2, if_pos heq2, hLt], fun j hj => hLs j (by omega), F6⟩ (by show zs.length - (q + 1) < zs.length - q; omega)
        · skip
          have hpe : kx + 1 + q + 1 = zs.length := by simp at hc35; omega
          rw [hpe, List.take_length] at hLt
          refine Cod.exit fun a hS => ?_
          simp only [Exit.then, Exit.inBlock, ↓reduceIte]
          refine hK13 _ _ ?_ a hS
          refine Cod.seq fun K21 hK21 => ?_
          refine Cod.region ?_
          refine Ops.step (One.val rfl rfl rfl (yld_move rfl (ev_t rfl)) ?_)
          refine Ops.step (One.val rfl rfl rfl (yld_move rfl (ev_t rfl)) ?_)
          refine Ops.step (One.val rfl rfl rfl (yld_slcL' kk sl29 rfl (ev_t rfl) (ev_t rfl) rfl (by omega) (by omega)) ?_)
          refine Ops.step (One.clear5 F4 0 rfl sl29 zero31 rfl rfl rfl (ev_t rfl) (by omega) (by omega) ?_)
          intro wz FZ
          change Fr _ _ [_] _ at FZ
          refine Ops.nil fun a hS => ?_
          refine hK21 _ _ ?_ a hS
          refine Cod.seq fun K22 hK22 => ?_
          refine Cod.region ?_
          refine Ops.step (One.val rfl rfl rfl (yld_move rfl (ev_t rfl)) ?_)
          refine Ops.step (One.val rfl rfl rfl (yld_move rfl (ev_t rfl)) ?_)
          refine Ops.step (One.val rfl rfl rfl (yld_slcH' kk sl29 rfl (ev_t rfl) (ev_t rfl) rfl (by omega) (by omega)) ?_)
          refine Ops.step (One.val rfl rfl rfl (yld_assign rfl (ev_t rfl)) ?_)
          refine Ops.nil fun a hS => ?_
          refine hK22 _ _ ?_ a hS
          refine Cod.ret fun a hS => ?_
          try simp only [Exit.then, Exit.inBlock]
          exact ret1 (t := 4) rfl hS rfl ⟨_, rfl, FZ.chg, by
            have h1 := own_cutc (k := kk) (FZ.get 0 rfl) (by omega)
            rw [putAt_take, flat_take (enc := enc5) (fun _ => rfl), ← List.map_take, hLt] at h1
            have h2 : (onceZ zs).length = kk := by rw [← hLt, List.length_take]; omega
            rw [h2]
            exact h1, fun k hk => hk⟩
      · skip
        have hne : ¬ zs[kx + 1].1 = (zs[kx]'(by omega)).1 := of_decide_eq_false hc28
        refine Cod.skip fun a hS => ?_
        refine hK10 _ _ ?_ a hS
        refine Cod.region ?_
        refine Ops.step (One.val rfl rfl rfl (yld_move rfl (ev_t rfl)) ?_)
        refine Ops.step (One.val rfl rfl rfl (yld_inc rfl (ev_t rfl) (fun _ => by omega)) ?_)
        refine Ops.step (One.val rfl rfl rfl (yld_assign rfl (ev_t rfl)) ?_)
        refine Ops.nil fun a hS => ?_
        exact hK7 (kx + 1) _ a (hS.sub ⟨rfl, rfl, rfl, trivial⟩) ⟨by omega, by rw [onceZ_step zs kx hi, if_neg hne, hon, ← List.take_succ_eq_append_getElem hi], F3⟩ (by omega)
    · skip
      have hend : zs.length = kx + 1 := by simp at hc15; omega
      rw [← hend, List.take_length] at hon
      refine Cod.exit fun a hS => ?_
      simp only [Exit.then, Exit.inBlock, ↓reduceIte]
      refine hK5 _ _ ?_ a hS
      refine Cod.seq fun K23 hK23 => ?_
      refine Cod.region ?_
      refine Ops.step (One.val rfl rfl rfl (yld_move rfl (ev_t rfl)) ?_)
      refine Ops.step (One.val rfl rfl rfl (yld_assign rfl (ev_t rfl)) ?_)
      refine Ops.nil fun a hS => ?_
      refine hK23 _ _ ?_ a hS
      refine Cod.ret fun a hS => ?_
      try simp only [Exit.then, Exit.inBlock]
      exact ret1 (t := 4) rfl hS rfl ⟨_, rfl, F1.chg, by rw [hon]; exact F1.get 0 rfl, fun k hk => hk⟩

set_option maxRecDepth 100000 in
theorem once_ct (t : Tr) (v : Value) (w : World) (hr : Rep Any w t v) (hf : t.Fit) (hw : t.wt ≤ 1048576) (hn : t.list.length ≤ 19) : Calls Try.prog 35 #[v] w (Gives w (onceR t)) := by
  obtain ⟨v3, v4, ev, h3, h4⟩ := hr.form
  subst ev
  obtain ⟨A4, c4, rfl, hn4⟩ := h4.open
  obtain ⟨hTf, hTw⟩ := once_bd hf hw
  refine enter Try.func35 rfl rfl rfl ?_
  have F0 := Fr.start w
  refine Cod.seq fun K1 hK1 => ?_
  refine Cod.region ?_
  refine Ops.step (One.box F0 rfl rfl rfl rfl (ev_t rfl) ?_)
  intro b1 w1 hb1 F1
  change Fr _ _ [blk _ _ [_, _, _, _, _]] _ at F1
  refine Ops.step (One.alloc F1 zero31 rfl rfl rfl rfl ?_)
  intro b2 w2 hb2 F2
  change Fr _ _ [blk _ _ [_, _, _, _, _], blk _ _ [_, _, _, _, _]] _ at F2
  refine Ops.step (One.val rfl rfl rfl (yld_assign rfl ev_c) ?_)
  refine Ops.nil fun a hS => ?_
  refine hK1 _ _ ?_ a hS
  refine Cod.seq fun K2 hK2 => ?_
  refine Cod.seq fun K3 hK3 => ?_
  refine Cod.region ?_
  refine Ops.step (One.val rfl rfl rfl (yld_loadN ag31 rfl (ev_t rfl) (fun _ => F2.range (m := 5) (cs' := [_, _, _, _, _]) 1 rfl rfl) rfl) ?_)
  refine Ops.step (One.call rfl rfl rfl (ent_f rfl (evl1 (ev_t rfl)) (enters en81)) (isRow_ct t _ _ (hr.chg F2.chg) hf) (fun e w3 hw3 => ?_))
  obtain ⟨rfl, C3⟩ := hw3
  have F3 := F2.call C3
  refine ⟨_, rfl, ?_⟩
  refine Ops.step (One.val rfl rfl rfl (yld_not rfl (ev_t rfl)) ?_)
  refine Ops.nil fun a hS => ?_
  refine hK3 _ _ ?_ a hS
  refine Cod.cond rfl (fun hc6 => ?_) (fun hc6 => ?_)
  · skip
    have hno : onceR t = none := by
      have hc : (!(rowT t)) = true := hc6
      unfold onceR
      cases h1 : rowT t <;> simp [h1] at hc ⊢
    refine Cod.seq fun K4 hK4 => ?_
    refine Cod.region ?_
    refine Ops.step (One.val rfl rfl rfl (yld_build (cells := [.int .i64 0, .int .i64 0, .string ⟨#[]⟩, .slice none 0 0, .slice none 0 0]) rfl (evp0) (by kernel_rfl)) ?_)
    refine Ops.step (One.storeN (vs := [_, _, _, _, _]) F3 0 rfl sz31 rfl rfl rfl (ev_t rfl) (ev_t rfl) rfl rfl rfl ?_)
    intro w4 F4
    change Fr _ _ [blk _ _ [_, _, _, _, _], blk _ _ [_, _, _, _, _]] _ at F4
    refine Ops.step (One.val rfl rfl rfl (yld_assign rfl ev_c) ?_)
    refine Ops.nil fun a hS => ?_
    refine hK4 _ _ ?_ a hS
    refine Cod.ret fun a hS => ?_
    try simp only [Exit.then, Exit.inBlock]
    exact retct (t := 2) (u := 3) (ty := 31) rfl hS ag31 rfl rfl (F4.range (m := 5) (cs' := [_, _, _, _, _]) 0 rfl rfl) rfl ⟨z5, No, by rw [hno]; rfl, F4.chg, by rw [hno]; exact sep_leaf _ 0 0 ⟨#[]⟩, fun k hk => hk.elim⟩
  · skip
    have hyes : onceR t = toldR true (.mk 5 0 ⟨#[]⟩ [] ((onceL (sortL Tr.ord t.list)))) := by
      have hc : (!(rowT t)) = false := hc6
      unfold onceR
      cases h1 : rowT t <;> simp [h1] at hc ⊢
    refine Cod.skip fun a hS => ?_
    refine hK2 _ _ ?_ a hS
    refine Cod.seq fun K5 hK5 => ?_
    refine Cod.region ?_
    refine Ops.step (One.val rfl rfl rfl (yld_field fi31_4 rfl (ev_t rfl)) ?_)
    refine Ops.step (One.val rfl rfl rfl (yld_load1 on29 rfl (ev_t rfl) (fun _ => F3.cell 1 rfl rfl)) ?_)
    refine Ops.step (One.call rfl rfl rfl (ent_f rfl (evl1 (ev_t rfl)) (enters en89)) (ordered_ct t.list _ w _ h4 F3.chg hn) (fun e w5 hw5 => ?_))
    obtain ⟨u, ys, rfl, C5, ho, hal, hob⟩ := hw5
    have hyl := hal.1
    obtain ⟨zs, hzs⟩ : ∃ zs, zs = (sortL Tr.ord t.list).zip ys := ⟨_, rfl⟩
    have hz1 : List.map Prod.snd zs = ys := by rw [hzs]; exact zip_snd hyl
    have hz2 : List.map Prod.fst zs = sortL Tr.ord t.list := by rw [hzs]; exact zip_fst hyl
    have hzl : zs.length = ys.length := by rw [← hz1, List.length_map]
    have hzr := hal.zip
    rw [← hzs] at hzr
    have hsl := sortL_len (f := Tr.ord) t.list
    have F5 := F3.new C5 (own _ 5 u ys.length _) ho hob
    rw [← hz1, List.length_map] at F5
    have hszw := F3.chg.size
    refine ⟨_, rfl, ?_⟩
    refine Ops.step (One.call rfl rfl rfl (ent_f rfl (evl2 (ev_t rfl) ev_f) (enters en90)) (compact_ct zs u _ (F5.get 0 rfl) (fun z hz0 => ((hzr z hz0).old.chg F5.chg).weak fun k hk hk2 => by have h1 := hob k hk2; omega) (by omega)) (fun e w6 hw6 => ?_))
    obtain ⟨u2, rfl, C6, ho2, hob2⟩ := hw6
    have F6 := F5.upd 0 rfl C6 (fun _ hk => .inl hk) (own 31 5 u2 (onceZ zs).length ((List.map Prod.snd (onceZ zs)).flatMap enc5)) ho2 (fun k hk => .inl (hob2 k hk))
    change Fr _ _ [_, _, _] _ at F6
    have hal2 : AL w (onceL (sortL Tr.ord t.list)) (List.map Prod.snd (onceZ zs)) := by
      rw [← hz2, ← onceZ_map]
      exact AL.ofZ fun z hz0 => hzr z (onceZ_in hz0)
    refine ⟨_, rfl, ?_⟩
    refine Ops.step (One.call rfl rfl rfl (ent_f rfl (evl1 (ev_t rfl)) (enters en88)) (row_ct u2 _ (own_form (F6.get 0 rfl))) (fun e w7 hw7 => ?_))
    obtain ⟨rfl, C7⟩ := hw7
    have F7 := F6.call C7
    refine ⟨_, rfl, ?_⟩
    refine Ops.step (One.call rfl rfl rfl (ent_f rfl (evl2 (ev_t rfl) ev_c) (enters en70)) (told_ct (.mk 5 0 ⟨#[]⟩ [] (onceL (sortL Tr.ord t.list))) true _ _ (Rep.close (RepE.nil _ _) ((hal2.chg F7.chg).repL (by rw [List.length_map]; exact F7.get 0 rfl))) hTf hTw) (fun e w8 hw8 => ?_))
    obtain ⟨x1, G1, rfl, C8, hs1, hb1⟩ := hw8
    have F8 := F7.new C8 (sep G1 _ x1.val) hs1 hb1
    refine ⟨_, rfl, ?_⟩
    refine Ops.step (One.val rfl rfl rfl (yld_extract rfl (ev_t rfl) rfl) ?_)
    refine Ops.step (One.val rfl rfl rfl (yld_extract rfl (ev_t rfl) rfl) ?_)
    refine Ops.step (One.storeN (vs := [_, _, _, _, _]) F8 2 rfl sz31 rfl rfl rfl (ev_t rfl) (ev_t rfl) rfl rfl hs1.one ?_)
    intro w9 F9
    change Fr _ _ [_, _, blk _ _ [_, _, _, _, _], blk _ _ [_, _, _, _, _]] _ at F9
    refine Ops.step (One.val rfl rfl rfl (yld_assign rfl (ev_t rfl)) ?_)
    refine Ops.nil fun a hS => ?_
    refine hK5 _ _ ?_ a hS
    refine Cod.ret fun a hS => ?_
    try simp only [Exit.then, Exit.inBlock]
    exact retct (t := 2) (u := 3) (ty := 31) rfl hS ag31 rfl rfl (F9.range (m := 5) (cs' := [_, _, _, _, _]) 2 rfl rfl) rfl ⟨x1, G1, by rw [hyes]; rfl, F9.chg, by rw [hyes]; exact F9.get 0 rfl, fun b hb => (F9.dom _ (List.mem_of_getElem? (i := 0) rfl) b hb).resolve_left id⟩

end Go.Proofs.Ytodbflfelimppaa.Eng
