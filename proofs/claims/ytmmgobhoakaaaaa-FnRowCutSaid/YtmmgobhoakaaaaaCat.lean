/- Walks of slices.Grow and slices.Concat over trees: a row of the call's own with the elements of all rows. -/
import Derived.Test.YtmmgobhoakaaaaaCom
import Derived.Test.YtmmgobhoakaaaaaNil
import Derived.Test.YtmmgobhoakaaaaaIns
namespace Go.Proofs.Ytmmgobhoakaaaaa.Eng
open Go.RowKit
set_option linter.unusedVariables false
set_option linter.unusedSimpArgs false
set_option maxHeartbeats 1000000


section
variable {P : Program} {n : Nat} {ops : Array Oper} {Q : Exit → Act → World → Prop} {S : Env} {o : Oper} {d : Nat} {g : Bool} {v : Value} {N : Env → World → Prop} {X : Nat → Prop} {w0 w : World} {L : List Res} {x y : Operand}
theorem One.appendNilZ {t tn e sz by' k : Nat} {kI : Int} {z : Value} (F : Fr X w0 L w) (ht : sliceT P t e sz by' = true) (hz : (P.info? e).bind (·.zero) = some z) (hzs : z.cells.size = sz) (hsz : Nat.blt 0 sz = true) (htn : P.underlying tn = some (.int .i64))
    (hg : o.guard = none) (hd : o.dst = some d) (hn : Nat.blt d n = true) (ho : o.op = .call { callee := .builtin .append, args := #[x, y], argTypes := #[t, tn] }) (hx : Ev S true x (.slice none 0 0)) (hy : Ev S true y (.int .i64 kI)) (hk : kI = (k : Int))
    (h0 : 0 < k) (hb : k * by' ≤ 140737488355328) (hb' : k ≤ 4611686018427387904)
    (h : ∀ b cap cells w', w.heap.size = b → cells.length = k * sz → k ≤ cap → Fr X w0 (own e sz (.slice (some ⟨b, 0, none⟩) k cap) k cells :: L) w' → N ((d, true, .slice (some ⟨b, 0, none⟩) k cap) :: S) w') : One P n ops Q o S w N := by
  obtain ⟨hu, i, hin, hs, hby⟩ := sliceT_spec ht
  have hzz : i.zero = some z := by simpa [hin] using hz
  have hsz' : 0 < sz := by simpa using hsz
  subst hk
  subst hs
  subst hby
  have hr := Lib.run_append_nil_zeros (P := P) w t tn o.type e i z .i64 .i64 hu htn hin hzz k h0 hsz' (by omega) (by omega)
  have hge : k ≤ grownCap w k 0 e := grownCap_ge w _ _ _
  have hle : grownCap w k 0 e ≤ maxLen := grownCap_le_maxLen w k 0 e (by unfold maxLen; omega)
  generalize grownCap w k 0 e = G at hr hge hle
  have hcells : (Builtin.zeroCells z.cells k ++ Builtin.zeroCells z.cells (G - k)).size = G * i.size := by
    simp only [Array.size_append, size_zeroCells, hzs]
    rw [← Nat.add_mul]
    congr 1; omega
  have hmk : k * i.size ≤ G * i.size := Nat.mul_le_mul_right _ hge
  refine One.wrd (w' := w.drew.alloc (.cells (Builtin.zeroCells z.cells k ++ Builtin.zeroCells z.cells (G - k)) e)) hg hd hn (fun a hs => ?_) (h w.heap.size G ((Builtin.zeroCells z.cells k ++ Builtin.zeroCells z.cells (G - k)).toList.take (k * i.size)) _ rfl ?_ hge ?_)
  · have ex := hx n a hs rfl
    have ey := hy n a hs rfl
    generalize a.eval = ρ at ex ey ⊢
    simp [execOp, ho, resolve, invoke, builtin, ex, ey, hr]
  · rw [List.length_take, Array.length_toList, hcells]; omega
  · refine F.drew.new (Chg.alloc w.drew _) (own e i.size _ _ _) ⟨?_, .inr ⟨w.heap.size, G, _, rfl, Nat.zero_le _, heap_alloc_new w.drew _, hge, hle, hcells, rfl⟩⟩ fun k' hk' => ?_
    · rw [List.length_take, Array.length_toList, hcells]; omega
    · simp [own, Value.ownBlock] at hk'
      show w.heap.size ≤ k'
      omega
end
theorem own_cut0 {w : World} {e sz b n cap : Nat} {cells : List Value} (h : w.ownsRow 0 e sz (.slice (some ⟨b, 0, none⟩) n cap) n cells) : w.ownsRow 0 e sz (.slice (some ⟨b, 0, none⟩) 0 cap) 0 [] := by
  obtain ⟨hl, h⟩ := h
  rcases h with ⟨h', _⟩ | ⟨g, cap', cur, h', hb, hg, hnc, hcm, hcs, htake⟩
  · cases h'
  · obtain ⟨rfl, rfl⟩ : b = g ∧ cap = cap' := by simpa using h'
    exact ⟨by simp, .inr ⟨b, cap, cur, rfl, hb, hg, Nat.zero_le _, hcm, hcs, by simp⟩⟩
theorem grow_own {b m c j s : Nat} (hj : (Value.slice (some ⟨b, 0, none⟩) m c).ownBlock = some j) (h : s = b) : s ≤ j := by
  simp [Value.ownBlock] at hj
  omega
def rowsN (rows : List (List V5 × Value)) (i : Nat) : Nat := sumN (fun p => p.1.length) (rows.take i)
theorem rowsN_step {rows : List (List V5 × Value)} {i : Nat} (hi : i < rows.length) : rowsN rows (i + 1) = rowsN rows i + rows[i].1.length := by
  unfold rowsN
  exact sumN_take (fun p : List V5 × Value => p.1.length) rows i hi
theorem rowsN_le (rows : List (List V5 × Value)) (i : Nat) : rowsN rows i ≤ sumN (fun p => p.1.length) rows := sumN_take_le _ _ _
def rowsL (rows : List (List V5 × Value)) (i : Nat) : List V5 := (rows.take i).flatMap (·.1)
theorem rowsL_step {rows : List (List V5 × Value)} {i : Nat} (hi : i < rows.length) : rowsL rows (i + 1) = rowsL rows i ++ rows[i].1 := by
  unfold rowsL
  rw [List.take_succ_eq_append_getElem hi, List.flatMap_append]
  simp
theorem rowsL_len : ∀ (rows : List (List V5 × Value)) (i : Nat), (rowsL rows i).length = rowsN rows i
  | [], i => by simp [rowsL, rowsN, sumN]
  | p :: rows, 0 => by simp [rowsL, rowsN, sumN]
  | p :: rows, i + 1 => by
    have h := rowsL_len rows i
    unfold rowsL rowsN at h ⊢
    rw [List.take_succ_cons, List.flatMap_cons, List.length_append, sumN_cons, h]

set_option maxRecDepth 100000 in
theorem growV_ct (k : Nat) (w : World) (hk : k ≤ 1048576) : Calls Try.prog 129 #[.slice none 0 0, .int .i64 (k : Int)] w fun e w' => ∃ v', e = .returned v' ∧ Chg No w w' ∧ (own 26 5 v' 0 []).is w' ∧ ∀ j, v'.ownBlock = some j → w.heap.size ≤ j := by
  refine enter Try.func129 rfl rfl rfl ?_
  have F0 := Fr.start w
  refine Cod.seq fun K1 hK1 => ?_
  refine Cod.region ?_
  refine Ops.step (One.val rfl rfl rfl (yld_assign rfl ev_c) ?_)
  refine Ops.nil fun a hS => ?_
  refine hK1 _ _ ?_ a hS
  refine Cod.seq fun K2 hK2 => ?_
  refine Cod.seq fun K3 hK3 => ?_
  refine Cod.region ?_
  refine Ops.step (One.val rfl rfl rfl (yld_move rfl (ev_t rfl)) ?_)
  refine Ops.step (One.val rfl rfl rfl (yld_lss rfl (ev_t rfl) ev_c) ?_)
  refine Ops.nil fun a hS => ?_
  refine hK3 _ _ ?_ a hS
  refine Cod.cond rfl (fun hc6 => ?_) (fun hc6 => ?_)
  · skip
    (simp at hc6; omega)
  · skip
    skip
    refine Cod.skip fun a hS => ?_
    refine hK2 _ _ ?_ a hS
    refine Cod.seq fun K4 hK4 => ?_
    refine Cod.seq fun K5 hK5 => ?_
    refine Cod.region ?_
    refine Ops.step (One.val rfl rfl rfl (yld_move rfl (ev_t rfl)) ?_)
    refine Ops.step (One.val rfl rfl rfl (yld_move rfl (ev_t rfl)) ?_)
    refine Ops.step (One.val rfl rfl rfl (yld_cap sl24 rfl (ev_t rfl)) ?_)
    refine Ops.step (One.val rfl rfl rfl (yld_move rfl (ev_t rfl)) ?_)
    refine Ops.step (One.val rfl rfl rfl (yld_len sl24 rfl (ev_t rfl)) ?_)
    refine Ops.step (One.val rfl rfl rfl (yld_sub rfl (ev_t rfl) (ev_t rfl) (fun _ => by omega)) ?_)
    refine Ops.step (One.val rfl rfl rfl (yld_sub rfl (ev_t rfl) (ev_t rfl) (fun _ => by omega)) ?_)
    refine Ops.step (One.val rfl rfl rfl (yld_assign rfl (ev_t rfl)) ?_)
    refine Ops.nil fun a hS => ?_
    refine hK5 _ _ ?_ a hS
    refine Cod.seq fun K6 hK6 => ?_
    refine Cod.region ?_
    refine Ops.step (One.val rfl rfl rfl (yld_move rfl (ev_t rfl)) ?_)
    refine Ops.step (One.val rfl rfl rfl (yld_gtr rfl (ev_t rfl) ev_c) ?_)
    refine Ops.nil fun a hS => ?_
    refine hK6 _ _ ?_ a hS
    refine Cod.cond rfl (fun hc16 => ?_) (fun hc16 => ?_)
    · skip
      have h0 : 0 < k := by simp at hc16; omega
      refine Cod.region ?_
      refine Ops.step (One.val rfl rfl rfl (yld_move rfl (ev_t rfl)) ?_)
      refine Ops.step (One.val rfl rfl rfl (yld_move rfl (ev_t rfl)) ?_)
      refine Ops.step (One.val rfl rfl rfl (yld_cap sl24 rfl (ev_t rfl)) ?_)
      refine Ops.step (One.val rfl rfl rfl (yld_slcH 0 sl24 rfl (ev_t rfl) (ev_t rfl) rfl (Nat.le_refl _)) ?_)
      refine Ops.step (One.val rfl rfl rfl (yld_move rfl (ev_t rfl)) ?_)
      refine Ops.step (One.appendNilZ (k := k) F0 sl24 zero26 rfl rfl Try.underlying3 rfl rfl rfl rfl (ev_t rfl) (ev_t rfl) (by omega) (by omega) (by omega) (by omega) ?_)
      intro b2 cp2 cells2 w1 hb2 hl2 hcp2 F1
      refine Ops.step (One.val rfl rfl rfl (yld_move rfl (ev_t rfl)) ?_)
      refine Ops.step (One.val rfl rfl rfl (yld_len sl24 rfl (ev_t rfl)) ?_)
      refine Ops.step (One.val rfl rfl rfl (yld_slcH' 0 sl24 rfl (ev_t rfl) (ev_t rfl) rfl (Nat.zero_le _) (by omega)) ?_)
      refine Ops.step (One.val rfl rfl rfl (yld_assign rfl (ev_t rfl)) ?_)
      refine Ops.nil fun a hS => ?_
      refine hK4 _ _ ?_ a hS
      refine Cod.seq fun K7 hK7 => ?_
      refine Cod.region ?_
      refine Ops.step (One.val rfl rfl rfl (yld_move rfl (ev_t rfl)) ?_)
      refine Ops.step (One.val rfl rfl rfl (yld_assign rfl (ev_t rfl)) ?_)
      refine Ops.nil fun a hS => ?_
      refine hK7 _ _ ?_ a hS
      refine Cod.ret fun a hS => ?_
      try simp only [Exit.then, Exit.inBlock]
      first
        | exact ret1 (t := 4) rfl hS rfl ⟨_, rfl, F1.chg, own_cut0 (F1.get 0 rfl), fun j hj => grow_own hj hb2⟩
        | exact ret1 (t := 4) rfl hS rfl ⟨_, rfl, F1.chg, World.ownsRow_nil _ 0 26 5, fun j hj => by simp [Value.ownBlock] at hj⟩
    · skip
      have h0 : k = 0 := by simp at hc16; omega
      refine Cod.skip fun a hS => ?_
      refine hK4 _ _ ?_ a hS
      refine Cod.seq fun K8 hK8 => ?_
      refine Cod.region ?_
      refine Ops.step (One.val rfl rfl rfl (yld_move rfl (ev_t rfl)) ?_)
      refine Ops.step (One.val rfl rfl rfl (yld_assign rfl (ev_t rfl)) ?_)
      refine Ops.nil fun a hS => ?_
      refine hK8 _ _ ?_ a hS
      refine Cod.ret fun a hS => ?_
      try simp only [Exit.then, Exit.inBlock]
      first
        | exact ret1 (t := 4) rfl hS rfl ⟨_, rfl, F0.chg, own_cut0 (F0.get 0 rfl), fun j hj => grow_own hj hb2⟩
        | exact ret1 (t := 4) rfl hS rfl ⟨_, rfl, F0.chg, World.ownsRow_nil _ 0 26 5, fun j hj => by simp [Value.ownBlock] at hj⟩

set_option maxRecDepth 100000 in
theorem concatV_ct (rows : List (List V5 × Value)) (bl : Nat) (w : World) (hb : w.rangeAt bl 0 (rows.map (·.2))) (hr : ∀ p ∈ rows, RepE enc5 5 Any w p.1 p.2) (hone : ∀ p ∈ rows, ∀ x ∈ p.1, (enc5 x).all (·.oneCell') = true) (hn : sumN (fun p => p.1.length) rows ≤ 100000) (hr2 : rows.length ≤ 100) : Calls Try.prog 96 #[.slice (some ⟨bl, 0, none⟩) rows.length rows.length] w fun e w' => ∃ v', e = .returned v' ∧ Chg No w w' ∧ (own 26 5 v' (rowsL rows rows.length).length ((rowsL rows rows.length).flatMap enc5)).is w' ∧ ∀ j, v'.ownBlock = some j → w.heap.size ≤ j := by
  refine enter Try.func96 rfl rfl rfl ?_
  have F0 := Fr.start w
  refine Cod.seq fun K1 hK1 => ?_
  refine Cod.region ?_
  refine Ops.step (One.val rfl rfl rfl (yld_assign rfl ev_c) ?_)
  refine Ops.nil fun a hS => ?_
  refine hK1 _ _ ?_ a hS
  refine Cod.seq fun K2 hK2 => ?_
  refine Cod.region ?_
  refine Ops.step (One.val rfl rfl rfl (yld_assign rfl ev_c) ?_)
  refine Ops.nil fun a hS => ?_
  refine hK2 _ _ ?_ a hS
  refine Cod.seq fun K3 hK3 => ?_
  refine Cod.seq fun K4 hK4 => ?_
  refine Cod.region ?_
  refine Ops.step (One.val rfl rfl rfl (yld_move rfl (ev_t rfl)) ?_)
  refine Ops.step (One.val rfl rfl rfl (yld_len sl120 rfl (ev_t rfl)) ?_)
  refine Ops.step (One.val rfl rfl rfl (yld_move rfl ev_c) ?_)
  refine Ops.nil fun a hS => ?_
  refine hK4 _ _ ?_ a hS
  refine Cod.block ?_
  refine Cod.loop (fun i : Nat => [(0, true, .slice (some ⟨bl, 0, none⟩) rows.length rows.length), (3, true, .int .i64 ((rowsN rows i : Nat) : Int)), (9, true, .slice (some ⟨bl, 0, none⟩) rows.length rows.length), (10, true, .int .i64 (rows.length : Int)), (11, true, .int .i64 (i : Int))]) (fun i w' => i ≤ rows.length ∧ Fr No w [] w') (fun i => rows.length - i) 0 ⟨rfl, rfl, rfl, rfl, rfl, trivial⟩ ⟨Nat.zero_le _, F0⟩ ?_
  intro i w1 hW K5 hK5
  obtain ⟨hi0, F1⟩ := hW
  have hle := rowsN_le rows i
  refine Cod.seq fun K6 hK6 => ?_
  refine Cod.region ?_
  refine Ops.step (One.val rfl rfl rfl (yld_lss rfl (ev_t rfl) (ev_t rfl)) ?_)
  refine Ops.nil fun a hS => ?_
  refine hK6 _ _ ?_ a hS
  refine Cod.seq fun K7 hK7 => ?_
  refine Cod.cond rfl (fun hc12 => ?_) (fun hc12 => ?_)
  · skip
    have hi : i < rows.length := by simpa using hc12
    obtain ⟨A, c, hv, -, -, -⟩ := hr _ (List.getElem_mem hi)
    have hcell : (rows.map (·.2))[i]? = some (.slice A rows[i].1.length c) := by rw [← hv]; simp [hi]
    have hle2 := rowsN_le rows (i + 1)
    have hst : ((rowsN rows (i + 1) : Nat) : Int) = ((rowsN rows i : Nat) : Int) + (rows[i].1.length : Int) := by rw [rowsN_step hi]; omega
    rw [rowsN_step hi] at hle2
    refine Cod.skip fun a hS => ?_
    refine hK7 _ _ ?_ a hS
    refine Cod.seq fun K8 hK8 => ?_
    refine Cod.block ?_
    refine Cod.seq fun K9 hK9 => ?_
    refine Cod.region ?_
    refine Ops.step (One.val rfl rfl rfl (yld_indexN sl120 rfl (ev_t rfl) (ev_t rfl) (fun _ => by omega)) ?_)
    refine Ops.step (One.val rfl rfl rfl (yld_load1 on24 rfl (ev_t rfl) (fun _ => (by have h := hb i _ hcell; have h2 := F1.chg.cell h id; simpa using h2))) ?_)
    refine Ops.step (One.val rfl rfl rfl (yld_assign rfl (ev_t rfl)) ?_)
    refine Ops.nil fun a hS => ?_
    refine hK9 _ _ ?_ a hS
    refine Cod.seq fun K10 hK10 => ?_
    refine Cod.region ?_
    refine Ops.step (One.val rfl rfl rfl (yld_move rfl (ev_t rfl)) ?_)
    refine Ops.step (One.val rfl rfl rfl (yld_move rfl (ev_t rfl)) ?_)
    refine Ops.step (One.val rfl rfl rfl (yld_len sl24 rfl (ev_t rfl)) ?_)
    refine Ops.step (One.val rfl rfl rfl (yld_add rfl (ev_t rfl) (ev_t rfl) (fun _ => by omega)) ?_)
    refine Ops.step (One.val rfl rfl rfl (yld_assign rfl (ev_t rfl)) ?_)
    refine Ops.nil fun a hS => ?_
    refine hK10 _ _ ?_ a hS
    refine Cod.seq fun K11 hK11 => ?_
    refine Cod.region ?_
    refine Ops.step (One.val rfl rfl rfl (yld_move rfl (ev_t rfl)) ?_)
    refine Ops.step (One.val rfl rfl rfl (yld_lss rfl (ev_t rfl) ev_c) ?_)
    refine Ops.nil fun a hS => ?_
    refine hK11 _ _ ?_ a hS
    refine Cod.cond rfl (fun hc20 => ?_) (fun hc20 => ?_)
    · skip
      (simp at hc20; omega)
    · skip
      skip
      refine Cod.skip fun a hS => ?_
      refine hK8 _ _ ?_ a hS
      refine Cod.region ?_
      refine Ops.step (One.val rfl rfl rfl (yld_inc rfl (ev_t rfl) (fun _ => by omega)) ?_)
      refine Ops.step (One.val rfl rfl rfl (yld_move rfl (ev_t rfl)) ?_)
      refine Ops.nil fun a hS => ?_
      rw [← hst] at hS
      exact hK5 (i + 1) _ a (hS.sub ⟨rfl, rfl, rfl, rfl, rfl, trivial⟩) ⟨by omega, F1⟩ (by omega)
  · skip
    obtain rfl : i = rows.length := by simp at hc12; omega
    refine Cod.exit fun a hS => ?_
    simp only [Exit.then, Exit.inBlock, ↓reduceIte]
    refine hK3 _ _ ?_ a hS
    refine Cod.seq fun K12 hK12 => ?_
    refine Cod.region ?_
    refine Ops.step (One.val rfl rfl rfl (yld_move rfl (ev_t rfl)) ?_)
    refine Ops.step (One.call rfl rfl rfl (ent_f rfl (evl2 ev_c (ev_t rfl)) (enters en129)) (growV_ct (rowsN rows rows.length) _ (by omega)) (fun e w2 hw2 => ?_))
    obtain ⟨u, rfl, C2, ho, hob⟩ := hw2
    have F2 := F1.new C2 (own 26 5 u 0 []) ho hob
    refine ⟨_, rfl, ?_⟩
    refine Ops.step (One.val rfl rfl rfl (yld_assign rfl (ev_t rfl)) ?_)
    refine Ops.nil fun a hS => ?_
    refine hK12 _ _ ?_ a hS
    refine Cod.seq fun K13 hK13 => ?_
    refine Cod.seq fun K14 hK14 => ?_
    refine Cod.region ?_
    refine Ops.step (One.val rfl rfl rfl (yld_move rfl (ev_t rfl)) ?_)
    refine Ops.step (One.val rfl rfl rfl (yld_len sl120 rfl (ev_t rfl)) ?_)
    refine Ops.step (One.val rfl rfl rfl (yld_move rfl ev_c) ?_)
    refine Ops.nil fun a hS => ?_
    refine hK14 _ _ ?_ a hS
    refine Cod.block ?_
    refine Cod.loop (fun i : Nat × Value => [(6, true, i.2), (25, true, .slice (some ⟨bl, 0, none⟩) rows.length rows.length), (26, true, .int .i64 (rows.length : Int)), (27, true, .int .i64 (i.1 : Int))]) (fun i w' => i.1 ≤ rows.length ∧ Fr No w [own 26 5 i.2 (rowsL rows i.1).length ((rowsL rows i.1).flatMap enc5)] w') (fun i => rows.length - i.1) (0, u) ⟨rfl, rfl, rfl, rfl, trivial⟩ ⟨Nat.zero_le _, F2⟩ ?_
    intro i w3 hW K15 hK15
    obtain ⟨i, u⟩ := i
    obtain ⟨hi0, F3⟩ := hW
    dsimp only at *
    have hle := rowsN_le rows i
    have hll := rowsL_len rows i
    refine Cod.seq fun K16 hK16 => ?_
    refine Cod.region ?_
    refine Ops.step (One.val rfl rfl rfl (yld_lss rfl (ev_t rfl) (ev_t rfl)) ?_)
    refine Ops.nil fun a hS => ?_
    refine hK16 _ _ ?_ a hS
    refine Cod.seq fun K17 hK17 => ?_
    refine Cod.cond rfl (fun hc28 => ?_) (fun hc28 => ?_)
    · skip
      have hi : i < rows.length := by simpa using hc28
      obtain ⟨A, c, hv, -, -, -⟩ := hr _ (List.getElem_mem hi)
      have hcell : (rows.map (·.2))[i]? = some (.slice A rows[i].1.length c) := by rw [← hv]; simp [hi]
      have hle2 := rowsN_le rows (i + 1)
      rw [rowsN_step hi] at hle2
      have hrr := hr _ (List.getElem_mem hi)
      rw [hv] at hrr
      refine Cod.skip fun a hS => ?_
      refine hK17 _ _ ?_ a hS
      refine Cod.seq fun K18 hK18 => ?_
      refine Cod.block ?_
      refine Cod.seq fun K19 hK19 => ?_
      refine Cod.region ?_
      refine Ops.step (One.val rfl rfl rfl (yld_indexN sl120 rfl (ev_t rfl) (ev_t rfl) (fun _ => by omega)) ?_)
      refine Ops.step (One.val rfl rfl rfl (yld_load1 on24 rfl (ev_t rfl) (fun _ => (by have h := hb i _ hcell; have h2 := F3.chg.cell h id; simpa using h2))) ?_)
      refine Ops.step (One.val rfl rfl rfl (yld_assign rfl (ev_t rfl)) ?_)
      refine Ops.nil fun a hS => ?_
      refine hK19 _ _ ?_ a hS
      refine Cod.region ?_
      refine Ops.step (One.val rfl rfl rfl (yld_move rfl (ev_t rfl)) ?_)
      refine Ops.step (One.val rfl rfl rfl (yld_move rfl (ev_t rfl)) ?_)
      refine Ops.step (One.append (enc := enc5) rows[i].1 F3 0 rfl sl24 zero26 rfl rfl (fun _ => rfl) rfl rfl rfl rfl (ev_t rfl) (ev_t rfl) (hrr.chg F3.chg) (hone _ (List.getElem_mem hi)) (by omega) (by omega) ?_)
      intro u2 w4 hu2 F4
      change Fr _ _ [_] _ at F4
      refine Ops.step (One.val rfl rfl rfl (yld_assign rfl (ev_t rfl)) ?_)
      refine Ops.nil fun a hS => ?_
      refine hK18 _ _ ?_ a hS
      refine Cod.region ?_
      refine Ops.step (One.val rfl rfl rfl (yld_inc rfl (ev_t rfl) (fun _ => by omega)) ?_)
      refine Ops.step (One.val rfl rfl rfl (yld_move rfl (ev_t rfl)) ?_)
      refine Ops.nil fun a hS => ?_
      have hlL := rowsL_step hi
      refine hK15 (i + 1, u2) _ a (hS.sub ⟨rfl, rfl, rfl, rfl, trivial⟩) ⟨by show i + 1 ≤ _; omega, by rw [hlL]; exact F4⟩ (by show rows.length - (i + 1) < rows.length - i; omega)
    · skip
      obtain rfl : i = rows.length := by simp at hc28; omega
      refine Cod.exit fun a hS => ?_
      simp only [Exit.then, Exit.inBlock, ↓reduceIte]
      refine hK13 _ _ ?_ a hS
      refine Cod.seq fun K20 hK20 => ?_
      refine Cod.region ?_
      refine Ops.step (One.val rfl rfl rfl (yld_move rfl (ev_t rfl)) ?_)
      refine Ops.step (One.val rfl rfl rfl (yld_assign rfl (ev_t rfl)) ?_)
      refine Ops.nil fun a hS => ?_
      refine hK20 _ _ ?_ a hS
      refine Cod.ret fun a hS => ?_
      try simp only [Exit.then, Exit.inBlock]
      exact ret1 (t := 2) rfl hS rfl ⟨u, rfl, F3.chg, F3.get 0 rfl, fun j hj => (F3.dom _ (List.mem_cons_self ..) j hj).resolve_left id⟩

end Go.Proofs.Ytmmgobhoakaaaaa.Eng
