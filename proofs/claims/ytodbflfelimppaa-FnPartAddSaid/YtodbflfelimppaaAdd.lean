/- Walks of both PartAdd: numbers, texts, rows and trees by keys are added. -/
import Derived.Test.YtodbflfelimppaaRKeysP
import Derived.Test.YtodbflfelimppaaLawC
import Derived.Test.YtodbflfelimppaaLawT
import Derived.Test.YtodbflfelimppaaNil
import Derived.Test.YtodbflfelimppaaIns
namespace Go.Proofs.Ytodbflfelimppaa.Eng
open Go.RowKit
set_option linter.unusedVariables false
set_option linter.unusedSimpArgs false
set_option maxHeartbeats 1000000


section
variable {P : Program} {n : Nat} {ops : Array Oper} {Q : Exit → Act → World → Prop} {S : Env} {o : Oper} {d : Nat} {g : Bool} {v : Value} {N : Env → World → Prop} {X : Nat → Prop} {w0 w : World} {L : List Res} {x y : Operand}
theorem One.appendNilZ {t tn e sz by' k : Nat} {kI : Int} {z : Value} (F : Fr X w0 L w) (ht : sliceT P t e sz by' = true) (hz : (P.info? e).bind (·.zero) = some z) (hzs : z.cells.size = sz) (hsz : Nat.blt 0 sz = true) (htn : P.underlying tn = some (.int .i64))
    (hg : o.guard = none) (hd : o.dst = some d) (hn : Nat.blt d n = true) (ho : o.op = .call { callee := .builtin .append, args := #[x, y], argTypes := #[t, tn] }) (hx : Ev S true x (.slice none 0 0)) (hy : Ev S true y (.int .i64 kI)) (hk : kI = (k : Int))
    (h0 : 0 < k) (hb : k * by' ≤ 140737488355328) (hb' : k ≤ 4611686018427387904)
    (h : ∀ b cap cells w', w.heap.size = b → cells.length = k * sz → k ≤ cap → Fr X w0 (own e sz (.slice (some ⟨b, 0, none⟩) k cap) k cells :: L) w' → N ((d, true, .slice (some ⟨b, 0, none⟩) k cap) :: S) w') : One P n ops Q o S w N := by
  obtain ⟨hu, i, hin, hs, hby⟩ := sliceT_spec ht
  have hzz : i.zero = some z := by simpa [hin] using hz
  have hsz' : 0 < sz := by simpa using hsz
  subst hk
  subst hs
  subst hby
  have hr := Lib.run_append_nil_zeros (P := P) w t tn o.type e i z .i64 .i64 hu htn hin hzz k h0 hsz' (by omega) (by omega)
  have hge : k ≤ grownCap w k 0 e := grownCap_ge w _ _ _
  have hle : grownCap w k 0 e ≤ maxLen := grownCap_le_maxLen w k 0 e (by unfold maxLen; omega)
  generalize grownCap w k 0 e = G at hr hge hle
  have hcells : (Builtin.zeroCells z.cells k ++ Builtin.zeroCells z.cells (G - k)).size = G * i.size := by
    simp only [Array.size_append, size_zeroCells, hzs]
    rw [← Nat.add_mul]
    congr 1; omega
  have hmk : k * i.size ≤ G * i.size := Nat.mul_le_mul_right _ hge
  refine One.wrd (w' := w.drew.alloc (.cells (Builtin.zeroCells z.cells k ++ Builtin.zeroCells z.cells (G - k)) e)) hg hd hn (fun a hs => ?_) (h w.heap.size G ((Builtin.zeroCells z.cells k ++ Builtin.zeroCells z.cells (G - k)).toList.take (k * i.size)) _ rfl ?_ hge ?_)
  · have ex := hx n a hs rfl
    have ey := hy n a hs rfl
    generalize a.eval = ρ at ex ey ⊢
    simp [execOp, ho, resolve, invoke, builtin, ex, ey, hr]
  · rw [List.length_take, Array.length_toList, hcells]; omega
  · refine F.drew.new (Chg.alloc w.drew _) (own e i.size _ _ _) ⟨?_, .inr ⟨w.heap.size, G, _, rfl, Nat.zero_le _, heap_alloc_new w.drew _, hge, hle, hcells, rfl⟩⟩ fun k' hk' => ?_
    · rw [List.length_take, Array.length_toList, hcells]; omega
    · simp [own, Value.ownBlock] at hk'
      show w.heap.size ≤ k'
      omega
end
theorem own_cut0 {w : World} {e sz b n cap : Nat} {cells : List Value} (h : w.ownsRow 0 e sz (.slice (some ⟨b, 0, none⟩) n cap) n cells) : w.ownsRow 0 e sz (.slice (some ⟨b, 0, none⟩) 0 cap) 0 [] := by
  obtain ⟨hl, h⟩ := h
  rcases h with ⟨h', _⟩ | ⟨g, cap', cur, h', hb, hg, hnc, hcm, hcs, htake⟩
  · cases h'
  · obtain ⟨rfl, rfl⟩ : b = g ∧ cap = cap' := by simpa using h'
    exact ⟨by simp, .inr ⟨b, cap, cur, rfl, hb, hg, Nat.zero_le _, hcm, hcs, by simp⟩⟩
theorem grow_own {b m c j s : Nat} (hj : (Value.slice (some ⟨b, 0, none⟩) m c).ownBlock = some j) (h : s = b) : s ≤ j := by
  simp [Value.ownBlock] at hj
  omega
def rowsN (rows : List (List V5 × Value)) (i : Nat) : Nat := sumN (fun p => p.1.length) (rows.take i)
theorem rowsN_step {rows : List (List V5 × Value)} {i : Nat} (hi : i < rows.length) : rowsN rows (i + 1) = rowsN rows i + rows[i].1.length := by
  unfold rowsN
  exact sumN_take (fun p : List V5 × Value => p.1.length) rows i hi
theorem rowsN_le (rows : List (List V5 × Value)) (i : Nat) : rowsN rows i ≤ sumN (fun p => p.1.length) rows := sumN_take_le _ _ _
def rowsL (rows : List (List V5 × Value)) (i : Nat) : List V5 := (rows.take i).flatMap (·.1)
theorem rowsL_step {rows : List (List V5 × Value)} {i : Nat} (hi : i < rows.length) : rowsL rows (i + 1) = rowsL rows i ++ rows[i].1 := by
  unfold rowsL
  rw [List.take_succ_eq_append_getElem hi, List.flatMap_append]
  simp
theorem rowsL_len : ∀ (rows : List (List V5 × Value)) (i : Nat), (rowsL rows i).length = rowsN rows i
  | [], i => by simp [rowsL, rowsN, sumN]
  | p :: rows, 0 => by simp [rowsL, rowsN, sumN]
  | p :: rows, i + 1 => by
    have h := rowsL_len rows i
    unfold rowsL rowsN at h ⊢
    rw [List.take_succ_cons, List.flatMap_cons, List.length_append, sumN_cons, h]

set_option maxRecDepth 100000 in
theorem growV_ct (k : Nat) (w : World) (hk : k ≤ 1048576) : Calls Try.prog 131 #[.slice none 0 0, .int .i64 (k : Int)] w fun e w' => ∃ v', e = .returned v' ∧ Chg No w w' ∧ (own 31 5 v' 0 []).is w' ∧ ∀ j, v'.ownBlock = some j → w.heap.size ≤ j := by
  refine enter Try.func131 rfl rfl rfl ?_
  have F0 := Fr.start w
  refine Cod.seq fun K1 hK1 => ?_
  refine Cod.region ?_
  refine Ops.step (One.val rfl rfl rfl (yld_assign rfl ev_c) ?_)
  refine Ops.nil fun a hS => ?_
  refine hK1 _ _ ?_ a hS
  refine Cod.seq fun K2 hK2 => ?_
  refine Cod.seq fun K3 hK3 => ?_
  refine Cod.region ?_
  refine Ops.step (One.val rfl rfl rfl (yld_move rfl (ev_t rfl)) ?_)
  refine Ops.step (One.val rfl rfl rfl (yld_lss rfl (ev_t rfl) ev_c) ?_)
  refine Ops.nil fun a hS => ?_
  refine hK3 _ _ ?_ a hS
  refine Cod.cond rfl (fun hc6 => ?_) (fun hc6 => ?_)
  · skip
    (simp at hc6; omega)
  · skip
    skip
    refine Cod.skip fun a hS => ?_
    refine hK2 _ _ ?_ a hS
    refine Cod.seq fun K4 hK4 => ?_
    refine Cod.seq fun K5 hK5 => ?_
    refine Cod.region ?_
    refine Ops.step (One.val rfl rfl rfl (yld_move rfl (ev_t rfl)) ?_)
    refine Ops.step (One.val rfl rfl rfl (yld_move rfl (ev_t rfl)) ?_)
    refine Ops.step (One.val rfl rfl rfl (yld_cap sl29 rfl (ev_t rfl)) ?_)
    refine Ops.step (One.val rfl rfl rfl (yld_move rfl (ev_t rfl)) ?_)
    refine Ops.step (One.val rfl rfl rfl (yld_len sl29 rfl (ev_t rfl)) ?_)
    refine Ops.step (One.val rfl rfl rfl (yld_sub rfl (ev_t rfl) (ev_t rfl) (fun _ => by omega)) ?_)
    refine Ops.step (One.val rfl rfl rfl (yld_sub rfl (ev_t rfl) (ev_t rfl) (fun _ => by omega)) ?_)
    refine Ops.step (One.val rfl rfl rfl (yld_assign rfl (ev_t rfl)) ?_)
    refine Ops.nil fun a hS => ?_
    refine hK5 _ _ ?_ a hS
    refine Cod.seq fun K6 hK6 => ?_
    refine Cod.region ?_
    refine Ops.step (One.val rfl rfl rfl (yld_move rfl (ev_t rfl)) ?_)
    refine Ops.step (One.val rfl rfl rfl (yld_gtr rfl (ev_t rfl) ev_c) ?_)
    refine Ops.nil fun a hS => ?_
    refine hK6 _ _ ?_ a hS
    refine Cod.cond rfl (fun hc16 => ?_) (fun hc16 => ?_)
    · skip
      have h0 : 0 < k := by simp at hc16; omega
      refine Cod.region ?_
      refine Ops.step (One.val rfl rfl rfl (yld_move rfl (ev_t rfl)) ?_)
      refine Ops.step (One.val rfl rfl rfl (yld_move rfl (ev_t rfl)) ?_)
      refine Ops.step (One.val rfl rfl rfl (yld_cap sl29 rfl (ev_t rfl)) ?_)
      refine Ops.step (One.val rfl rfl rfl (yld_slcH 0 sl29 rfl (ev_t rfl) (ev_t rfl) rfl (Nat.le_refl _)) ?_)
      refine Ops.step (One.val rfl rfl rfl (yld_move rfl (ev_t rfl)) ?_)
      refine Ops.step (One.appendNilZ (k := k) F0 sl29 zero31 rfl rfl Try.underlying3 rfl rfl rfl rfl (ev_t rfl) (ev_t rfl) (by omega) (by omega) (by omega) (by omega) ?_)
      intro b2 cp2 cells2 w1 hb2 hl2 hcp2 F1
      refine Ops.step (One.val rfl rfl rfl (yld_move rfl (ev_t rfl)) ?_)
      refine Ops.step (One.val rfl rfl rfl (yld_len sl29 rfl (ev_t rfl)) ?_)
      refine Ops.step (One.val rfl rfl rfl (yld_slcH' 0 sl29 rfl (ev_t rfl) (ev_t rfl) rfl (Nat.zero_le _) (by omega)) ?_)
      refine Ops.step (One.val rfl rfl rfl (yld_assign rfl (ev_t rfl)) ?_)
      refine Ops.nil fun a hS => ?_
      refine hK4 _ _ ?_ a hS
      refine Cod.seq fun K7 hK7 => ?_
      refine Cod.region ?_
      refine Ops.step (One.val rfl rfl rfl (yld_move rfl (ev_t rfl)) ?_)
      refine Ops.step (One.val rfl rfl rfl (yld_assign rfl (ev_t rfl)) ?_)
      refine Ops.nil fun a hS => ?_
      refine hK7 _ _ ?_ a hS
      refine Cod.ret fun a hS => ?_
      try simp only [Exit.then, Exit.inBlock]
      first
        | exact ret1 (t := 4) rfl hS rfl ⟨_, rfl, F1.chg, own_cut0 (F1.get 0 rfl), fun j hj => grow_own hj hb2⟩
        | exact ret1 (t := 4) rfl hS rfl ⟨_, rfl, F1.chg, World.ownsRow_nil _ 0 31 5, fun j hj => by simp [Value.ownBlock] at hj⟩
    · skip
      have h0 : k = 0 := by simp at hc16; omega
      refine Cod.skip fun a hS => ?_
      refine hK4 _ _ ?_ a hS
      refine Cod.seq fun K8 hK8 => ?_
      refine Cod.region ?_
      refine Ops.step (One.val rfl rfl rfl (yld_move rfl (ev_t rfl)) ?_)
      refine Ops.step (One.val rfl rfl rfl (yld_assign rfl (ev_t rfl)) ?_)
      refine Ops.nil fun a hS => ?_
      refine hK8 _ _ ?_ a hS
      refine Cod.ret fun a hS => ?_
      try simp only [Exit.then, Exit.inBlock]
      first
        | exact ret1 (t := 4) rfl hS rfl ⟨_, rfl, F0.chg, own_cut0 (F0.get 0 rfl), fun j hj => grow_own hj hb2⟩
        | exact ret1 (t := 4) rfl hS rfl ⟨_, rfl, F0.chg, World.ownsRow_nil _ 0 31 5, fun j hj => by simp [Value.ownBlock] at hj⟩

set_option maxRecDepth 100000 in
theorem concatV_ct (rows : List (List V5 × Value)) (bl : Nat) (w : World) (hb : w.rangeAt bl 0 (rows.map (·.2))) (hr : ∀ p ∈ rows, RepE enc5 5 Any w p.1 p.2) (hone : ∀ p ∈ rows, ∀ x ∈ p.1, (enc5 x).all (·.oneCell') = true) (hn : sumN (fun p => p.1.length) rows ≤ 100000) (hr2 : rows.length ≤ 100) : Calls Try.prog 102 #[.slice (some ⟨bl, 0, none⟩) rows.length rows.length] w fun e w' => ∃ v', e = .returned v' ∧ Chg No w w' ∧ (own 31 5 v' (rowsL rows rows.length).length ((rowsL rows rows.length).flatMap enc5)).is w' ∧ ∀ j, v'.ownBlock = some j → w.heap.size ≤ j := by
  refine enter Try.func102 rfl rfl rfl ?_
  have F0 := Fr.start w
  refine Cod.seq fun K1 hK1 => ?_
  refine Cod.region ?_
  refine Ops.step (One.val rfl rfl rfl (yld_assign rfl ev_c) ?_)
  refine Ops.nil fun a hS => ?_
  refine hK1 _ _ ?_ a hS
  refine Cod.seq fun K2 hK2 => ?_
  refine Cod.region ?_
  refine Ops.step (One.val rfl rfl rfl (yld_assign rfl ev_c) ?_)
  refine Ops.nil fun a hS => ?_
  refine hK2 _ _ ?_ a hS
  refine Cod.seq fun K3 hK3 => ?_
  refine Cod.seq fun K4 hK4 => ?_
  refine Cod.region ?_
  refine Ops.step (One.val rfl rfl rfl (yld_move rfl (ev_t rfl)) ?_)
  refine Ops.step (One.val rfl rfl rfl (yld_len sl139 rfl (ev_t rfl)) ?_)
  refine Ops.step (One.val rfl rfl rfl (yld_move rfl ev_c) ?_)
  refine Ops.nil fun a hS => ?_
  refine hK4 _ _ ?_ a hS
  refine Cod.block ?_
  refine Cod.loop (fun i : Nat => [(0, true, .slice (some ⟨bl, 0, none⟩) rows.length rows.length), (3, true, .int .i64 ((rowsN rows i : Nat) : Int)), (9, true, .slice (some ⟨bl, 0, none⟩) rows.length rows.length), (10, true, .int .i64 (rows.length : Int)), (11, true, .int .i64 (i : Int))]) (fun i w' => i ≤ rows.length ∧ Fr No w [] w') (fun i => rows.length - i) 0 ⟨rfl, rfl, rfl, rfl, rfl, trivial⟩ ⟨Nat.zero_le _, F0⟩ ?_
  intro i w1 hW K5 hK5
  obtain ⟨hi0, F1⟩ := hW
  have hle := rowsN_le rows i
  refine Cod.seq fun K6 hK6 => ?_
  refine Cod.region ?_
  refine Ops.step (One.val rfl rfl rfl (yld_lss rfl (ev_t rfl) (ev_t rfl)) ?_)
  refine Ops.nil fun a hS => ?_
  refine hK6 _ _ ?_ a hS
  refine Cod.seq fun K7 hK7 => ?_
  refine Cod.cond rfl (fun hc12 => ?_) (fun hc12 => ?_)
  · skip
    have hi : i < rows.length := by simpa using hc12
    obtain ⟨A, c, hv, -, -, -⟩ := hr _ (List.getElem_mem hi)
    have hcell : (rows.map (·.2))[i]? = some (.slice A rows[i].1.length c) := by rw [← hv]; simp [hi]
    have hle2 := rowsN_le rows (i + 1)
    have hst : ((rowsN rows (i + 1) : Nat) : Int) = ((rowsN rows i : Nat) : Int) + (rows[i].1.length : Int) := by rw [rowsN_step hi]; omega
    rw [rowsN_step hi] at hle2
    refine Cod.skip fun a hS => ?_
    refine hK7 _ _ ?_ a hS
    refine Cod.seq fun K8 hK8 => ?_
    refine Cod.block ?_
    refine Cod.seq fun K9 hK9 => ?_
    refine Cod.region ?_
    refine Ops.step (One.val rfl rfl rfl (yld_indexN sl139 rfl (ev_t rfl) (ev_t rfl) (fun _ => by omega)) ?_)
    refine Ops.step (One.val rfl rfl rfl (yld_load1 on29 rfl (ev_t rfl) (fun _ => (by have h := hb i _ hcell; have h2 := F1.chg.cell h id; simpa using h2))) ?_)
    refine Ops.step (One.val rfl rfl rfl (yld_assign rfl (ev_t rfl)) ?_)
    refine Ops.nil fun a hS => ?_
    refine hK9 _ _ ?_ a hS
    refine Cod.seq fun K10 hK10 => ?_
    refine Cod.region ?_
    refine Ops.step (One.val rfl rfl rfl (yld_move rfl (ev_t rfl)) ?_)
    refine Ops.step (One.val rfl rfl rfl (yld_move rfl (ev_t rfl)) ?_)
    refine Ops.step (One.val rfl rfl rfl (yld_len sl29 rfl (ev_t rfl)) ?_)
    refine Ops.step (One.val rfl rfl rfl (yld_add rfl (ev_t rfl) (ev_t rfl) (fun _ => by omega)) ?_)
    refine Ops.step (One.val rfl rfl rfl (yld_assign rfl (ev_t rfl)) ?_)
    refine Ops.nil fun a hS => ?_
    refine hK10 _ _ ?_ a hS
    refine Cod.seq fun K11 hK11 => ?_
    refine Cod.region ?_
    refine Ops.step (One.val rfl rfl rfl (yld_move rfl (ev_t rfl)) ?_)
    refine Ops.step (One.val rfl rfl rfl (yld_lss rfl (ev_t rfl) ev_c) ?_)
    refine Ops.nil fun a hS => ?_
    refine hK11 _ _ ?_ a hS
    refine Cod.cond rfl (fun hc20 => ?_) (fun hc20 => ?_)
    · skip
      (simp at hc20; omega)
    · skip
      skip
      refine Cod.skip fun a hS => ?_
      refine hK8 _ _ ?_ a hS
      refine Cod.region ?_
      refine Ops.step (One.val rfl rfl rfl (yld_inc rfl (ev_t rfl) (fun _ => by omega)) ?_)
      refine Ops.step (One.val rfl rfl rfl (yld_move rfl (ev_t rfl)) ?_)
      refine Ops.nil fun a hS => ?_
      rw [← hst] at hS
      exact hK5 (i + 1) _ a (hS.sub ⟨rfl, rfl, rfl, rfl, rfl, trivial⟩) ⟨by omega, F1⟩ (by omega)
  · skip
    obtain rfl : i = rows.length := by simp at hc12; omega
    refine Cod.exit fun a hS => ?_
    simp only [Exit.then, Exit.inBlock, ↓reduceIte]
    refine hK3 _ _ ?_ a hS
    refine Cod.seq fun K12 hK12 => ?_
    refine Cod.region ?_
    refine Ops.step (One.val rfl rfl rfl (yld_move rfl (ev_t rfl)) ?_)
    refine Ops.step (One.call rfl rfl rfl (ent_f rfl (evl2 ev_c (ev_t rfl)) (enters en131)) (growV_ct (rowsN rows rows.length) _ (by omega)) (fun e w2 hw2 => ?_))
    obtain ⟨u, rfl, C2, ho, hob⟩ := hw2
    have F2 := F1.new C2 (own 31 5 u 0 []) ho hob
    refine ⟨_, rfl, ?_⟩
    refine Ops.step (One.val rfl rfl rfl (yld_assign rfl (ev_t rfl)) ?_)
    refine Ops.nil fun a hS => ?_
    refine hK12 _ _ ?_ a hS
    refine Cod.seq fun K13 hK13 => ?_
    refine Cod.seq fun K14 hK14 => ?_
    refine Cod.region ?_
    refine Ops.step (One.val rfl rfl rfl (yld_move rfl (ev_t rfl)) ?_)
    refine Ops.step (One.val rfl rfl rfl (yld_len sl139 rfl (ev_t rfl)) ?_)
    refine Ops.step (One.val rfl rfl rfl (yld_move rfl ev_c) ?_)
    refine Ops.nil fun a hS => ?_
    refine hK14 _ _ ?_ a hS
    refine Cod.block ?_
    refine Cod.loop (fun i : Nat × Value => [(6, true, i.2), (25, true, .slice (some ⟨bl, 0, none⟩) rows.length rows.length), (26, true, .int .i64 (rows.length : Int)), (27, true, .int .i64 (i.1 : Int))]) (fun i w' => i.1 ≤ rows.length ∧ Fr No w [own 31 5 i.2 (rowsL rows i.1).length ((rowsL rows i.1).flatMap enc5)] w') (fun i => rows.length - i.1) (0, u) ⟨rfl, rfl, rfl, rfl, trivial⟩ ⟨Nat.zero_le _, F2⟩ ?_
    intro i w3 hW K15 hK15
    obtain ⟨i, u⟩ := i
    obtain ⟨hi0, F3⟩ := hW
    dsimp only at *
    have hle := rowsN_le rows i
    have hll := rowsL_len rows i
    refine Cod.seq fun K16 hK16 => ?_
    refine Cod.region ?_
    refine Ops.step (One.val rfl rfl rfl (yld_lss rfl (ev_t rfl) (ev_t rfl)) ?_)
    refine Ops.nil fun a hS => ?_
    refine hK16 _ _ ?_ a hS
    refine Cod.seq fun K17 hK17 => ?_
    refine Cod.cond rfl (fun hc28 => ?_) (fun hc28 => ?_)
    · skip
      have hi : i < rows.length := by simpa using hc28
      obtain ⟨A, c, hv, -, -, -⟩ := hr _ (List.getElem_mem hi)
      have hcell : (rows.map (·.2))[i]? = some (.slice A rows[i].1.length c) := by rw [← hv]; simp [hi]
      have hle2 := rowsN_le rows (i + 1)
      rw [rowsN_step hi] at hle2
      have hrr := hr _ (List.getElem_mem hi)
      rw [hv] at hrr
      refine Cod.skip fun a hS => ?_
      refine hK17 _ _ ?_ a hS
      refine Cod.seq fun K18 hK18 => ?_
      refine Cod.block ?_
      refine Cod.seq fun K19 hK19 => ?_
      refine Cod.region ?_
      refine Ops.step (One.val rfl rfl rfl (yld_indexN sl139 rfl (ev_t rfl) (ev_t rfl) (fun _ => by omega)) ?_)
      refine Ops.step (One.val rfl rfl rfl (yld_load1 on29 rfl (ev_t rfl) (fun _ => (by have h := hb i _ hcell; have h2 := F3.chg.cell h id; simpa using h2))) ?_)
      refine Ops.step (One.val rfl rfl rfl (yld_assign rfl (ev_t rfl)) ?_)
      refine Ops.nil fun a hS => ?_
      refine hK19 _ _ ?_ a hS
      refine Cod.region ?_
      refine Ops.step (One.val rfl rfl rfl (yld_move rfl (ev_t rfl)) ?_)
      refine Ops.step (One.val rfl rfl rfl (yld_move rfl (ev_t rfl)) ?_)
      refine Ops.step (One.append (enc := enc5) rows[i].1 F3 0 rfl sl29 zero31 rfl rfl (fun _ => rfl) rfl rfl rfl rfl (ev_t rfl) (ev_t rfl) (hrr.chg F3.chg) (hone _ (List.getElem_mem hi)) (by omega) (by omega) ?_)
      intro u2 w4 hu2 F4
      change Fr _ _ [_] _ at F4
      refine Ops.step (One.val rfl rfl rfl (yld_assign rfl (ev_t rfl)) ?_)
      refine Ops.nil fun a hS => ?_
      refine hK18 _ _ ?_ a hS
      refine Cod.region ?_
      refine Ops.step (One.val rfl rfl rfl (yld_inc rfl (ev_t rfl) (fun _ => by omega)) ?_)
      refine Ops.step (One.val rfl rfl rfl (yld_move rfl (ev_t rfl)) ?_)
      refine Ops.nil fun a hS => ?_
      have hlL := rowsL_step hi
      refine hK15 (i + 1, u2) _ a (hS.sub ⟨rfl, rfl, rfl, rfl, trivial⟩) ⟨by show i + 1 ≤ _; omega, by rw [hlL]; exact F4⟩ (by show rows.length - (i + 1) < rows.length - i; omega)
    · skip
      obtain rfl : i = rows.length := by simp at hc28; omega
      refine Cod.exit fun a hS => ?_
      simp only [Exit.then, Exit.inBlock, ↓reduceIte]
      refine hK13 _ _ ?_ a hS
      refine Cod.seq fun K20 hK20 => ?_
      refine Cod.region ?_
      refine Ops.step (One.val rfl rfl rfl (yld_move rfl (ev_t rfl)) ?_)
      refine Ops.step (One.val rfl rfl rfl (yld_assign rfl (ev_t rfl)) ?_)
      refine Ops.nil fun a hS => ?_
      refine hK20 _ _ ?_ a hS
      refine Cod.ret fun a hS => ?_
      try simp only [Exit.then, Exit.inBlock]
      exact ret1 (t := 2) rfl hS rfl ⟨u, rfl, F3.chg, F3.get 0 rfl, fun j hj => (F3.dom _ (List.mem_cons_self ..) j hj).resolve_left id⟩


def addKL : List ByteArray → List Tr → List ByteArray → List Tr → Tr
  | k :: r, x :: xs, ks, l => addKL r xs (putK ks k) (putL ks l k x)
  | [], _, ks, l => .mk 6 0 ⟨#[]⟩ ks l
  | _ :: _, [], ks, l => .mk 6 0 ⟨#[]⟩ ks l
noncomputable def addR (t u : Tr) : Option Tr := if ¬ (okT t = true ∧ okT u = true) then none else if t.kind = 0 then toldR true u else if u.kind = 0 then toldR true t else if t.kind ≠ u.kind then none else if t.kind = 3 then toldR true (numT (t.num + u.num)) else if t.kind = 4 then toldR true (strT' (t.str ++ u.str)) else if t.kind = 5 then toldR true (.mk 5 0 ⟨#[]⟩ [] (t.list ++ u.list)) else if t.kind = 6 then toldR true (addKL u.keys u.list t.keys t.list) else none
theorem addKL_drop {ks : List ByteArray} {l : List Tr} {i : Nat} (hi : i < ks.length) (hil : i < l.length) (a : List ByteArray) (b : List Tr) : addKL (ks.drop i) (l.drop i) a b = addKL (ks.drop (i + 1)) (l.drop (i + 1)) (putK a ks[i]) (putL a b ks[i] l[i]) := by
  rw [List.drop_eq_getElem_cons hi, List.drop_eq_getElem_cons hil, addKL]
theorem addKL_end (ks : List ByteArray) (l : List Tr) (a : List ByteArray) (b : List Tr) : addKL (ks.drop ks.length) (l.drop ks.length) a b = .mk 6 0 ⟨#[]⟩ a b := by
  rw [List.drop_length]
  cases l.drop ks.length <;> rfl
theorem good_of {t : Tr} (h : okT t = true) (h6 : t.kind = 6) (hf : t.Fit) : Good t.keys t.list t.keys.length := ⟨okT_sorted h, okT_len h h6, Nat.le_refl _, okT_keys h, fun x hx => okT_child h hx, hf.list⟩
theorem Good.bd2 {ks : List ByteArray} {l : List Tr} {n : Nat} (h : Good ks l n) (hn : n ≤ 200) : (Tr.mk 6 0 ⟨#[]⟩ ks l).Fit ∧ (Tr.mk 6 0 ⟨#[]⟩ ks l).wt ≤ 1048576 := by
  have hl := h.len
  have hle := h.le
  refine ⟨.mk (Nat.zero_le _) (fun y hy => by have := okS_le (h.ok y hy); omega) h.fit, ?_⟩
  have hb := sumNb (f := Tr.wt) (b := 1560) (l := l) fun y hy => okT_wt (h.okl y hy)
  have hb2 := sumNb (f := ByteArray.size) (b := 12) (l := ks) fun y hy => okS_le (h.ok y hy)
  rw [Tr.wt_mk]
  show 0 + (_ + _) + _ ≤ _
  omega
theorem row_bd {t u : Tr} (h : okT t = true) (h' : okT u = true) (hf : t.Fit) (hf' : u.Fit) : (Tr.mk 5 0 ⟨#[]⟩ [] (t.list ++ u.list)).Fit ∧ (Tr.mk 5 0 ⟨#[]⟩ [] (t.list ++ u.list)).wt ≤ 1048576 := by
  have h1 := okT_len60 h
  have h2 := okT_len60 h'
  refine ⟨.mk (Nat.zero_le _) (by simp) fun y hy => ?_, ?_⟩
  · rcases List.mem_append.1 hy with hy | hy
    · exact hf.list y hy
    · exact hf'.list y hy
  · have hb := sumNb (f := Tr.wt) (b := 1560) (l := t.list ++ u.list) fun y hy => by
      rcases List.mem_append.1 hy with hy | hy
      · exact okT_wt (okT_child h hy)
      · exact okT_wt (okT_child h' hy)
    rw [List.length_append] at hb
    rw [row_wt, List.length_append]
    omega
theorem addR_ok (t u : Tr) : okT ((addR t u).getD zeroT) = true := by
  unfold addR
  repeat' split
  all_goals first | exact okT_zeroT | exact toldR_ok _ _
/-- A row that lies in the world of old, or is new. -/
def nrow {α : Type} (w0 : World) (enc : α → List Value) (sz : Nat) (he : ∀ x, enc x ≠ []) (xs : List α) (v : Value) : Res where
  fp k := v.ownBlock = some k ∧ w0.heap.size ≤ k ∧ xs ≠ []
  is w := RepE enc sz Any w0 xs v ∨ RepE enc sz (fun k => v.ownBlock = some k ∧ w0.heap.size ≤ k) w xs v
  keep w w' h hi := by
    rcases hi with hi | hi
    · exact .inl hi
    · refine .inr ?_
      by_cases hx : xs = []
      · obtain ⟨A, c, h1, h2, h2', h3⟩ := hi
        exact ⟨A, c, h1, h2, h2', fun hn => absurd hx hn⟩
      · exact RepE.keep hi fun k hk hF => h k hk ⟨hF.1, hF.2, hx⟩
  lt w hi k hk := by
    obtain ⟨h1, h2, h3⟩ := hk
    rcases hi with hi | hi
    · obtain ⟨A, c, e, -, -, h4⟩ := hi.old he
      obtain ⟨b, o, rfl, hF, -⟩ := h4 h3
      subst e
      have e2 : b = k := by simpa [Value.ownBlock] using h1
      have : b < w0.heap.size := hF
      omega
    · obtain ⟨A, c, e, -, -, h4⟩ := hi.old he
      obtain ⟨b, o, rfl, hF, -⟩ := h4 h3
      subst e
      have e2 : b = k := by simpa [Value.ownBlock] using h1
      have : b < w.heap.size := hF
      omega
theorem nrow_rep {α : Type} {w0 w : World} {enc : α → List Value} {sz : Nat} {he : ∀ x, enc x ≠ []} {xs : List α} {v : Value} (h : (nrow w0 enc sz he xs v).is w) (hc : Chg No w0 w) : RepE enc sz Any w xs v := by
  rcases h with h | h
  · exact h.chg hc
  · exact h.weak fun _ _ => trivial
theorem nrow_old {α : Type} {w0 w : World} {enc : α → List Value} {sz : Nat} (he : ∀ x, enc x ≠ []) {xs : List α} {v : Value} (h : RepE enc sz Any w0 xs v) : (nrow w0 enc sz he xs v).is w := .inl h
theorem nrow_new {α : Type} {w0 w : World} {enc : α → List Value} {sz e n : Nat} (hs : ∀ x, (enc x).length = sz) (he : ∀ x, enc x ≠ []) {xs : List α} {v : Value} (h : w.ownsRow 0 e sz v n (xs.flatMap enc)) (hn : n = xs.length) (hb : ∀ k, v.ownBlock = some k → w0.heap.size ≤ k) : (nrow w0 enc sz he xs v).is w := by
  subst hn
  exact .inr ((own_rep hs h).weak fun k hk => ⟨hk, hb k hk⟩)
theorem enc5_pos (x : V5) : enc5 x ≠ [] := by simp [enc5]
theorem sC_pos (s : ByteArray) : sCells s ≠ [] := by simp [sCells]


theorem key_eta2 {t : Tr} (h : okT t = true) (h6 : t.kind = 6) : t.num = 0 ∧ t.str = ⟨#[]⟩ := by
  obtain ⟨k, n, s, ks, l⟩ := t
  have hk : k = 6 := h6
  have hp := (Form.iff.1 (okT_node h).1).2.1
  exact ⟨hp.z3 (by omega), hp.z4 (by omega)⟩
theorem nrow_fp {α : Type} {w0 w : World} {enc : α → List Value} {sz : Nat} {xs : List α} {v : Value} (h : RepE enc sz Any w0 xs v) (he : ∀ x, enc x ≠ []) : ∀ k, (nrow w0 enc sz he xs v).fp k → w.heap.size ≤ k := fun k hk => by
  obtain ⟨h1, h2, h3⟩ := hk
  obtain ⟨A, c, e, -, -, h4⟩ := h.old he
  obtain ⟨b, o, rfl, hF, -⟩ := h4 h3
  subst e
  have e2 : b = k := by simpa [Value.ownBlock] using h1
  have : b < w0.heap.size := hF
  omega
theorem nrow_one {α : Type} {w0 w : World} {enc : α → List Value} {sz : Nat} {he : ∀ x, enc x ≠ []} {xs : List α} {v : Value} (h : (nrow w0 enc sz he xs v).is w) : v.oneCell' = true := by
  rcases h with h | h
  · obtain ⟨A, c, rfl, -⟩ := h; rfl
  · obtain ⟨A, c, rfl, -⟩ := h; rfl

set_option maxRecDepth 100000 in
theorem partAdd_ct (t u : Tr) (v vx : Value) (w : World) (hr : Rep Any w t v) (hx : Rep Any w u vx) (hf : t.Fit) (hfx : u.Fit) (hw : t.wt ≤ 1048576) (hwx : u.wt ≤ 1048576) : Calls Try.prog 40 #[v, vx] w (Gives w (addR t u)) := by
  obtain ⟨v3, v4, ev, h3, h4⟩ := hr.form
  subst ev
  obtain ⟨A3, c3, rfl, hn3⟩ := h3.open
  obtain ⟨A4, c4, rfl, hn4⟩ := h4.open
  obtain ⟨u3, u4, eu, k3, k4⟩ := hx.form
  subst eu
  obtain ⟨B3, d3, rfl, hm3⟩ := k3.open
  obtain ⟨B4, d4, rfl, hm4⟩ := k4.open
  refine enter Try.func40 rfl rfl rfl ?_
  have F0 := Fr.start w
  refine Cod.seq fun K1 hK1 => ?_
  refine Cod.region ?_
  refine Ops.step (One.box F0 rfl rfl rfl rfl (ev_t rfl) ?_)
  intro b1 w1 hb1 F1
  change Fr _ _ [blk _ _ [_, _, _, _, _]] _ at F1
  refine Ops.step (One.box F1 rfl rfl rfl rfl (ev_t rfl) ?_)
  intro b2 w2 hb2 F2
  change Fr _ _ [blk _ _ [_, _, _, _, _], blk _ _ [_, _, _, _, _]] _ at F2
  refine Ops.step (One.alloc F2 zero31 rfl rfl rfl rfl ?_)
  intro b3 w3 hb3 F3
  change Fr _ _ [blk _ _ [_, _, _, _, _], blk _ _ [_, _, _, _, _], blk _ _ [_, _, _, _, _]] _ at F3
  refine Ops.step (One.val rfl rfl rfl (yld_assign rfl ev_c) ?_)
  refine Ops.nil fun a hS => ?_
  refine hK1 _ _ ?_ a hS
  refine Cod.seq fun K2 hK2 => ?_
  refine Cod.seq fun K3 hK3 => ?_
  refine Cod.region ?_
  refine Ops.step (One.val rfl rfl rfl (yld_loadN ag31 rfl (ev_t rfl) (fun _ => F3.range (m := 5) (cs' := [_, _, _, _, _]) 2 rfl rfl) rfl) ?_)
  refine Ops.step (One.call rfl rfl rfl (ent_f rfl (evl1 (ev_t rfl)) (enters en43)) (valOk_ct t _ _ (hr.chg F3.chg) hf) (fun e w4 hw4 => ?_))
  obtain ⟨rfl, C4⟩ := hw4
  have F4 := F3.call C4
  refine ⟨_, rfl, ?_⟩
  refine Ops.step (One.val rfl rfl rfl (yld_not rfl (ev_t rfl)) ?_)
  refine Ops.step (One.val rfl rfl rfl (yld_move rfl (ev_t rfl)) ?_)
  refine Ops.step (One.val (gd_some rfl rfl) rfl rfl (yld_loadN ag31 rfl (ev_t rfl) (fun _ => F4.range (m := 5) (cs' := [_, _, _, _, _]) 1 rfl rfl) rfl) ?_)
  refine Ops.step (One.gcall (R := Chg No w4) (gd_some rfl rfl) rfl rfl (ent_f rfl (evl1 (ev_g rfl)) (enters en43)) (Chg.refl _ _) (fun hg => valOk_ct u _ _ (hx.chg F4.chg) hfx) ?_)
  intro w5 C5
  have F5 := F4.call C5
  refine Ops.step (One.val (gd_some rfl rfl) rfl rfl (yld_not rfl (ev_g rfl)) ?_)
  refine Ops.step (One.val rfl rfl rfl (yld_or rfl (ev_t rfl) (ev_g rfl)) ?_)
  refine Ops.nil fun a hS => ?_
  refine hK3 _ _ ?_ a hS
  refine Cod.cond rfl (fun hc16 => ?_) (fun hc16 => ?_)
  · skip
    have hno : addR t u = none := by
      have hc : (!(okT t) || !(okT u)) = true := hc16
      unfold addR
      rw [if_pos]
      intro h
      rw [h.1, h.2] at hc
      simp at hc
    refine Cod.seq fun K4 hK4 => ?_
    refine Cod.region ?_
    refine Ops.step (One.val rfl rfl rfl (yld_build (cells := [.int .i64 0, .int .i64 0, .string ⟨#[]⟩, .slice none 0 0, .slice none 0 0]) rfl (evp0) (by kernel_rfl)) ?_)
    refine Ops.step (One.storeN (vs := [_, _, _, _, _]) F5 0 rfl sz31 rfl rfl rfl (ev_t rfl) (ev_t rfl) rfl rfl rfl ?_)
    intro w6 F6
    change Fr _ _ [blk _ _ [_, _, _, _, _], blk _ _ [_, _, _, _, _], blk _ _ [_, _, _, _, _]] _ at F6
    refine Ops.step (One.val rfl rfl rfl (yld_assign rfl ev_c) ?_)
    refine Ops.nil fun a hS => ?_
    refine hK4 _ _ ?_ a hS
    refine Cod.ret fun a hS => ?_
    try simp only [Exit.then, Exit.inBlock]
    exact retct (t := 4) (u := 5) (ty := 31) rfl hS ag31 rfl rfl (F6.range (m := 5) (cs' := [_, _, _, _, _]) 0 rfl rfl) rfl ⟨z5, No, by rw [hno]; rfl, F6.chg, by rw [hno]; exact sep_leaf _ 0 0 ⟨#[]⟩, fun k hk => hk.elim⟩
  · skip
    have hc : (!(okT t) || !(okT u)) = false := hc16
    have hok : okT t = true := by
      cases h1 : okT t <;> simp [h1] at hc ⊢
    have hoku : okT u = true := by
      cases h1 : okT u <;> simp [h1] at hc ⊢
    have hl60 := okT_len60 hok
    have hlu60 := okT_len60 hoku
    have hnt := okT_num hok
    have hnu := okT_num hoku
    have hst := okS_le (okT_str hok)
    have hsu := okS_le (okT_str hoku)
    refine Cod.skip fun a hS => ?_
    refine hK2 _ _ ?_ a hS
    refine Cod.seq fun K5 hK5 => ?_
    refine Cod.block ?_
    refine Cod.seq fun K6 hK6 => ?_
    refine Cod.region ?_
    refine Ops.step (One.val rfl rfl rfl (yld_field fi31_0 rfl (ev_t rfl)) ?_)
    refine Ops.step (One.val rfl rfl rfl (yld_load1 on3 rfl (ev_t rfl) (fun _ => F5.cell 2 rfl rfl)) ?_)
    refine Ops.step (One.val rfl rfl rfl (yld_eql rfl (ev_t rfl) ev_c) ?_)
    refine Ops.step (One.val rfl rfl rfl (yld_assign rfl (ev_t rfl)) ?_)
    refine Ops.nil fun a hS => ?_
    refine hK6 _ _ ?_ a hS
    refine Cod.cond rfl (fun hc18 => ?_) (fun hc18 => ?_)
    · skip
      have hk0 : t.kind = 0 := by simpa using hc18
      have hyes : addR t u = toldR true u := by
        unfold addR
        rw [if_neg (by rw [hok, hoku]; simp), if_pos hk0]
      refine Cod.seq fun K7 hK7 => ?_
      refine Cod.region ?_
      refine Ops.step (One.val rfl rfl rfl (yld_loadN ag31 rfl (ev_t rfl) (fun _ => F5.range (m := 5) (cs' := [_, _, _, _, _]) 1 rfl rfl) rfl) ?_)
      refine Ops.step (One.call rfl rfl rfl (ent_f rfl (evl2 (ev_t rfl) ev_c) (enters en70)) (told_ct u true _ _ (hx.chg F5.chg) hfx hwx) (fun e w7 hw7 => ?_))
      obtain ⟨x1, G1, rfl, C7, hs1, hb1⟩ := hw7
      have F7 := F5.new C7 (sep G1 _ x1.val) hs1 hb1
      refine ⟨_, rfl, ?_⟩
      refine Ops.step (One.val rfl rfl rfl (yld_extract rfl (ev_t rfl) rfl) ?_)
      refine Ops.step (One.val rfl rfl rfl (yld_extract rfl (ev_t rfl) rfl) ?_)
      refine Ops.step (One.storeN (vs := [_, _, _, _, _]) F7 1 rfl sz31 rfl rfl rfl (ev_t rfl) (ev_t rfl) rfl rfl hs1.one ?_)
      intro w8 F8
      change Fr _ _ [_, blk _ _ [_, _, _, _, _], blk _ _ [_, _, _, _, _], blk _ _ [_, _, _, _, _]] _ at F8
      refine Ops.step (One.val rfl rfl rfl (yld_assign rfl (ev_t rfl)) ?_)
      refine Ops.nil fun a hS => ?_
      refine hK7 _ _ ?_ a hS
      refine Cod.ret fun a hS => ?_
      try simp only [Exit.then, Exit.inBlock]
      exact retct (t := 4) (u := 5) (ty := 31) rfl hS ag31 rfl rfl (F8.range (m := 5) (cs' := [_, _, _, _, _]) 1 rfl rfl) rfl ⟨x1, G1, by rw [hyes]; rfl, F8.chg, by rw [hyes]; exact F8.get 0 rfl, fun b hb => (F8.dom _ (List.mem_of_getElem? (i := 0) rfl) b hb).resolve_left id⟩
    · skip
      have hk0 : ¬ t.kind = 0 := by simpa using hc18
      refine Cod.seq fun K8 hK8 => ?_
      refine Cod.region ?_
      refine Ops.step (One.val rfl rfl rfl (yld_field fi31_0 rfl (ev_t rfl)) ?_)
      refine Ops.step (One.val rfl rfl rfl (yld_load1 on3 rfl (ev_t rfl) (fun _ => F5.cell 1 rfl rfl)) ?_)
      refine Ops.step (One.val rfl rfl rfl (yld_eql rfl (ev_t rfl) ev_c) ?_)
      refine Ops.step (One.val rfl rfl rfl (yld_assign rfl (ev_t rfl)) ?_)
      refine Ops.nil fun a hS => ?_
      refine hK8 _ _ ?_ a hS
      refine Cod.cond rfl (fun hc26 => ?_) (fun hc26 => ?_)
      · skip
        have hu0 : u.kind = 0 := by simpa using hc26
        have hyes : addR t u = toldR true t := by
          unfold addR
          rw [if_neg (by rw [hok, hoku]; simp), if_neg hk0, if_pos hu0]
        refine Cod.seq fun K9 hK9 => ?_
        refine Cod.region ?_
        refine Ops.step (One.val rfl rfl rfl (yld_loadN ag31 rfl (ev_t rfl) (fun _ => F5.range (m := 5) (cs' := [_, _, _, _, _]) 2 rfl rfl) rfl) ?_)
        refine Ops.step (One.call rfl rfl rfl (ent_f rfl (evl2 (ev_t rfl) ev_c) (enters en70)) (told_ct t true _ _ (hr.chg F5.chg) hf hw) (fun e w9 hw9 => ?_))
        obtain ⟨x1, G1, rfl, C9, hs1, hb1⟩ := hw9
        have F9 := F5.new C9 (sep G1 _ x1.val) hs1 hb1
        refine ⟨_, rfl, ?_⟩
        refine Ops.step (One.val rfl rfl rfl (yld_extract rfl (ev_t rfl) rfl) ?_)
        refine Ops.step (One.val rfl rfl rfl (yld_extract rfl (ev_t rfl) rfl) ?_)
        refine Ops.step (One.storeN (vs := [_, _, _, _, _]) F9 1 rfl sz31 rfl rfl rfl (ev_t rfl) (ev_t rfl) rfl rfl hs1.one ?_)
        intro w10 F10
        change Fr _ _ [_, blk _ _ [_, _, _, _, _], blk _ _ [_, _, _, _, _], blk _ _ [_, _, _, _, _]] _ at F10
        refine Ops.step (One.val rfl rfl rfl (yld_assign rfl (ev_t rfl)) ?_)
        refine Ops.nil fun a hS => ?_
        refine hK9 _ _ ?_ a hS
        refine Cod.ret fun a hS => ?_
        try simp only [Exit.then, Exit.inBlock]
        exact retct (t := 4) (u := 5) (ty := 31) rfl hS ag31 rfl rfl (F10.range (m := 5) (cs' := [_, _, _, _, _]) 1 rfl rfl) rfl ⟨x1, G1, by rw [hyes]; rfl, F10.chg, by rw [hyes]; exact F10.get 0 rfl, fun b hb => (F10.dom _ (List.mem_of_getElem? (i := 0) rfl) b hb).resolve_left id⟩
      · skip
        have hu0 : ¬ u.kind = 0 := by simpa using hc26
        refine Cod.seq fun K10 hK10 => ?_
        refine Cod.region ?_
        refine Ops.step (One.val rfl rfl rfl (yld_field fi31_0 rfl (ev_t rfl)) ?_)
        refine Ops.step (One.val rfl rfl rfl (yld_load1 on3 rfl (ev_t rfl) (fun _ => F5.cell 2 rfl rfl)) ?_)
        refine Ops.step (One.val rfl rfl rfl (yld_field fi31_0 rfl (ev_t rfl)) ?_)
        refine Ops.step (One.val rfl rfl rfl (yld_load1 on3 rfl (ev_t rfl) (fun _ => F5.cell 1 rfl rfl)) ?_)
        refine Ops.step (One.val rfl rfl rfl (yld_neq rfl (ev_t rfl) (ev_t rfl)) ?_)
        refine Ops.step (One.val rfl rfl rfl (yld_assign rfl (ev_t rfl)) ?_)
        refine Ops.nil fun a hS => ?_
        refine hK10 _ _ ?_ a hS
        refine Cod.cond rfl (fun hc34 => ?_) (fun hc34 => ?_)
        · skip
          have hne : t.kind ≠ u.kind := by simpa using hc34
          have hno : addR t u = none := by
            unfold addR
            rw [if_neg (by rw [hok, hoku]; simp), if_neg hk0, if_neg hu0, if_pos hne]
          refine Cod.seq fun K11 hK11 => ?_
          refine Cod.region ?_
          refine Ops.step (One.val rfl rfl rfl (yld_build (cells := [.int .i64 0, .int .i64 0, .string ⟨#[]⟩, .slice none 0 0, .slice none 0 0]) rfl (evp0) (by kernel_rfl)) ?_)
          refine Ops.step (One.storeN (vs := [_, _, _, _, _]) F5 0 rfl sz31 rfl rfl rfl (ev_t rfl) (ev_t rfl) rfl rfl rfl ?_)
          intro w11 F11
          change Fr _ _ [blk _ _ [_, _, _, _, _], blk _ _ [_, _, _, _, _], blk _ _ [_, _, _, _, _]] _ at F11
          refine Ops.step (One.val rfl rfl rfl (yld_assign rfl ev_c) ?_)
          refine Ops.nil fun a hS => ?_
          refine hK11 _ _ ?_ a hS
          refine Cod.ret fun a hS => ?_
          try simp only [Exit.then, Exit.inBlock]
          exact retct (t := 4) (u := 5) (ty := 31) rfl hS ag31 rfl rfl (F11.range (m := 5) (cs' := [_, _, _, _, _]) 0 rfl rfl) rfl ⟨z5, No, by rw [hno]; rfl, F11.chg, by rw [hno]; exact sep_leaf _ 0 0 ⟨#[]⟩, fun k hk => hk.elim⟩
        · skip
          have hke : t.kind = u.kind := by simpa using hc34
          refine Cod.skip fun a hS => ?_
          refine hK5 _ _ ?_ a hS
          refine Cod.seq fun K12 hK12 => ?_
          refine Cod.seq fun K13 hK13 => ?_
          refine Cod.region ?_
          refine Ops.step (One.val rfl rfl rfl (yld_field fi31_0 rfl (ev_t rfl)) ?_)
          refine Ops.step (One.val rfl rfl rfl (yld_load1 on3 rfl (ev_t rfl) (fun _ => F5.cell 2 rfl rfl)) ?_)
          refine Ops.nil fun a hS => ?_
          refine hK13 _ _ ?_ a hS
          refine Cod.block ?_
          refine Cod.seq fun K14 hK14 => ?_
          refine Cod.region ?_
          refine Ops.step (One.val rfl rfl rfl (yld_eql rfl (ev_t rfl) ev_c) ?_)
          refine Ops.step (One.val rfl rfl rfl (yld_assign rfl (ev_t rfl)) ?_)
          refine Ops.nil fun a hS => ?_
          refine hK14 _ _ ?_ a hS
          refine Cod.cond rfl (fun hc43 => ?_) (fun hc43 => ?_)
          · skip
            have hk : t.kind = 3 := by simpa using hc43
            have hyes : addR t u = toldR true (numT (t.num + u.num)) := by
              unfold addR
              rw [if_neg (by rw [hok, hoku]; simp), if_neg hk0, if_neg hu0, if_neg (by omega), if_pos hk]
            refine Cod.seq fun K15 hK15 => ?_
            refine Cod.region ?_
            refine Ops.step (One.val rfl rfl rfl (yld_field fi31_1 rfl (ev_t rfl)) ?_)
            refine Ops.step (One.val rfl rfl rfl (yld_load1 on3 rfl (ev_t rfl) (fun _ => F5.cell 2 rfl rfl)) ?_)
            refine Ops.step (One.val rfl rfl rfl (yld_field fi31_1 rfl (ev_t rfl)) ?_)
            refine Ops.step (One.val rfl rfl rfl (yld_load1 on3 rfl (ev_t rfl) (fun _ => F5.cell 1 rfl rfl)) ?_)
            refine Ops.step (One.val rfl rfl rfl (yld_add rfl (ev_t rfl) (ev_t rfl) (fun _ => by omega)) ?_)
            refine Ops.step (One.call rfl rfl rfl (ent_f rfl (evl1 (ev_t rfl)) (enters en100)) (num_ct (t.num + u.num) _) (fun e w12 hw12 => ?_))
            obtain ⟨rfl, C12⟩ := hw12
            have F12 := F5.call C12
            refine ⟨_, rfl, ?_⟩
            refine Ops.step (One.call rfl rfl rfl (ent_f rfl (evl2 (ev_t rfl) ev_c) (enters en70)) (told_ct (numT (t.num + u.num)) true _ _ (Rep.close (RepE.nil _ _) (RepL.nil _ _)) (leaf_fit 3 _ (by decide)) (leaf_wt 3 _ (by decide))) (fun e w13 hw13 => ?_))
            obtain ⟨x1, G1, rfl, C13, hs1, hb1⟩ := hw13
            have F13 := F12.new C13 (sep G1 _ x1.val) hs1 hb1
            refine ⟨_, rfl, ?_⟩
            refine Ops.step (One.val rfl rfl rfl (yld_extract rfl (ev_t rfl) rfl) ?_)
            refine Ops.step (One.val rfl rfl rfl (yld_extract rfl (ev_t rfl) rfl) ?_)
            refine Ops.step (One.storeN (vs := [_, _, _, _, _]) F13 1 rfl sz31 rfl rfl rfl (ev_t rfl) (ev_t rfl) rfl rfl hs1.one ?_)
            intro w14 F14
            change Fr _ _ [_, blk _ _ [_, _, _, _, _], blk _ _ [_, _, _, _, _], blk _ _ [_, _, _, _, _]] _ at F14
            refine Ops.step (One.val rfl rfl rfl (yld_assign rfl (ev_t rfl)) ?_)
            refine Ops.nil fun a hS => ?_
            refine hK15 _ _ ?_ a hS
            refine Cod.ret fun a hS => ?_
            try simp only [Exit.then, Exit.inBlock]
            exact retct (t := 4) (u := 5) (ty := 31) rfl hS ag31 rfl rfl (F14.range (m := 5) (cs' := [_, _, _, _, _]) 1 rfl rfl) rfl ⟨x1, G1, by rw [hyes]; rfl, F14.chg, by rw [hyes]; exact F14.get 0 rfl, fun b hb => (F14.dom _ (List.mem_of_getElem? (i := 0) rfl) b hb).resolve_left id⟩
          · skip
            have hk3 : ¬ t.kind = 3 := by simpa using hc43
            refine Cod.seq fun K16 hK16 => ?_
            refine Cod.region ?_
            refine Ops.step (One.val rfl rfl rfl (yld_eql rfl (ev_t rfl) ev_c) ?_)
            refine Ops.step (One.val rfl rfl rfl (yld_assign rfl (ev_t rfl)) ?_)
            refine Ops.nil fun a hS => ?_
            refine hK16 _ _ ?_ a hS
            refine Cod.cond rfl (fun hc54 => ?_) (fun hc54 => ?_)
            · skip
              have hk : t.kind = 4 := by simpa using hc54
              have hsz : (t.str ++ u.str).size ≤ 100 := by rw [ByteArray.size_append]; omega
              have hyes : addR t u = toldR true (strT' (t.str ++ u.str)) := by
                unfold addR
                rw [if_neg (by rw [hok, hoku]; simp), if_neg hk0, if_neg hu0, if_neg (by omega), if_neg hk3, if_pos hk]
              refine Cod.seq fun K17 hK17 => ?_
              refine Cod.region ?_
              refine Ops.step (One.val rfl rfl rfl (yld_field fi31_2 rfl (ev_t rfl)) ?_)
              refine Ops.step (One.val rfl rfl rfl (yld_load1 on9 rfl (ev_t rfl) (fun _ => F5.cell 2 rfl rfl)) ?_)
              refine Ops.step (One.val rfl rfl rfl (yld_field fi31_2 rfl (ev_t rfl)) ?_)
              refine Ops.step (One.val rfl rfl rfl (yld_load1 on9 rfl (ev_t rfl) (fun _ => F5.cell 1 rfl rfl)) ?_)
              refine Ops.step (One.val rfl rfl rfl (yld_sadd rfl (ev_t rfl) (ev_t rfl) (fun _ => by omega)) ?_)
              refine Ops.step (One.call rfl rfl rfl (ent_f rfl (evl1 (ev_t rfl)) (enters en101)) (str_ct (t.str ++ u.str) _) (fun e w15 hw15 => ?_))
              obtain ⟨rfl, C15⟩ := hw15
              have F15 := F5.call C15
              refine ⟨_, rfl, ?_⟩
              refine Ops.step (One.call rfl rfl rfl (ent_f rfl (evl2 (ev_t rfl) ev_c) (enters en70)) (told_ct (strT' (t.str ++ u.str)) true _ _ (Rep.close (RepE.nil _ _) (RepL.nil _ _)) (leaf_fit 4 0 hsz) (leaf_wt 4 0 hsz)) (fun e w16 hw16 => ?_))
              obtain ⟨x1, G1, rfl, C16, hs1, hb1⟩ := hw16
              have F16 := F15.new C16 (sep G1 _ x1.val) hs1 hb1
              refine ⟨_, rfl, ?_⟩
              refine Ops.step (One.val rfl rfl rfl (yld_extract rfl (ev_t rfl) rfl) ?_)
              refine Ops.step (One.val rfl rfl rfl (yld_extract rfl (ev_t rfl) rfl) ?_)
              refine Ops.step (One.storeN (vs := [_, _, _, _, _]) F16 1 rfl sz31 rfl rfl rfl (ev_t rfl) (ev_t rfl) rfl rfl hs1.one ?_)
              intro w17 F17
              change Fr _ _ [_, blk _ _ [_, _, _, _, _], blk _ _ [_, _, _, _, _], blk _ _ [_, _, _, _, _]] _ at F17
              refine Ops.step (One.val rfl rfl rfl (yld_assign rfl (ev_t rfl)) ?_)
              refine Ops.nil fun a hS => ?_
              refine hK17 _ _ ?_ a hS
              refine Cod.ret fun a hS => ?_
              try simp only [Exit.then, Exit.inBlock]
              exact retct (t := 4) (u := 5) (ty := 31) rfl hS ag31 rfl rfl (F17.range (m := 5) (cs' := [_, _, _, _, _]) 1 rfl rfl) rfl ⟨x1, G1, by rw [hyes]; rfl, F17.chg, by rw [hyes]; exact F17.get 0 rfl, fun b hb => (F17.dom _ (List.mem_of_getElem? (i := 0) rfl) b hb).resolve_left id⟩
            · skip
              have hk4 : ¬ t.kind = 4 := by simpa using hc54
              refine Cod.seq fun K18 hK18 => ?_
              refine Cod.region ?_
              refine Ops.step (One.val rfl rfl rfl (yld_eql rfl (ev_t rfl) ev_c) ?_)
              refine Ops.step (One.val rfl rfl rfl (yld_assign rfl (ev_t rfl)) ?_)
              refine Ops.nil fun a hS => ?_
              refine hK18 _ _ ?_ a hS
              refine Cod.cond rfl (fun hc65 => ?_) (fun hc65 => ?_)
              · skip
                have hk : t.kind = 5 := by simpa using hc65
                obtain ⟨xs, hxs, halt⟩ := h4.v5
                obtain ⟨xu, hxu, halu⟩ := k4.v5
                obtain ⟨hTf, hTw⟩ := row_bd hok hoku hf hfx
                have hxl := halt.1
                have hxul := halu.1
                have hyes : addR t u = toldR true (.mk 5 0 ⟨#[]⟩ [] (t.list ++ u.list)) := by
                  unfold addR
                  rw [if_neg (by rw [hok, hoku]; simp), if_neg hk0, if_neg hu0, if_neg (by omega), if_neg hk3, if_neg hk4, if_pos hk]
                refine Cod.seq fun K19 hK19 => ?_
                refine Cod.region ?_
                refine Ops.step (One.val rfl rfl rfl (yld_field fi31_4 rfl (ev_t rfl)) ?_)
                refine Ops.step (One.val rfl rfl rfl (yld_load1 on29 rfl (ev_t rfl) (fun _ => F5.cell 2 rfl rfl)) ?_)
                refine Ops.step (One.val rfl rfl rfl (yld_field fi31_4 rfl (ev_t rfl)) ?_)
                refine Ops.step (One.val rfl rfl rfl (yld_load1 on29 rfl (ev_t rfl) (fun _ => F5.cell 1 rfl rfl)) ?_)
                refine Ops.step (One.buildSlice (cells := [.slice A4 t.list.length c4, .slice B4 u.list.length d4]) F5 sl139 zero29 rfl rfl rfl rfl (evp2 (ev_t rfl) (ev_t rfl)) rfl rfl (by kernel_rfl) ?_)
                intro b4 w18 hb4 F18
                refine Ops.step (One.call rfl rfl rfl (ent_f rfl (evl1 (ev_t rfl)) (enters en102)) (concatV_ct [(xs, .slice A4 t.list.length c4), (xu, .slice B4 u.list.length d4)] _ _ (blk_range (m := 2) (F18.get 0 rfl) rfl) (fun p hp => by
    rcases (by simpa using hp : p = _ ∨ p = _) with rfl | rfl
    · exact hxs.chg F18.chg
    · exact hxu.chg F18.chg) (fun p hp => by
    rcases (by simpa using hp : p = _ ∨ p = _) with rfl | rfl
    · exact halt.cells
    · exact halu.cells) (by show xs.length + (xu.length + 0) ≤ _; omega) (by show 2 ≤ 100; omega)) (fun e w19 hw19 => ?_))
                obtain ⟨uu, rfl, C19, ho0, hob⟩ := hw19
                have hLL : rowsL [(xs, Value.slice A4 t.list.length c4), (xu, Value.slice B4 u.list.length d4)] 2 = xs ++ xu := by simp [rowsL]
                have ho : (own 31 5 uu (xs ++ xu).length ((xs ++ xu).flatMap enc5)).is w19 := by rw [← hLL]; exact ho0
                have F19 := F18.new C19 (own 31 5 uu (xs ++ xu).length ((xs ++ xu).flatMap enc5)) ho hob
                refine ⟨_, rfl, ?_⟩
                refine Ops.step (One.call rfl rfl rfl (ent_f rfl (evl1 (ev_t rfl)) (enters en88)) (row_ct uu _ (own_form (F19.get 0 rfl))) (fun e w20 hw20 => ?_))
                obtain ⟨rfl, C20⟩ := hw20
                have F20 := F19.call C20
                refine ⟨_, rfl, ?_⟩
                refine Ops.step (One.call rfl rfl rfl (ent_f rfl (evl2 (ev_t rfl) ev_c) (enters en70)) (told_ct (.mk 5 0 ⟨#[]⟩ [] (t.list ++ u.list)) true _ _ (Rep.close (RepE.nil _ _) (((halt.append halu).chg F20.chg).repL (F20.get 0 rfl))) hTf hTw) (fun e w21 hw21 => ?_))
                obtain ⟨x1, G1, rfl, C21, hs1, hb1⟩ := hw21
                have F21 := F20.new C21 (sep G1 _ x1.val) hs1 hb1
                refine ⟨_, rfl, ?_⟩
                refine Ops.step (One.val rfl rfl rfl (yld_extract rfl (ev_t rfl) rfl) ?_)
                refine Ops.step (One.val rfl rfl rfl (yld_extract rfl (ev_t rfl) rfl) ?_)
                refine Ops.step (One.storeN (vs := [_, _, _, _, _]) F21 3 rfl sz31 rfl rfl rfl (ev_t rfl) (ev_t rfl) rfl rfl hs1.one ?_)
                intro w22 F22
                change Fr _ _ [_, _, _, blk _ _ [_, _, _, _, _], blk _ _ [_, _, _, _, _], blk _ _ [_, _, _, _, _]] _ at F22
                refine Ops.step (One.val rfl rfl rfl (yld_assign rfl (ev_t rfl)) ?_)
                refine Ops.nil fun a hS => ?_
                refine hK19 _ _ ?_ a hS
                refine Cod.ret fun a hS => ?_
                try simp only [Exit.then, Exit.inBlock]
                exact retct (t := 4) (u := 5) (ty := 31) rfl hS ag31 rfl rfl (F22.range (m := 5) (cs' := [_, _, _, _, _]) 3 rfl rfl) rfl ⟨x1, G1, by rw [hyes]; rfl, F22.chg, by rw [hyes]; exact F22.get 0 rfl, fun b hb => (F22.dom _ (List.mem_of_getElem? (i := 0) rfl) b hb).resolve_left id⟩
              · skip
                have hk5 : ¬ t.kind = 5 := by simpa using hc65
                refine Cod.seq fun K20 hK20 => ?_
                refine Cod.region ?_
                refine Ops.step (One.val rfl rfl rfl (yld_eql rfl (ev_t rfl) ev_c) ?_)
                refine Ops.step (One.val rfl rfl rfl (yld_assign rfl (ev_t rfl)) ?_)
                refine Ops.nil fun a hS => ?_
                refine hK20 _ _ ?_ a hS
                refine Cod.cond rfl (fun hc77 => ?_) (fun hc77 => ?_)
                · skip
                  have hk : t.kind = 6 := by simpa using hc77
                  have hku : u.kind = 6 := by omega
                  have hlen := okT_len hoku hku
                  have hlent := okT_len hok hk
                  have hte := key_eta2 hok hk
                  obtain ⟨ys0, hys0, halt⟩ := h4.v5
                  have hyl0 := halt.1
                  have hgd0 := good_of hok hk hf
                  have hyes : addR t u = toldR true (addKL u.keys u.list t.keys t.list) := by
                    unfold addR
                    rw [if_neg (by rw [hok, hoku]; simp), if_neg hk0, if_neg hu0, if_neg (by omega), if_neg hk3, if_neg hk4, if_neg hk5, if_pos hk]
                  rw [hk, hte.1, hte.2] at F5
                  refine Cod.seq fun K21 hK21 => ?_
                  rw [hk, hte.1, hte.2]
                  refine Cod.region ?_
                  refine Ops.step (One.val rfl rfl rfl (yld_loadN ag31 rfl (ev_t rfl) (fun _ => F5.range (m := 5) (cs' := [_, _, _, _, _]) 2 rfl rfl) rfl) ?_)
                  refine Ops.step (One.alloc F5 zero31 rfl rfl rfl rfl ?_)
                  intro b5 w23 hb5 F23
                  change Fr _ _ [blk _ _ [_, _, _, _, _], blk _ _ [_, _, _, _, _], blk _ _ [_, _, _, _, _], blk _ _ [_, _, _, _, _]] _ at F23
                  refine Ops.step (One.storeN (vs := [_, _, _, _, _]) F23 0 rfl sz31 rfl rfl rfl (ev_t rfl) (ev_t rfl) rfl rfl (one5 rfl rfl) ?_)
                  intro w24 F24
                  change Fr _ _ [blk _ _ [_, _, _, _, _], blk _ _ [_, _, _, _, _], blk _ _ [_, _, _, _, _], blk _ _ [_, _, _, _, _]] _ at F24
                  refine Ops.nil fun a hS => ?_
                  refine hK21 _ _ ?_ a hS
                  refine Cod.seq fun K22 hK22 => ?_
                  refine Cod.seq fun K23 hK23 => ?_
                  refine Cod.region ?_
                  refine Ops.step (One.val rfl rfl rfl (yld_field fi31_3 rfl (ev_t rfl)) ?_)
                  refine Ops.step (One.val rfl rfl rfl (yld_load1 on22 rfl (ev_t rfl) (fun _ => F24.cell 2 rfl rfl)) ?_)
                  refine Ops.step (One.val rfl rfl rfl (yld_len sl22 rfl (ev_t rfl)) ?_)
                  refine Ops.step (One.val rfl rfl rfl (yld_move rfl ev_c) ?_)
                  refine Ops.nil fun a hS => ?_
                  refine hK23 _ _ ?_ a hS
                  refine Cod.block ?_
                  have F25 := F24.pull 2 rfl
                  have F26 := F25.pull 2 rfl
                  have F27 := F26.pull 2 rfl
                  have F28 := F27.erase 3
                  refine Cod.loop (fun i : Nat × List ByteArray × List Tr × List V5 × Value × Value => [(3, true, .pointer (some ⟨b2, 0, none⟩)), (4, true, .pointer (some ⟨b3, 0, none⟩)), (6, true, .pointer (some ⟨b5, 0, none⟩)), (81, true, .slice B3 u.keys.length d3), (82, true, .int .i64 (u.keys.length : Int)), (83, true, .int .i64 (i.1 : Int))]) (fun i w' => i.1 ≤ u.keys.length ∧ addKL u.keys u.list t.keys t.list = addKL (u.keys.drop i.1) (u.list.drop i.1) i.2.1 i.2.2.1 ∧ Good i.2.1 i.2.2.1 (t.keys.length + i.1) ∧ AL w i.2.2.1 i.2.2.2.1 ∧ Fr No w [nrow w enc5 5 enc5_pos i.2.2.2.1 i.2.2.2.2.2, nrow w sCells 1 sC_pos i.2.1 i.2.2.2.2.1, blk b5 31 [.int .i64 6, .int .i64 0, .string ⟨#[]⟩, i.2.2.2.2.1, i.2.2.2.2.2], blk b3 31 [.int .i64 0, .int .i64 0, .string ⟨#[]⟩, .slice none 0 0, .slice none 0 0], blk b2 31 [.int .i64 u.kind, .int .i64 u.num, .string u.str, .slice B3 u.keys.length d3, .slice B4 u.list.length d4]] w') (fun i => u.keys.length - i.1) (0, t.keys, t.list, ys0, .slice A3 t.keys.length c3, .slice A4 t.list.length c4) ⟨rfl, rfl, rfl, rfl, rfl, rfl, trivial⟩ ⟨Nat.zero_le _, rfl, hgd0, halt, (F28.new (Chg.refl _ _) (nrow w sCells 1 sC_pos t.keys (.slice A3 t.keys.length c3)) (.inl h3) (nrow_fp h3 sC_pos)).new (Chg.refl _ _) (nrow w enc5 5 enc5_pos ys0 (.slice A4 t.list.length c4)) (.inl hys0) (nrow_fp hys0 enc5_pos)⟩ ?_
                  intro i w25 hW K24 hK24
                  obtain ⟨ix, ks, l, ys, ku, lu⟩ := i
                  obtain ⟨hi0, hak, hgd, hal, F29⟩ := hW
                  dsimp only at *
                  have hcB := F29.chg
                  have hrk := nrow_rep (F29.get 1 rfl) hcB
                  have hrl := nrow_rep (F29.get 0 rfl) hcB
                  obtain ⟨A6, c6, rfl, -⟩ := hrk.open
                  obtain ⟨A7, c7, rfl, -⟩ := hrl.open
                  have hyl := hal.1
                  have hgl := hgd.len
                  have hgle := hgd.le
                  refine Cod.seq fun K25 hK25 => ?_
                  refine Cod.region ?_
                  refine Ops.step (One.val rfl rfl rfl (yld_lss rfl (ev_t rfl) (ev_t rfl)) ?_)
                  refine Ops.nil fun a hS => ?_
                  refine hK25 _ _ ?_ a hS
                  refine Cod.seq fun K26 hK26 => ?_
                  refine Cod.cond rfl (fun hc84 => ?_) (fun hc84 => ?_)
                  · skip
                    have hi : ix < u.keys.length := by simpa using hc84
                    have hil : ix < u.list.length := by omega
                    obtain ⟨kb, ko, hkB, -, hkr⟩ := k3.at ix hi
                    obtain ⟨lb, lo, xu, hlB, -, hlr, hxu⟩ := at5 k4 ix hil
                    have hgd2 := hgd.put (key := u.keys[ix]) (x := u.list[ix]) (okT_keys hoku _ (List.getElem_mem hi)) (okT_child hoku (List.getElem_mem hil)) (hfx.list _ (List.getElem_mem hil))
                    refine Cod.skip fun a hS => ?_
                    refine hK26 _ _ ?_ a hS
                    refine Cod.seq fun K27 hK27 => ?_
                    refine Cod.block ?_
                    refine Cod.seq fun K28 hK28 => ?_
                    refine Cod.region ?_
                    refine Ops.step (One.val rfl rfl rfl (yld_move rfl (ev_t rfl)) ?_)
                    refine Ops.step (One.val rfl rfl rfl (yld_indexG (b := kb) (q := ko) (i := ix) sl22 rfl (ev_t rfl) (ev_t rfl) (fun _ => hkB) (fun _ => hi)) ?_)
                    refine Ops.step (One.val rfl rfl rfl (yld_load1 on9 rfl (ev_t rfl) (fun _ => rangeAt_cell (rng hkr F29.chg) (j := 0) rfl)) ?_)
                    refine Ops.step (One.val rfl rfl rfl (yld_assign rfl (ev_t rfl)) ?_)
                    refine Ops.step (One.val rfl rfl rfl (yld_assign rfl (ev_t rfl)) ?_)
                    refine Ops.nil fun a hS => ?_
                    refine hK28 _ _ ?_ a hS
                    have F30 := F29.drew
                    refine Cod.draw (C_of (F30.erase 2)) (by kernel_rfl) ?_
                    refine Hops.take 1 rfl (by kernel_rfl) (fun _ _ _ h => h) rfl rfl rfl (F30.erase 2) (fun w F => (yld_move rfl (ev_t rfl))) ?_
                    refine Hops.take 2 rfl (by kernel_rfl) (fun _ _ _ h => h) rfl rfl rfl (F30.erase 2) (fun w F => (yld_field fi31_4 rfl (ev_t rfl))) ?_
                    refine Hops.take 3 rfl (by kernel_rfl) (fun _ _ _ h => h) rfl rfl rfl (F30.erase 2) (fun w F => (yld_load1 on29 rfl (ev_t rfl) (fun _ => F.cell 3 rfl rfl))) ?_
                    refine Hops.take 4 rfl (by kernel_rfl) (fun _ _ _ h => h) rfl rfl rfl (F30.erase 2) (fun w F => (yld_move rfl (ev_t rfl))) ?_
                    refine Hops.take 5 rfl (by kernel_rfl) (fun _ _ _ h => h) rfl rfl rfl (F30.erase 2) (fun w F => (yld_indexG (b := lb) (q := lo) (i := ix) sl29 rfl (ev_t rfl) (ev_t rfl) (fun _ => hlB) (fun _ => hil))) ?_
                    refine Hops.take 6 rfl (by kernel_rfl) (fun _ _ _ h => h) rfl rfl rfl (F30.erase 2) (fun w F => (yld_loadN (cs := [xu.a, xu.b, xu.c, xu.d, xu.e]) ag31 rfl (ev_t rfl) (fun _ => rng hlr F.chg) rfl)) ?_
                    refine Hops.one 0 rfl (by kernel_rfl) (One.val rfl rfl rfl (yld_loadN ag31 rfl (ev_t rfl) (fun _ => F30.range (m := 5) (cs' := [_, _, _, _, _]) 2 rfl rfl) rfl) ?_)
                    refine ⟨(F30.erase 2), ?_⟩
                    refine Hops.one 7 rfl (by kernel_rfl) (One.call rfl rfl rfl (ent_f rfl (evl3 (ev_t rfl) (ev_t rfl) (ev_t rfl)) (enters en103)) (put_ct (.mk 6 0 ⟨#[]⟩ ks l) (u.list[ix]) (u.keys[ix]) ys _ xu w _ ⟨A6, c6, A7, c7, by show _ = Value.agg #[_, _, _, _, .slice A7 l.length c7]; rw [← hyl]; rfl, nrow_rep (F30.get 1 rfl) F30.chg, by rw [show (Tr.mk 6 0 ⟨#[]⟩ ks l).list.length = ys.length from hyl.symm]; exact nrow_rep (F30.get 0 rfl) F30.chg, hal⟩ hxu hgd.so hgd.len (by show ks.length ≤ _; omega)) (fun e w26 hw26 => ?_))
                    obtain ⟨ku2, lu2, ys2, rfl, C26, hok2, hol2, hal2, hkb, hlb, hkl2⟩ := hw26
                    have hsz := F30.chg.size
                    have F31 := F30.new2 C26 (nrow w enc5 5 enc5_pos ys2 lu2) (nrow w sCells 1 sC_pos _ ku2) (nrow_new (enc := enc5) (sz := 5) (fun _ => rfl) enc5_pos hol2 rfl fun k hk => by have := hlb k hk; omega) (nrow_new (enc := sCells) (sz := 1) (fun _ => rfl) sC_pos hok2 rfl fun k hk => by have := hkb k hk; omega) (fun k hk => hlb k hk.1) (fun k hk => hkb k hk.1) (fun k h1 h2 => hkl2 k h2.1 h1.1)
                    refine ⟨_, rfl, ?_⟩
                    refine ⟨((F31.erase 4).erase 1).drop1, ?_⟩
                    refine Hops.one 8 rfl (by kernel_rfl) (One.storeN (vs := [_, _, _, _, _]) F31 4 rfl sz31 rfl rfl rfl (ev_t rfl) (ev_t rfl) rfl rfl (one5 (nrow_one (F31.get 1 rfl)) (nrow_one (F31.get 0 rfl))) ?_)
                    intro w27 F32
                    refine ⟨((F32.erase 4).erase 1).drop1, ?_⟩
                    change Fr _ _ [_, _, _, _, blk _ _ [_, _, _, _, _], blk _ _ [_, _, _, _, _], blk _ _ [_, _, _, _, _]] _ at F32
                    refine Hops.nil (by kernel_rfl) fun a hS => ?_
                    refine hK27 _ _ ?_ a hS
                    refine Cod.region ?_
                    refine Ops.step (One.val rfl rfl rfl (yld_inc rfl (ev_t rfl) (fun _ => by omega)) ?_)
                    refine Ops.step (One.val rfl rfl rfl (yld_move rfl (ev_t rfl)) ?_)
                    refine Ops.nil fun a hS => ?_
                    have F33 := F32.pull 6 rfl
                    have F34 := F33.pull 6 rfl
                    have F35 := F34.pull 6 rfl
                    have F36 := F35.pull 4 rfl
                    have F37 := F36.pull 4 rfl
                    have F38 := F37.erase 5
                    have F39 := F38.erase 5
                    refine hK24 (ix + 1, _, _, ys2, ku2, lu2) _ a (hS.sub ⟨rfl, rfl, rfl, rfl, rfl, rfl, trivial⟩) ⟨by show ix + 1 ≤ _; omega, by rw [hak, addKL_drop hi hil]; rfl, hgd2, hal2, F39⟩ (by show u.keys.length - (ix + 1) < u.keys.length - ix; omega)
                  · skip
                    obtain rfl : ix = u.keys.length := by simp at hc84; omega
                    rw [addKL_end] at hak
                    obtain ⟨hTf, hTw⟩ := hgd.bd2 (by omega)
                    refine Cod.exit fun a hS => ?_
                    simp only [Exit.then, Exit.inBlock, ↓reduceIte]
                    refine hK22 _ _ ?_ a hS
                    refine Cod.seq fun K29 hK29 => ?_
                    refine Cod.region ?_
                    refine Ops.step (One.val rfl rfl rfl (yld_loadN ag31 rfl (ev_t rfl) (fun _ => F29.range (m := 5) (cs' := [_, _, _, _, _]) 2 rfl rfl) rfl) ?_)
                    refine Ops.step (One.call rfl rfl rfl (ent_f rfl (evl2 (ev_t rfl) ev_c) (enters en70)) (told_ct (.mk 6 0 ⟨#[]⟩ ks l) true _ _ (Rep.close (nrow_rep (F29.get 1 rfl) F29.chg) (repL_ofE (nrow_rep (F29.get 0 rfl) F29.chg) ⟨hal.1, (hal.chg F29.chg).2⟩)) hTf hTw) (fun e w28 hw28 => ?_))
                    obtain ⟨x1, G1, rfl, C28, hs1, hb1⟩ := hw28
                    have F40 := F29.new C28 (sep G1 _ x1.val) hs1 hb1
                    refine ⟨_, rfl, ?_⟩
                    refine Ops.step (One.val rfl rfl rfl (yld_extract rfl (ev_t rfl) rfl) ?_)
                    refine Ops.step (One.val rfl rfl rfl (yld_extract rfl (ev_t rfl) rfl) ?_)
                    refine Ops.step (One.storeN (vs := [_, _, _, _, _]) F40 4 rfl sz31 rfl rfl rfl (ev_t rfl) (ev_t rfl) rfl rfl hs1.one ?_)
                    intro w29 F41
                    change Fr _ _ [_, _, _, blk _ _ [_, _, _, _, _], blk _ _ [_, _, _, _, _], blk _ _ [_, _, _, _, _]] _ at F41
                    refine Ops.step (One.val rfl rfl rfl (yld_assign rfl (ev_t rfl)) ?_)
                    refine Ops.nil fun a hS => ?_
                    refine hK29 _ _ ?_ a hS
                    refine Cod.ret fun a hS => ?_
                    try simp only [Exit.then, Exit.inBlock]
                    rw [hak] at hyes
                    exact retct (t := 4) (u := 5) (ty := 31) rfl hS ag31 rfl rfl (F41.range (m := 5) (cs' := [_, _, _, _, _]) 4 rfl rfl) rfl ⟨x1, G1, by rw [hyes]; rfl, F41.chg, by rw [hyes]; exact F41.get 0 rfl, fun b hb => (F41.dom _ (List.mem_of_getElem? (i := 0) rfl) b hb).resolve_left id⟩
                · skip
                  have hno : addR t u = none := by
                    unfold addR
                    rw [if_neg (by rw [hok, hoku]; simp), if_neg hk0, if_neg hu0, if_neg (by omega), if_neg hk3, if_neg hk4, if_neg hk5, if_neg (by simpa using hc77)]
                  refine Cod.skip fun a hS => ?_
                  refine hK12 _ _ ?_ a hS
                  refine Cod.seq fun K30 hK30 => ?_
                  refine Cod.region ?_
                  refine Ops.step (One.val rfl rfl rfl (yld_build (cells := [.int .i64 0, .int .i64 0, .string ⟨#[]⟩, .slice none 0 0, .slice none 0 0]) rfl (evp0) (by kernel_rfl)) ?_)
                  refine Ops.step (One.storeN (vs := [_, _, _, _, _]) F5 0 rfl sz31 rfl rfl rfl (ev_t rfl) (ev_t rfl) rfl rfl rfl ?_)
                  intro w30 F42
                  change Fr _ _ [blk _ _ [_, _, _, _, _], blk _ _ [_, _, _, _, _], blk _ _ [_, _, _, _, _]] _ at F42
                  refine Ops.step (One.val rfl rfl rfl (yld_assign rfl ev_c) ?_)
                  refine Ops.nil fun a hS => ?_
                  refine hK30 _ _ ?_ a hS
                  refine Cod.ret fun a hS => ?_
                  try simp only [Exit.then, Exit.inBlock]
                  exact retct (t := 4) (u := 5) (ty := 31) rfl hS ag31 rfl rfl (F42.range (m := 5) (cs' := [_, _, _, _, _]) 0 rfl rfl) rfl ⟨z5, No, by rw [hno]; rfl, F42.chg, by rw [hno]; exact sep_leaf _ 0 0 ⟨#[]⟩, fun k hk => hk.elim⟩

end Go.Proofs.Ytodbflfelimppaa.Eng
