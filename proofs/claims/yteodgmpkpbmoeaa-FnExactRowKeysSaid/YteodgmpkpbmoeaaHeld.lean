/- Walks of what looks for marks: every mark is found where it was laid. -/
import Derived.Test.YteodgmpkpbmoeaaMark
namespace Go.Proofs.Yteodgmpkpbmoeaa.Eng
open Go.RowKit
set_option linter.unusedVariables false
set_option linter.unusedSimpArgs false
set_option maxHeartbeats 1000000

set_option maxRecDepth 100000 in
theorem heldStringS_ct (ks : List ByteArray) (k : Int) (v : Value) (w : World) (hp : RepS Any w (mks ks k) v) (hk0 : 0 ≤ k) (hk : k + ks.length ≤ 4611686018427387904) :
    Calls Try.prog 53 #[v, .int .i64 k] w fun e w' => e = .returned (.int .i64 (k + ks.length)) ∧ Chg No w w' := by
  obtain ⟨A, c, rfl, hn⟩ := hp.open
  have hml := mks_length ks k
  refine enter Try.func53 rfl rfl rfl ?_
  have F0 := Fr.start w
  refine Cod.seq fun K1 hK1 => ?_
  refine Cod.region ?_
  refine Ops.step (One.val rfl rfl rfl (yld_assign rfl ev_c) ?_)
  refine Ops.nil fun a hS => ?_
  refine hK1 _ _ ?_ a hS
  refine Cod.seq fun K2 hK2 => ?_
  refine Cod.seq fun K3 hK3 => ?_
  refine Cod.region ?_
  refine Ops.step (One.val rfl rfl rfl (yld_assign rfl ev_c) ?_)
  refine Ops.nil fun a hS => ?_
  refine hK3 _ _ ?_ a hS
  refine Cod.block ?_
  refine Cod.loop (fun i : Nat => [(0, true, .slice A (mks ks k).length c), (1, true, .int .i64 (addN k i)), (5, true, .int .i64 (i : Int))]) (fun i w' => i ≤ ks.length ∧ Fr No w [] w') (fun i => ks.length - i) 0 ⟨rfl, rfl, rfl, trivial⟩ ⟨Nat.zero_le _, F0⟩ ?_
  intro i w1 hW K4 hK4
  obtain ⟨hi, F1⟩ := hW
  simp only [addN_eq]
  refine Cod.seq fun K5 hK5 => ?_
  refine Cod.seq fun K6 hK6 => ?_
  refine Cod.region ?_
  refine Ops.step (One.val rfl rfl rfl (yld_move rfl (ev_t rfl)) ?_)
  refine Ops.step (One.val rfl rfl rfl (yld_move rfl (ev_t rfl)) ?_)
  refine Ops.step (One.val rfl rfl rfl (yld_len sl22 rfl (ev_t rfl)) ?_)
  refine Ops.step (One.val rfl rfl rfl (yld_lss rfl (ev_t rfl) (ev_t rfl)) ?_)
  refine Ops.nil fun a hS => ?_
  refine hK6 _ _ ?_ a hS
  refine Cod.cond rfl (fun hc9 => ?_) (fun hc9 => ?_)
  · skip
    have hi : i < ks.length := by simp at hc9; omega
    obtain ⟨b, o, rfl, -, hr⟩ := hp.at i (by omega)
    rw [mks_get ks k i (by omega)] at hr
    refine Cod.skip fun a hS => ?_
    refine hK5 _ _ ?_ a hS
    refine Cod.seq fun K7 hK7 => ?_
    refine Cod.block ?_
    refine Cod.seq fun K8 hK8 => ?_
    refine Cod.seq fun K9 hK9 => ?_
    have F2 := F1.drew
    refine Cod.draw (C_of F2) (by kernel_rfl) ?_
    refine Hops.take 0 rfl (by kernel_rfl) (fun _ _ _ h => h) rfl rfl rfl F2 (fun w F => (yld_move rfl (ev_t rfl))) ?_
    refine Hops.take 1 rfl (by kernel_rfl) (fun _ _ _ h => h) rfl rfl rfl F2 (fun w F => (yld_move rfl (ev_t rfl))) ?_
    refine Hops.take 2 rfl (by kernel_rfl) (fun _ _ _ h => h) rfl rfl rfl F2 (fun w F => (yld_indexN sl22 rfl (ev_t rfl) (ev_t rfl) (fun _ => by omega))) ?_
    refine Hops.take 3 rfl (by kernel_rfl) (fun _ _ _ h => h) rfl rfl rfl F2 (fun w F => (yld_load1 on9 rfl (ev_t rfl) (fun _ => rangeAt_cell (rng hr F.chg) (j := 0) rfl))) ?_
    refine Hops.take 4 rfl (by kernel_rfl) (fun _ _ _ h => h) rfl rfl rfl F2 (fun w F => (yld_move rfl (ev_t rfl))) ?_
    refine Hops.one 5 rfl (by kernel_rfl) (One.call rfl rfl rfl (ent_f rfl (evl1 (ev_t rfl)) (enters en63)) (markText_ct _ _ (by omega)) (fun e w2 hw2 => ?_))
    obtain ⟨rfl, C2⟩ := hw2
    have F3 := F2.call C2
    refine ⟨_, rfl, ?_⟩
    refine ⟨F3, ?_⟩
    refine Hops.take 6 rfl (by kernel_rfl) (fun _ _ _ h => h) rfl rfl rfl F3 (fun w F => (yld_sneq rfl (ev_t rfl) (ev_t rfl))) ?_
    refine Hops.nil (by kernel_rfl) fun a hS => ?_
    refine hK9 _ _ ?_ a hS
    refine Cod.cond rfl (fun hc18 => ?_) (fun hc18 => ?_)
    · skip
      simp at hc18
    · skip
      refine Cod.skip fun a hS => ?_
      refine hK8 _ _ ?_ a hS
      refine Cod.region ?_
      refine Ops.step (One.val rfl rfl rfl (yld_move rfl (ev_t rfl)) ?_)
      refine Ops.step (One.val rfl rfl rfl (yld_add rfl (ev_t rfl) ev_c (fun _ => by omega)) ?_)
      refine Ops.step (One.val rfl rfl rfl (yld_assign rfl (ev_t rfl)) ?_)
      refine Ops.nil fun a hS => ?_
      refine hK7 _ _ ?_ a hS
      refine Cod.region ?_
      refine Ops.step (One.val rfl rfl rfl (yld_move rfl (ev_t rfl)) ?_)
      refine Ops.step (One.val rfl rfl rfl (yld_inc rfl (ev_t rfl) (fun _ => by omega)) ?_)
      refine Ops.step (One.val rfl rfl rfl (yld_assign rfl (ev_t rfl)) ?_)
      refine Ops.nil fun a hS => ?_
      rw [show k + (i : Int) + 1 = addN k (i + 1) by rw [addN_eq]; omega] at hS
      exact hK4 (i + 1) _ a (hS.sub ⟨rfl, rfl, rfl, trivial⟩) ⟨by omega, F3⟩ (by omega)
  · skip
    obtain rfl : i = ks.length := by simp at hc9; omega
    refine Cod.exit fun a hS => ?_
    simp only [Exit.then, Exit.inBlock, ↓reduceIte]
    refine hK2 _ _ ?_ a hS
    refine Cod.seq fun K10 hK10 => ?_
    refine Cod.region ?_
    refine Ops.step (One.val rfl rfl rfl (yld_move rfl (ev_t rfl)) ?_)
    refine Ops.step (One.val rfl rfl rfl (yld_assign rfl (ev_t rfl)) ?_)
    refine Ops.nil fun a hS => ?_
    refine hK10 _ _ ?_ a hS
    refine Cod.ret fun a hS => ?_
    try simp only [Exit.then, Exit.inBlock]
    exact ret1 (t := 4) rfl hS rfl ⟨rfl, F1.chg⟩


/-- What heldValS says of one list that is marked. -/
def HeldOk (l : List Tr) : Prop := ∀ (k : Int) (v : Value) (w : World), RepL Any w (Tr.mkL l k) v → 0 ≤ k → k + ((sumN Tr.mkn l : Nat) : Int) ≤ 4611686018427387904 →
    Calls Try.prog 54 #[v, .int .i64 k] w fun e w' => e = .returned (.int .i64 (k + ((sumN Tr.mkn l : Nat) : Int))) ∧ Chg No w w'

set_option maxRecDepth 100000 in
theorem heldValS_of (l : List Tr) (H : ∀ t ∈ l, HeldOk t.list) : HeldOk l := by
  intro k v w hp hk0 hk
  obtain ⟨A, c, rfl, hn⟩ := hp.open
  have hml := Tr.mkL_length l k
  refine enter Try.func54 rfl rfl rfl ?_
  have F0 := Fr.start w
  refine Cod.seq fun K1 hK1 => ?_
  refine Cod.region ?_
  refine Ops.step (One.val rfl rfl rfl (yld_assign rfl ev_c) ?_)
  refine Ops.nil fun a hS => ?_
  refine hK1 _ _ ?_ a hS
  refine Cod.seq fun K2 hK2 => ?_
  refine Cod.seq fun K3 hK3 => ?_
  refine Cod.region ?_
  refine Ops.step (One.val rfl rfl rfl (yld_assign rfl ev_c) ?_)
  refine Ops.nil fun a hS => ?_
  refine hK3 _ _ ?_ a hS
  refine Cod.block ?_
  refine Cod.loop (fun i : Nat => [(0, true, .slice A (Tr.mkL l k).length c), (1, true, .int .i64 (addN k (sumN Tr.mkn (l.take i)))), (5, true, .int .i64 (i : Int))]) (fun i w' => i ≤ l.length ∧ Fr No w [] w') (fun i => l.length - i) 0 ⟨rfl, rfl, rfl, trivial⟩ ⟨Nat.zero_le _, F0⟩ ?_
  intro i w1 hW K4 hK4
  obtain ⟨hi, F1⟩ := hW
  simp only [addN_eq]
  refine Cod.seq fun K5 hK5 => ?_
  refine Cod.seq fun K6 hK6 => ?_
  refine Cod.region ?_
  refine Ops.step (One.val rfl rfl rfl (yld_move rfl (ev_t rfl)) ?_)
  refine Ops.step (One.val rfl rfl rfl (yld_move rfl (ev_t rfl)) ?_)
  refine Ops.step (One.val rfl rfl rfl (yld_len sl29 rfl (ev_t rfl)) ?_)
  refine Ops.step (One.val rfl rfl rfl (yld_lss rfl (ev_t rfl) (ev_t rfl)) ?_)
  refine Ops.nil fun a hS => ?_
  refine hK6 _ _ ?_ a hS
  refine Cod.cond rfl (fun hc9 => ?_) (fun hc9 => ?_)
  · skip
    have hi : i < l.length := by simp at hc9; omega
    obtain ⟨b, o, cs, rfl, -, hlc, hr, ht⟩ := hp.at i (by omega)
    rw [Tr.mkL_get l k i (by omega) hi] at ht
    obtain ⟨kk, nn, ss, kks, ll, hti⟩ := Tr.eta l[i]
    have Hi : HeldOk ll := by have := H _ (List.getElem_mem hi); rw [hti] at this; exact this
    have hst := sumN_take Tr.mkn l i hi
    have hsl := sumN_take_le Tr.mkn l (i + 1)
    have hmk : l[i].mkn = 3 + kks.length + sumN Tr.mkn ll := by rw [hti, Tr.mkn_mk]
    rw [hti, Tr.mk1] at ht
    obtain ⟨u3, u4, ecs, h3, h4⟩ := ht.open
    have ecs' : cs = [.int .i64 (k + ((sumN Tr.mkn (l.take i) : Nat) : Int)), .int .i64 (k + ((sumN Tr.mkn (l.take i) : Nat) : Int) + 1), .string (mt (k + ((sumN Tr.mkn (l.take i) : Nat) : Int) + 1 + 1)), u3, u4] := by simpa using ecs
    subst ecs'
    refine Cod.skip fun a hS => ?_
    refine hK5 _ _ ?_ a hS
    refine Cod.seq fun K7 hK7 => ?_
    refine Cod.block ?_
    refine Cod.seq fun K8 hK8 => ?_
    refine Cod.seq fun K9 hK9 => ?_
    refine Cod.region ?_
    refine Ops.step (One.val rfl rfl rfl (yld_move rfl (ev_t rfl)) ?_)
    refine Ops.step (One.val rfl rfl rfl (yld_move rfl (ev_t rfl)) ?_)
    refine Ops.step (One.val rfl rfl rfl (yld_indexN sl29 rfl (ev_t rfl) (ev_t rfl) (fun _ => by omega)) ?_)
    refine Ops.step (One.val rfl rfl rfl (yld_field fi31_0 rfl (ev_t rfl)) ?_)
    refine Ops.step (One.val rfl rfl rfl (yld_load1 on3 rfl (ev_t rfl) (fun _ => rangeAt_cell (rng hr F1.chg) (j := 0) rfl)) ?_)
    refine Ops.step (One.val rfl rfl rfl (yld_move rfl (ev_t rfl)) ?_)
    refine Ops.step (One.val rfl rfl rfl (yld_neq rfl (ev_t rfl) (ev_t rfl)) ?_)
    refine Ops.nil fun a hS => ?_
    refine hK9 _ _ ?_ a hS
    refine Cod.cond rfl (fun hc18 => ?_) (fun hc18 => ?_)
    · skip
      simp at hc18
    · skip
      refine Cod.skip fun a hS => ?_
      refine hK8 _ _ ?_ a hS
      refine Cod.seq fun K10 hK10 => ?_
      refine Cod.region ?_
      refine Ops.step (One.val rfl rfl rfl (yld_move rfl (ev_t rfl)) ?_)
      refine Ops.step (One.val rfl rfl rfl (yld_add rfl (ev_t rfl) ev_c (fun _ => by omega)) ?_)
      refine Ops.step (One.val rfl rfl rfl (yld_assign rfl (ev_t rfl)) ?_)
      refine Ops.nil fun a hS => ?_
      refine hK10 _ _ ?_ a hS
      refine Cod.seq fun K11 hK11 => ?_
      refine Cod.seq fun K12 hK12 => ?_
      refine Cod.region ?_
      refine Ops.step (One.val rfl rfl rfl (yld_move rfl (ev_t rfl)) ?_)
      refine Ops.step (One.val rfl rfl rfl (yld_move rfl (ev_t rfl)) ?_)
      refine Ops.step (One.val rfl rfl rfl (yld_indexN sl29 rfl (ev_t rfl) (ev_t rfl) (fun _ => by omega)) ?_)
      refine Ops.step (One.val rfl rfl rfl (yld_field fi31_1 rfl (ev_t rfl)) ?_)
      refine Ops.step (One.val rfl rfl rfl (yld_load1 on3 rfl (ev_t rfl) (fun _ => rangeAt_cell (rng hr F1.chg) (j := 1) rfl)) ?_)
      refine Ops.step (One.val rfl rfl rfl (yld_move rfl (ev_t rfl)) ?_)
      refine Ops.step (One.val rfl rfl rfl (yld_neq rfl (ev_t rfl) (ev_t rfl)) ?_)
      refine Ops.nil fun a hS => ?_
      refine hK12 _ _ ?_ a hS
      refine Cod.cond rfl (fun hc27 => ?_) (fun hc27 => ?_)
      · skip
        simp at hc27
      · skip
        refine Cod.skip fun a hS => ?_
        refine hK11 _ _ ?_ a hS
        refine Cod.seq fun K13 hK13 => ?_
        refine Cod.region ?_
        refine Ops.step (One.val rfl rfl rfl (yld_move rfl (ev_t rfl)) ?_)
        refine Ops.step (One.val rfl rfl rfl (yld_add rfl (ev_t rfl) ev_c (fun _ => by omega)) ?_)
        refine Ops.step (One.val rfl rfl rfl (yld_assign rfl (ev_t rfl)) ?_)
        refine Ops.nil fun a hS => ?_
        refine hK13 _ _ ?_ a hS
        refine Cod.seq fun K14 hK14 => ?_
        refine Cod.seq fun K15 hK15 => ?_
        have F2 := F1.drew
        refine Cod.draw (C_of F2) (by kernel_rfl) ?_
        refine Hops.take 0 rfl (by kernel_rfl) (fun _ _ _ h => h) rfl rfl rfl F2 (fun w F => (yld_move rfl (ev_t rfl))) ?_
        refine Hops.take 1 rfl (by kernel_rfl) (fun _ _ _ h => h) rfl rfl rfl F2 (fun w F => (yld_move rfl (ev_t rfl))) ?_
        refine Hops.take 2 rfl (by kernel_rfl) (fun _ _ _ h => h) rfl rfl rfl F2 (fun w F => (yld_indexN sl29 rfl (ev_t rfl) (ev_t rfl) (fun _ => by omega))) ?_
        refine Hops.take 3 rfl (by kernel_rfl) (fun _ _ _ h => h) rfl rfl rfl F2 (fun w F => (yld_field fi31_2 rfl (ev_t rfl))) ?_
        refine Hops.take 4 rfl (by kernel_rfl) (fun _ _ _ h => h) rfl rfl rfl F2 (fun w F => (yld_load1 on9 rfl (ev_t rfl) (fun _ => rangeAt_cell (rng hr F.chg) (j := 2) rfl))) ?_
        refine Hops.take 5 rfl (by kernel_rfl) (fun _ _ _ h => h) rfl rfl rfl F2 (fun w F => (yld_move rfl (ev_t rfl))) ?_
        refine Hops.one 6 rfl (by kernel_rfl) (One.call rfl rfl rfl (ent_f rfl (evl1 (ev_t rfl)) (enters en63)) (markText_ct _ _ (by omega)) (fun e w2 hw2 => ?_))
        obtain ⟨rfl, C2⟩ := hw2
        have F3 := F2.call C2
        refine ⟨_, rfl, ?_⟩
        refine ⟨F3, ?_⟩
        refine Hops.take 7 rfl (by kernel_rfl) (fun _ _ _ h => h) rfl rfl rfl F3 (fun w F => (yld_sneq rfl (ev_t rfl) (ev_t rfl))) ?_
        refine Hops.nil (by kernel_rfl) fun a hS => ?_
        refine hK15 _ _ ?_ a hS
        refine Cod.cond rfl (fun hc37 => ?_) (fun hc37 => ?_)
        · skip
          simp at hc37
        · skip
          refine Cod.skip fun a hS => ?_
          refine hK14 _ _ ?_ a hS
          refine Cod.seq fun K16 hK16 => ?_
          refine Cod.region ?_
          refine Ops.step (One.val rfl rfl rfl (yld_move rfl (ev_t rfl)) ?_)
          refine Ops.step (One.val rfl rfl rfl (yld_add rfl (ev_t rfl) ev_c (fun _ => by omega)) ?_)
          refine Ops.step (One.val rfl rfl rfl (yld_assign rfl (ev_t rfl)) ?_)
          refine Ops.nil fun a hS => ?_
          refine hK16 _ _ ?_ a hS
          refine Cod.seq fun K17 hK17 => ?_
          refine Cod.region ?_
          refine Ops.step (One.val rfl rfl rfl (yld_move rfl (ev_t rfl)) ?_)
          refine Ops.step (One.val rfl rfl rfl (yld_move rfl (ev_t rfl)) ?_)
          refine Ops.step (One.val rfl rfl rfl (yld_indexN sl29 rfl (ev_t rfl) (ev_t rfl) (fun _ => by omega)) ?_)
          refine Ops.step (One.val rfl rfl rfl (yld_field fi31_3 rfl (ev_t rfl)) ?_)
          refine Ops.step (One.val rfl rfl rfl (yld_load1 on22 rfl (ev_t rfl) (fun _ => rangeAt_cell (rng hr F3.chg) (j := 3) rfl)) ?_)
          refine Ops.step (One.val rfl rfl rfl (yld_move rfl (ev_t rfl)) ?_)
          refine Ops.step (One.call rfl rfl rfl (ent_f rfl (evl2 (ev_t rfl) (ev_t rfl)) (enters en53)) (heldStringS_ct kks _ _ _ (h3.chg F3.chg) (by omega) (by omega)) (fun e w3 hw3 => ?_))
          obtain ⟨rfl, C3⟩ := hw3
          have F4 := F3.call C3
          refine ⟨_, rfl, ?_⟩
          refine Ops.step (One.val rfl rfl rfl (yld_assign rfl (ev_t rfl)) ?_)
          refine Ops.nil fun a hS => ?_
          refine hK17 _ _ ?_ a hS
          refine Cod.seq fun K18 hK18 => ?_
          refine Cod.seq fun K19 hK19 => ?_
          refine Cod.region ?_
          refine Ops.step (One.val rfl rfl rfl (yld_move rfl (ev_t rfl)) ?_)
          refine Ops.step (One.val rfl rfl rfl (yld_lss rfl (ev_t rfl) ev_c) ?_)
          refine Ops.nil fun a hS => ?_
          refine hK19 _ _ ?_ a hS
          refine Cod.cond rfl (fun hc48 => ?_) (fun hc48 => ?_)
          · skip
            (have := of_decide_eq_true hc48; omega)
          · skip
            refine Cod.skip fun a hS => ?_
            refine hK18 _ _ ?_ a hS
            refine Cod.seq fun K20 hK20 => ?_
            refine Cod.region ?_
            refine Ops.step (One.val rfl rfl rfl (yld_move rfl (ev_t rfl)) ?_)
            refine Ops.step (One.val rfl rfl rfl (yld_move rfl (ev_t rfl)) ?_)
            refine Ops.step (One.val rfl rfl rfl (yld_indexN sl29 rfl (ev_t rfl) (ev_t rfl) (fun _ => by omega)) ?_)
            refine Ops.step (One.val rfl rfl rfl (yld_field fi31_4 rfl (ev_t rfl)) ?_)
            refine Ops.step (One.val rfl rfl rfl (yld_load1 on29 rfl (ev_t rfl) (fun _ => rangeAt_cell (rng hr F4.chg) (j := 4) rfl)) ?_)
            refine Ops.step (One.val rfl rfl rfl (yld_move rfl (ev_t rfl)) ?_)
            refine Ops.step (One.call rfl rfl rfl (ent_f rfl (evl2 (ev_t rfl) (ev_t rfl)) (enters en54)) (Hi _ _ _ (h4.chg F4.chg) (by omega) (by omega)) (fun e w4 hw4 => ?_))
            obtain ⟨rfl, C4⟩ := hw4
            have F5 := F4.call C4
            refine ⟨_, rfl, ?_⟩
            refine Ops.step (One.val rfl rfl rfl (yld_assign rfl (ev_t rfl)) ?_)
            refine Ops.nil fun a hS => ?_
            refine hK20 _ _ ?_ a hS
            refine Cod.seq fun K21 hK21 => ?_
            refine Cod.region ?_
            refine Ops.step (One.val rfl rfl rfl (yld_move rfl (ev_t rfl)) ?_)
            refine Ops.step (One.val rfl rfl rfl (yld_lss rfl (ev_t rfl) ev_c) ?_)
            refine Ops.nil fun a hS => ?_
            refine hK21 _ _ ?_ a hS
            refine Cod.cond rfl (fun hc57 => ?_) (fun hc57 => ?_)
            · skip
              (have := of_decide_eq_true hc57; omega)
            · skip
              refine Cod.skip fun a hS => ?_
              refine hK7 _ _ ?_ a hS
              refine Cod.region ?_
              refine Ops.step (One.val rfl rfl rfl (yld_move rfl (ev_t rfl)) ?_)
              refine Ops.step (One.val rfl rfl rfl (yld_inc rfl (ev_t rfl) (fun _ => by omega)) ?_)
              refine Ops.step (One.val rfl rfl rfl (yld_assign rfl (ev_t rfl)) ?_)
              refine Ops.nil fun a hS => ?_
              rw [show k + ((sumN Tr.mkn (l.take i) : Nat) : Int) + 1 + 1 + 1 + (kks.length : Int) + ((sumN Tr.mkn ll : Nat) : Int) = addN k (sumN Tr.mkn (l.take (i + 1))) by rw [addN_eq]; omega] at hS
              exact hK4 (i + 1) _ a (hS.sub ⟨rfl, rfl, rfl, trivial⟩) ⟨by omega, F5⟩ (by omega)
  · skip
    obtain rfl : i = l.length := by simp at hc9; omega
    rw [List.take_length]
    refine Cod.exit fun a hS => ?_
    simp only [Exit.then, Exit.inBlock, ↓reduceIte]
    refine hK2 _ _ ?_ a hS
    refine Cod.seq fun K22 hK22 => ?_
    refine Cod.region ?_
    refine Ops.step (One.val rfl rfl rfl (yld_move rfl (ev_t rfl)) ?_)
    refine Ops.step (One.val rfl rfl rfl (yld_assign rfl (ev_t rfl)) ?_)
    refine Ops.nil fun a hS => ?_
    refine hK22 _ _ ?_ a hS
    refine Cod.ret fun a hS => ?_
    try simp only [Exit.then, Exit.inBlock]
    exact ret1 (t := 4) rfl hS rfl ⟨rfl, F1.chg⟩


theorem heldLP (t : Tr) : HeldOk t.list := Tr.ind (p := fun t => HeldOk t.list) (fun k n s ks l H => heldValS_of l H) t
theorem heldValS_ct (l : List Tr) : HeldOk l := heldValS_of l fun t _ => heldLP t

end Go.Proofs.Yteodgmpkpbmoeaa.Eng
