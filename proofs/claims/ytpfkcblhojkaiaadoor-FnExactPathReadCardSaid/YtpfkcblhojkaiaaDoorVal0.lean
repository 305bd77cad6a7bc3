/- Walks of what the laws do with trees: their size, a copy of another type, whether two are alike. Each for every tree that memory can hold. -/
import Derived.Test.YtpfkcblhojkaiaaDoorTxt
import Derived.Test.YtpfkcblhojkaiaaDoorSep
namespace Go.Proofs.YtpfkcblhojkaiaaDoor.Eng
open Go.RowKit
set_option linter.unusedVariables false
set_option linter.unusedSimpArgs false
set_option maxHeartbeats 1000000

set_option maxRecDepth 100000 in
theorem szStringS_ct (p : List ByteArray) (left : Int) (v : Value) (w : World) (hp : RepS Any w p v) (h0 : 0 ≤ left) (hl : left ≤ 9223372036854775807) (hs : ∀ s ∈ p, s.size ≤ 9223372036854775807) :
    Calls Tryd.prog 58 #[v, .int .i64 left] w fun e w' => e = .returned (.int .i64 (tk left (p.length + sumN ByteArray.size p))) ∧ Chg No w w' := by
  obtain ⟨A, c, rfl, hn⟩ := hp.open
  refine enter Tryd.func58 rfl rfl rfl ?_
  have F0 := Fr.start w
  refine Cod.seq fun K1 hK1 => ?_
  refine Cod.region ?_
  refine Ops.step (One.val rfl rfl rfl (yld_assign rfl ev_c) ?_)
  refine Ops.nil fun a hS => ?_
  refine hK1 _ _ ?_ a hS
  refine Cod.seq fun K2 hK2 => ?_
  refine Cod.region ?_
  refine Ops.step (One.val rfl rfl rfl (yld_move rfl (ev_t rfl)) ?_)
  refine Ops.step (One.val rfl rfl rfl (yld_move rfl (ev_t rfl)) ?_)
  refine Ops.step (One.val rfl rfl rfl (yld_len sl22 rfl (ev_t rfl)) ?_)
  refine Ops.step (One.val rfl rfl rfl (yld_sub rfl (ev_t rfl) (ev_t rfl) (fun _ => by omega)) ?_)
  refine Ops.step (One.val rfl rfl rfl (yld_assign rfl (ev_t rfl)) ?_)
  refine Ops.nil fun a hS => ?_
  refine hK2 _ _ ?_ a hS
  refine Cod.seq fun K3 hK3 => ?_
  refine Cod.seq fun K4 hK4 => ?_
  refine Cod.region ?_
  refine Ops.step (One.val rfl rfl rfl (yld_move rfl (ev_t rfl)) ?_)
  refine Ops.step (One.val rfl rfl rfl (yld_lss rfl (ev_t rfl) ev_c) ?_)
  refine Ops.nil fun a hS => ?_
  refine hK4 _ _ ?_ a hS
  refine Cod.cond rfl (fun hc11 => ?_) (fun hc11 => ?_)
  · skip
    have hc : left < p.length := by have := of_decide_eq_true hc11; omega
    refine Cod.seq fun K5 hK5 => ?_
    refine Cod.region ?_
    refine Ops.step (One.val rfl rfl rfl (yld_assign rfl ev_c) ?_)
    refine Ops.nil fun a hS => ?_
    refine hK5 _ _ ?_ a hS
    refine Cod.ret fun a hS => ?_
    try simp only [Exit.then, Exit.inBlock]
    exact ret1 (t := 4) rfl hS rfl ⟨by rw [tk_lt (by omega)], F0.chg⟩
  · skip
    have hc : p.length ≤ left := by have := of_decide_eq_false hc11; omega
    refine Cod.skip fun a hS => ?_
    refine hK3 _ _ ?_ a hS
    refine Cod.seq fun K6 hK6 => ?_
    refine Cod.seq fun K7 hK7 => ?_
    refine Cod.region ?_
    refine Ops.step (One.val rfl rfl rfl (yld_assign rfl ev_c) ?_)
    refine Ops.nil fun a hS => ?_
    refine hK7 _ _ ?_ a hS
    refine Cod.block ?_
    have e0 : left - p.length = left - p.length - sumN ByteArray.size (p.take 0) := by simp [sumN]
    rw [e0]
    refine Cod.loop (fun i : Nat => [(0, true, .slice A p.length c), (1, true, .int .i64 (left - p.length - sumN ByteArray.size (p.take i))), (5, true, .int .i64 (i : Int))]) (fun i w' => i ≤ p.length ∧ (p.length + sumN ByteArray.size (p.take i) : Int) ≤ left ∧ Fr No w [] w') (fun i => p.length - i) 0 ⟨rfl, rfl, rfl, trivial⟩ ⟨Nat.zero_le _, by simpa [sumN] using hc, F0⟩ ?_
    intro i w1 hW K8 hK8
    obtain ⟨hi, hle, F1⟩ := hW
    refine Cod.seq fun K9 hK9 => ?_
    refine Cod.seq fun K10 hK10 => ?_
    refine Cod.region ?_
    refine Ops.step (One.val rfl rfl rfl (yld_move rfl (ev_t rfl)) ?_)
    refine Ops.step (One.val rfl rfl rfl (yld_move rfl (ev_t rfl)) ?_)
    refine Ops.step (One.val rfl rfl rfl (yld_len sl22 rfl (ev_t rfl)) ?_)
    refine Ops.step (One.val rfl rfl rfl (yld_lss rfl (ev_t rfl) (ev_t rfl)) ?_)
    refine Ops.nil fun a hS => ?_
    refine hK10 _ _ ?_ a hS
    refine Cod.cond rfl (fun hc15 => ?_) (fun hc15 => ?_)
    · skip
      have hi : i < p.length := by simpa using hc15
      obtain ⟨b, o, rfl, -, hr⟩ := hp.at i hi
      have hst := sumN_take ByteArray.size p i hi
      have hsl := sumN_take_le ByteArray.size p (i + 1)
      have hsi := hs _ (List.getElem_mem hi)
      refine Cod.skip fun a hS => ?_
      refine hK9 _ _ ?_ a hS
      refine Cod.seq fun K11 hK11 => ?_
      refine Cod.block ?_
      refine Cod.seq fun K12 hK12 => ?_
      refine Cod.region ?_
      refine Ops.step (One.val rfl rfl rfl (yld_move rfl (ev_t rfl)) ?_)
      refine Ops.step (One.val rfl rfl rfl (yld_move rfl (ev_t rfl)) ?_)
      refine Ops.step (One.val rfl rfl rfl (yld_move rfl (ev_t rfl)) ?_)
      refine Ops.step (One.val rfl rfl rfl (yld_indexN sl22 rfl (ev_t rfl) (ev_t rfl) (fun _ => by omega)) ?_)
      refine Ops.step (One.val rfl rfl rfl (yld_load1 on9 rfl (ev_t rfl) (fun _ => rangeAt_cell (rng hr F1.chg) (j := 0) rfl)) ?_)
      refine Ops.step (One.val rfl rfl rfl (yld_slen st9 rfl (ev_t rfl)) ?_)
      refine Ops.step (One.val rfl rfl rfl (yld_sub rfl (ev_t rfl) (ev_t rfl) (fun _ => by omega)) ?_)
      refine Ops.step (One.val rfl rfl rfl (yld_assign rfl (ev_t rfl)) ?_)
      refine Ops.nil fun a hS => ?_
      refine hK12 _ _ ?_ a hS
      refine Cod.seq fun K13 hK13 => ?_
      refine Cod.region ?_
      refine Ops.step (One.val rfl rfl rfl (yld_move rfl (ev_t rfl)) ?_)
      refine Ops.step (One.val rfl rfl rfl (yld_lss rfl (ev_t rfl) ev_c) ?_)
      refine Ops.nil fun a hS => ?_
      refine hK13 _ _ ?_ a hS
      refine Cod.cond rfl (fun hc26 => ?_) (fun hc26 => ?_)
      · skip
        have hc : left < p.length + sumN ByteArray.size p := by have hq := of_decide_eq_true hc26; omega
        refine Cod.seq fun K14 hK14 => ?_
        refine Cod.region ?_
        refine Ops.step (One.val rfl rfl rfl (yld_assign rfl ev_c) ?_)
        refine Ops.nil fun a hS => ?_
        refine hK14 _ _ ?_ a hS
        refine Cod.ret fun a hS => ?_
        try simp only [Exit.then, Exit.inBlock]
        exact ret1 (t := 4) rfl hS rfl ⟨by rw [tk_lt (by omega)], F1.chg⟩
      · skip
        have hge := of_decide_eq_false hc26
        rw [show left - p.length - sumN ByteArray.size (p.take i) - p[i].size = left - p.length - sumN ByteArray.size (p.take (i + 1)) by omega]
        refine Cod.skip fun a hS => ?_
        refine hK11 _ _ ?_ a hS
        refine Cod.region ?_
        refine Ops.step (One.val rfl rfl rfl (yld_move rfl (ev_t rfl)) ?_)
        refine Ops.step (One.val rfl rfl rfl (yld_inc rfl (ev_t rfl) (fun _ => by omega)) ?_)
        refine Ops.step (One.val rfl rfl rfl (yld_assign rfl (ev_t rfl)) ?_)
        refine Ops.nil fun a hS => ?_
        exact hK8 (i + 1) _ a (hS.sub ⟨rfl, rfl, rfl, trivial⟩) ⟨by omega, by omega, F1⟩ (by omega)
    · skip
      obtain rfl : i = p.length := by simp at hc15; omega
      rw [List.take_length] at hle ⊢
      refine Cod.exit fun a hS => ?_
      simp only [Exit.then, Exit.inBlock, ↓reduceIte]
      refine hK6 _ _ ?_ a hS
      refine Cod.seq fun K15 hK15 => ?_
      refine Cod.region ?_
      refine Ops.step (One.val rfl rfl rfl (yld_move rfl (ev_t rfl)) ?_)
      refine Ops.step (One.val rfl rfl rfl (yld_assign rfl (ev_t rfl)) ?_)
      refine Ops.nil fun a hS => ?_
      refine hK15 _ _ ?_ a hS
      refine Cod.ret fun a hS => ?_
      try simp only [Exit.then, Exit.inBlock]
      exact ret1 (t := 4) rfl hS rfl ⟨by rw [tk_ge (by omega)]; exact ret_i (by omega), F1.chg⟩


/-- What szVal says of one tree. -/
def SzOk (t : Tr) : Prop := ∀ (left : Int) (v : Value) (w : World), Rep Any w t v → 0 ≤ left → left ≤ 9223372036854775807 → t.Fit →
    Calls Tryd.prog 26 #[v, .int .i64 left] w fun e w' => e = .returned (.int .i64 (tk left t.wt)) ∧ Chg No w w'

set_option maxRecDepth 100000 in
theorem szValS_of (p : List Tr) (H : ∀ t ∈ p, SzOk t) (left : Int) (v : Value) (w : World) (hp : RepL Any w p v) (h0 : 0 ≤ left) (hl : left ≤ 9223372036854775807) (hs : ∀ t ∈ p, t.Fit) :
    Calls Tryd.prog 59 #[v, .int .i64 left] w fun e w' => e = .returned (.int .i64 (tk left (p.length + sumN Tr.wt p))) ∧ Chg No w w' := by
  obtain ⟨A, c, rfl, hn⟩ := hp.open
  refine enter Tryd.func59 rfl rfl rfl ?_
  have F0 := Fr.start w
  refine Cod.seq fun K1 hK1 => ?_
  refine Cod.region ?_
  refine Ops.step (One.val rfl rfl rfl (yld_assign rfl ev_c) ?_)
  refine Ops.nil fun a hS => ?_
  refine hK1 _ _ ?_ a hS
  refine Cod.seq fun K2 hK2 => ?_
  refine Cod.region ?_
  refine Ops.step (One.val rfl rfl rfl (yld_move rfl (ev_t rfl)) ?_)
  refine Ops.step (One.val rfl rfl rfl (yld_move rfl (ev_t rfl)) ?_)
  refine Ops.step (One.val rfl rfl rfl (yld_len sl23 rfl (ev_t rfl)) ?_)
  refine Ops.step (One.val rfl rfl rfl (yld_sub rfl (ev_t rfl) (ev_t rfl) (fun _ => by omega)) ?_)
  refine Ops.step (One.val rfl rfl rfl (yld_assign rfl (ev_t rfl)) ?_)
  refine Ops.nil fun a hS => ?_
  refine hK2 _ _ ?_ a hS
  refine Cod.seq fun K3 hK3 => ?_
  refine Cod.seq fun K4 hK4 => ?_
  refine Cod.region ?_
  refine Ops.step (One.val rfl rfl rfl (yld_move rfl (ev_t rfl)) ?_)
  refine Ops.step (One.val rfl rfl rfl (yld_lss rfl (ev_t rfl) ev_c) ?_)
  refine Ops.nil fun a hS => ?_
  refine hK4 _ _ ?_ a hS
  refine Cod.cond rfl (fun hc11 => ?_) (fun hc11 => ?_)
  · skip
    have hc : left < p.length := by have := of_decide_eq_true hc11; omega
    refine Cod.seq fun K5 hK5 => ?_
    refine Cod.region ?_
    refine Ops.step (One.val rfl rfl rfl (yld_assign rfl ev_c) ?_)
    refine Ops.nil fun a hS => ?_
    refine hK5 _ _ ?_ a hS
    refine Cod.ret fun a hS => ?_
    try simp only [Exit.then, Exit.inBlock]
    exact ret1 (t := 4) rfl hS rfl ⟨by rw [tk_lt (by omega)], F0.chg⟩
  · skip
    have hc : p.length ≤ left := by have := of_decide_eq_false hc11; omega
    refine Cod.skip fun a hS => ?_
    refine hK3 _ _ ?_ a hS
    refine Cod.seq fun K6 hK6 => ?_
    refine Cod.seq fun K7 hK7 => ?_
    refine Cod.region ?_
    refine Ops.step (One.val rfl rfl rfl (yld_assign rfl ev_c) ?_)
    refine Ops.nil fun a hS => ?_
    refine hK7 _ _ ?_ a hS
    refine Cod.block ?_
    have e0 : left - p.length = left - p.length - sumN Tr.wt (p.take 0) := by simp [sumN]
    rw [e0]
    refine Cod.loop (fun i : Nat => [(0, true, .slice A p.length c), (1, true, .int .i64 (left - p.length - sumN Tr.wt (p.take i))), (5, true, .int .i64 (i : Int))]) (fun i w' => i ≤ p.length ∧ (p.length + sumN Tr.wt (p.take i) : Int) ≤ left ∧ Fr No w [] w') (fun i => p.length - i) 0 ⟨rfl, rfl, rfl, trivial⟩ ⟨Nat.zero_le _, by simpa [sumN] using hc, F0⟩ ?_
    intro i w1 hW K8 hK8
    obtain ⟨hi, hle, F1⟩ := hW
    refine Cod.seq fun K9 hK9 => ?_
    refine Cod.seq fun K10 hK10 => ?_
    refine Cod.region ?_
    refine Ops.step (One.val rfl rfl rfl (yld_move rfl (ev_t rfl)) ?_)
    refine Ops.step (One.val rfl rfl rfl (yld_move rfl (ev_t rfl)) ?_)
    refine Ops.step (One.val rfl rfl rfl (yld_len sl23 rfl (ev_t rfl)) ?_)
    refine Ops.step (One.val rfl rfl rfl (yld_lss rfl (ev_t rfl) (ev_t rfl)) ?_)
    refine Ops.nil fun a hS => ?_
    refine hK10 _ _ ?_ a hS
    refine Cod.cond rfl (fun hc15 => ?_) (fun hc15 => ?_)
    · skip
      have hi : i < p.length := by simpa using hc15
      obtain ⟨b, o, cs, rfl, -, hlen, hr, ht⟩ := hp.at i hi
      have hst := sumN_take Tr.wt p i hi
      have hsl := sumN_take_le Tr.wt p (i + 1)
      refine Cod.skip fun a hS => ?_
      refine hK9 _ _ ?_ a hS
      refine Cod.seq fun K11 hK11 => ?_
      refine Cod.block ?_
      refine Cod.seq fun K12 hK12 => ?_
      refine Cod.region ?_
      refine Ops.step (One.val rfl rfl rfl (yld_move rfl (ev_t rfl)) ?_)
      refine Ops.step (One.val rfl rfl rfl (yld_move rfl (ev_t rfl)) ?_)
      refine Ops.step (One.val rfl rfl rfl (yld_indexN sl23 rfl (ev_t rfl) (ev_t rfl) (fun _ => by omega)) ?_)
      refine Ops.step (One.val rfl rfl rfl (yld_loadN ag25 rfl (ev_t rfl) (fun _ => rng hr F1.chg) hlen) ?_)
      refine Ops.step (One.val rfl rfl rfl (yld_move rfl (ev_t rfl)) ?_)
      refine Ops.step (One.call rfl rfl rfl (ent_f rfl (evl2 (ev_t rfl) (ev_t rfl)) (enters en26)) (H _ (List.getElem_mem hi) _ _ _ (ht.chg F1.chg) (by omega) (by omega) (hs _ (List.getElem_mem hi))) (fun e w2 hw2 => ?_))
      obtain ⟨rfl, C2⟩ := hw2
      have F2 := F1.call C2
      refine ⟨_, rfl, ?_⟩
      refine Ops.step (One.val rfl rfl rfl (yld_assign rfl (ev_t rfl)) ?_)
      refine Ops.nil fun a hS => ?_
      refine hK12 _ _ ?_ a hS
      refine Cod.seq fun K13 hK13 => ?_
      refine Cod.region ?_
      refine Ops.step (One.val rfl rfl rfl (yld_move rfl (ev_t rfl)) ?_)
      refine Ops.step (One.val rfl rfl rfl (yld_lss rfl (ev_t rfl) ev_c) ?_)
      refine Ops.nil fun a hS => ?_
      refine hK13 _ _ ?_ a hS
      refine Cod.cond rfl (fun hc25 => ?_) (fun hc25 => ?_)
      · skip
        have hc := tk_neg (by omega) hc25
        refine Cod.seq fun K14 hK14 => ?_
        refine Cod.region ?_
        refine Ops.step (One.val rfl rfl rfl (yld_assign rfl ev_c) ?_)
        refine Ops.nil fun a hS => ?_
        refine hK14 _ _ ?_ a hS
        refine Cod.ret fun a hS => ?_
        try simp only [Exit.then, Exit.inBlock]
        exact ret1 (t := 4) rfl hS rfl ⟨by rw [tk_lt (by omega)], F2.chg⟩
      · skip
        obtain ⟨he, hge⟩ := tk_ok (by omega) hc25
        rw [he, show left - p.length - sumN Tr.wt (p.take i) - (p[i].wt : Int) = left - p.length - sumN Tr.wt (p.take (i + 1)) by omega]
        refine Cod.skip fun a hS => ?_
        refine hK11 _ _ ?_ a hS
        refine Cod.region ?_
        refine Ops.step (One.val rfl rfl rfl (yld_move rfl (ev_t rfl)) ?_)
        refine Ops.step (One.val rfl rfl rfl (yld_inc rfl (ev_t rfl) (fun _ => by omega)) ?_)
        refine Ops.step (One.val rfl rfl rfl (yld_assign rfl (ev_t rfl)) ?_)
        refine Ops.nil fun a hS => ?_
        exact hK8 (i + 1) _ a (hS.sub ⟨rfl, rfl, rfl, trivial⟩) ⟨by omega, by omega, F2⟩ (by omega)
    · skip
      obtain rfl : i = p.length := by simp at hc15; omega
      rw [List.take_length] at hle ⊢
      refine Cod.exit fun a hS => ?_
      simp only [Exit.then, Exit.inBlock, ↓reduceIte]
      refine hK6 _ _ ?_ a hS
      refine Cod.seq fun K15 hK15 => ?_
      refine Cod.region ?_
      refine Ops.step (One.val rfl rfl rfl (yld_move rfl (ev_t rfl)) ?_)
      refine Ops.step (One.val rfl rfl rfl (yld_assign rfl (ev_t rfl)) ?_)
      refine Ops.nil fun a hS => ?_
      refine hK15 _ _ ?_ a hS
      refine Cod.ret fun a hS => ?_
      try simp only [Exit.then, Exit.inBlock]
      exact ret1 (t := 4) rfl hS rfl ⟨by rw [tk_ge (by omega)]; exact ret_i (by omega), F1.chg⟩

set_option maxRecDepth 100000 in
theorem szVal_of (k n : Int) (s : ByteArray) (ks : List ByteArray) (l : List Tr) (H : ∀ t ∈ l, SzOk t) : SzOk (.mk k n s ks l) := by
  intro left v w hr h0 hl hf
  obtain ⟨v3, v4, rfl, h3, h4⟩ := hr.open
  cases hf with
  | mk hs hks hkl =>
  have hwt := Tr.wt_mk k n s ks l
  refine enter Tryd.func26 rfl rfl rfl ?_
  have F0 := Fr.start w
  refine Cod.seq fun K1 hK1 => ?_
  refine Cod.region ?_
  refine Ops.step (One.box F0 rfl rfl rfl rfl (ev_t rfl) ?_)
  intro b1 w1 hb1 F1
  change Fr _ _ [blk _ _ [_, _, _, _, _]] _ at F1
  refine Ops.step (One.val rfl rfl rfl (yld_assign rfl ev_c) ?_)
  refine Ops.nil fun a hS => ?_
  refine hK1 _ _ ?_ a hS
  refine Cod.seq fun K2 hK2 => ?_
  refine Cod.region ?_
  refine Ops.step (One.val rfl rfl rfl (yld_move rfl (ev_t rfl)) ?_)
  refine Ops.step (One.val rfl rfl rfl (yld_field fi25_2 rfl (ev_t rfl)) ?_)
  refine Ops.step (One.val rfl rfl rfl (yld_load1 on9 rfl (ev_t rfl) (fun _ => F1.cell 0 rfl rfl)) ?_)
  refine Ops.step (One.val rfl rfl rfl (yld_slen st9 rfl (ev_t rfl)) ?_)
  refine Ops.step (One.val rfl rfl rfl (yld_sub rfl (ev_t rfl) (ev_t rfl) (fun _ => by omega)) ?_)
  refine Ops.step (One.val rfl rfl rfl (yld_assign rfl (ev_t rfl)) ?_)
  refine Ops.nil fun a hS => ?_
  refine hK2 _ _ ?_ a hS
  refine Cod.seq fun K3 hK3 => ?_
  refine Cod.seq fun K4 hK4 => ?_
  refine Cod.region ?_
  refine Ops.step (One.val rfl rfl rfl (yld_move rfl (ev_t rfl)) ?_)
  refine Ops.step (One.val rfl rfl rfl (yld_lss rfl (ev_t rfl) ev_c) ?_)
  refine Ops.nil fun a hS => ?_
  refine hK4 _ _ ?_ a hS
  refine Cod.cond rfl (fun hc11 => ?_) (fun hc11 => ?_)
  · skip
    have hc : left < s.size := by have := of_decide_eq_true hc11; omega
    refine Cod.seq fun K5 hK5 => ?_
    refine Cod.region ?_
    refine Ops.step (One.val rfl rfl rfl (yld_assign rfl ev_c) ?_)
    refine Ops.nil fun a hS => ?_
    refine hK5 _ _ ?_ a hS
    refine Cod.ret fun a hS => ?_
    try simp only [Exit.then, Exit.inBlock]
    exact ret1 (t := 4) rfl hS rfl ⟨by rw [tk_lt (by omega)], F1.chg⟩
  · skip
    have hc : s.size ≤ left := by have := of_decide_eq_false hc11; omega
    refine Cod.skip fun a hS => ?_
    refine hK3 _ _ ?_ a hS
    refine Cod.seq fun K6 hK6 => ?_
    refine Cod.region ?_
    refine Ops.step (One.val rfl rfl rfl (yld_field fi25_3 rfl (ev_t rfl)) ?_)
    refine Ops.step (One.val rfl rfl rfl (yld_load1 on22 rfl (ev_t rfl) (fun _ => F1.cell 0 rfl rfl)) ?_)
    refine Ops.step (One.val rfl rfl rfl (yld_move rfl (ev_t rfl)) ?_)
    refine Ops.step (One.call rfl rfl rfl (ent_f rfl (evl2 (ev_t rfl) (ev_t rfl)) (enters en58)) (szStringS_ct ks _ _ _ (h3.chg F1.chg) (by omega) (by omega) hks) (fun e w2 hw2 => ?_))
    obtain ⟨rfl, C2⟩ := hw2
    have F2 := F1.call C2
    refine ⟨_, rfl, ?_⟩
    refine Ops.step (One.val rfl rfl rfl (yld_assign rfl (ev_t rfl)) ?_)
    refine Ops.nil fun a hS => ?_
    refine hK6 _ _ ?_ a hS
    refine Cod.seq fun K7 hK7 => ?_
    refine Cod.seq fun K8 hK8 => ?_
    refine Cod.region ?_
    refine Ops.step (One.val rfl rfl rfl (yld_move rfl (ev_t rfl)) ?_)
    refine Ops.step (One.val rfl rfl rfl (yld_lss rfl (ev_t rfl) ev_c) ?_)
    refine Ops.nil fun a hS => ?_
    refine hK8 _ _ ?_ a hS
    refine Cod.cond rfl (fun hc17 => ?_) (fun hc17 => ?_)
    · skip
      have hc2 := tk_neg (by omega) hc17
      refine Cod.seq fun K9 hK9 => ?_
      refine Cod.region ?_
      refine Ops.step (One.val rfl rfl rfl (yld_assign rfl ev_c) ?_)
      refine Ops.nil fun a hS => ?_
      refine hK9 _ _ ?_ a hS
      refine Cod.ret fun a hS => ?_
      try simp only [Exit.then, Exit.inBlock]
      exact ret1 (t := 4) rfl hS rfl ⟨by rw [tk_lt (by omega)], F2.chg⟩
    · skip
      obtain ⟨he, hge⟩ := tk_ok (by omega) hc17
      rw [he]
      refine Cod.skip fun a hS => ?_
      refine hK7 _ _ ?_ a hS
      refine Cod.seq fun K10 hK10 => ?_
      refine Cod.region ?_
      refine Ops.step (One.val rfl rfl rfl (yld_field fi25_4 rfl (ev_t rfl)) ?_)
      refine Ops.step (One.val rfl rfl rfl (yld_load1 on23 rfl (ev_t rfl) (fun _ => F2.cell 0 rfl rfl)) ?_)
      refine Ops.step (One.val rfl rfl rfl (yld_move rfl (ev_t rfl)) ?_)
      refine Ops.step (One.call rfl rfl rfl (ent_f rfl (evl2 (ev_t rfl) (ev_t rfl)) (enters en59)) (szValS_of l H _ _ _ (h4.chg F2.chg) (by omega) (by omega) hkl) (fun e w3 hw3 => ?_))
      obtain ⟨rfl, C3⟩ := hw3
      have F3 := F2.call C3
      refine ⟨_, rfl, ?_⟩
      refine Ops.step (One.val rfl rfl rfl (yld_assign rfl (ev_t rfl)) ?_)
      refine Ops.nil fun a hS => ?_
      refine hK10 _ _ ?_ a hS
      refine Cod.seq fun K11 hK11 => ?_
      refine Cod.seq fun K12 hK12 => ?_
      refine Cod.region ?_
      refine Ops.step (One.val rfl rfl rfl (yld_move rfl (ev_t rfl)) ?_)
      refine Ops.step (One.val rfl rfl rfl (yld_lss rfl (ev_t rfl) ev_c) ?_)
      refine Ops.nil fun a hS => ?_
      refine hK12 _ _ ?_ a hS
      refine Cod.cond rfl (fun hc23 => ?_) (fun hc23 => ?_)
      · skip
        have hc3 := tk_neg (by omega) hc23
        refine Cod.seq fun K13 hK13 => ?_
        refine Cod.region ?_
        refine Ops.step (One.val rfl rfl rfl (yld_assign rfl ev_c) ?_)
        refine Ops.nil fun a hS => ?_
        refine hK13 _ _ ?_ a hS
        refine Cod.ret fun a hS => ?_
        try simp only [Exit.then, Exit.inBlock]
        exact ret1 (t := 4) rfl hS rfl ⟨by rw [tk_lt (by omega)], F3.chg⟩
      · skip
        obtain ⟨he2, hge2⟩ := tk_ok (by omega) hc23
        rw [he2]
        refine Cod.skip fun a hS => ?_
        refine hK11 _ _ ?_ a hS
        refine Cod.seq fun K14 hK14 => ?_
        refine Cod.region ?_
        refine Ops.step (One.val rfl rfl rfl (yld_move rfl (ev_t rfl)) ?_)
        refine Ops.step (One.val rfl rfl rfl (yld_assign rfl (ev_t rfl)) ?_)
        refine Ops.nil fun a hS => ?_
        refine hK14 _ _ ?_ a hS
        refine Cod.ret fun a hS => ?_
        try simp only [Exit.then, Exit.inBlock]
        exact ret1 (t := 4) rfl hS rfl ⟨by rw [tk_ge (by omega)]; exact ret_i (by omega), F3.chg⟩


theorem szVal_ct (t : Tr) : SzOk t := Tr.ind (p := SzOk) szVal_of t

set_option maxRecDepth 100000 in
theorem toStringS_ct (p : List ByteArray) (v : Value) (w : World) (hp : RepS Any w p v) (hn : p.length ≤ 1048576) :
    Calls Tryd.prog 61 #[v] w fun e w' => ∃ v', e = .returned v' ∧ Chg No w w' ∧ w'.ownsRow 0 9 1 v' p.length (p.flatMap sCells) ∧ ∀ k, v'.ownBlock = some k → w.heap.size ≤ k := by
  obtain ⟨A, c, rfl, -⟩ := hp.open
  refine enter Tryd.func61 rfl rfl rfl ?_
  have F0 := Fr.start w
  refine Cod.seq fun K1 hK1 => ?_
  refine Cod.region ?_
  refine Ops.step (One.val rfl rfl rfl (yld_assign rfl ev_c) ?_)
  refine Ops.nil fun a hS => ?_
  refine hK1 _ _ ?_ a hS
  refine Cod.seq fun K2 hK2 => ?_
  refine Cod.region ?_
  refine Ops.step (One.val rfl rfl rfl (yld_move rfl (ev_t rfl)) ?_)
  refine Ops.step (One.val rfl rfl rfl (yld_len sl22 rfl (ev_t rfl)) ?_)
  refine Ops.step (One.make (enc := sCells) (sz := 1) ⟨#[]⟩ F0 sl22 zero9 rfl rfl (fun _ => rfl) rfl rfl rfl rfl (ev_t rfl) (ev_t rfl) (by omega) (by omega) ?_)
  intro b1 w1 hb1 F1
  refine Ops.step (One.val rfl rfl rfl (yld_assign rfl (ev_t rfl)) ?_)
  refine Ops.nil fun a hS => ?_
  refine hK2 _ _ ?_ a hS
  refine Cod.seq fun K3 hK3 => ?_
  refine Cod.seq fun K4 hK4 => ?_
  refine Cod.region ?_
  refine Ops.step (One.val rfl rfl rfl (yld_assign rfl ev_c) ?_)
  refine Ops.nil fun a hS => ?_
  refine hK4 _ _ ?_ a hS
  refine Cod.block ?_
  refine Cod.loop (fun i : Nat => [(0, true, .slice A p.length c), (3, true, .slice (some ⟨b1, 0, none⟩) p.length p.length), (4, true, .int .i64 (i : Int))]) (fun i w' => i ≤ p.length ∧ Fr No w [own 9 1 (.slice (some ⟨b1, 0, none⟩) p.length p.length) p.length ((p.take i ++ List.replicate (p.length - i) (⟨#[]⟩ : ByteArray)).flatMap sCells)] w') (fun i => p.length - i) 0 ⟨rfl, rfl, rfl, trivial⟩ ⟨Nat.zero_le _, F1⟩ ?_
  intro i w2 hW K5 hK5
  obtain ⟨hi, F2⟩ := hW
  refine Cod.seq fun K6 hK6 => ?_
  refine Cod.seq fun K7 hK7 => ?_
  refine Cod.region ?_
  refine Ops.step (One.val rfl rfl rfl (yld_move rfl (ev_t rfl)) ?_)
  refine Ops.step (One.val rfl rfl rfl (yld_move rfl (ev_t rfl)) ?_)
  refine Ops.step (One.val rfl rfl rfl (yld_len sl22 rfl (ev_t rfl)) ?_)
  refine Ops.step (One.val rfl rfl rfl (yld_lss rfl (ev_t rfl) (ev_t rfl)) ?_)
  refine Ops.nil fun a hS => ?_
  refine hK7 _ _ ?_ a hS
  refine Cod.cond rfl (fun hc11 => ?_) (fun hc11 => ?_)
  · skip
    have hi : i < p.length := by simpa using hc11
    obtain ⟨b, o, rfl, -, hr⟩ := hp.at i hi
    refine Cod.skip fun a hS => ?_
    refine hK6 _ _ ?_ a hS
    refine Cod.seq fun K8 hK8 => ?_
    refine Cod.block ?_
    refine Cod.region ?_
    refine Ops.step (One.val rfl rfl rfl (yld_move rfl (ev_t rfl)) ?_)
    refine Ops.step (One.val rfl rfl rfl (yld_move rfl (ev_t rfl)) ?_)
    refine Ops.step (One.val rfl rfl rfl (yld_move rfl (ev_t rfl)) ?_)
    refine Ops.step (One.val rfl rfl rfl (yld_move rfl (ev_t rfl)) ?_)
    refine Ops.step (One.val rfl rfl rfl (yld_indexN sl22 rfl (ev_t rfl) (ev_t rfl) (fun _ => by omega)) ?_)
    refine Ops.step (One.val rfl rfl rfl (yld_load1 on9 rfl (ev_t rfl) (fun _ => rangeAt_cell (rng hr F2.chg) (j := 0) rfl)) ?_)
    refine Ops.step (One.val rfl rfl rfl (yld_indexN sl22 rfl (ev_t rfl) (ev_t rfl) (fun _ => by omega)) ?_)
    refine Ops.step (One.storeRow1 (enc := sCells) p[i] (fun _ => rfl) F2 0 rfl (by simp; omega) (by omega) sz9 rfl rfl rfl (ev_t rfl) (ev_t rfl) rfl rfl ?_)
    intro w3 F3
    change Fr _ _ [_] _ at F3
    refine Ops.nil fun a hS => ?_
    refine hK8 _ _ ?_ a hS
    refine Cod.region ?_
    refine Ops.step (One.val rfl rfl rfl (yld_move rfl (ev_t rfl)) ?_)
    refine Ops.step (One.val rfl rfl rfl (yld_inc rfl (ev_t rfl) (fun _ => by omega)) ?_)
    refine Ops.step (One.val rfl rfl rfl (yld_assign rfl (ev_t rfl)) ?_)
    refine Ops.nil fun a hS => ?_
    exact hK5 (i + 1) _ a (hS.sub ⟨rfl, rfl, rfl, trivial⟩) ⟨by omega, by rw [take_set _ _ _ hi] at F3; exact F3⟩ (by omega)
  · skip
    obtain rfl : i = p.length := by simp at hc11; omega
    rw [Nat.sub_self, List.replicate_zero, List.append_nil, List.take_length] at F2
    refine Cod.exit fun a hS => ?_
    simp only [Exit.then, Exit.inBlock, ↓reduceIte]
    refine hK3 _ _ ?_ a hS
    refine Cod.seq fun K9 hK9 => ?_
    refine Cod.region ?_
    refine Ops.step (One.val rfl rfl rfl (yld_move rfl (ev_t rfl)) ?_)
    refine Ops.step (One.val rfl rfl rfl (yld_assign rfl (ev_t rfl)) ?_)
    refine Ops.nil fun a hS => ?_
    refine hK9 _ _ ?_ a hS
    refine Cod.ret fun a hS => ?_
    try simp only [Exit.then, Exit.inBlock]
    exact ret1 (t := 2) rfl hS rfl ⟨_, rfl, F2.chg, F2.get 0 rfl, fun k hk => by simp [Value.ownBlock] at hk; omega⟩

set_option maxRecDepth 100000 in
theorem eqStringS_ct (p q : List ByteArray) (v v' : Value) (w : World) (hp : RepS Any w p v) (hq : RepS Any w q v') :
    Calls Tryd.prog 64 #[v, v'] w fun e w' => e = .returned (.bool (decide (p = q))) ∧ Chg No w w' := by
  obtain ⟨A, c, rfl, hn⟩ := hp.open
  obtain ⟨A', c', rfl, hn'⟩ := hq.open
  refine enter Tryd.func64 rfl rfl rfl ?_
  have F0 := Fr.start w
  refine Cod.seq fun K1 hK1 => ?_
  refine Cod.region ?_
  refine Ops.step (One.val rfl rfl rfl (yld_assign rfl ev_c) ?_)
  refine Ops.nil fun a hS => ?_
  refine hK1 _ _ ?_ a hS
  refine Cod.seq fun K2 hK2 => ?_
  refine Cod.seq fun K3 hK3 => ?_
  refine Cod.region ?_
  refine Ops.step (One.val rfl rfl rfl (yld_move rfl (ev_t rfl)) ?_)
  refine Ops.step (One.val rfl rfl rfl (yld_len sl22 rfl (ev_t rfl)) ?_)
  refine Ops.step (One.val rfl rfl rfl (yld_move rfl (ev_t rfl)) ?_)
  refine Ops.step (One.val rfl rfl rfl (yld_len sl22 rfl (ev_t rfl)) ?_)
  refine Ops.step (One.val rfl rfl rfl (yld_neq rfl (ev_t rfl) (ev_t rfl)) ?_)
  refine Ops.nil fun a hS => ?_
  refine hK3 _ _ ?_ a hS
  refine Cod.cond rfl (fun hc10 => ?_) (fun hc10 => ?_)
  · skip
    have hne : p ≠ q := by rintro rfl; simp at hc10
    refine Cod.seq fun K4 hK4 => ?_
    refine Cod.region ?_
    refine Ops.step (One.val rfl rfl rfl (yld_assign rfl ev_c) ?_)
    refine Ops.nil fun a hS => ?_
    refine hK4 _ _ ?_ a hS
    refine Cod.ret fun a hS => ?_
    try simp only [Exit.then, Exit.inBlock]
    exact ret1 (t := 4) rfl hS rfl ⟨by rw [decide_eq_false hne], F0.chg⟩
  · skip
    have hlen : p.length = q.length := by simp at hc10; omega
    refine Cod.skip fun a hS => ?_
    refine hK2 _ _ ?_ a hS
    refine Cod.seq fun K5 hK5 => ?_
    refine Cod.seq fun K6 hK6 => ?_
    refine Cod.region ?_
    refine Ops.step (One.val rfl rfl rfl (yld_assign rfl ev_c) ?_)
    refine Ops.nil fun a hS => ?_
    refine hK6 _ _ ?_ a hS
    refine Cod.block ?_
    refine Cod.loop (fun i : Nat => [(0, true, .slice A p.length c), (1, true, .slice A' q.length c'), (5, true, .int .i64 (i : Int))]) (fun i w' => i ≤ p.length ∧ (∀ j (h1 : j < p.length) (h2 : j < q.length), j < i → p[j] = q[j]) ∧ Fr No w [] w') (fun i => p.length - i) 0 ⟨rfl, rfl, rfl, trivial⟩ ⟨Nat.zero_le _, fun j _ _ h => by omega, F0⟩ ?_
    intro i w1 hW K7 hK7
    obtain ⟨hi, hall, F1⟩ := hW
    refine Cod.seq fun K8 hK8 => ?_
    refine Cod.seq fun K9 hK9 => ?_
    refine Cod.region ?_
    refine Ops.step (One.val rfl rfl rfl (yld_move rfl (ev_t rfl)) ?_)
    refine Ops.step (One.val rfl rfl rfl (yld_move rfl (ev_t rfl)) ?_)
    refine Ops.step (One.val rfl rfl rfl (yld_len sl22 rfl (ev_t rfl)) ?_)
    refine Ops.step (One.val rfl rfl rfl (yld_lss rfl (ev_t rfl) (ev_t rfl)) ?_)
    refine Ops.nil fun a hS => ?_
    refine hK9 _ _ ?_ a hS
    refine Cod.cond rfl (fun hc14 => ?_) (fun hc14 => ?_)
    · skip
      have hi : i < p.length := by simpa using hc14
      have hi2 : i < q.length := by omega
      obtain ⟨b, o, rfl, -, hr⟩ := hp.at i hi
      obtain ⟨b2, o2, rfl, -, hr2⟩ := hq.at i hi2
      refine Cod.skip fun a hS => ?_
      refine hK8 _ _ ?_ a hS
      refine Cod.seq fun K10 hK10 => ?_
      refine Cod.block ?_
      refine Cod.seq fun K11 hK11 => ?_
      have F2 := F1.drew
      refine Cod.draw (C_of F2) (by kernel_rfl) ?_
      refine Hops.take 0 rfl (by kernel_rfl) (fun _ _ _ h => h) rfl rfl rfl F2 (fun w F => (yld_move rfl (ev_t rfl))) ?_
      refine Hops.take 1 rfl (by kernel_rfl) (fun _ _ _ h => h) rfl rfl rfl F2 (fun w F => (yld_move rfl (ev_t rfl))) ?_
      refine Hops.take 2 rfl (by kernel_rfl) (fun _ _ _ h => h) rfl rfl rfl F2 (fun w F => (yld_indexN sl22 rfl (ev_t rfl) (ev_t rfl) (fun _ => by omega))) ?_
      refine Hops.take 3 rfl (by kernel_rfl) (fun _ _ _ h => h) rfl rfl rfl F2 (fun w F => (yld_load1 on9 rfl (ev_t rfl) (fun _ => rangeAt_cell (rng hr F.chg) (j := 0) rfl))) ?_
      refine Hops.take 4 rfl (by kernel_rfl) (fun _ _ _ h => h) rfl rfl rfl F2 (fun w F => (yld_move rfl (ev_t rfl))) ?_
      refine Hops.take 5 rfl (by kernel_rfl) (fun _ _ _ h => h) rfl rfl rfl F2 (fun w F => (yld_move rfl (ev_t rfl))) ?_
      refine Hops.take 6 rfl (by kernel_rfl) (fun _ _ _ h => h) rfl rfl rfl F2 (fun w F => (yld_indexN sl22 rfl (ev_t rfl) (ev_t rfl) (fun _ => by omega))) ?_
      refine Hops.take 7 rfl (by kernel_rfl) (fun _ _ _ h => h) rfl rfl rfl F2 (fun w F => (yld_load1 on9 rfl (ev_t rfl) (fun _ => rangeAt_cell (rng hr2 F.chg) (j := 0) rfl))) ?_
      refine Hops.take 8 rfl (by kernel_rfl) (fun _ _ _ h => h) rfl rfl rfl F2 (fun w F => (yld_sneq rfl (ev_t rfl) (ev_t rfl))) ?_
      refine Hops.nil (by kernel_rfl) fun a hS => ?_
      refine hK11 _ _ ?_ a hS
      refine Cod.cond rfl (fun hc25 => ?_) (fun hc25 => ?_)
      · skip
        have hne : p ≠ q := by rintro rfl; simp at hc25
        refine Cod.seq fun K12 hK12 => ?_
        refine Cod.region ?_
        refine Ops.step (One.val rfl rfl rfl (yld_assign rfl ev_c) ?_)
        refine Ops.nil fun a hS => ?_
        refine hK12 _ _ ?_ a hS
        refine Cod.ret fun a hS => ?_
        try simp only [Exit.then, Exit.inBlock]
        exact ret1 (t := 4) rfl hS rfl ⟨by rw [decide_eq_false hne], F2.chg⟩
      · skip
        have hsame : p[i] = q[i] := by simpa using hc25
        refine Cod.skip fun a hS => ?_
        refine hK10 _ _ ?_ a hS
        refine Cod.region ?_
        refine Ops.step (One.val rfl rfl rfl (yld_move rfl (ev_t rfl)) ?_)
        refine Ops.step (One.val rfl rfl rfl (yld_inc rfl (ev_t rfl) (fun _ => by omega)) ?_)
        refine Ops.step (One.val rfl rfl rfl (yld_assign rfl (ev_t rfl)) ?_)
        refine Ops.nil fun a hS => ?_
        exact hK7 (i + 1) _ a (hS.sub ⟨rfl, rfl, rfl, trivial⟩) ⟨by omega, fun j h1 h2 hji => if h : j = i then (by subst h; exact hsame) else hall j h1 h2 (by omega), F2⟩ (by omega)
    · skip
      have heq : p = q := list_eq_of hlen fun j h1 h2 => hall j h1 h2 (by simp at hc14; omega)
      refine Cod.exit fun a hS => ?_
      simp only [Exit.then, Exit.inBlock, ↓reduceIte]
      refine hK5 _ _ ?_ a hS
      refine Cod.seq fun K13 hK13 => ?_
      refine Cod.region ?_
      refine Ops.step (One.val rfl rfl rfl (yld_assign rfl ev_c) ?_)
      refine Ops.nil fun a hS => ?_
      refine hK13 _ _ ?_ a hS
      refine Cod.ret fun a hS => ?_
      try simp only [Exit.then, Exit.inBlock]
      exact ret1 (t := 4) rfl hS rfl ⟨by rw [decide_eq_true heq], F1.chg⟩


/-- What eqVal says of one tree. -/
def EqOk (t : Tr) : Prop := ∀ (t' : Tr) (v v' : Value) (w : World), Rep Any w t v → Rep Any w t' v' →
    Calls Tryd.prog 30 #[v, v'] w fun e w' => e = .returned (.bool (decide (t = t'))) ∧ Chg No w w'

set_option maxRecDepth 100000 in
theorem eqValS_of (p q : List Tr) (H : ∀ t ∈ p, EqOk t) (v v' : Value) (w : World) (hp : RepL Any w p v) (hq : RepL Any w q v') :
    Calls Tryd.prog 65 #[v, v'] w fun e w' => e = .returned (.bool (decide (p = q))) ∧ Chg No w w' := by
  obtain ⟨A, c, rfl, hn⟩ := hp.open
  obtain ⟨A', c', rfl, hn'⟩ := hq.open
  refine enter Tryd.func65 rfl rfl rfl ?_
  have F0 := Fr.start w
  refine Cod.seq fun K1 hK1 => ?_
  refine Cod.region ?_
  refine Ops.step (One.val rfl rfl rfl (yld_assign rfl ev_c) ?_)
  refine Ops.nil fun a hS => ?_
  refine hK1 _ _ ?_ a hS
  refine Cod.seq fun K2 hK2 => ?_
  refine Cod.seq fun K3 hK3 => ?_
  refine Cod.region ?_
  refine Ops.step (One.val rfl rfl rfl (yld_move rfl (ev_t rfl)) ?_)
  refine Ops.step (One.val rfl rfl rfl (yld_len sl31 rfl (ev_t rfl)) ?_)
  refine Ops.step (One.val rfl rfl rfl (yld_move rfl (ev_t rfl)) ?_)
  refine Ops.step (One.val rfl rfl rfl (yld_len sl31 rfl (ev_t rfl)) ?_)
  refine Ops.step (One.val rfl rfl rfl (yld_neq rfl (ev_t rfl) (ev_t rfl)) ?_)
  refine Ops.nil fun a hS => ?_
  refine hK3 _ _ ?_ a hS
  refine Cod.cond rfl (fun hc10 => ?_) (fun hc10 => ?_)
  · skip
    have hne : p ≠ q := by rintro rfl; simp at hc10
    refine Cod.seq fun K4 hK4 => ?_
    refine Cod.region ?_
    refine Ops.step (One.val rfl rfl rfl (yld_assign rfl ev_c) ?_)
    refine Ops.nil fun a hS => ?_
    refine hK4 _ _ ?_ a hS
    refine Cod.ret fun a hS => ?_
    try simp only [Exit.then, Exit.inBlock]
    exact ret1 (t := 4) rfl hS rfl ⟨by rw [decide_eq_false hne], F0.chg⟩
  · skip
    have hlen : p.length = q.length := by simp at hc10; omega
    refine Cod.skip fun a hS => ?_
    refine hK2 _ _ ?_ a hS
    refine Cod.seq fun K5 hK5 => ?_
    refine Cod.seq fun K6 hK6 => ?_
    refine Cod.region ?_
    refine Ops.step (One.val rfl rfl rfl (yld_assign rfl ev_c) ?_)
    refine Ops.nil fun a hS => ?_
    refine hK6 _ _ ?_ a hS
    refine Cod.block ?_
    refine Cod.loop (fun i : Nat => [(0, true, .slice A p.length c), (1, true, .slice A' q.length c'), (5, true, .int .i64 (i : Int))]) (fun i w' => i ≤ p.length ∧ (∀ j (h1 : j < p.length) (h2 : j < q.length), j < i → p[j] = q[j]) ∧ Fr No w [] w') (fun i => p.length - i) 0 ⟨rfl, rfl, rfl, trivial⟩ ⟨Nat.zero_le _, fun j _ _ h => by omega, F0⟩ ?_
    intro i w1 hW K7 hK7
    obtain ⟨hi, hall, F1⟩ := hW
    refine Cod.seq fun K8 hK8 => ?_
    refine Cod.seq fun K9 hK9 => ?_
    refine Cod.region ?_
    refine Ops.step (One.val rfl rfl rfl (yld_move rfl (ev_t rfl)) ?_)
    refine Ops.step (One.val rfl rfl rfl (yld_move rfl (ev_t rfl)) ?_)
    refine Ops.step (One.val rfl rfl rfl (yld_len sl31 rfl (ev_t rfl)) ?_)
    refine Ops.step (One.val rfl rfl rfl (yld_lss rfl (ev_t rfl) (ev_t rfl)) ?_)
    refine Ops.nil fun a hS => ?_
    refine hK9 _ _ ?_ a hS
    refine Cod.cond rfl (fun hc14 => ?_) (fun hc14 => ?_)
    · skip
      have hi : i < p.length := by simpa using hc14
      have hi2 : i < q.length := by omega
      obtain ⟨b, o, cs, rfl, -, hlc, hr, ht⟩ := hp.at i hi
      obtain ⟨b2, o2, cs2, rfl, -, hlc2, hr2, ht2⟩ := hq.at i hi2
      refine Cod.skip fun a hS => ?_
      refine hK8 _ _ ?_ a hS
      refine Cod.seq fun K10 hK10 => ?_
      refine Cod.block ?_
      refine Cod.seq fun K11 hK11 => ?_
      have F2 := F1.drew
      refine Cod.draw (C_of F2) (by kernel_rfl) ?_
      refine Hops.take 0 rfl (by kernel_rfl) (fun _ _ _ h => h) rfl rfl rfl F2 (fun w F => (yld_move rfl (ev_t rfl))) ?_
      refine Hops.take 1 rfl (by kernel_rfl) (fun _ _ _ h => h) rfl rfl rfl F2 (fun w F => (yld_move rfl (ev_t rfl))) ?_
      refine Hops.take 2 rfl (by kernel_rfl) (fun _ _ _ h => h) rfl rfl rfl F2 (fun w F => (yld_indexN sl31 rfl (ev_t rfl) (ev_t rfl) (fun _ => by omega))) ?_
      refine Hops.take 3 rfl (by kernel_rfl) (fun _ _ _ h => h) rfl rfl rfl F2 (fun w F => (yld_loadN ag33 rfl (ev_t rfl) (fun _ => rng hr F.chg) hlc)) ?_
      refine Hops.take 4 rfl (by kernel_rfl) (fun _ _ _ h => h) rfl rfl rfl F2 (fun w F => (yld_move rfl (ev_t rfl))) ?_
      refine Hops.take 5 rfl (by kernel_rfl) (fun _ _ _ h => h) rfl rfl rfl F2 (fun w F => (yld_move rfl (ev_t rfl))) ?_
      refine Hops.take 6 rfl (by kernel_rfl) (fun _ _ _ h => h) rfl rfl rfl F2 (fun w F => (yld_indexN sl31 rfl (ev_t rfl) (ev_t rfl) (fun _ => by omega))) ?_
      refine Hops.take 7 rfl (by kernel_rfl) (fun _ _ _ h => h) rfl rfl rfl F2 (fun w F => (yld_loadN ag33 rfl (ev_t rfl) (fun _ => rng hr2 F.chg) hlc2)) ?_
      refine Hops.one 8 rfl (by kernel_rfl) (One.call rfl rfl rfl (ent_f rfl (evl2 (ev_t rfl) (ev_t rfl)) (enters en30)) (H _ (List.getElem_mem hi) q[i] _ _ _ (ht.chg F2.chg) (ht2.chg F2.chg)) (fun e w2 hw2 => ?_))
      obtain ⟨rfl, C2⟩ := hw2
      have F3 := F2.call C2
      refine ⟨_, rfl, ?_⟩
      refine ⟨F3, ?_⟩
      refine Hops.take 9 rfl (by kernel_rfl) (fun _ _ _ h => h) rfl rfl rfl F3 (fun w F => (yld_not rfl (ev_t rfl))) ?_
      refine Hops.nil (by kernel_rfl) fun a hS => ?_
      refine hK11 _ _ ?_ a hS
      refine Cod.cond rfl (fun hc26 => ?_) (fun hc26 => ?_)
      · skip
        have hne : p ≠ q := by rintro rfl; simp at hc26
        refine Cod.seq fun K12 hK12 => ?_
        refine Cod.region ?_
        refine Ops.step (One.val rfl rfl rfl (yld_assign rfl ev_c) ?_)
        refine Ops.nil fun a hS => ?_
        refine hK12 _ _ ?_ a hS
        refine Cod.ret fun a hS => ?_
        try simp only [Exit.then, Exit.inBlock]
        exact ret1 (t := 4) rfl hS rfl ⟨by rw [decide_eq_false hne], F3.chg⟩
      · skip
        have hsame : p[i] = q[i] := by simpa using hc26
        refine Cod.skip fun a hS => ?_
        refine hK10 _ _ ?_ a hS
        refine Cod.region ?_
        refine Ops.step (One.val rfl rfl rfl (yld_move rfl (ev_t rfl)) ?_)
        refine Ops.step (One.val rfl rfl rfl (yld_inc rfl (ev_t rfl) (fun _ => by omega)) ?_)
        refine Ops.step (One.val rfl rfl rfl (yld_assign rfl (ev_t rfl)) ?_)
        refine Ops.nil fun a hS => ?_
        exact hK7 (i + 1) _ a (hS.sub ⟨rfl, rfl, rfl, trivial⟩) ⟨by omega, fun j h1 h2 hji => if h : j = i then (by subst h; exact hsame) else hall j h1 h2 (by omega), F3⟩ (by omega)
    · skip
      have heq : p = q := list_eq_of hlen fun j h1 h2 => hall j h1 h2 (by simp at hc14; omega)
      refine Cod.exit fun a hS => ?_
      simp only [Exit.then, Exit.inBlock, ↓reduceIte]
      refine hK5 _ _ ?_ a hS
      refine Cod.seq fun K13 hK13 => ?_
      refine Cod.region ?_
      refine Ops.step (One.val rfl rfl rfl (yld_assign rfl ev_c) ?_)
      refine Ops.nil fun a hS => ?_
      refine hK13 _ _ ?_ a hS
      refine Cod.ret fun a hS => ?_
      try simp only [Exit.then, Exit.inBlock]
      exact ret1 (t := 4) rfl hS rfl ⟨by rw [decide_eq_true heq], F1.chg⟩

set_option maxRecDepth 100000 in
theorem eqVal_of (k n : Int) (s : ByteArray) (ks : List ByteArray) (l : List Tr) (H : ∀ t ∈ l, EqOk t) : EqOk (.mk k n s ks l) := by
  intro t' v v' w hr hr'
  obtain ⟨v3, v4, rfl, h3, h4⟩ := hr.open
  obtain ⟨k', n', s', ks', l'⟩ := t'
  obtain ⟨v3', v4', rfl, h3', h4'⟩ := hr'.open
  refine enter Tryd.func30 rfl rfl rfl ?_
  have F0 := Fr.start w
  refine Cod.seq fun K1 hK1 => ?_
  refine Cod.region ?_
  refine Ops.step (One.box F0 rfl rfl rfl rfl (ev_t rfl) ?_)
  intro b1 w1 hb1 F1
  change Fr _ _ [blk _ _ [_, _, _, _, _]] _ at F1
  refine Ops.step (One.box F1 rfl rfl rfl rfl (ev_t rfl) ?_)
  intro b2 w2 hb2 F2
  change Fr _ _ [blk _ _ [_, _, _, _, _], blk _ _ [_, _, _, _, _]] _ at F2
  refine Ops.step (One.val rfl rfl rfl (yld_assign rfl ev_c) ?_)
  refine Ops.nil fun a hS => ?_
  refine hK1 _ _ ?_ a hS
  refine Cod.seq fun K2 hK2 => ?_
  refine Cod.seq fun K3 hK3 => ?_
  refine Cod.region ?_
  refine Ops.step (One.val rfl rfl rfl (yld_field fi33_0 rfl (ev_t rfl)) ?_)
  refine Ops.step (One.val rfl rfl rfl (yld_load1 on3 rfl (ev_t rfl) (fun _ => F2.cell 1 rfl rfl)) ?_)
  refine Ops.step (One.val rfl rfl rfl (yld_field fi33_0 rfl (ev_t rfl)) ?_)
  refine Ops.step (One.val rfl rfl rfl (yld_load1 on3 rfl (ev_t rfl) (fun _ => F2.cell 0 rfl rfl)) ?_)
  refine Ops.step (One.val rfl rfl rfl (yld_neq rfl (ev_t rfl) (ev_t rfl)) ?_)
  refine Ops.nil fun a hS => ?_
  refine hK3 _ _ ?_ a hS
  refine Cod.cond rfl (fun hc9 => ?_) (fun hc9 => ?_)
  · skip
    refine Cod.seq fun K4 hK4 => ?_
    refine Cod.region ?_
    refine Ops.step (One.val rfl rfl rfl (yld_assign rfl ev_c) ?_)
    refine Ops.nil fun a hS => ?_
    refine hK4 _ _ ?_ a hS
    refine Cod.ret fun a hS => ?_
    try simp only [Exit.then, Exit.inBlock]
    exact ret1 (t := 4) rfl hS rfl ⟨by simp_all, F2.chg⟩
  · skip
    refine Cod.skip fun a hS => ?_
    refine hK2 _ _ ?_ a hS
    refine Cod.seq fun K5 hK5 => ?_
    refine Cod.seq fun K6 hK6 => ?_
    refine Cod.region ?_
    refine Ops.step (One.val rfl rfl rfl (yld_field fi33_1 rfl (ev_t rfl)) ?_)
    refine Ops.step (One.val rfl rfl rfl (yld_load1 on3 rfl (ev_t rfl) (fun _ => F2.cell 1 rfl rfl)) ?_)
    refine Ops.step (One.val rfl rfl rfl (yld_field fi33_1 rfl (ev_t rfl)) ?_)
    refine Ops.step (One.val rfl rfl rfl (yld_load1 on3 rfl (ev_t rfl) (fun _ => F2.cell 0 rfl rfl)) ?_)
    refine Ops.step (One.val rfl rfl rfl (yld_neq rfl (ev_t rfl) (ev_t rfl)) ?_)
    refine Ops.nil fun a hS => ?_
    refine hK6 _ _ ?_ a hS
    refine Cod.cond rfl (fun hc14 => ?_) (fun hc14 => ?_)
    · skip
      refine Cod.seq fun K7 hK7 => ?_
      refine Cod.region ?_
      refine Ops.step (One.val rfl rfl rfl (yld_assign rfl ev_c) ?_)
      refine Ops.nil fun a hS => ?_
      refine hK7 _ _ ?_ a hS
      refine Cod.ret fun a hS => ?_
      try simp only [Exit.then, Exit.inBlock]
      exact ret1 (t := 4) rfl hS rfl ⟨by simp_all, F2.chg⟩
    · skip
      refine Cod.skip fun a hS => ?_
      refine hK5 _ _ ?_ a hS
      refine Cod.seq fun K8 hK8 => ?_
      refine Cod.seq fun K9 hK9 => ?_
      refine Cod.region ?_
      refine Ops.step (One.val rfl rfl rfl (yld_field fi33_2 rfl (ev_t rfl)) ?_)
      refine Ops.step (One.val rfl rfl rfl (yld_load1 on9 rfl (ev_t rfl) (fun _ => F2.cell 1 rfl rfl)) ?_)
      refine Ops.step (One.val rfl rfl rfl (yld_field fi33_2 rfl (ev_t rfl)) ?_)
      refine Ops.step (One.val rfl rfl rfl (yld_load1 on9 rfl (ev_t rfl) (fun _ => F2.cell 0 rfl rfl)) ?_)
      refine Ops.step (One.val rfl rfl rfl (yld_sneq rfl (ev_t rfl) (ev_t rfl)) ?_)
      refine Ops.nil fun a hS => ?_
      refine hK9 _ _ ?_ a hS
      refine Cod.cond rfl (fun hc19 => ?_) (fun hc19 => ?_)
      · skip
        refine Cod.seq fun K10 hK10 => ?_
        refine Cod.region ?_
        refine Ops.step (One.val rfl rfl rfl (yld_assign rfl ev_c) ?_)
        refine Ops.nil fun a hS => ?_
        refine hK10 _ _ ?_ a hS
        refine Cod.ret fun a hS => ?_
        try simp only [Exit.then, Exit.inBlock]
        exact ret1 (t := 4) rfl hS rfl ⟨by simp_all, F2.chg⟩
      · skip
        refine Cod.skip fun a hS => ?_
        refine hK8 _ _ ?_ a hS
        refine Cod.seq fun K11 hK11 => ?_
        refine Cod.seq fun K12 hK12 => ?_
        refine Cod.region ?_
        refine Ops.step (One.val rfl rfl rfl (yld_field fi33_3 rfl (ev_t rfl)) ?_)
        refine Ops.step (One.val rfl rfl rfl (yld_load1 on22 rfl (ev_t rfl) (fun _ => F2.cell 1 rfl rfl)) ?_)
        refine Ops.step (One.val rfl rfl rfl (yld_field fi33_3 rfl (ev_t rfl)) ?_)
        refine Ops.step (One.val rfl rfl rfl (yld_load1 on22 rfl (ev_t rfl) (fun _ => F2.cell 0 rfl rfl)) ?_)
        refine Ops.step (One.call rfl rfl rfl (ent_f rfl (evl2 (ev_t rfl) (ev_t rfl)) (enters en64)) (eqStringS_ct _ _ _ _ _ (h3.chg F2.chg) (h3'.chg F2.chg)) (fun e w3 hw3 => ?_))
        obtain ⟨rfl, C3⟩ := hw3
        have F3 := F2.call C3
        refine ⟨_, rfl, ?_⟩
        refine Ops.step (One.val rfl rfl rfl (yld_not rfl (ev_t rfl)) ?_)
        refine Ops.nil fun a hS => ?_
        refine hK12 _ _ ?_ a hS
        refine Cod.cond rfl (fun hc25 => ?_) (fun hc25 => ?_)
        · skip
          refine Cod.seq fun K13 hK13 => ?_
          refine Cod.region ?_
          refine Ops.step (One.val rfl rfl rfl (yld_assign rfl ev_c) ?_)
          refine Ops.nil fun a hS => ?_
          refine hK13 _ _ ?_ a hS
          refine Cod.ret fun a hS => ?_
          try simp only [Exit.then, Exit.inBlock]
          exact ret1 (t := 4) rfl hS rfl ⟨by simp_all, F3.chg⟩
        · skip
          refine Cod.skip fun a hS => ?_
          refine hK11 _ _ ?_ a hS
          refine Cod.seq fun K14 hK14 => ?_
          refine Cod.seq fun K15 hK15 => ?_
          refine Cod.region ?_
          refine Ops.step (One.val rfl rfl rfl (yld_field fi33_4 rfl (ev_t rfl)) ?_)
          refine Ops.step (One.val rfl rfl rfl (yld_load1 on31 rfl (ev_t rfl) (fun _ => F3.cell 1 rfl rfl)) ?_)
          refine Ops.step (One.val rfl rfl rfl (yld_field fi33_4 rfl (ev_t rfl)) ?_)
          refine Ops.step (One.val rfl rfl rfl (yld_load1 on31 rfl (ev_t rfl) (fun _ => F3.cell 0 rfl rfl)) ?_)
          refine Ops.step (One.call rfl rfl rfl (ent_f rfl (evl2 (ev_t rfl) (ev_t rfl)) (enters en65)) (eqValS_of _ _ H _ _ _ (h4.chg F3.chg) (h4'.chg F3.chg)) (fun e w4 hw4 => ?_))
          obtain ⟨rfl, C4⟩ := hw4
          have F4 := F3.call C4
          refine ⟨_, rfl, ?_⟩
          refine Ops.step (One.val rfl rfl rfl (yld_not rfl (ev_t rfl)) ?_)
          refine Ops.nil fun a hS => ?_
          refine hK15 _ _ ?_ a hS
          refine Cod.cond rfl (fun hc31 => ?_) (fun hc31 => ?_)
          · skip
            refine Cod.seq fun K16 hK16 => ?_
            refine Cod.region ?_
            refine Ops.step (One.val rfl rfl rfl (yld_assign rfl ev_c) ?_)
            refine Ops.nil fun a hS => ?_
            refine hK16 _ _ ?_ a hS
            refine Cod.ret fun a hS => ?_
            try simp only [Exit.then, Exit.inBlock]
            exact ret1 (t := 4) rfl hS rfl ⟨by simp_all, F4.chg⟩
          · skip
            refine Cod.skip fun a hS => ?_
            refine hK14 _ _ ?_ a hS
            refine Cod.seq fun K17 hK17 => ?_
            refine Cod.region ?_
            refine Ops.step (One.val rfl rfl rfl (yld_assign rfl ev_c) ?_)
            refine Ops.nil fun a hS => ?_
            refine hK17 _ _ ?_ a hS
            refine Cod.ret fun a hS => ?_
            try simp only [Exit.then, Exit.inBlock]
            exact ret1 (t := 4) rfl hS rfl ⟨by simp_all, F4.chg⟩


theorem eqVal_ct (t : Tr) : EqOk t := Tr.ind (p := EqOk) eqVal_of t
theorem eqValS_ct (p q : List Tr) (v v' : Value) (w : World) (hp : RepL Any w p v) (hq : RepL Any w q v') :
    Calls Tryd.prog 65 #[v, v'] w fun e w' => e = .returned (.bool (decide (p = q))) ∧ Chg No w w' := eqValS_of p q (fun t _ => eqVal_ct t) v v' w hp hq
/-- What toVal says of one tree. -/
def ToOk (t : Tr) : Prop := ∀ (v : Value) (w : World), Rep Any w t v → t.wt ≤ 1048576 →
    Calls Tryd.prog 28 #[v] w fun e w' => ∃ (x : V5) (F : Nat → Prop), e = .returned x.val ∧ Chg No w w' ∧ Sep w' F t x.val ∧ ∀ k, F k → w.heap.size ≤ k

set_option maxRecDepth 100000 in
theorem toValS_of (p : List Tr) (H : ∀ t ∈ p, ToOk t) (v : Value) (w : World) (hp : RepL Any w p v) (hn : p.length + sumN Tr.wt p ≤ 1048576) :
    Calls Tryd.prog 62 #[v] w fun e w' => ∃ v' F, e = .returned v' ∧ Chg No w w' ∧ SepL w' F p v' ∧ ∀ k, F k → w.heap.size ≤ k := by
  obtain ⟨A, c, rfl, -⟩ := hp.open
  refine enter Tryd.func62 rfl rfl rfl ?_
  have F0 := Fr.start w
  refine Cod.seq fun K1 hK1 => ?_
  refine Cod.region ?_
  refine Ops.step (One.val rfl rfl rfl (yld_assign rfl ev_c) ?_)
  refine Ops.nil fun a hS => ?_
  refine hK1 _ _ ?_ a hS
  refine Cod.seq fun K2 hK2 => ?_
  refine Cod.region ?_
  refine Ops.step (One.val rfl rfl rfl (yld_move rfl (ev_t rfl)) ?_)
  refine Ops.step (One.val rfl rfl rfl (yld_len sl23 rfl (ev_t rfl)) ?_)
  refine Ops.step (One.make (enc := enc5) (sz := 5) z5 F0 sl31 zero33 rfl rfl (fun _ => rfl) rfl rfl rfl rfl (ev_t rfl) (ev_t rfl) (by omega) (by omega) ?_)
  intro b1 w1 hb1 F1
  refine Ops.step (One.val rfl rfl rfl (yld_assign rfl (ev_t rfl)) ?_)
  refine Ops.nil fun a hS => ?_
  refine hK2 _ _ ?_ a hS
  refine Cod.seq fun K3 hK3 => ?_
  refine Cod.seq fun K4 hK4 => ?_
  refine Cod.region ?_
  refine Ops.step (One.val rfl rfl rfl (yld_assign rfl ev_c) ?_)
  refine Ops.nil fun a hS => ?_
  refine hK4 _ _ ?_ a hS
  refine Cod.block ?_
  refine Cod.loop (fun i : Nat × List V5 × (Nat → Prop) => [(0, true, .slice A p.length c), (3, true, .slice (some ⟨b1, 0, none⟩) p.length p.length), (4, true, .int .i64 (i.1 : Int))]) (fun i w' => i.1 ≤ p.length ∧ i.2.1.length = p.length ∧ (∀ k, i.2.2 k → w.heap.size ≤ k) ∧ Fr No w [own 33 5 (.slice (some ⟨b1, 0, none⟩) p.length p.length) p.length (i.2.1.flatMap enc5), kids i.2.2 (p.take i.1) i.2.1] w') (fun i => p.length - i.1) (0, List.replicate p.length z5, No) ⟨rfl, rfl, rfl, trivial⟩ ⟨Nat.zero_le _, by simp, fun k h => h.elim, F1.tell _ ⟨F1.get 0 rfl, fun k _ q hq h => by simp at hq; subst hq; exact h, Kd.nil _ _, fun k h => h.elim, trivial⟩ fun r hr k hk => by
    rcases List.mem_cons.1 hr with rfl | hr
    · exact ⟨_, List.mem_cons_self .., hk⟩
    · simp at hr; subst hr; exact hk.elim⟩ ?_
  intro i w2 hW K5 hK5
  obtain ⟨i, xs, G⟩ := i
  obtain ⟨hi, hxl, hG, F2⟩ := hW
  dsimp only at *
  refine Cod.seq fun K6 hK6 => ?_
  refine Cod.seq fun K7 hK7 => ?_
  refine Cod.region ?_
  refine Ops.step (One.val rfl rfl rfl (yld_move rfl (ev_t rfl)) ?_)
  refine Ops.step (One.val rfl rfl rfl (yld_move rfl (ev_t rfl)) ?_)
  refine Ops.step (One.val rfl rfl rfl (yld_len sl23 rfl (ev_t rfl)) ?_)
  refine Ops.step (One.val rfl rfl rfl (yld_lss rfl (ev_t rfl) (ev_t rfl)) ?_)
  refine Ops.nil fun a hS => ?_
  refine hK7 _ _ ?_ a hS
  refine Cod.cond rfl (fun hc11 => ?_) (fun hc11 => ?_)
  · skip
    have hi : i < p.length := by simpa using hc11
    obtain ⟨b, o, cs, rfl, -, hlc, hr, ht⟩ := hp.at i hi
    have hwi := sumN_mem Tr.wt (List.getElem_mem hi)
    refine Cod.skip fun a hS => ?_
    refine hK6 _ _ ?_ a hS
    refine Cod.seq fun K8 hK8 => ?_
    refine Cod.block ?_
    refine Cod.region ?_
    refine Ops.step (One.val rfl rfl rfl (yld_move rfl (ev_t rfl)) ?_)
    refine Ops.step (One.val rfl rfl rfl (yld_move rfl (ev_t rfl)) ?_)
    refine Ops.step (One.val rfl rfl rfl (yld_move rfl (ev_t rfl)) ?_)
    refine Ops.step (One.val rfl rfl rfl (yld_move rfl (ev_t rfl)) ?_)
    refine Ops.step (One.val rfl rfl rfl (yld_indexN sl23 rfl (ev_t rfl) (ev_t rfl) (fun _ => by omega)) ?_)
    refine Ops.step (One.val rfl rfl rfl (yld_loadN ag25 rfl (ev_t rfl) (fun _ => rng hr F2.chg) hlc) ?_)
    refine Ops.step (One.call rfl rfl rfl (ent_f rfl (evl1 (ev_t rfl)) (enters en28)) (H _ (List.getElem_mem hi) _ _ (ht.chg F2.chg) (by omega)) (fun e w3 hw3 => ?_))
    obtain ⟨x, Fc, rfl, C3, hsep, hFc0⟩ := hw3
    have hFc : ∀ k, Fc k → w.heap.size ≤ k := fun k hk => Nat.le_trans F2.chg.size (hFc0 k hk)
    have F3 := F2.new C3 (sep Fc p[i] x.val) hsep hFc0
    refine ⟨_, rfl, ?_⟩
    refine Ops.step (One.val rfl rfl rfl (yld_indexN sl31 rfl (ev_t rfl) (ev_t rfl) (fun _ => by omega)) ?_)
    refine Ops.step (One.storeRow (enc := enc5) x (fun _ => rfl) F3 1 rfl hxl (by omega) sz33 rfl rfl rfl rfl (ev_t rfl) (ev_t rfl) hsep.one ?_)
    intro w4 F4
    change Fr _ _ [_, _, _] _ at F4
    refine Ops.nil fun a hS => ?_
    refine hK8 _ _ ?_ a hS
    refine Cod.region ?_
    refine Ops.step (One.val rfl rfl rfl (yld_move rfl (ev_t rfl)) ?_)
    refine Ops.step (One.val rfl rfl rfl (yld_inc rfl (ev_t rfl) (fun _ => by omega)) ?_)
    refine Ops.step (One.val rfl rfl rfl (yld_assign rfl (ev_t rfl)) ?_)
    refine Ops.nil fun a hS => ?_
    have hx1 : (p.take i).length = i := by simp; omega
    have hF := F4.toKid (xs' := xs.set i x) (by rw [hx1]; exact set_get_self (by omega)) (fun j hj => set_get_ne (by omega))
    rw [show p.take i ++ [p[i]] = p.take (i + 1) from (List.take_succ_eq_append_getElem hi).symm] at hF
    exact hK5 (i + 1, xs.set i x, fun b => G b ∨ Fc b) _ a (hS.sub ⟨rfl, rfl, rfl, trivial⟩) ⟨by show i + 1 ≤ _; omega, by simp [hxl], fun k hk => hk.elim (hG k) (hFc k), hF⟩ (by show p.length - (i + 1) < p.length - i; omega)
  · skip
    obtain rfl : i = p.length := by simp at hc11; omega
    rw [List.take_length] at F2
    refine Cod.exit fun a hS => ?_
    simp only [Exit.then, Exit.inBlock, ↓reduceIte]
    refine hK3 _ _ ?_ a hS
    refine Cod.seq fun K9 hK9 => ?_
    refine Cod.region ?_
    refine Ops.step (One.val rfl rfl rfl (yld_move rfl (ev_t rfl)) ?_)
    refine Ops.step (One.val rfl rfl rfl (yld_assign rfl (ev_t rfl)) ?_)
    refine Ops.nil fun a hS => ?_
    refine hK9 _ _ ?_ a hS
    refine Cod.ret fun a hS => ?_
    try simp only [Exit.then, Exit.inBlock]
    rw [← hxl] at F2
    have hF := Fr.toSepL F2 hxl
    exact ret1 (t := 2) rfl hS rfl ⟨_, _, by rw [hxl], hF.chg, hF.get 0 rfl, fun k hk => by
        rcases hk with hk | hk
        · simp [Value.ownBlock] at hk; omega
        · exact hG k hk⟩

set_option maxRecDepth 100000 in
theorem toVal_of (k n : Int) (s : ByteArray) (ks : List ByteArray) (l : List Tr) (H : ∀ t ∈ l, ToOk t) : ToOk (.mk k n s ks l) := by
  intro v w hr hw
  obtain ⟨v3, v4, rfl, h3, h4⟩ := hr.open
  rw [Tr.wt_mk] at hw
  refine enter Tryd.func28 rfl rfl rfl ?_
  have F0 := Fr.start w
  refine Cod.seq fun K1 hK1 => ?_
  refine Cod.region ?_
  refine Ops.step (One.box F0 rfl rfl rfl rfl (ev_t rfl) ?_)
  intro b1 w1 hb1 F1
  change Fr _ _ [blk _ _ [_, _, _, _, _]] _ at F1
  refine Ops.step (One.alloc F1 zero33 rfl rfl rfl rfl ?_)
  intro b2 w2 hb2 F2
  change Fr _ _ [blk _ _ [_, _, _, _, _], blk _ _ [_, _, _, _, _]] _ at F2
  refine Ops.nil fun a hS => ?_
  refine hK1 _ _ ?_ a hS
  refine Cod.seq fun K2 hK2 => ?_
  refine Cod.region ?_
  refine Ops.step (One.alloc F2 zero33 rfl rfl rfl rfl ?_)
  intro b3 w3 hb3 F3
  change Fr _ _ [blk _ _ [_, _, _, _, _], blk _ _ [_, _, _, _, _], blk _ _ [_, _, _, _, _]] _ at F3
  refine Ops.nil fun a hS => ?_
  refine hK2 _ _ ?_ a hS
  refine Cod.seq fun K3 hK3 => ?_
  refine Cod.region ?_
  refine Ops.step (One.val rfl rfl rfl (yld_field fi25_0 rfl (ev_t rfl)) ?_)
  refine Ops.step (One.val rfl rfl rfl (yld_load1 on3 rfl (ev_t rfl) (fun _ => F3.cell 2 rfl rfl)) ?_)
  refine Ops.step (One.val rfl rfl rfl (yld_field fi33_0 rfl (ev_t rfl)) ?_)
  refine Ops.step (One.store1 F3 0 rfl sz3 rfl rfl rfl (ev_t rfl) rfl (ev_t rfl) rfl ?_)
  intro w4 F4
  change Fr _ _ [blk _ _ [_, _, _, _, _], blk _ _ [_, _, _, _, _], blk _ _ [_, _, _, _, _]] _ at F4
  refine Ops.nil fun a hS => ?_
  refine hK3 _ _ ?_ a hS
  refine Cod.seq fun K4 hK4 => ?_
  refine Cod.region ?_
  refine Ops.step (One.val rfl rfl rfl (yld_field fi25_1 rfl (ev_t rfl)) ?_)
  refine Ops.step (One.val rfl rfl rfl (yld_load1 on3 rfl (ev_t rfl) (fun _ => F4.cell 2 rfl rfl)) ?_)
  refine Ops.step (One.val rfl rfl rfl (yld_field fi33_1 rfl (ev_t rfl)) ?_)
  refine Ops.step (One.store1 F4 0 rfl sz3 rfl rfl rfl (ev_t rfl) rfl (ev_t rfl) rfl ?_)
  intro w5 F5
  change Fr _ _ [blk _ _ [_, _, _, _, _], blk _ _ [_, _, _, _, _], blk _ _ [_, _, _, _, _]] _ at F5
  refine Ops.nil fun a hS => ?_
  refine hK4 _ _ ?_ a hS
  refine Cod.seq fun K5 hK5 => ?_
  refine Cod.region ?_
  refine Ops.step (One.val rfl rfl rfl (yld_field fi25_2 rfl (ev_t rfl)) ?_)
  refine Ops.step (One.val rfl rfl rfl (yld_load1 on9 rfl (ev_t rfl) (fun _ => F5.cell 2 rfl rfl)) ?_)
  refine Ops.step (One.val rfl rfl rfl (yld_field fi33_2 rfl (ev_t rfl)) ?_)
  refine Ops.step (One.store1 F5 0 rfl sz9 rfl rfl rfl (ev_t rfl) rfl (ev_t rfl) rfl ?_)
  intro w6 F6
  change Fr _ _ [blk _ _ [_, _, _, _, _], blk _ _ [_, _, _, _, _], blk _ _ [_, _, _, _, _]] _ at F6
  refine Ops.nil fun a hS => ?_
  refine hK5 _ _ ?_ a hS
  refine Cod.seq fun K6 hK6 => ?_
  refine Cod.region ?_
  refine Ops.step (One.val rfl rfl rfl (yld_field fi25_3 rfl (ev_t rfl)) ?_)
  refine Ops.step (One.val rfl rfl rfl (yld_load1 on22 rfl (ev_t rfl) (fun _ => F6.cell 2 rfl rfl)) ?_)
  refine Ops.step (One.call rfl rfl rfl (ent_f rfl (evl1 (ev_t rfl)) (enters en61)) (toStringS_ct ks _ _ (h3.chg F6.chg) (by omega)) (fun e w7 hw7 => ?_))
  obtain ⟨u3, rfl, C7, ho3, hb3⟩ := hw7
  have F7 := F6.new C7 (own _ 1 u3 ks.length _) ho3 hb3
  have hs3 := F6.chg.size
  refine ⟨_, rfl, ?_⟩
  refine Ops.step (One.val rfl rfl rfl (yld_field fi33_3 rfl (ev_t rfl)) ?_)
  refine Ops.step (One.store1 F7 1 rfl sz22 rfl rfl rfl (ev_t rfl) rfl (ev_t rfl) (own_one ho3) ?_)
  intro w8 F8
  change Fr _ _ [_, blk _ _ [_, _, _, _, _], blk _ _ [_, _, _, _, _], blk _ _ [_, _, _, _, _]] _ at F8
  refine Ops.nil fun a hS => ?_
  refine hK6 _ _ ?_ a hS
  refine Cod.seq fun K7 hK7 => ?_
  refine Cod.region ?_
  refine Ops.step (One.val rfl rfl rfl (yld_field fi25_4 rfl (ev_t rfl)) ?_)
  refine Ops.step (One.val rfl rfl rfl (yld_load1 on23 rfl (ev_t rfl) (fun _ => F8.cell 3 rfl rfl)) ?_)
  refine Ops.step (One.call rfl rfl rfl (ent_f rfl (evl1 (ev_t rfl)) (enters en62)) (toValS_of l H _ _ (h4.chg F8.chg) (by omega)) (fun e w9 hw9 => ?_))
  obtain ⟨u4, G, rfl, C9, ho4, hb4⟩ := hw9
  have F9 := F8.new C9 (sepL G l u4) ho4 hb4
  have hs4 := F8.chg.size
  refine ⟨_, rfl, ?_⟩
  refine Ops.step (One.val rfl rfl rfl (yld_field fi33_4 rfl (ev_t rfl)) ?_)
  refine Ops.step (One.store1 F9 2 rfl sz31 rfl rfl rfl (ev_t rfl) rfl (ev_t rfl) ho4.one ?_)
  intro w10 F10
  change Fr _ _ [_, _, blk _ _ [_, _, _, _, _], blk _ _ [_, _, _, _, _], blk _ _ [_, _, _, _, _]] _ at F10
  refine Ops.nil fun a hS => ?_
  refine hK7 _ _ ?_ a hS
  refine Cod.seq fun K8 hK8 => ?_
  refine Cod.region ?_
  refine Ops.step (One.val rfl rfl rfl (yld_loadN ag33 rfl (ev_t rfl) (fun _ => F10.range (m := 5) (cs' := [_, _, _, _, _]) 2 rfl rfl) rfl) ?_)
  refine Ops.step (One.storeN (vs := [_, _, _, _, _]) F10 3 rfl sz33 rfl rfl rfl (ev_t rfl) (ev_t rfl) rfl rfl (one5 (own_one ho3) ho4.one) ?_)
  intro w11 F11
  change Fr _ _ [_, _, blk _ _ [_, _, _, _, _], blk _ _ [_, _, _, _, _], blk _ _ [_, _, _, _, _]] _ at F11
  refine Ops.nil fun a hS => ?_
  refine hK8 _ _ ?_ a hS
  refine Cod.ret fun a hS => ?_
  try simp only [Exit.then, Exit.inBlock]
  have hF := Fr.toSep (k := k) (n := n) (s := s) F11
  exact retc (t := 2) (ty := 33) rfl hS ag33 rfl (F11.range (m := 5) (cs' := [_, _, _, _, _]) 3 rfl rfl) rfl ⟨x5 k n s u3 u4, _, rfl, hF.chg, hF.get 0 rfl, fun b hb => by
      rcases hb with hb | hb
      · have := hb3 b hb; omega
      · have := hb4 b hb; omega⟩


theorem toVal_ct (t : Tr) : ToOk t := Tr.ind (p := ToOk) toVal_of t

end Go.Proofs.YtpfkcblhojkaiaaDoor.Eng
