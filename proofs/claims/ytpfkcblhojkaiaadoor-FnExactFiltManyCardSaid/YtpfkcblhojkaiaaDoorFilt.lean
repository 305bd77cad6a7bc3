/- Walks of what the laws do with filters, and of both FiltAlike: they tell just whether two filters are one. -/
import Derived.Test.YtpfkcblhojkaiaaDoorFil
import Derived.Test.YtpfkcblhojkaiaaDoorSame
namespace Go.Proofs.YtpfkcblhojkaiaaDoor.Eng
open Go.RowKit
set_option linter.unusedVariables false
set_option linter.unusedSimpArgs false
set_option maxHeartbeats 1000000


def SzFOk (t : Fl) : Prop := ∀ (left : Int) (v : Value) (w : World), RepF Any w t v → 0 ≤ left → left ≤ 9223372036854775807 → t.Fit →
    Calls Tryd.prog 10 #[v, .int .i64 left] w fun e w' => e = .returned (.int .i64 (tk left t.wt)) ∧ Chg No w w'

set_option maxRecDepth 100000 in
theorem szFiltS_of (p : List Fl) (H : ∀ t ∈ p, SzFOk t) (left : Int) (v : Value) (w : World) (hp : RepFL Any w p v) (h0 : 0 ≤ left) (hl : left ≤ 9223372036854775807) (hs : ∀ t ∈ p, t.Fit) :
    Calls Tryd.prog 40 #[v, .int .i64 left] w fun e w' => e = .returned (.int .i64 (tk left (p.length + sumN Fl.wt p))) ∧ Chg No w w' := by
  obtain ⟨A, c, rfl, hn⟩ := hp.open
  refine enter Tryd.func40 rfl rfl rfl ?_
  have F0 := Fr.start w
  refine Cod.seq fun K1 hK1 => ?_
  refine Cod.region ?_
  refine Ops.step (One.val rfl rfl rfl (yld_assign rfl ev_c) ?_)
  refine Ops.nil fun a hS => ?_
  refine hK1 _ _ ?_ a hS
  refine Cod.seq fun K2 hK2 => ?_
  refine Cod.region ?_
  refine Ops.step (One.val rfl rfl rfl (yld_move rfl (ev_t rfl)) ?_)
  refine Ops.step (One.val rfl rfl rfl (yld_move rfl (ev_t rfl)) ?_)
  refine Ops.step (One.val rfl rfl rfl (yld_len sl26 rfl (ev_t rfl)) ?_)
  refine Ops.step (One.val rfl rfl rfl (yld_sub rfl (ev_t rfl) (ev_t rfl) (fun _ => by omega)) ?_)
  refine Ops.step (One.val rfl rfl rfl (yld_assign rfl (ev_t rfl)) ?_)
  refine Ops.nil fun a hS => ?_
  refine hK2 _ _ ?_ a hS
  refine Cod.seq fun K3 hK3 => ?_
  refine Cod.seq fun K4 hK4 => ?_
  refine Cod.region ?_
  refine Ops.step (One.val rfl rfl rfl (yld_move rfl (ev_t rfl)) ?_)
  refine Ops.step (One.val rfl rfl rfl (yld_lss rfl (ev_t rfl) ev_c) ?_)
  refine Ops.nil fun a hS => ?_
  refine hK4 _ _ ?_ a hS
  refine Cod.cond rfl (fun hc11 => ?_) (fun hc11 => ?_)
  · skip
    have hc : left < p.length := by have := of_decide_eq_true hc11; omega
    refine Cod.seq fun K5 hK5 => ?_
    refine Cod.region ?_
    refine Ops.step (One.val rfl rfl rfl (yld_assign rfl ev_c) ?_)
    refine Ops.nil fun a hS => ?_
    refine hK5 _ _ ?_ a hS
    refine Cod.ret fun a hS => ?_
    try simp only [Exit.then, Exit.inBlock]
    exact ret1 (t := 4) rfl hS rfl ⟨by rw [tk_lt (by omega)], F0.chg⟩
  · skip
    have hc : p.length ≤ left := by have := of_decide_eq_false hc11; omega
    refine Cod.skip fun a hS => ?_
    refine hK3 _ _ ?_ a hS
    refine Cod.seq fun K6 hK6 => ?_
    refine Cod.seq fun K7 hK7 => ?_
    refine Cod.region ?_
    refine Ops.step (One.val rfl rfl rfl (yld_assign rfl ev_c) ?_)
    refine Ops.nil fun a hS => ?_
    refine hK7 _ _ ?_ a hS
    refine Cod.block ?_
    have e0 : left - p.length = left - p.length - sumN Fl.wt (p.take 0) := by simp [sumN]
    rw [e0]
    refine Cod.loop (fun i : Nat => [(0, true, .slice A p.length c), (1, true, .int .i64 (left - p.length - sumN Fl.wt (p.take i))), (5, true, .int .i64 (i : Int))]) (fun i w' => i ≤ p.length ∧ (p.length + sumN Fl.wt (p.take i) : Int) ≤ left ∧ Fr No w [] w') (fun i => p.length - i) 0 ⟨rfl, rfl, rfl, trivial⟩ ⟨Nat.zero_le _, by simpa [sumN] using hc, F0⟩ ?_
    intro i w1 hW K8 hK8
    obtain ⟨hi, hle, F1⟩ := hW
    refine Cod.seq fun K9 hK9 => ?_
    refine Cod.seq fun K10 hK10 => ?_
    refine Cod.region ?_
    refine Ops.step (One.val rfl rfl rfl (yld_move rfl (ev_t rfl)) ?_)
    refine Ops.step (One.val rfl rfl rfl (yld_move rfl (ev_t rfl)) ?_)
    refine Ops.step (One.val rfl rfl rfl (yld_len sl26 rfl (ev_t rfl)) ?_)
    refine Ops.step (One.val rfl rfl rfl (yld_lss rfl (ev_t rfl) (ev_t rfl)) ?_)
    refine Ops.nil fun a hS => ?_
    refine hK10 _ _ ?_ a hS
    refine Cod.cond rfl (fun hc15 => ?_) (fun hc15 => ?_)
    · skip
      have hi : i < p.length := by simpa using hc15
      obtain ⟨b, o, cs, rfl, -, hlc, hr, ht⟩ := hp.at i hi
      have hst := sumN_take Fl.wt p i hi
      have hsl := sumN_take_le Fl.wt p (i + 1)
      refine Cod.skip fun a hS => ?_
      refine hK9 _ _ ?_ a hS
      refine Cod.seq fun K11 hK11 => ?_
      refine Cod.block ?_
      refine Cod.seq fun K12 hK12 => ?_
      refine Cod.region ?_
      refine Ops.step (One.val rfl rfl rfl (yld_move rfl (ev_t rfl)) ?_)
      refine Ops.step (One.val rfl rfl rfl (yld_move rfl (ev_t rfl)) ?_)
      refine Ops.step (One.val rfl rfl rfl (yld_indexN sl26 rfl (ev_t rfl) (ev_t rfl) (fun _ => by omega)) ?_)
      refine Ops.step (One.val rfl rfl rfl (yld_loadN ag28 rfl (ev_t rfl) (fun _ => rng hr F1.chg) hlc) ?_)
      refine Ops.step (One.val rfl rfl rfl (yld_move rfl (ev_t rfl)) ?_)
      refine Ops.step (One.call rfl rfl rfl (ent_f rfl (evl2 (ev_t rfl) (ev_t rfl)) (enters en10)) (H _ (List.getElem_mem hi) _ _ _ (ht.chg F1.chg) (by omega) (by omega) (hs _ (List.getElem_mem hi))) (fun e w2 hw2 => ?_))
      obtain ⟨rfl, C2⟩ := hw2
      have F2 := F1.call C2
      refine ⟨_, rfl, ?_⟩
      refine Ops.step (One.val rfl rfl rfl (yld_assign rfl (ev_t rfl)) ?_)
      refine Ops.nil fun a hS => ?_
      refine hK12 _ _ ?_ a hS
      refine Cod.seq fun K13 hK13 => ?_
      refine Cod.region ?_
      refine Ops.step (One.val rfl rfl rfl (yld_move rfl (ev_t rfl)) ?_)
      refine Ops.step (One.val rfl rfl rfl (yld_lss rfl (ev_t rfl) ev_c) ?_)
      refine Ops.nil fun a hS => ?_
      refine hK13 _ _ ?_ a hS
      refine Cod.cond rfl (fun hc25 => ?_) (fun hc25 => ?_)
      · skip
        have hc := tk_neg (by omega) hc25
        refine Cod.seq fun K14 hK14 => ?_
        refine Cod.region ?_
        refine Ops.step (One.val rfl rfl rfl (yld_assign rfl ev_c) ?_)
        refine Ops.nil fun a hS => ?_
        refine hK14 _ _ ?_ a hS
        refine Cod.ret fun a hS => ?_
        try simp only [Exit.then, Exit.inBlock]
        exact ret1 (t := 4) rfl hS rfl ⟨by rw [tk_lt (by omega)], F2.chg⟩
      · skip
        obtain ⟨he, hge⟩ := tk_ok (by omega) hc25
        rw [he, show left - p.length - sumN Fl.wt (p.take i) - (p[i].wt : Int) = left - p.length - sumN Fl.wt (p.take (i + 1)) by omega]
        refine Cod.skip fun a hS => ?_
        refine hK11 _ _ ?_ a hS
        refine Cod.region ?_
        refine Ops.step (One.val rfl rfl rfl (yld_move rfl (ev_t rfl)) ?_)
        refine Ops.step (One.val rfl rfl rfl (yld_inc rfl (ev_t rfl) (fun _ => by omega)) ?_)
        refine Ops.step (One.val rfl rfl rfl (yld_assign rfl (ev_t rfl)) ?_)
        refine Ops.nil fun a hS => ?_
        exact hK8 (i + 1) _ a (hS.sub ⟨rfl, rfl, rfl, trivial⟩) ⟨by omega, by omega, F2⟩ (by omega)
    · skip
      obtain rfl : i = p.length := by simp at hc15; omega
      rw [List.take_length] at hle ⊢
      refine Cod.exit fun a hS => ?_
      simp only [Exit.then, Exit.inBlock, ↓reduceIte]
      refine hK6 _ _ ?_ a hS
      refine Cod.seq fun K15 hK15 => ?_
      refine Cod.region ?_
      refine Ops.step (One.val rfl rfl rfl (yld_move rfl (ev_t rfl)) ?_)
      refine Ops.step (One.val rfl rfl rfl (yld_assign rfl (ev_t rfl)) ?_)
      refine Ops.nil fun a hS => ?_
      refine hK15 _ _ ?_ a hS
      refine Cod.ret fun a hS => ?_
      try simp only [Exit.then, Exit.inBlock]
      exact ret1 (t := 4) rfl hS rfl ⟨by rw [tk_ge (by omega)]; exact ret_i (by omega), F1.chg⟩

set_option maxRecDepth 100000 in
theorem szFilt_of (k n : Int) (s : ByteArray) (tv : Tr) (l : List Fl) (H : ∀ t ∈ l, SzFOk t) : SzFOk (.mk k n s tv l) := by
  intro left v w hr h0 hl hf
  obtain ⟨y, v4, rfl, hv, h4⟩ := hr.open
  cases hf with
  | mk hs hfv hkl =>
  have hwt := Fl.wt_mk k n s tv l
  refine enter Tryd.func10 rfl rfl rfl ?_
  have F0 := Fr.start w
  refine Cod.seq fun K1 hK1 => ?_
  refine Cod.region ?_
  refine Ops.step (One.box F0 rfl rfl rfl rfl (ev_t rfl) ?_)
  intro b1 w1 hb1 F1
  change Fr _ _ [blk _ _ [_, _, _, _, _, _, _, _, _]] _ at F1
  refine Ops.step (One.val rfl rfl rfl (yld_assign rfl ev_c) ?_)
  refine Ops.nil fun a hS => ?_
  refine hK1 _ _ ?_ a hS
  refine Cod.seq fun K2 hK2 => ?_
  refine Cod.region ?_
  refine Ops.step (One.val rfl rfl rfl (yld_move rfl (ev_t rfl)) ?_)
  refine Ops.step (One.val rfl rfl rfl (yld_field fi28_2 rfl (ev_t rfl)) ?_)
  refine Ops.step (One.val rfl rfl rfl (yld_load1 on9 rfl (ev_t rfl) (fun _ => F1.cell 0 rfl rfl)) ?_)
  refine Ops.step (One.val rfl rfl rfl (yld_slen st9 rfl (ev_t rfl)) ?_)
  refine Ops.step (One.val rfl rfl rfl (yld_sub rfl (ev_t rfl) (ev_t rfl) (fun _ => by omega)) ?_)
  refine Ops.step (One.val rfl rfl rfl (yld_assign rfl (ev_t rfl)) ?_)
  refine Ops.nil fun a hS => ?_
  refine hK2 _ _ ?_ a hS
  refine Cod.seq fun K3 hK3 => ?_
  refine Cod.seq fun K4 hK4 => ?_
  refine Cod.region ?_
  refine Ops.step (One.val rfl rfl rfl (yld_move rfl (ev_t rfl)) ?_)
  refine Ops.step (One.val rfl rfl rfl (yld_lss rfl (ev_t rfl) ev_c) ?_)
  refine Ops.nil fun a hS => ?_
  refine hK4 _ _ ?_ a hS
  refine Cod.cond rfl (fun hc11 => ?_) (fun hc11 => ?_)
  · skip
    have hc : left < s.size := by have := of_decide_eq_true hc11; omega
    refine Cod.seq fun K5 hK5 => ?_
    refine Cod.region ?_
    refine Ops.step (One.val rfl rfl rfl (yld_assign rfl ev_c) ?_)
    refine Ops.nil fun a hS => ?_
    refine hK5 _ _ ?_ a hS
    refine Cod.ret fun a hS => ?_
    try simp only [Exit.then, Exit.inBlock]
    exact ret1 (t := 4) rfl hS rfl ⟨by rw [tk_lt (by omega)], F1.chg⟩
  · skip
    have hc : s.size ≤ left := by have := of_decide_eq_false hc11; omega
    refine Cod.skip fun a hS => ?_
    refine hK3 _ _ ?_ a hS
    refine Cod.seq fun K6 hK6 => ?_
    refine Cod.region ?_
    refine Ops.step (One.val rfl rfl rfl (yld_field fi28_3 rfl (ev_t rfl)) ?_)
    refine Ops.step (One.val rfl rfl rfl (yld_loadN ag25 rfl (ev_t rfl) (fun _ => F1.range (m := 5) (cs' := [_, _, _, _, _]) 0 rfl rfl) rfl) ?_)
    refine Ops.step (One.val rfl rfl rfl (yld_move rfl (ev_t rfl)) ?_)
    refine Ops.step (One.call rfl rfl rfl (ent_f rfl (evl2 (ev_t rfl) (ev_t rfl)) (enters en26)) (szVal_ct tv _ _ _ (hv.chg F1.chg) (by omega) (by omega) hfv) (fun e w2 hw2 => ?_))
    obtain ⟨rfl, C2⟩ := hw2
    have F2 := F1.call C2
    refine ⟨_, rfl, ?_⟩
    refine Ops.step (One.val rfl rfl rfl (yld_assign rfl (ev_t rfl)) ?_)
    refine Ops.nil fun a hS => ?_
    refine hK6 _ _ ?_ a hS
    refine Cod.seq fun K7 hK7 => ?_
    refine Cod.seq fun K8 hK8 => ?_
    refine Cod.region ?_
    refine Ops.step (One.val rfl rfl rfl (yld_move rfl (ev_t rfl)) ?_)
    refine Ops.step (One.val rfl rfl rfl (yld_lss rfl (ev_t rfl) ev_c) ?_)
    refine Ops.nil fun a hS => ?_
    refine hK8 _ _ ?_ a hS
    refine Cod.cond rfl (fun hc17 => ?_) (fun hc17 => ?_)
    · skip
      have hc2 := tk_neg (by omega) hc17
      refine Cod.seq fun K9 hK9 => ?_
      refine Cod.region ?_
      refine Ops.step (One.val rfl rfl rfl (yld_assign rfl ev_c) ?_)
      refine Ops.nil fun a hS => ?_
      refine hK9 _ _ ?_ a hS
      refine Cod.ret fun a hS => ?_
      try simp only [Exit.then, Exit.inBlock]
      exact ret1 (t := 4) rfl hS rfl ⟨by rw [tk_lt (by omega)], F2.chg⟩
    · skip
      obtain ⟨he, hge⟩ := tk_ok (by omega) hc17
      rw [he]
      refine Cod.skip fun a hS => ?_
      refine hK7 _ _ ?_ a hS
      refine Cod.seq fun K10 hK10 => ?_
      refine Cod.region ?_
      refine Ops.step (One.val rfl rfl rfl (yld_field fi28_4 rfl (ev_t rfl)) ?_)
      refine Ops.step (One.val rfl rfl rfl (yld_load1 on26 rfl (ev_t rfl) (fun _ => F2.cell 0 rfl rfl)) ?_)
      refine Ops.step (One.val rfl rfl rfl (yld_move rfl (ev_t rfl)) ?_)
      refine Ops.step (One.call rfl rfl rfl (ent_f rfl (evl2 (ev_t rfl) (ev_t rfl)) (enters en40)) (szFiltS_of l H _ _ _ (h4.chg F2.chg) (by omega) (by omega) hkl) (fun e w3 hw3 => ?_))
      obtain ⟨rfl, C3⟩ := hw3
      have F3 := F2.call C3
      refine ⟨_, rfl, ?_⟩
      refine Ops.step (One.val rfl rfl rfl (yld_assign rfl (ev_t rfl)) ?_)
      refine Ops.nil fun a hS => ?_
      refine hK10 _ _ ?_ a hS
      refine Cod.seq fun K11 hK11 => ?_
      refine Cod.seq fun K12 hK12 => ?_
      refine Cod.region ?_
      refine Ops.step (One.val rfl rfl rfl (yld_move rfl (ev_t rfl)) ?_)
      refine Ops.step (One.val rfl rfl rfl (yld_lss rfl (ev_t rfl) ev_c) ?_)
      refine Ops.nil fun a hS => ?_
      refine hK12 _ _ ?_ a hS
      refine Cod.cond rfl (fun hc23 => ?_) (fun hc23 => ?_)
      · skip
        have hc3 := tk_neg (by omega) hc23
        refine Cod.seq fun K13 hK13 => ?_
        refine Cod.region ?_
        refine Ops.step (One.val rfl rfl rfl (yld_assign rfl ev_c) ?_)
        refine Ops.nil fun a hS => ?_
        refine hK13 _ _ ?_ a hS
        refine Cod.ret fun a hS => ?_
        try simp only [Exit.then, Exit.inBlock]
        exact ret1 (t := 4) rfl hS rfl ⟨by rw [tk_lt (by omega)], F3.chg⟩
      · skip
        obtain ⟨he2, hge2⟩ := tk_ok (by omega) hc23
        rw [he2]
        refine Cod.skip fun a hS => ?_
        refine hK11 _ _ ?_ a hS
        refine Cod.seq fun K14 hK14 => ?_
        refine Cod.region ?_
        refine Ops.step (One.val rfl rfl rfl (yld_move rfl (ev_t rfl)) ?_)
        refine Ops.step (One.val rfl rfl rfl (yld_assign rfl (ev_t rfl)) ?_)
        refine Ops.nil fun a hS => ?_
        refine hK14 _ _ ?_ a hS
        refine Cod.ret fun a hS => ?_
        try simp only [Exit.then, Exit.inBlock]
        exact ret1 (t := 4) rfl hS rfl ⟨by rw [tk_ge (by omega)]; exact ret_i (by omega), F3.chg⟩


theorem szFilt_ct (t : Fl) : SzFOk t := Fl.ind (p := SzFOk) szFilt_of t
def EqFOk (f : FuncId) (t : Fl) : Prop := ∀ (t' : Fl) (v v' : Value) (w : World), RepF Any w t v → RepF Any w t' v' →
    Calls Tryd.prog f #[v, v'] w fun e w' => e = .returned (.bool (decide (t = t'))) ∧ Chg No w w'
theorem fl_eq (k n : Int) (s : ByteArray) (v : Tr) (l : List Fl) (k' n' : Int) (s' : ByteArray) (v' : Tr) (l' : List Fl) : (Fl.mk k n s v l = Fl.mk k' n' s' v' l') ↔ k = k' ∧ n = n' ∧ s = s' ∧ v = v' ∧ l = l' := by simp

set_option maxRecDepth 100000 in
theorem eqFiltS_of (p q : List Fl) (H : ∀ t ∈ p, EqFOk 14 t) (v v' : Value) (w : World) (hp : RepFL Any w p v) (hq : RepFL Any w q v') :
    Calls Tryd.prog 45 #[v, v'] w fun e w' => e = .returned (.bool (decide (p = q))) ∧ Chg No w w' := by
  obtain ⟨A, c, rfl, hn⟩ := hp.open
  obtain ⟨A', c', rfl, hn'⟩ := hq.open
  refine enter Tryd.func45 rfl rfl rfl ?_
  have F0 := Fr.start w
  refine Cod.seq fun K1 hK1 => ?_
  refine Cod.region ?_
  refine Ops.step (One.val rfl rfl rfl (yld_assign rfl ev_c) ?_)
  refine Ops.nil fun a hS => ?_
  refine hK1 _ _ ?_ a hS
  refine Cod.seq fun K2 hK2 => ?_
  refine Cod.seq fun K3 hK3 => ?_
  refine Cod.region ?_
  refine Ops.step (One.val rfl rfl rfl (yld_move rfl (ev_t rfl)) ?_)
  refine Ops.step (One.val rfl rfl rfl (yld_len sl34 rfl (ev_t rfl)) ?_)
  refine Ops.step (One.val rfl rfl rfl (yld_move rfl (ev_t rfl)) ?_)
  refine Ops.step (One.val rfl rfl rfl (yld_len sl34 rfl (ev_t rfl)) ?_)
  refine Ops.step (One.val rfl rfl rfl (yld_neq rfl (ev_t rfl) (ev_t rfl)) ?_)
  refine Ops.nil fun a hS => ?_
  refine hK3 _ _ ?_ a hS
  refine Cod.cond rfl (fun hc10 => ?_) (fun hc10 => ?_)
  · skip
    have hne : p ≠ q := by rintro rfl; simp at hc10
    refine Cod.seq fun K4 hK4 => ?_
    refine Cod.region ?_
    refine Ops.step (One.val rfl rfl rfl (yld_assign rfl ev_c) ?_)
    refine Ops.nil fun a hS => ?_
    refine hK4 _ _ ?_ a hS
    refine Cod.ret fun a hS => ?_
    try simp only [Exit.then, Exit.inBlock]
    exact ret1 (t := 4) rfl hS rfl ⟨by rw [decide_eq_false hne], F0.chg⟩
  · skip
    have hlen : p.length = q.length := by simp at hc10; omega
    refine Cod.skip fun a hS => ?_
    refine hK2 _ _ ?_ a hS
    refine Cod.seq fun K5 hK5 => ?_
    refine Cod.seq fun K6 hK6 => ?_
    refine Cod.region ?_
    refine Ops.step (One.val rfl rfl rfl (yld_assign rfl ev_c) ?_)
    refine Ops.nil fun a hS => ?_
    refine hK6 _ _ ?_ a hS
    refine Cod.block ?_
    refine Cod.loop (fun i : Nat => [(0, true, .slice A p.length c), (1, true, .slice A' q.length c'), (5, true, .int .i64 (i : Int))]) (fun i w' => i ≤ p.length ∧ (∀ j (h1 : j < p.length) (h2 : j < q.length), j < i → p[j] = q[j]) ∧ Fr No w [] w') (fun i => p.length - i) 0 ⟨rfl, rfl, rfl, trivial⟩ ⟨Nat.zero_le _, fun j _ _ h => by omega, F0⟩ ?_
    intro i w1 hW K7 hK7
    obtain ⟨hi, hall, F1⟩ := hW
    refine Cod.seq fun K8 hK8 => ?_
    refine Cod.seq fun K9 hK9 => ?_
    refine Cod.region ?_
    refine Ops.step (One.val rfl rfl rfl (yld_move rfl (ev_t rfl)) ?_)
    refine Ops.step (One.val rfl rfl rfl (yld_move rfl (ev_t rfl)) ?_)
    refine Ops.step (One.val rfl rfl rfl (yld_len sl34 rfl (ev_t rfl)) ?_)
    refine Ops.step (One.val rfl rfl rfl (yld_lss rfl (ev_t rfl) (ev_t rfl)) ?_)
    refine Ops.nil fun a hS => ?_
    refine hK9 _ _ ?_ a hS
    refine Cod.cond rfl (fun hc14 => ?_) (fun hc14 => ?_)
    · skip
      have hi : i < p.length := by simpa using hc14
      have hi2 : i < q.length := by omega
      obtain ⟨b, o, cs, rfl, -, hlc, hr, ht⟩ := hp.at i hi
      obtain ⟨b2, o2, cs2, rfl, -, hlc2, hr2, ht2⟩ := hq.at i hi2
      refine Cod.skip fun a hS => ?_
      refine hK8 _ _ ?_ a hS
      refine Cod.seq fun K10 hK10 => ?_
      refine Cod.block ?_
      refine Cod.seq fun K11 hK11 => ?_
      have F2 := F1.drew
      refine Cod.draw (C_of F2) (by kernel_rfl) ?_
      refine Hops.take 0 rfl (by kernel_rfl) (fun _ _ _ h => h) rfl rfl rfl F2 (fun w F => (yld_move rfl (ev_t rfl))) ?_
      refine Hops.take 1 rfl (by kernel_rfl) (fun _ _ _ h => h) rfl rfl rfl F2 (fun w F => (yld_move rfl (ev_t rfl))) ?_
      refine Hops.take 2 rfl (by kernel_rfl) (fun _ _ _ h => h) rfl rfl rfl F2 (fun w F => (yld_indexN sl34 rfl (ev_t rfl) (ev_t rfl) (fun _ => by omega))) ?_
      refine Hops.take 3 rfl (by kernel_rfl) (fun _ _ _ h => h) rfl rfl rfl F2 (fun w F => (yld_loadN ag36 rfl (ev_t rfl) (fun _ => rng hr F.chg) hlc)) ?_
      refine Hops.take 4 rfl (by kernel_rfl) (fun _ _ _ h => h) rfl rfl rfl F2 (fun w F => (yld_move rfl (ev_t rfl))) ?_
      refine Hops.take 5 rfl (by kernel_rfl) (fun _ _ _ h => h) rfl rfl rfl F2 (fun w F => (yld_move rfl (ev_t rfl))) ?_
      refine Hops.take 6 rfl (by kernel_rfl) (fun _ _ _ h => h) rfl rfl rfl F2 (fun w F => (yld_indexN sl34 rfl (ev_t rfl) (ev_t rfl) (fun _ => by omega))) ?_
      refine Hops.take 7 rfl (by kernel_rfl) (fun _ _ _ h => h) rfl rfl rfl F2 (fun w F => (yld_loadN ag36 rfl (ev_t rfl) (fun _ => rng hr2 F.chg) hlc2)) ?_
      refine Hops.one 8 rfl (by kernel_rfl) (One.call rfl rfl rfl (ent_f rfl (evl2 (ev_t rfl) (ev_t rfl)) (enters en14)) (H _ (List.getElem_mem hi) q[i] _ _ _ (ht.chg F2.chg) (ht2.chg F2.chg)) (fun e w2 hw2 => ?_))
      obtain ⟨rfl, C2⟩ := hw2
      have F3 := F2.call C2
      refine ⟨_, rfl, ?_⟩
      refine ⟨F3, ?_⟩
      refine Hops.take 9 rfl (by kernel_rfl) (fun _ _ _ h => h) rfl rfl rfl F3 (fun w F => (yld_not rfl (ev_t rfl))) ?_
      refine Hops.nil (by kernel_rfl) fun a hS => ?_
      refine hK11 _ _ ?_ a hS
      refine Cod.cond rfl (fun hc26 => ?_) (fun hc26 => ?_)
      · skip
        have hne : p ≠ q := by rintro rfl; simp at hc26
        refine Cod.seq fun K12 hK12 => ?_
        refine Cod.region ?_
        refine Ops.step (One.val rfl rfl rfl (yld_assign rfl ev_c) ?_)
        refine Ops.nil fun a hS => ?_
        refine hK12 _ _ ?_ a hS
        refine Cod.ret fun a hS => ?_
        try simp only [Exit.then, Exit.inBlock]
        exact ret1 (t := 4) rfl hS rfl ⟨by rw [decide_eq_false hne], F3.chg⟩
      · skip
        have hsame : p[i] = q[i] := by simpa using hc26
        refine Cod.skip fun a hS => ?_
        refine hK10 _ _ ?_ a hS
        refine Cod.region ?_
        refine Ops.step (One.val rfl rfl rfl (yld_move rfl (ev_t rfl)) ?_)
        refine Ops.step (One.val rfl rfl rfl (yld_inc rfl (ev_t rfl) (fun _ => by omega)) ?_)
        refine Ops.step (One.val rfl rfl rfl (yld_assign rfl (ev_t rfl)) ?_)
        refine Ops.nil fun a hS => ?_
        exact hK7 (i + 1) _ a (hS.sub ⟨rfl, rfl, rfl, trivial⟩) ⟨by omega, fun j h1 h2 hji => if h : j = i then (by subst h; exact hsame) else hall j h1 h2 (by omega), F3⟩ (by omega)
    · skip
      have heq : p = q := list_eq_of hlen fun j h1 h2 => hall j h1 h2 (by simp at hc14; omega)
      refine Cod.exit fun a hS => ?_
      simp only [Exit.then, Exit.inBlock, ↓reduceIte]
      refine hK5 _ _ ?_ a hS
      refine Cod.seq fun K13 hK13 => ?_
      refine Cod.region ?_
      refine Ops.step (One.val rfl rfl rfl (yld_assign rfl ev_c) ?_)
      refine Ops.nil fun a hS => ?_
      refine hK13 _ _ ?_ a hS
      refine Cod.ret fun a hS => ?_
      try simp only [Exit.then, Exit.inBlock]
      exact ret1 (t := 4) rfl hS rfl ⟨by rw [decide_eq_true heq], F1.chg⟩

set_option maxRecDepth 100000 in
theorem eqFilt_of (k n : Int) (s : ByteArray) (tv : Tr) (l : List Fl) (H : ∀ t ∈ l, EqFOk 14 t) : EqFOk 14 (.mk k n s tv l) := by
  intro t' v v' w hr hr'
  obtain ⟨y, v4, rfl, hv, h4⟩ := hr.open
  obtain ⟨k', n', s', tv', l'⟩ := t'
  obtain ⟨y', v4', rfl, hv', h4'⟩ := hr'.open
  refine enter Tryd.func14 rfl rfl rfl ?_
  have F0 := Fr.start w
  refine Cod.seq fun K1 hK1 => ?_
  refine Cod.region ?_
  refine Ops.step (One.box F0 rfl rfl rfl rfl (ev_t rfl) ?_)
  intro b1 w1 hb1 F1
  change Fr _ _ [blk _ _ [_, _, _, _, _, _, _, _, _]] _ at F1
  refine Ops.step (One.box F1 rfl rfl rfl rfl (ev_t rfl) ?_)
  intro b2 w2 hb2 F2
  change Fr _ _ [blk _ _ [_, _, _, _, _, _, _, _, _], blk _ _ [_, _, _, _, _, _, _, _, _]] _ at F2
  refine Ops.step (One.val rfl rfl rfl (yld_assign rfl ev_c) ?_)
  refine Ops.nil fun a hS => ?_
  refine hK1 _ _ ?_ a hS
  refine Cod.seq fun K2 hK2 => ?_
  refine Cod.seq fun K3 hK3 => ?_
  refine Cod.region ?_
  refine Ops.step (One.val rfl rfl rfl (yld_field fi36_0 rfl (ev_t rfl)) ?_)
  refine Ops.step (One.val rfl rfl rfl (yld_load1 on3 rfl (ev_t rfl) (fun _ => F2.cell 1 rfl rfl)) ?_)
  refine Ops.step (One.val rfl rfl rfl (yld_field fi36_0 rfl (ev_t rfl)) ?_)
  refine Ops.step (One.val rfl rfl rfl (yld_load1 on3 rfl (ev_t rfl) (fun _ => F2.cell 0 rfl rfl)) ?_)
  refine Ops.step (One.val rfl rfl rfl (yld_neq rfl (ev_t rfl) (ev_t rfl)) ?_)
  refine Ops.nil fun a hS => ?_
  refine hK3 _ _ ?_ a hS
  refine Cod.cond rfl (fun hc9 => ?_) (fun hc9 => ?_)
  · skip
    refine Cod.seq fun K4 hK4 => ?_
    refine Cod.region ?_
    refine Ops.step (One.val rfl rfl rfl (yld_assign rfl ev_c) ?_)
    refine Ops.nil fun a hS => ?_
    refine hK4 _ _ ?_ a hS
    refine Cod.ret fun a hS => ?_
    try simp only [Exit.then, Exit.inBlock]
    exact ret1 (t := 4) rfl hS rfl ⟨by simp_all, F2.chg⟩
  · skip
    refine Cod.skip fun a hS => ?_
    refine hK2 _ _ ?_ a hS
    refine Cod.seq fun K5 hK5 => ?_
    refine Cod.seq fun K6 hK6 => ?_
    refine Cod.region ?_
    refine Ops.step (One.val rfl rfl rfl (yld_field fi36_1 rfl (ev_t rfl)) ?_)
    refine Ops.step (One.val rfl rfl rfl (yld_load1 on3 rfl (ev_t rfl) (fun _ => F2.cell 1 rfl rfl)) ?_)
    refine Ops.step (One.val rfl rfl rfl (yld_field fi36_1 rfl (ev_t rfl)) ?_)
    refine Ops.step (One.val rfl rfl rfl (yld_load1 on3 rfl (ev_t rfl) (fun _ => F2.cell 0 rfl rfl)) ?_)
    refine Ops.step (One.val rfl rfl rfl (yld_neq rfl (ev_t rfl) (ev_t rfl)) ?_)
    refine Ops.nil fun a hS => ?_
    refine hK6 _ _ ?_ a hS
    refine Cod.cond rfl (fun hc14 => ?_) (fun hc14 => ?_)
    · skip
      refine Cod.seq fun K7 hK7 => ?_
      refine Cod.region ?_
      refine Ops.step (One.val rfl rfl rfl (yld_assign rfl ev_c) ?_)
      refine Ops.nil fun a hS => ?_
      refine hK7 _ _ ?_ a hS
      refine Cod.ret fun a hS => ?_
      try simp only [Exit.then, Exit.inBlock]
      exact ret1 (t := 4) rfl hS rfl ⟨by simp_all, F2.chg⟩
    · skip
      refine Cod.skip fun a hS => ?_
      refine hK5 _ _ ?_ a hS
      refine Cod.seq fun K8 hK8 => ?_
      refine Cod.seq fun K9 hK9 => ?_
      refine Cod.region ?_
      refine Ops.step (One.val rfl rfl rfl (yld_field fi36_2 rfl (ev_t rfl)) ?_)
      refine Ops.step (One.val rfl rfl rfl (yld_load1 on9 rfl (ev_t rfl) (fun _ => F2.cell 1 rfl rfl)) ?_)
      refine Ops.step (One.val rfl rfl rfl (yld_field fi36_2 rfl (ev_t rfl)) ?_)
      refine Ops.step (One.val rfl rfl rfl (yld_load1 on9 rfl (ev_t rfl) (fun _ => F2.cell 0 rfl rfl)) ?_)
      refine Ops.step (One.val rfl rfl rfl (yld_sneq rfl (ev_t rfl) (ev_t rfl)) ?_)
      refine Ops.nil fun a hS => ?_
      refine hK9 _ _ ?_ a hS
      refine Cod.cond rfl (fun hc19 => ?_) (fun hc19 => ?_)
      · skip
        refine Cod.seq fun K10 hK10 => ?_
        refine Cod.region ?_
        refine Ops.step (One.val rfl rfl rfl (yld_assign rfl ev_c) ?_)
        refine Ops.nil fun a hS => ?_
        refine hK10 _ _ ?_ a hS
        refine Cod.ret fun a hS => ?_
        try simp only [Exit.then, Exit.inBlock]
        exact ret1 (t := 4) rfl hS rfl ⟨by simp_all, F2.chg⟩
      · skip
        refine Cod.skip fun a hS => ?_
        refine hK8 _ _ ?_ a hS
        refine Cod.seq fun K11 hK11 => ?_
        refine Cod.seq fun K12 hK12 => ?_
        refine Cod.region ?_
        refine Ops.step (One.val rfl rfl rfl (yld_field fi36_3 rfl (ev_t rfl)) ?_)
        refine Ops.step (One.val rfl rfl rfl (yld_loadN ag33 rfl (ev_t rfl) (fun _ => F2.range (m := 5) (cs' := [_, _, _, _, _]) 1 rfl rfl) rfl) ?_)
        refine Ops.step (One.val rfl rfl rfl (yld_field fi36_3 rfl (ev_t rfl)) ?_)
        refine Ops.step (One.val rfl rfl rfl (yld_loadN ag33 rfl (ev_t rfl) (fun _ => F2.range (m := 5) (cs' := [_, _, _, _, _]) 0 rfl rfl) rfl) ?_)
        refine Ops.step (One.call rfl rfl rfl (ent_f rfl (evl2 (ev_t rfl) (ev_t rfl)) (enters en30)) (eqVal_ct tv tv' _ _ _ (hv.chg F2.chg) (hv'.chg F2.chg)) (fun e w3 hw3 => ?_))
        obtain ⟨rfl, C3⟩ := hw3
        have F3 := F2.call C3
        refine ⟨_, rfl, ?_⟩
        refine Ops.step (One.val rfl rfl rfl (yld_not rfl (ev_t rfl)) ?_)
        refine Ops.nil fun a hS => ?_
        refine hK12 _ _ ?_ a hS
        refine Cod.cond rfl (fun hc25 => ?_) (fun hc25 => ?_)
        · skip
          refine Cod.seq fun K13 hK13 => ?_
          refine Cod.region ?_
          refine Ops.step (One.val rfl rfl rfl (yld_assign rfl ev_c) ?_)
          refine Ops.nil fun a hS => ?_
          refine hK13 _ _ ?_ a hS
          refine Cod.ret fun a hS => ?_
          try simp only [Exit.then, Exit.inBlock]
          exact ret1 (t := 4) rfl hS rfl ⟨by simp_all, F3.chg⟩
        · skip
          refine Cod.skip fun a hS => ?_
          refine hK11 _ _ ?_ a hS
          refine Cod.seq fun K14 hK14 => ?_
          refine Cod.seq fun K15 hK15 => ?_
          refine Cod.region ?_
          refine Ops.step (One.val rfl rfl rfl (yld_field fi36_4 rfl (ev_t rfl)) ?_)
          refine Ops.step (One.val rfl rfl rfl (yld_load1 on34 rfl (ev_t rfl) (fun _ => F3.cell 1 rfl rfl)) ?_)
          refine Ops.step (One.val rfl rfl rfl (yld_field fi36_4 rfl (ev_t rfl)) ?_)
          refine Ops.step (One.val rfl rfl rfl (yld_load1 on34 rfl (ev_t rfl) (fun _ => F3.cell 0 rfl rfl)) ?_)
          refine Ops.step (One.call rfl rfl rfl (ent_f rfl (evl2 (ev_t rfl) (ev_t rfl)) (enters en45)) (eqFiltS_of _ _ H _ _ _ (h4.chg F3.chg) (h4'.chg F3.chg)) (fun e w4 hw4 => ?_))
          obtain ⟨rfl, C4⟩ := hw4
          have F4 := F3.call C4
          refine ⟨_, rfl, ?_⟩
          refine Ops.step (One.val rfl rfl rfl (yld_not rfl (ev_t rfl)) ?_)
          refine Ops.nil fun a hS => ?_
          refine hK15 _ _ ?_ a hS
          refine Cod.cond rfl (fun hc31 => ?_) (fun hc31 => ?_)
          · skip
            refine Cod.seq fun K16 hK16 => ?_
            refine Cod.region ?_
            refine Ops.step (One.val rfl rfl rfl (yld_assign rfl ev_c) ?_)
            refine Ops.nil fun a hS => ?_
            refine hK16 _ _ ?_ a hS
            refine Cod.ret fun a hS => ?_
            try simp only [Exit.then, Exit.inBlock]
            exact ret1 (t := 4) rfl hS rfl ⟨by simp_all, F4.chg⟩
          · skip
            refine Cod.skip fun a hS => ?_
            refine hK14 _ _ ?_ a hS
            refine Cod.seq fun K17 hK17 => ?_
            refine Cod.region ?_
            refine Ops.step (One.val rfl rfl rfl (yld_assign rfl ev_c) ?_)
            refine Ops.nil fun a hS => ?_
            refine hK17 _ _ ?_ a hS
            refine Cod.ret fun a hS => ?_
            try simp only [Exit.then, Exit.inBlock]
            exact ret1 (t := 4) rfl hS rfl ⟨by simp_all, F4.chg⟩


theorem eqFilt_ct (t : Fl) : EqFOk 14 t := Fl.ind (p := EqFOk 14) eqFilt_of t
def ToFOk (t : Fl) : Prop := ∀ (v : Value) (w : World), RepF Any w t v → t.wt ≤ 1048576 →
    Calls Tryd.prog 12 #[v] w fun e w' => ∃ (x : V9) (F : Nat → Prop), e = .returned x.val ∧ Chg No w w' ∧ (repF F t x.val).is w' ∧ ∀ k, F k → w.heap.size ≤ k

set_option maxRecDepth 100000 in
theorem toFiltS_of (p : List Fl) (H : ∀ t ∈ p, ToFOk t) (v : Value) (w : World) (hp : RepFL Any w p v) (hn : p.length + sumN Fl.wt p ≤ 1048576) :
    Calls Tryd.prog 43 #[v] w fun e w' => ∃ v' F, e = .returned v' ∧ Chg No w w' ∧ (repFL F p v').is w' ∧ ∀ k, F k → w.heap.size ≤ k := by
  obtain ⟨A, c, rfl, -⟩ := hp.open
  refine enter Tryd.func43 rfl rfl rfl ?_
  have F0 := Fr.start w
  refine Cod.seq fun K1 hK1 => ?_
  refine Cod.region ?_
  refine Ops.step (One.val rfl rfl rfl (yld_assign rfl ev_c) ?_)
  refine Ops.nil fun a hS => ?_
  refine hK1 _ _ ?_ a hS
  refine Cod.seq fun K2 hK2 => ?_
  refine Cod.region ?_
  refine Ops.step (One.val rfl rfl rfl (yld_move rfl (ev_t rfl)) ?_)
  refine Ops.step (One.val rfl rfl rfl (yld_len sl26 rfl (ev_t rfl)) ?_)
  refine Ops.step (One.make (enc := enc9) (sz := 9) z9 F0 sl34 zero36 rfl rfl (fun _ => rfl) rfl rfl rfl rfl (ev_t rfl) (ev_t rfl) (by omega) (by omega) ?_)
  intro b1 w1 hb1 F1
  refine Ops.step (One.val rfl rfl rfl (yld_assign rfl (ev_t rfl)) ?_)
  refine Ops.nil fun a hS => ?_
  refine hK2 _ _ ?_ a hS
  refine Cod.seq fun K3 hK3 => ?_
  refine Cod.seq fun K4 hK4 => ?_
  refine Cod.region ?_
  refine Ops.step (One.val rfl rfl rfl (yld_assign rfl ev_c) ?_)
  refine Ops.nil fun a hS => ?_
  refine hK4 _ _ ?_ a hS
  refine Cod.block ?_
  refine Cod.loop (fun i : Nat × List V9 × (Nat → Prop) => [(0, true, .slice A p.length c), (3, true, .slice (some ⟨b1, 0, none⟩) p.length p.length), (4, true, .int .i64 (i.1 : Int))]) (fun i w' => i.1 ≤ p.length ∧ i.2.1.length = p.length ∧ Fr No w [own 36 9 (.slice (some ⟨b1, 0, none⟩) p.length p.length) p.length (i.2.1.flatMap enc9), kidsF i.2.2 (p.take i.1) i.2.1] w') (fun i => p.length - i.1) (0, List.replicate p.length z9, No) ⟨rfl, rfl, rfl, trivial⟩ ⟨Nat.zero_le _, by simp, F1.kidsF0⟩ ?_
  intro i w2 hW K5 hK5
  obtain ⟨i, xs, G⟩ := i
  obtain ⟨hi, hxl, F2⟩ := hW
  dsimp only at *
  refine Cod.seq fun K6 hK6 => ?_
  refine Cod.seq fun K7 hK7 => ?_
  refine Cod.region ?_
  refine Ops.step (One.val rfl rfl rfl (yld_move rfl (ev_t rfl)) ?_)
  refine Ops.step (One.val rfl rfl rfl (yld_move rfl (ev_t rfl)) ?_)
  refine Ops.step (One.val rfl rfl rfl (yld_len sl26 rfl (ev_t rfl)) ?_)
  refine Ops.step (One.val rfl rfl rfl (yld_lss rfl (ev_t rfl) (ev_t rfl)) ?_)
  refine Ops.nil fun a hS => ?_
  refine hK7 _ _ ?_ a hS
  refine Cod.cond rfl (fun hc11 => ?_) (fun hc11 => ?_)
  · skip
    have hi : i < p.length := by simpa using hc11
    obtain ⟨b, o, cs, rfl, -, hlc, hr, ht⟩ := hp.at i hi
    have hwi := sumN_mem Fl.wt (List.getElem_mem hi)
    refine Cod.skip fun a hS => ?_
    refine hK6 _ _ ?_ a hS
    refine Cod.seq fun K8 hK8 => ?_
    refine Cod.block ?_
    refine Cod.region ?_
    refine Ops.step (One.val rfl rfl rfl (yld_move rfl (ev_t rfl)) ?_)
    refine Ops.step (One.val rfl rfl rfl (yld_move rfl (ev_t rfl)) ?_)
    refine Ops.step (One.val rfl rfl rfl (yld_move rfl (ev_t rfl)) ?_)
    refine Ops.step (One.val rfl rfl rfl (yld_move rfl (ev_t rfl)) ?_)
    refine Ops.step (One.val rfl rfl rfl (yld_indexN sl26 rfl (ev_t rfl) (ev_t rfl) (fun _ => by omega)) ?_)
    refine Ops.step (One.val rfl rfl rfl (yld_loadN ag28 rfl (ev_t rfl) (fun _ => rng hr F2.chg) hlc) ?_)
    refine Ops.step (One.call rfl rfl rfl (ent_f rfl (evl1 (ev_t rfl)) (enters en12)) (H _ (List.getElem_mem hi) _ _ (ht.chg F2.chg) (by omega)) (fun e w3 hw3 => ?_))
    obtain ⟨x, Fc, rfl, C3, hsep, hFc0⟩ := hw3
    have F3 := F2.new C3 (repF Fc p[i] x.val) hsep hFc0
    refine ⟨_, rfl, ?_⟩
    refine Ops.step (One.val rfl rfl rfl (yld_indexN sl34 rfl (ev_t rfl) (ev_t rfl) (fun _ => by omega)) ?_)
    refine Ops.step (One.storeRow (enc := enc9) x (fun _ => rfl) F3 1 rfl hxl (by omega) sz36 rfl rfl rfl rfl (ev_t rfl) (ev_t rfl) hsep.1.cells ?_)
    intro w4 F4
    change Fr _ _ [_, _, _] _ at F4
    refine Ops.nil fun a hS => ?_
    refine hK8 _ _ ?_ a hS
    refine Cod.region ?_
    refine Ops.step (One.val rfl rfl rfl (yld_move rfl (ev_t rfl)) ?_)
    refine Ops.step (One.val rfl rfl rfl (yld_inc rfl (ev_t rfl) (fun _ => by omega)) ?_)
    refine Ops.step (One.val rfl rfl rfl (yld_assign rfl (ev_t rfl)) ?_)
    refine Ops.nil fun a hS => ?_
    have hx1 : (p.take i).length = i := by simp; omega
    have hF := F4.kidFIn (xs' := xs.set i x) (by rw [hx1]; exact set_get_self (by omega)) (fun j hj => set_get_ne (by omega))
    rw [show p.take i ++ [p[i]] = p.take (i + 1) from (List.take_succ_eq_append_getElem hi).symm] at hF
    exact hK5 (i + 1, xs.set i x, fun b => G b ∨ Fc b) _ a (hS.sub ⟨rfl, rfl, rfl, trivial⟩) ⟨by show i + 1 ≤ _; omega, by simp [hxl], hF⟩ (by show p.length - (i + 1) < p.length - i; omega)
  · skip
    obtain rfl : i = p.length := by simp at hc11; omega
    rw [List.take_length] at F2
    refine Cod.exit fun a hS => ?_
    simp only [Exit.then, Exit.inBlock, ↓reduceIte]
    refine hK3 _ _ ?_ a hS
    refine Cod.seq fun K9 hK9 => ?_
    refine Cod.region ?_
    refine Ops.step (One.val rfl rfl rfl (yld_move rfl (ev_t rfl)) ?_)
    refine Ops.step (One.val rfl rfl rfl (yld_assign rfl (ev_t rfl)) ?_)
    refine Ops.nil fun a hS => ?_
    refine hK9 _ _ ?_ a hS
    refine Cod.ret fun a hS => ?_
    try simp only [Exit.then, Exit.inBlock]
    rw [← hxl] at F2
    have hF := Fr.toRepFL F2 hxl
    exact ret1 (t := 2) rfl hS rfl ⟨_, _, by rw [hxl], hF.chg, hF.get 0 rfl, fun k hk => (hF.dom _ (List.mem_cons_self ..) k hk).resolve_left id⟩

set_option maxRecDepth 100000 in
theorem toFilt_of (k n : Int) (s : ByteArray) (tv : Tr) (l : List Fl) (H : ∀ t ∈ l, ToFOk t) : ToFOk (.mk k n s tv l) := by
  intro v w hr hw
  obtain ⟨y, v4, rfl, hv, h4⟩ := hr.open
  rw [Fl.wt_mk] at hw
  refine enter Tryd.func12 rfl rfl rfl ?_
  have F0 := Fr.start w
  refine Cod.seq fun K1 hK1 => ?_
  refine Cod.region ?_
  refine Ops.step (One.box F0 rfl rfl rfl rfl (ev_t rfl) ?_)
  intro b1 w1 hb1 F1
  change Fr _ _ [blk _ _ [_, _, _, _, _, _, _, _, _]] _ at F1
  refine Ops.step (One.alloc F1 zero36 rfl rfl rfl rfl ?_)
  intro b2 w2 hb2 F2
  change Fr _ _ [blk _ _ [_, _, _, _, _, _, _, _, _], blk _ _ [_, _, _, _, _, _, _, _, _]] _ at F2
  refine Ops.nil fun a hS => ?_
  refine hK1 _ _ ?_ a hS
  refine Cod.seq fun K2 hK2 => ?_
  refine Cod.region ?_
  refine Ops.step (One.alloc F2 zero36 rfl rfl rfl rfl ?_)
  intro b3 w3 hb3 F3
  change Fr _ _ [blk _ _ [_, _, _, _, _, _, _, _, _], blk _ _ [_, _, _, _, _, _, _, _, _], blk _ _ [_, _, _, _, _, _, _, _, _]] _ at F3
  refine Ops.nil fun a hS => ?_
  refine hK2 _ _ ?_ a hS
  refine Cod.seq fun K3 hK3 => ?_
  refine Cod.region ?_
  refine Ops.step (One.val rfl rfl rfl (yld_field fi28_0 rfl (ev_t rfl)) ?_)
  refine Ops.step (One.val rfl rfl rfl (yld_load1 on3 rfl (ev_t rfl) (fun _ => F3.cell 2 rfl rfl)) ?_)
  refine Ops.step (One.val rfl rfl rfl (yld_field fi36_0 rfl (ev_t rfl)) ?_)
  refine Ops.step (One.store1 F3 0 rfl sz3 rfl rfl rfl (ev_t rfl) rfl (ev_t rfl) rfl ?_)
  intro w4 F4
  change Fr _ _ [blk _ _ [_, _, _, _, _, _, _, _, _], blk _ _ [_, _, _, _, _, _, _, _, _], blk _ _ [_, _, _, _, _, _, _, _, _]] _ at F4
  refine Ops.nil fun a hS => ?_
  refine hK3 _ _ ?_ a hS
  refine Cod.seq fun K4 hK4 => ?_
  refine Cod.region ?_
  refine Ops.step (One.val rfl rfl rfl (yld_field fi28_1 rfl (ev_t rfl)) ?_)
  refine Ops.step (One.val rfl rfl rfl (yld_load1 on3 rfl (ev_t rfl) (fun _ => F4.cell 2 rfl rfl)) ?_)
  refine Ops.step (One.val rfl rfl rfl (yld_field fi36_1 rfl (ev_t rfl)) ?_)
  refine Ops.step (One.store1 F4 0 rfl sz3 rfl rfl rfl (ev_t rfl) rfl (ev_t rfl) rfl ?_)
  intro w5 F5
  change Fr _ _ [blk _ _ [_, _, _, _, _, _, _, _, _], blk _ _ [_, _, _, _, _, _, _, _, _], blk _ _ [_, _, _, _, _, _, _, _, _]] _ at F5
  refine Ops.nil fun a hS => ?_
  refine hK4 _ _ ?_ a hS
  refine Cod.seq fun K5 hK5 => ?_
  refine Cod.region ?_
  refine Ops.step (One.val rfl rfl rfl (yld_field fi28_2 rfl (ev_t rfl)) ?_)
  refine Ops.step (One.val rfl rfl rfl (yld_load1 on9 rfl (ev_t rfl) (fun _ => F5.cell 2 rfl rfl)) ?_)
  refine Ops.step (One.val rfl rfl rfl (yld_field fi36_2 rfl (ev_t rfl)) ?_)
  refine Ops.step (One.store1 F5 0 rfl sz9 rfl rfl rfl (ev_t rfl) rfl (ev_t rfl) rfl ?_)
  intro w6 F6
  change Fr _ _ [blk _ _ [_, _, _, _, _, _, _, _, _], blk _ _ [_, _, _, _, _, _, _, _, _], blk _ _ [_, _, _, _, _, _, _, _, _]] _ at F6
  refine Ops.nil fun a hS => ?_
  refine hK5 _ _ ?_ a hS
  refine Cod.seq fun K6 hK6 => ?_
  refine Cod.region ?_
  refine Ops.step (One.val rfl rfl rfl (yld_field fi28_3 rfl (ev_t rfl)) ?_)
  refine Ops.step (One.val rfl rfl rfl (yld_loadN ag25 rfl (ev_t rfl) (fun _ => F6.range (m := 5) (cs' := [_, _, _, _, _]) 2 rfl rfl) rfl) ?_)
  refine Ops.step (One.call rfl rfl rfl (ent_f rfl (evl1 (ev_t rfl)) (enters en28)) (toVal_ct tv _ _ (hv.chg F6.chg) (by omega)) (fun e w7 hw7 => ?_))
  obtain ⟨x1, G1, rfl, C7, hs1, hb1⟩ := hw7
  have F7 := F6.new C7 (sep G1 tv x1.val) hs1 hb1
  refine ⟨_, rfl, ?_⟩
  refine Ops.step (One.val rfl rfl rfl (yld_field fi36_3 rfl (ev_t rfl)) ?_)
  refine Ops.step (One.storeN (vs := [_, _, _, _, _]) F7 1 rfl sz33 rfl rfl rfl (ev_t rfl) (ev_t rfl) rfl rfl hs1.one ?_)
  intro w8 F8
  change Fr _ _ [_, blk _ _ [_, _, _, _, _, _, _, _, _], blk _ _ [_, _, _, _, _, _, _, _, _], blk _ _ [_, _, _, _, _, _, _, _, _]] _ at F8
  refine Ops.nil fun a hS => ?_
  refine hK6 _ _ ?_ a hS
  refine Cod.seq fun K7 hK7 => ?_
  refine Cod.region ?_
  refine Ops.step (One.val rfl rfl rfl (yld_field fi28_4 rfl (ev_t rfl)) ?_)
  refine Ops.step (One.val rfl rfl rfl (yld_load1 on26 rfl (ev_t rfl) (fun _ => F8.cell 3 rfl rfl)) ?_)
  refine Ops.step (One.call rfl rfl rfl (ent_f rfl (evl1 (ev_t rfl)) (enters en43)) (toFiltS_of l H _ _ (h4.chg F8.chg) (by omega)) (fun e w9 hw9 => ?_))
  obtain ⟨u4, G, rfl, C9, ho4, hb4⟩ := hw9
  have F9 := F8.new C9 (repFL G l u4) ho4 hb4
  refine ⟨_, rfl, ?_⟩
  refine Ops.step (One.val rfl rfl rfl (yld_field fi36_4 rfl (ev_t rfl)) ?_)
  refine Ops.step (One.store1 F9 2 rfl sz34 rfl rfl rfl (ev_t rfl) rfl (ev_t rfl) ho4.1.one ?_)
  intro w10 F10
  change Fr _ _ [_, _, blk _ _ [_, _, _, _, _, _, _, _, _], blk _ _ [_, _, _, _, _, _, _, _, _], blk _ _ [_, _, _, _, _, _, _, _, _]] _ at F10
  refine Ops.nil fun a hS => ?_
  refine hK7 _ _ ?_ a hS
  refine Cod.seq fun K8 hK8 => ?_
  refine Cod.region ?_
  refine Ops.step (One.val rfl rfl rfl (yld_loadN ag36 rfl (ev_t rfl) (fun _ => F10.range (m := 9) (cs' := [_, _, _, _, _, _, _, _, _]) 2 rfl rfl) rfl) ?_)
  refine Ops.step (One.storeN (vs := [_, _, _, _, _, _, _, _, _]) F10 3 rfl sz36 rfl rfl rfl (ev_t rfl) (ev_t rfl) rfl rfl (RepF.cells (x := ⟨.int .i64 k, .int .i64 n, .string s, x1, u4⟩) (RepF.close (F10.get 1 rfl).rep ((F10.get 0 rfl).1.weak fun _ _ => trivial) : RepF Any _ (.mk k n s tv l) _)) ?_)
  intro w11 F11
  change Fr _ _ [_, _, blk _ _ [_, _, _, _, _, _, _, _, _], blk _ _ [_, _, _, _, _, _, _, _, _], blk _ _ [_, _, _, _, _, _, _, _, _]] _ at F11
  refine Ops.nil fun a hS => ?_
  refine hK8 _ _ ?_ a hS
  refine Cod.ret fun a hS => ?_
  try simp only [Exit.then, Exit.inBlock]
  have hF := Fr.toRepF (k := k) (n := n) (s := s) F11
  exact retc (t := 2) (ty := 36) rfl hS ag36 rfl (F11.range (m := 9) (cs' := [_, _, _, _, _, _, _, _, _]) 3 rfl rfl) rfl ⟨⟨.int .i64 k, .int .i64 n, .string s, x1, u4⟩, _, rfl, hF.chg, hF.get 0 rfl, fun b hb => (hF.dom _ (List.mem_cons_self ..) b hb).resolve_left id⟩


theorem toFilt_ct (t : Fl) : ToFOk t := Fl.ind (p := ToFOk) toFilt_of t


theorem nine {cs : List Value} (h : cs.length = 9) : ∃ a b c d e f g i j, cs = [a, b, c, d, e, f, g, i, j] := by
  match cs, h with
  | [a, b, c, d, e, f, g, i, j], _ => exact ⟨a, b, c, d, e, f, g, i, j, rfl⟩
theorem cells9 {w : World} {t : Fl} {a b c p q r u z d : Value} (h : RepF Any w t (.agg [a, b, c, p, q, r, u, z, d].toArray)) : [a, b, c, p, q, r, u, z, d].all (·.oneCell') = true := RepF.cells (x := ⟨a, b, c, ⟨p, q, r, u, z⟩, d⟩) h



end Go.Proofs.YtpfkcblhojkaiaaDoor.Eng
