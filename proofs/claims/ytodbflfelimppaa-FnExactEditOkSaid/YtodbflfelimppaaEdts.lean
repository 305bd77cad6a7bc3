/- Walks of what the laws do with edits, and of both EditOk. -/
import Derived.Test.YtodbflfelimppaaEdt
import Derived.Test.YtodbflfelimppaaPath0
import Derived.Test.YtodbflfelimppaaSame
import Derived.Test.YtodbflfelimppaaIsRow
import Derived.Test.YtodbflfelimppaaIns
import Derived.Test.YtodbflfelimppaaCom
namespace Go.Proofs.Ytodbflfelimppaa.Eng
open Go.RowKit
set_option linter.unusedVariables false
set_option linter.unusedSimpArgs false
set_option maxHeartbeats 1000000


theorem edsz (e : Ed) : e.sz = e.p.length + szP e.p := rfl
def edPre (e : Ed) : Nat := e.p.length + szP e.p
theorem edwt (e : Ed) : e.wt = e.p.length + szP e.p + e.was.wt + e.now.wt := rfl
theorem tkS (left : Int) (a b : Nat) : (if left < (a : Int) + (b : Int) then -1 else left - ((a : Int) + (b : Int))) = tk left (a + b) := by
  unfold tk
  rw [show (((a + b : Nat)) : Int) = (a : Int) + (b : Int) by omega]

set_option maxRecDepth 100000 in
theorem szEdit_ct (e : Ed) (x : V13) (left : Int) (w : World) (h : RepD Any w e x) (h0 : 0 ≤ left) (hl : left ≤ 9223372036854775807) (hf : e.Fit) :
    Calls Try.prog 60 #[x.val, .int .i64 left] w fun ee w' => ee = .returned (.int .i64 (tk left e.wt)) ∧ Chg No w w' := by
  obtain ⟨ax, ⟨y1, y2, y3, y4, y5⟩, hx, ⟨z1, z2, z3, z4, z5⟩, kx⟩ := x
  obtain ⟨hp, hwas, ehx, hnow, ekx⟩ := h
  dsimp only at hp hwas ehx hnow ekx
  subst ehx
  subst ekx
  have hew := edwt e
  obtain ⟨hf1, hf2, hf3⟩ := hf
  refine enter Try.func60 rfl rfl rfl ?_
  have F0 := Fr.start w
  refine Cod.seq fun K1 hK1 => ?_
  refine Cod.region ?_
  refine Ops.step (One.box F0 rfl rfl rfl rfl (ev_t rfl) ?_)
  intro b1 w1 hb1 F1
  change Fr _ _ [blk _ _ [_, _, _, _, _, _, _, _, _, _, _, _, _]] _ at F1
  refine Ops.step (One.val rfl rfl rfl (yld_assign rfl ev_c) ?_)
  refine Ops.nil fun a hS => ?_
  refine hK1 _ _ ?_ a hS
  refine Cod.seq fun K2 hK2 => ?_
  refine Cod.region ?_
  refine Ops.step (One.val rfl rfl rfl (yld_field fi81_0 rfl (ev_t rfl)) ?_)
  refine Ops.step (One.val rfl rfl rfl (yld_load1 on79 rfl (ev_t rfl) (fun _ => F1.cell 0 rfl rfl)) ?_)
  refine Ops.step (One.val rfl rfl rfl (yld_move rfl (ev_t rfl)) ?_)
  refine Ops.step (One.call rfl rfl rfl (ent_f rfl (evl2 (ev_t rfl) (ev_t rfl)) (enters en113)) (szStepS_ct e.p _ _ _ (hp.chg F1.chg) (by omega) (by omega) hf1) (fun e w2 hw2 => ?_))
  obtain ⟨rfl, C2⟩ := hw2
  have F2 := F1.call C2
  refine ⟨_, rfl, ?_⟩
  refine Ops.step (One.val rfl rfl rfl (yld_assign rfl (ev_t rfl)) ?_)
  refine Ops.nil fun a hS => ?_
  refine hK2 _ _ ?_ a hS
  refine Cod.seq fun K3 hK3 => ?_
  refine Cod.seq fun K4 hK4 => ?_
  refine Cod.region ?_
  refine Ops.step (One.val rfl rfl rfl (yld_move rfl (ev_t rfl)) ?_)
  refine Ops.step (One.val rfl rfl rfl (yld_lss rfl (ev_t rfl) ev_c) ?_)
  refine Ops.nil fun a hS => ?_
  refine hK4 _ _ ?_ a hS
  refine Cod.cond rfl (fun hc10 => ?_) (fun hc10 => ?_)
  · skip
    have hc : left < e.p.length + szP e.p := by have hq := of_decide_eq_true hc10; split at hq <;> omega
    refine Cod.seq fun K5 hK5 => ?_
    refine Cod.region ?_
    refine Ops.step (One.val rfl rfl rfl (yld_assign rfl ev_c) ?_)
    refine Ops.nil fun a hS => ?_
    refine hK5 _ _ ?_ a hS
    refine Cod.ret fun a hS => ?_
    try simp only [Exit.then, Exit.inBlock]
    exact ret1 (t := 4) rfl hS rfl ⟨by rw [tk_lt (by omega)], F2.chg⟩
  · skip
    rw [tkS] at hc10 ⊢
    obtain ⟨he1, hge1⟩ := tk_ok (by omega) hc10
    rw [he1]
    refine Cod.skip fun a hS => ?_
    refine hK3 _ _ ?_ a hS
    refine Cod.seq fun K6 hK6 => ?_
    refine Cod.region ?_
    refine Ops.step (One.val rfl rfl rfl (yld_field fi81_1 rfl (ev_t rfl)) ?_)
    refine Ops.step (One.val rfl rfl rfl (yld_loadN ag25 rfl (ev_t rfl) (fun _ => F2.range (m := 5) (cs' := [_, _, _, _, _]) 0 rfl rfl) rfl) ?_)
    refine Ops.step (One.val rfl rfl rfl (yld_move rfl (ev_t rfl)) ?_)
    refine Ops.step (One.call rfl rfl rfl (ent_f rfl (evl2 (ev_t rfl) (ev_t rfl)) (enters en10)) (szVal_ct e.was _ _ _ (hwas.chg F2.chg) (by omega) (by omega) hf2) (fun e w3 hw3 => ?_))
    obtain ⟨rfl, C3⟩ := hw3
    have F3 := F2.call C3
    refine ⟨_, rfl, ?_⟩
    refine Ops.step (One.val rfl rfl rfl (yld_assign rfl (ev_t rfl)) ?_)
    refine Ops.nil fun a hS => ?_
    refine hK6 _ _ ?_ a hS
    refine Cod.seq fun K7 hK7 => ?_
    refine Cod.seq fun K8 hK8 => ?_
    refine Cod.region ?_
    refine Ops.step (One.val rfl rfl rfl (yld_move rfl (ev_t rfl)) ?_)
    refine Ops.step (One.val rfl rfl rfl (yld_lss rfl (ev_t rfl) ev_c) ?_)
    refine Ops.nil fun a hS => ?_
    refine hK8 _ _ ?_ a hS
    refine Cod.cond rfl (fun hc16 => ?_) (fun hc16 => ?_)
    · skip
      have hc2 := tk_neg (by omega) hc16
      refine Cod.seq fun K9 hK9 => ?_
      refine Cod.region ?_
      refine Ops.step (One.val rfl rfl rfl (yld_assign rfl ev_c) ?_)
      refine Ops.nil fun a hS => ?_
      refine hK9 _ _ ?_ a hS
      refine Cod.ret fun a hS => ?_
      try simp only [Exit.then, Exit.inBlock]
      exact ret1 (t := 4) rfl hS rfl ⟨by rw [tk_lt (by omega)], F3.chg⟩
    · skip
      obtain ⟨he2, hge2⟩ := tk_ok (by omega) hc16
      rw [he2]
      refine Cod.skip fun a hS => ?_
      refine hK7 _ _ ?_ a hS
      refine Cod.seq fun K10 hK10 => ?_
      refine Cod.region ?_
      refine Ops.step (One.val rfl rfl rfl (yld_field fi81_3 rfl (ev_t rfl)) ?_)
      refine Ops.step (One.val rfl rfl rfl (yld_loadN ag25 rfl (ev_t rfl) (fun _ => F3.range (m := 5) (cs' := [_, _, _, _, _]) 0 rfl rfl) rfl) ?_)
      refine Ops.step (One.val rfl rfl rfl (yld_move rfl (ev_t rfl)) ?_)
      refine Ops.step (One.call rfl rfl rfl (ent_f rfl (evl2 (ev_t rfl) (ev_t rfl)) (enters en10)) (szVal_ct e.now _ _ _ (hnow.chg F3.chg) (by omega) (by omega) hf3) (fun e w4 hw4 => ?_))
      obtain ⟨rfl, C4⟩ := hw4
      have F4 := F3.call C4
      refine ⟨_, rfl, ?_⟩
      refine Ops.step (One.val rfl rfl rfl (yld_assign rfl (ev_t rfl)) ?_)
      refine Ops.nil fun a hS => ?_
      refine hK10 _ _ ?_ a hS
      refine Cod.seq fun K11 hK11 => ?_
      refine Cod.seq fun K12 hK12 => ?_
      refine Cod.region ?_
      refine Ops.step (One.val rfl rfl rfl (yld_move rfl (ev_t rfl)) ?_)
      refine Ops.step (One.val rfl rfl rfl (yld_lss rfl (ev_t rfl) ev_c) ?_)
      refine Ops.nil fun a hS => ?_
      refine hK12 _ _ ?_ a hS
      refine Cod.cond rfl (fun hc22 => ?_) (fun hc22 => ?_)
      · skip
        have hc3 := tk_neg (by omega) hc22
        refine Cod.seq fun K13 hK13 => ?_
        refine Cod.region ?_
        refine Ops.step (One.val rfl rfl rfl (yld_assign rfl ev_c) ?_)
        refine Ops.nil fun a hS => ?_
        refine hK13 _ _ ?_ a hS
        refine Cod.ret fun a hS => ?_
        try simp only [Exit.then, Exit.inBlock]
        exact ret1 (t := 4) rfl hS rfl ⟨by rw [tk_lt (by omega)], F4.chg⟩
      · skip
        obtain ⟨he3, hge3⟩ := tk_ok (by omega) hc22
        rw [he3]
        refine Cod.skip fun a hS => ?_
        refine hK11 _ _ ?_ a hS
        refine Cod.seq fun K14 hK14 => ?_
        refine Cod.region ?_
        refine Ops.step (One.val rfl rfl rfl (yld_move rfl (ev_t rfl)) ?_)
        refine Ops.step (One.val rfl rfl rfl (yld_assign rfl (ev_t rfl)) ?_)
        refine Ops.nil fun a hS => ?_
        refine hK14 _ _ ?_ a hS
        refine Cod.ret fun a hS => ?_
        try simp only [Exit.then, Exit.inBlock]
        exact ret1 (t := 4) rfl hS rfl ⟨by rw [tk_ge (by omega)]; exact ret_i (by omega), F4.chg⟩

set_option maxRecDepth 100000 in
theorem szEditS_ct (p : List Ed) (left : Int) (v : Value) (w : World) (hp : RepDL Any w p v) (h0 : 0 ≤ left) (hl : left ≤ 9223372036854775807) (hs : ∀ t ∈ p, t.Fit) :
    Calls Try.prog 19 #[v, .int .i64 left] w fun e w' => e = .returned (.int .i64 (tk left (p.length + sumN Ed.wt p))) ∧ Chg No w w' := by
  obtain ⟨A, c, rfl, hn⟩ := hp.open
  refine enter Try.func19 rfl rfl rfl ?_
  have F0 := Fr.start w
  refine Cod.seq fun K1 hK1 => ?_
  refine Cod.region ?_
  refine Ops.step (One.val rfl rfl rfl (yld_assign rfl ev_c) ?_)
  refine Ops.nil fun a hS => ?_
  refine hK1 _ _ ?_ a hS
  refine Cod.seq fun K2 hK2 => ?_
  refine Cod.region ?_
  refine Ops.step (One.val rfl rfl rfl (yld_move rfl (ev_t rfl)) ?_)
  refine Ops.step (One.val rfl rfl rfl (yld_move rfl (ev_t rfl)) ?_)
  refine Ops.step (One.val rfl rfl rfl (yld_len sl38 rfl (ev_t rfl)) ?_)
  refine Ops.step (One.val rfl rfl rfl (yld_sub rfl (ev_t rfl) (ev_t rfl) (fun _ => by omega)) ?_)
  refine Ops.step (One.val rfl rfl rfl (yld_assign rfl (ev_t rfl)) ?_)
  refine Ops.nil fun a hS => ?_
  refine hK2 _ _ ?_ a hS
  refine Cod.seq fun K3 hK3 => ?_
  refine Cod.seq fun K4 hK4 => ?_
  refine Cod.region ?_
  refine Ops.step (One.val rfl rfl rfl (yld_move rfl (ev_t rfl)) ?_)
  refine Ops.step (One.val rfl rfl rfl (yld_lss rfl (ev_t rfl) ev_c) ?_)
  refine Ops.nil fun a hS => ?_
  refine hK4 _ _ ?_ a hS
  refine Cod.cond rfl (fun hc11 => ?_) (fun hc11 => ?_)
  · skip
    have hc : left < p.length := by have := of_decide_eq_true hc11; omega
    refine Cod.seq fun K5 hK5 => ?_
    refine Cod.region ?_
    refine Ops.step (One.val rfl rfl rfl (yld_assign rfl ev_c) ?_)
    refine Ops.nil fun a hS => ?_
    refine hK5 _ _ ?_ a hS
    refine Cod.ret fun a hS => ?_
    try simp only [Exit.then, Exit.inBlock]
    exact ret1 (t := 4) rfl hS rfl ⟨by rw [tk_lt (by omega)], F0.chg⟩
  · skip
    have hc : p.length ≤ left := by have := of_decide_eq_false hc11; omega
    refine Cod.skip fun a hS => ?_
    refine hK3 _ _ ?_ a hS
    refine Cod.seq fun K6 hK6 => ?_
    refine Cod.seq fun K7 hK7 => ?_
    refine Cod.region ?_
    refine Ops.step (One.val rfl rfl rfl (yld_assign rfl ev_c) ?_)
    refine Ops.nil fun a hS => ?_
    refine hK7 _ _ ?_ a hS
    refine Cod.block ?_
    have e0 : left - p.length = left - p.length - sumN Ed.wt (p.take 0) := by simp [sumN]
    rw [e0]
    refine Cod.loop (fun i : Nat => [(0, true, .slice A p.length c), (1, true, .int .i64 (left - p.length - sumN Ed.wt (p.take i))), (5, true, .int .i64 (i : Int))]) (fun i w' => i ≤ p.length ∧ (p.length + sumN Ed.wt (p.take i) : Int) ≤ left ∧ Fr No w [] w') (fun i => p.length - i) 0 ⟨rfl, rfl, rfl, trivial⟩ ⟨Nat.zero_le _, by simpa [sumN] using hc, F0⟩ ?_
    intro i w1 hW K8 hK8
    obtain ⟨hi, hle, F1⟩ := hW
    refine Cod.seq fun K9 hK9 => ?_
    refine Cod.seq fun K10 hK10 => ?_
    refine Cod.region ?_
    refine Ops.step (One.val rfl rfl rfl (yld_move rfl (ev_t rfl)) ?_)
    refine Ops.step (One.val rfl rfl rfl (yld_move rfl (ev_t rfl)) ?_)
    refine Ops.step (One.val rfl rfl rfl (yld_len sl38 rfl (ev_t rfl)) ?_)
    refine Ops.step (One.val rfl rfl rfl (yld_lss rfl (ev_t rfl) (ev_t rfl)) ?_)
    refine Ops.nil fun a hS => ?_
    refine hK10 _ _ ?_ a hS
    refine Cod.cond rfl (fun hc15 => ?_) (fun hc15 => ?_)
    · skip
      have hi : i < p.length := by simpa using hc15
      obtain ⟨b, o, x, rfl, -, hr, ht⟩ := hp.at i hi
      have hst := sumN_take Ed.wt p i hi
      have hsl := sumN_take_le Ed.wt p (i + 1)
      refine Cod.skip fun a hS => ?_
      refine hK9 _ _ ?_ a hS
      refine Cod.seq fun K11 hK11 => ?_
      refine Cod.block ?_
      refine Cod.seq fun K12 hK12 => ?_
      refine Cod.region ?_
      refine Ops.step (One.val rfl rfl rfl (yld_move rfl (ev_t rfl)) ?_)
      refine Ops.step (One.val rfl rfl rfl (yld_move rfl (ev_t rfl)) ?_)
      refine Ops.step (One.val rfl rfl rfl (yld_indexN sl38 rfl (ev_t rfl) (ev_t rfl) (fun _ => by omega)) ?_)
      refine Ops.step (One.val rfl rfl rfl (yld_loadN ag81 rfl (ev_t rfl) (fun _ => rng hr F1.chg) rfl) ?_)
      refine Ops.step (One.val rfl rfl rfl (yld_move rfl (ev_t rfl)) ?_)
      refine Ops.step (One.call rfl rfl rfl (ent_f rfl (evl2 (ev_t rfl) (ev_t rfl)) (enters en60)) (szEdit_ct p[i] x _ _ (ht.chg F1.chg) (by omega) (by omega) (hs _ (List.getElem_mem hi))) (fun e w2 hw2 => ?_))
      obtain ⟨rfl, C2⟩ := hw2
      have F2 := F1.call C2
      refine ⟨_, rfl, ?_⟩
      refine Ops.step (One.val rfl rfl rfl (yld_assign rfl (ev_t rfl)) ?_)
      refine Ops.nil fun a hS => ?_
      refine hK12 _ _ ?_ a hS
      refine Cod.seq fun K13 hK13 => ?_
      refine Cod.region ?_
      refine Ops.step (One.val rfl rfl rfl (yld_move rfl (ev_t rfl)) ?_)
      refine Ops.step (One.val rfl rfl rfl (yld_lss rfl (ev_t rfl) ev_c) ?_)
      refine Ops.nil fun a hS => ?_
      refine hK13 _ _ ?_ a hS
      refine Cod.cond rfl (fun hc25 => ?_) (fun hc25 => ?_)
      · skip
        have hc := tk_neg (by omega) hc25
        refine Cod.seq fun K14 hK14 => ?_
        refine Cod.region ?_
        refine Ops.step (One.val rfl rfl rfl (yld_assign rfl ev_c) ?_)
        refine Ops.nil fun a hS => ?_
        refine hK14 _ _ ?_ a hS
        refine Cod.ret fun a hS => ?_
        try simp only [Exit.then, Exit.inBlock]
        exact ret1 (t := 4) rfl hS rfl ⟨by rw [tk_lt (by omega)], F2.chg⟩
      · skip
        obtain ⟨he, hge⟩ := tk_ok (by omega) hc25
        rw [he, show left - p.length - sumN Ed.wt (p.take i) - (p[i].wt : Int) = left - p.length - sumN Ed.wt (p.take (i + 1)) by omega]
        refine Cod.skip fun a hS => ?_
        refine hK11 _ _ ?_ a hS
        refine Cod.region ?_
        refine Ops.step (One.val rfl rfl rfl (yld_move rfl (ev_t rfl)) ?_)
        refine Ops.step (One.val rfl rfl rfl (yld_inc rfl (ev_t rfl) (fun _ => by omega)) ?_)
        refine Ops.step (One.val rfl rfl rfl (yld_assign rfl (ev_t rfl)) ?_)
        refine Ops.nil fun a hS => ?_
        exact hK8 (i + 1) _ a (hS.sub ⟨rfl, rfl, rfl, trivial⟩) ⟨by omega, by omega, F2⟩ (by omega)
    · skip
      obtain rfl : i = p.length := by simp at hc15; omega
      rw [List.take_length] at hle ⊢
      refine Cod.exit fun a hS => ?_
      simp only [Exit.then, Exit.inBlock, ↓reduceIte]
      refine hK6 _ _ ?_ a hS
      refine Cod.seq fun K15 hK15 => ?_
      refine Cod.region ?_
      refine Ops.step (One.val rfl rfl rfl (yld_move rfl (ev_t rfl)) ?_)
      refine Ops.step (One.val rfl rfl rfl (yld_assign rfl (ev_t rfl)) ?_)
      refine Ops.nil fun a hS => ?_
      refine hK15 _ _ ?_ a hS
      refine Cod.ret fun a hS => ?_
      try simp only [Exit.then, Exit.inBlock]
      exact ret1 (t := 4) rfl hS rfl ⟨by rw [tk_ge (by omega)]; exact ret_i (by omega), F1.chg⟩

set_option maxRecDepth 100000 in
theorem eqEdit_ct (e e' : Ed) (x x' : V13) (w : World) (h : RepD Any w e x) (h' : RepD Any w e' x') :
    Calls Try.prog 65 #[x.val, x'.val] w fun ee w' => ee = .returned (.bool (decide (e = e'))) ∧ Chg No w w' := by
  obtain ⟨ax, ⟨y1, y2, y3, y4, y5⟩, hx, ⟨z1, z2, z3, z4, z5⟩, kx⟩ := x
  obtain ⟨hp, hwas, ehx, hnow, ekx⟩ := h
  dsimp only at hp hwas ehx hnow ekx
  subst ehx
  subst ekx
  obtain ⟨ax', ⟨y1', y2', y3', y4', y5'⟩, hx', ⟨z1', z2', z3', z4', z5'⟩, kx'⟩ := x'
  obtain ⟨hp', hwas', ehx', hnow', ekx'⟩ := h'
  dsimp only at hp' hwas' ehx' hnow' ekx'
  subst ehx'
  subst ekx'
  obtain ⟨p, was, had, now, has⟩ := e
  obtain ⟨p', was', had', now', has'⟩ := e'
  refine enter Try.func65 rfl rfl rfl ?_
  have F0 := Fr.start w
  refine Cod.seq fun K1 hK1 => ?_
  refine Cod.region ?_
  refine Ops.step (One.box F0 rfl rfl rfl rfl (ev_t rfl) ?_)
  intro b1 w1 hb1 F1
  change Fr _ _ [blk _ _ [_, _, _, _, _, _, _, _, _, _, _, _, _]] _ at F1
  refine Ops.step (One.box F1 rfl rfl rfl rfl (ev_t rfl) ?_)
  intro b2 w2 hb2 F2
  change Fr _ _ [blk _ _ [_, _, _, _, _, _, _, _, _, _, _, _, _], blk _ _ [_, _, _, _, _, _, _, _, _, _, _, _, _]] _ at F2
  refine Ops.step (One.val rfl rfl rfl (yld_assign rfl ev_c) ?_)
  refine Ops.nil fun a hS => ?_
  refine hK1 _ _ ?_ a hS
  refine Cod.seq fun K2 hK2 => ?_
  refine Cod.seq fun K3 hK3 => ?_
  refine Cod.region ?_
  refine Ops.step (One.val rfl rfl rfl (yld_field fi84_0 rfl (ev_t rfl)) ?_)
  refine Ops.step (One.val rfl rfl rfl (yld_load1 on46 rfl (ev_t rfl) (fun _ => F2.cell 1 rfl rfl)) ?_)
  refine Ops.step (One.val rfl rfl rfl (yld_field fi84_0 rfl (ev_t rfl)) ?_)
  refine Ops.step (One.val rfl rfl rfl (yld_load1 on46 rfl (ev_t rfl) (fun _ => F2.cell 0 rfl rfl)) ?_)
  refine Ops.step (One.call rfl rfl rfl (ent_f rfl (evl2 (ev_t rfl) (ev_t rfl)) (enters en53)) (eqStepS_ct p p' _ _ _ (hp.chg F2.chg) (hp'.chg F2.chg)) (fun e w3 hw3 => ?_))
  obtain ⟨rfl, C3⟩ := hw3
  have F3 := F2.call C3
  refine ⟨_, rfl, ?_⟩
  refine Ops.step (One.val rfl rfl rfl (yld_not rfl (ev_t rfl)) ?_)
  refine Ops.nil fun a hS => ?_
  refine hK3 _ _ ?_ a hS
  refine Cod.cond rfl (fun hc10 => ?_) (fun hc10 => ?_)
  · skip
    refine Cod.seq fun K4 hK4 => ?_
    refine Cod.region ?_
    refine Ops.step (One.val rfl rfl rfl (yld_assign rfl ev_c) ?_)
    refine Ops.nil fun a hS => ?_
    refine hK4 _ _ ?_ a hS
    refine Cod.ret fun a hS => ?_
    try simp only [Exit.then, Exit.inBlock]
    exact ret1 (t := 4) rfl hS rfl ⟨by simp_all, F3.chg⟩
  · skip
    refine Cod.skip fun a hS => ?_
    refine hK2 _ _ ?_ a hS
    refine Cod.seq fun K5 hK5 => ?_
    refine Cod.seq fun K6 hK6 => ?_
    refine Cod.region ?_
    refine Ops.step (One.val rfl rfl rfl (yld_field fi84_1 rfl (ev_t rfl)) ?_)
    refine Ops.step (One.val rfl rfl rfl (yld_loadN ag31 rfl (ev_t rfl) (fun _ => F3.range (m := 5) (cs' := [_, _, _, _, _]) 1 rfl rfl) rfl) ?_)
    refine Ops.step (One.val rfl rfl rfl (yld_field fi84_1 rfl (ev_t rfl)) ?_)
    refine Ops.step (One.val rfl rfl rfl (yld_loadN ag31 rfl (ev_t rfl) (fun _ => F3.range (m := 5) (cs' := [_, _, _, _, _]) 0 rfl rfl) rfl) ?_)
    refine Ops.step (One.call rfl rfl rfl (ent_f rfl (evl2 (ev_t rfl) (ev_t rfl)) (enters en15)) (eqVal_ct was was' _ _ _ (hwas.chg F3.chg) (hwas'.chg F3.chg)) (fun e w4 hw4 => ?_))
    obtain ⟨rfl, C4⟩ := hw4
    have F4 := F3.call C4
    refine ⟨_, rfl, ?_⟩
    refine Ops.step (One.val rfl rfl rfl (yld_not rfl (ev_t rfl)) ?_)
    refine Ops.nil fun a hS => ?_
    refine hK6 _ _ ?_ a hS
    refine Cod.cond rfl (fun hc16 => ?_) (fun hc16 => ?_)
    · skip
      refine Cod.seq fun K7 hK7 => ?_
      refine Cod.region ?_
      refine Ops.step (One.val rfl rfl rfl (yld_assign rfl ev_c) ?_)
      refine Ops.nil fun a hS => ?_
      refine hK7 _ _ ?_ a hS
      refine Cod.ret fun a hS => ?_
      try simp only [Exit.then, Exit.inBlock]
      exact ret1 (t := 4) rfl hS rfl ⟨by simp_all, F4.chg⟩
    · skip
      refine Cod.skip fun a hS => ?_
      refine hK5 _ _ ?_ a hS
      refine Cod.seq fun K8 hK8 => ?_
      refine Cod.seq fun K9 hK9 => ?_
      refine Cod.region ?_
      refine Ops.step (One.val rfl rfl rfl (yld_field fi84_2 rfl (ev_t rfl)) ?_)
      refine Ops.step (One.val rfl rfl rfl (yld_load1 on4 rfl (ev_t rfl) (fun _ => F4.cell 1 rfl rfl)) ?_)
      refine Ops.step (One.val rfl rfl rfl (yld_field fi84_2 rfl (ev_t rfl)) ?_)
      refine Ops.step (One.val rfl rfl rfl (yld_load1 on4 rfl (ev_t rfl) (fun _ => F4.cell 0 rfl rfl)) ?_)
      refine Ops.step (One.val rfl rfl rfl (yld_bneq Try.underlying4 rfl (ev_t rfl) (ev_t rfl)) ?_)
      refine Ops.nil fun a hS => ?_
      refine hK9 _ _ ?_ a hS
      refine Cod.cond rfl (fun hc21 => ?_) (fun hc21 => ?_)
      · skip
        refine Cod.seq fun K10 hK10 => ?_
        refine Cod.region ?_
        refine Ops.step (One.val rfl rfl rfl (yld_assign rfl ev_c) ?_)
        refine Ops.nil fun a hS => ?_
        refine hK10 _ _ ?_ a hS
        refine Cod.ret fun a hS => ?_
        try simp only [Exit.then, Exit.inBlock]
        exact ret1 (t := 4) rfl hS rfl ⟨by simp_all, F4.chg⟩
      · skip
        refine Cod.skip fun a hS => ?_
        refine hK8 _ _ ?_ a hS
        refine Cod.seq fun K11 hK11 => ?_
        refine Cod.seq fun K12 hK12 => ?_
        refine Cod.region ?_
        refine Ops.step (One.val rfl rfl rfl (yld_field fi84_3 rfl (ev_t rfl)) ?_)
        refine Ops.step (One.val rfl rfl rfl (yld_loadN ag31 rfl (ev_t rfl) (fun _ => F4.range (m := 5) (cs' := [_, _, _, _, _]) 1 rfl rfl) rfl) ?_)
        refine Ops.step (One.val rfl rfl rfl (yld_field fi84_3 rfl (ev_t rfl)) ?_)
        refine Ops.step (One.val rfl rfl rfl (yld_loadN ag31 rfl (ev_t rfl) (fun _ => F4.range (m := 5) (cs' := [_, _, _, _, _]) 0 rfl rfl) rfl) ?_)
        refine Ops.step (One.call rfl rfl rfl (ent_f rfl (evl2 (ev_t rfl) (ev_t rfl)) (enters en15)) (eqVal_ct now now' _ _ _ (hnow.chg F4.chg) (hnow'.chg F4.chg)) (fun e w5 hw5 => ?_))
        obtain ⟨rfl, C5⟩ := hw5
        have F5 := F4.call C5
        refine ⟨_, rfl, ?_⟩
        refine Ops.step (One.val rfl rfl rfl (yld_not rfl (ev_t rfl)) ?_)
        refine Ops.nil fun a hS => ?_
        refine hK12 _ _ ?_ a hS
        refine Cod.cond rfl (fun hc27 => ?_) (fun hc27 => ?_)
        · skip
          refine Cod.seq fun K13 hK13 => ?_
          refine Cod.region ?_
          refine Ops.step (One.val rfl rfl rfl (yld_assign rfl ev_c) ?_)
          refine Ops.nil fun a hS => ?_
          refine hK13 _ _ ?_ a hS
          refine Cod.ret fun a hS => ?_
          try simp only [Exit.then, Exit.inBlock]
          exact ret1 (t := 4) rfl hS rfl ⟨by simp_all, F5.chg⟩
        · skip
          refine Cod.skip fun a hS => ?_
          refine hK11 _ _ ?_ a hS
          refine Cod.seq fun K14 hK14 => ?_
          refine Cod.seq fun K15 hK15 => ?_
          refine Cod.region ?_
          refine Ops.step (One.val rfl rfl rfl (yld_field fi84_4 rfl (ev_t rfl)) ?_)
          refine Ops.step (One.val rfl rfl rfl (yld_load1 on4 rfl (ev_t rfl) (fun _ => F5.cell 1 rfl rfl)) ?_)
          refine Ops.step (One.val rfl rfl rfl (yld_field fi84_4 rfl (ev_t rfl)) ?_)
          refine Ops.step (One.val rfl rfl rfl (yld_load1 on4 rfl (ev_t rfl) (fun _ => F5.cell 0 rfl rfl)) ?_)
          refine Ops.step (One.val rfl rfl rfl (yld_bneq Try.underlying4 rfl (ev_t rfl) (ev_t rfl)) ?_)
          refine Ops.nil fun a hS => ?_
          refine hK15 _ _ ?_ a hS
          refine Cod.cond rfl (fun hc32 => ?_) (fun hc32 => ?_)
          · skip
            refine Cod.seq fun K16 hK16 => ?_
            refine Cod.region ?_
            refine Ops.step (One.val rfl rfl rfl (yld_assign rfl ev_c) ?_)
            refine Ops.nil fun a hS => ?_
            refine hK16 _ _ ?_ a hS
            refine Cod.ret fun a hS => ?_
            try simp only [Exit.then, Exit.inBlock]
            exact ret1 (t := 4) rfl hS rfl ⟨by simp_all, F5.chg⟩
          · skip
            refine Cod.skip fun a hS => ?_
            refine hK14 _ _ ?_ a hS
            refine Cod.seq fun K17 hK17 => ?_
            refine Cod.region ?_
            refine Ops.step (One.val rfl rfl rfl (yld_assign rfl ev_c) ?_)
            refine Ops.nil fun a hS => ?_
            refine hK17 _ _ ?_ a hS
            refine Cod.ret fun a hS => ?_
            try simp only [Exit.then, Exit.inBlock]
            exact ret1 (t := 4) rfl hS rfl ⟨by simp_all, F5.chg⟩

set_option maxRecDepth 100000 in
theorem eqEditS_ct (p q : List Ed) (v v' : Value) (w : World) (hp : RepDL Any w p v) (hq : RepDL Any w q v') :
    Calls Try.prog 23 #[v, v'] w fun e w' => e = .returned (.bool (decide (p = q))) ∧ Chg No w w' := by
  obtain ⟨A, c, rfl, hn⟩ := hp.open
  obtain ⟨A', c', rfl, hn'⟩ := hq.open
  refine enter Try.func23 rfl rfl rfl ?_
  have F0 := Fr.start w
  refine Cod.seq fun K1 hK1 => ?_
  refine Cod.region ?_
  refine Ops.step (One.val rfl rfl rfl (yld_assign rfl ev_c) ?_)
  refine Ops.nil fun a hS => ?_
  refine hK1 _ _ ?_ a hS
  refine Cod.seq fun K2 hK2 => ?_
  refine Cod.seq fun K3 hK3 => ?_
  refine Cod.region ?_
  refine Ops.step (One.val rfl rfl rfl (yld_move rfl (ev_t rfl)) ?_)
  refine Ops.step (One.val rfl rfl rfl (yld_len sl41 rfl (ev_t rfl)) ?_)
  refine Ops.step (One.val rfl rfl rfl (yld_move rfl (ev_t rfl)) ?_)
  refine Ops.step (One.val rfl rfl rfl (yld_len sl41 rfl (ev_t rfl)) ?_)
  refine Ops.step (One.val rfl rfl rfl (yld_neq rfl (ev_t rfl) (ev_t rfl)) ?_)
  refine Ops.nil fun a hS => ?_
  refine hK3 _ _ ?_ a hS
  refine Cod.cond rfl (fun hc10 => ?_) (fun hc10 => ?_)
  · skip
    have hne : p ≠ q := by rintro rfl; simp at hc10
    refine Cod.seq fun K4 hK4 => ?_
    refine Cod.region ?_
    refine Ops.step (One.val rfl rfl rfl (yld_assign rfl ev_c) ?_)
    refine Ops.nil fun a hS => ?_
    refine hK4 _ _ ?_ a hS
    refine Cod.ret fun a hS => ?_
    try simp only [Exit.then, Exit.inBlock]
    exact ret1 (t := 4) rfl hS rfl ⟨by rw [decide_eq_false hne], F0.chg⟩
  · skip
    have hlen : p.length = q.length := by simp at hc10; omega
    refine Cod.skip fun a hS => ?_
    refine hK2 _ _ ?_ a hS
    refine Cod.seq fun K5 hK5 => ?_
    refine Cod.seq fun K6 hK6 => ?_
    refine Cod.region ?_
    refine Ops.step (One.val rfl rfl rfl (yld_assign rfl ev_c) ?_)
    refine Ops.nil fun a hS => ?_
    refine hK6 _ _ ?_ a hS
    refine Cod.block ?_
    refine Cod.loop (fun i : Nat => [(0, true, .slice A p.length c), (1, true, .slice A' q.length c'), (5, true, .int .i64 (i : Int))]) (fun i w' => i ≤ p.length ∧ (∀ j (h1 : j < p.length) (h2 : j < q.length), j < i → p[j] = q[j]) ∧ Fr No w [] w') (fun i => p.length - i) 0 ⟨rfl, rfl, rfl, trivial⟩ ⟨Nat.zero_le _, fun j _ _ h => by omega, F0⟩ ?_
    intro i w1 hW K7 hK7
    obtain ⟨hi, hall, F1⟩ := hW
    refine Cod.seq fun K8 hK8 => ?_
    refine Cod.seq fun K9 hK9 => ?_
    refine Cod.region ?_
    refine Ops.step (One.val rfl rfl rfl (yld_move rfl (ev_t rfl)) ?_)
    refine Ops.step (One.val rfl rfl rfl (yld_move rfl (ev_t rfl)) ?_)
    refine Ops.step (One.val rfl rfl rfl (yld_len sl41 rfl (ev_t rfl)) ?_)
    refine Ops.step (One.val rfl rfl rfl (yld_lss rfl (ev_t rfl) (ev_t rfl)) ?_)
    refine Ops.nil fun a hS => ?_
    refine hK9 _ _ ?_ a hS
    refine Cod.cond rfl (fun hc14 => ?_) (fun hc14 => ?_)
    · skip
      have hi : i < p.length := by simpa using hc14
      have hi2 : i < q.length := by omega
      obtain ⟨b, o, x, rfl, -, hr, ht⟩ := hp.at i hi
      obtain ⟨b2, o2, x2, rfl, -, hr2, ht2⟩ := hq.at i hi2
      refine Cod.skip fun a hS => ?_
      refine hK8 _ _ ?_ a hS
      refine Cod.seq fun K10 hK10 => ?_
      refine Cod.block ?_
      refine Cod.seq fun K11 hK11 => ?_
      have F2 := F1.drew
      refine Cod.draw (C_of F2) (by kernel_rfl) ?_
      refine Hops.take 0 rfl (by kernel_rfl) (fun _ _ _ h => h) rfl rfl rfl F2 (fun w F => (yld_move rfl (ev_t rfl))) ?_
      refine Hops.take 1 rfl (by kernel_rfl) (fun _ _ _ h => h) rfl rfl rfl F2 (fun w F => (yld_move rfl (ev_t rfl))) ?_
      refine Hops.take 2 rfl (by kernel_rfl) (fun _ _ _ h => h) rfl rfl rfl F2 (fun w F => (yld_indexN sl41 rfl (ev_t rfl) (ev_t rfl) (fun _ => by omega))) ?_
      refine Hops.take 3 rfl (by kernel_rfl) (fun _ _ _ h => h) rfl rfl rfl F2 (fun w F => (yld_loadN ag84 rfl (ev_t rfl) (fun _ => rng hr F.chg) rfl)) ?_
      refine Hops.take 4 rfl (by kernel_rfl) (fun _ _ _ h => h) rfl rfl rfl F2 (fun w F => (yld_move rfl (ev_t rfl))) ?_
      refine Hops.take 5 rfl (by kernel_rfl) (fun _ _ _ h => h) rfl rfl rfl F2 (fun w F => (yld_move rfl (ev_t rfl))) ?_
      refine Hops.take 6 rfl (by kernel_rfl) (fun _ _ _ h => h) rfl rfl rfl F2 (fun w F => (yld_indexN sl41 rfl (ev_t rfl) (ev_t rfl) (fun _ => by omega))) ?_
      refine Hops.take 7 rfl (by kernel_rfl) (fun _ _ _ h => h) rfl rfl rfl F2 (fun w F => (yld_loadN ag84 rfl (ev_t rfl) (fun _ => rng hr2 F.chg) rfl)) ?_
      refine Hops.one 8 rfl (by kernel_rfl) (One.call rfl rfl rfl (ent_f rfl (evl2 (ev_t rfl) (ev_t rfl)) (enters en65)) (eqEdit_ct p[i] q[i] x x2 _ (ht.chg F2.chg) (ht2.chg F2.chg)) (fun e w2 hw2 => ?_))
      obtain ⟨rfl, C2⟩ := hw2
      have F3 := F2.call C2
      refine ⟨_, rfl, ?_⟩
      refine ⟨F3, ?_⟩
      refine Hops.take 9 rfl (by kernel_rfl) (fun _ _ _ h => h) rfl rfl rfl F3 (fun w F => (yld_not rfl (ev_t rfl))) ?_
      refine Hops.nil (by kernel_rfl) fun a hS => ?_
      refine hK11 _ _ ?_ a hS
      refine Cod.cond rfl (fun hc26 => ?_) (fun hc26 => ?_)
      · skip
        have hne : p ≠ q := by rintro rfl; simp at hc26
        refine Cod.seq fun K12 hK12 => ?_
        refine Cod.region ?_
        refine Ops.step (One.val rfl rfl rfl (yld_assign rfl ev_c) ?_)
        refine Ops.nil fun a hS => ?_
        refine hK12 _ _ ?_ a hS
        refine Cod.ret fun a hS => ?_
        try simp only [Exit.then, Exit.inBlock]
        exact ret1 (t := 4) rfl hS rfl ⟨by rw [decide_eq_false hne], F3.chg⟩
      · skip
        have hsame : p[i] = q[i] := by simpa using hc26
        refine Cod.skip fun a hS => ?_
        refine hK10 _ _ ?_ a hS
        refine Cod.region ?_
        refine Ops.step (One.val rfl rfl rfl (yld_move rfl (ev_t rfl)) ?_)
        refine Ops.step (One.val rfl rfl rfl (yld_inc rfl (ev_t rfl) (fun _ => by omega)) ?_)
        refine Ops.step (One.val rfl rfl rfl (yld_assign rfl (ev_t rfl)) ?_)
        refine Ops.nil fun a hS => ?_
        exact hK7 (i + 1) _ a (hS.sub ⟨rfl, rfl, rfl, trivial⟩) ⟨by omega, fun j h1 h2 hji => if h : j = i then (by subst h; exact hsame) else hall j h1 h2 (by omega), F3⟩ (by omega)
    · skip
      have heq : p = q := list_eq_of hlen fun j h1 h2 => hall j h1 h2 (by simp at hc14; omega)
      refine Cod.exit fun a hS => ?_
      simp only [Exit.then, Exit.inBlock, ↓reduceIte]
      refine hK5 _ _ ?_ a hS
      refine Cod.seq fun K13 hK13 => ?_
      refine Cod.region ?_
      refine Ops.step (One.val rfl rfl rfl (yld_assign rfl ev_c) ?_)
      refine Ops.nil fun a hS => ?_
      refine hK13 _ _ ?_ a hS
      refine Cod.ret fun a hS => ?_
      try simp only [Exit.then, Exit.inBlock]
      exact ret1 (t := 4) rfl hS rfl ⟨by rw [decide_eq_true heq], F1.chg⟩

set_option maxRecDepth 100000 in
theorem toEdit_ct (e : Ed) (x : V13) (w : World) (h : RepD Any w e x) (hw : e.wt ≤ 1048576) :
    Calls Try.prog 62 #[x.val] w fun ee w' => ∃ x' G, ee = .returned x'.val ∧ Chg No w w' ∧ (repD G e x').is w' ∧ ∀ k, G k → w.heap.size ≤ k := by
  obtain ⟨ax, ⟨y1, y2, y3, y4, y5⟩, hx, ⟨z1, z2, z3, z4, z5⟩, kx⟩ := x
  obtain ⟨hp, hwas, ehx, hnow, ekx⟩ := h
  dsimp only at hp hwas ehx hnow ekx
  subst ehx
  subst ekx
  have hew := edwt e
  refine enter Try.func62 rfl rfl rfl ?_
  have F0 := Fr.start w
  refine Cod.seq fun K1 hK1 => ?_
  refine Cod.region ?_
  refine Ops.step (One.box F0 rfl rfl rfl rfl (ev_t rfl) ?_)
  intro b1 w1 hb1 F1
  change Fr _ _ [blk _ _ [_, _, _, _, _, _, _, _, _, _, _, _, _]] _ at F1
  refine Ops.step (One.alloc F1 zero84 rfl rfl rfl rfl ?_)
  intro b2 w2 hb2 F2
  change Fr _ _ [blk _ _ [_, _, _, _, _, _, _, _, _, _, _, _, _], blk _ _ [_, _, _, _, _, _, _, _, _, _, _, _, _]] _ at F2
  refine Ops.nil fun a hS => ?_
  refine hK1 _ _ ?_ a hS
  refine Cod.seq fun K2 hK2 => ?_
  refine Cod.region ?_
  refine Ops.step (One.alloc F2 zero84 rfl rfl rfl rfl ?_)
  intro b3 w3 hb3 F3
  change Fr _ _ [blk _ _ [_, _, _, _, _, _, _, _, _, _, _, _, _], blk _ _ [_, _, _, _, _, _, _, _, _, _, _, _, _], blk _ _ [_, _, _, _, _, _, _, _, _, _, _, _, _]] _ at F3
  refine Ops.nil fun a hS => ?_
  refine hK2 _ _ ?_ a hS
  refine Cod.seq fun K3 hK3 => ?_
  refine Cod.region ?_
  refine Ops.step (One.val rfl rfl rfl (yld_field fi81_0 rfl (ev_t rfl)) ?_)
  refine Ops.step (One.val rfl rfl rfl (yld_load1 on79 rfl (ev_t rfl) (fun _ => F3.cell 2 rfl rfl)) ?_)
  refine Ops.step (One.call rfl rfl rfl (ent_f rfl (evl1 (ev_t rfl)) (enters en114)) (toStepS_ct e.p _ _ (hp.chg F3.chg) (by omega)) (fun e w4 hw4 => ?_))
  obtain ⟨u, rfl, C4, ho, hob⟩ := hw4
  have F4 := F3.new C4 (own _ 3 u e.p.length _) ho hob
  refine ⟨_, rfl, ?_⟩
  refine Ops.step (One.val rfl rfl rfl (yld_field fi84_0 rfl (ev_t rfl)) ?_)
  refine Ops.step (One.store1 F4 1 rfl sz46 rfl rfl rfl (ev_t rfl) rfl (ev_t rfl) (own_one ho) ?_)
  intro w5 F5
  change Fr _ _ [_, blk _ _ [_, _, _, _, _, _, _, _, _, _, _, _, _], blk _ _ [_, _, _, _, _, _, _, _, _, _, _, _, _], blk _ _ [_, _, _, _, _, _, _, _, _, _, _, _, _]] _ at F5
  refine Ops.nil fun a hS => ?_
  refine hK3 _ _ ?_ a hS
  refine Cod.seq fun K4 hK4 => ?_
  refine Cod.region ?_
  refine Ops.step (One.val rfl rfl rfl (yld_field fi81_1 rfl (ev_t rfl)) ?_)
  refine Ops.step (One.val rfl rfl rfl (yld_loadN ag25 rfl (ev_t rfl) (fun _ => F5.range (m := 5) (cs' := [_, _, _, _, _]) 3 rfl rfl) rfl) ?_)
  refine Ops.step (One.call rfl rfl rfl (ent_f rfl (evl1 (ev_t rfl)) (enters en12)) (toVal_ct e.was _ _ (hwas.chg F5.chg) (by omega)) (fun e w6 hw6 => ?_))
  obtain ⟨x1, G1, rfl, C6, hs1, hb1⟩ := hw6
  have F6 := F5.new C6 (sep G1 e.was x1.val) hs1 hb1
  refine ⟨_, rfl, ?_⟩
  refine Ops.step (One.val rfl rfl rfl (yld_field fi84_1 rfl (ev_t rfl)) ?_)
  refine Ops.step (One.storeN (vs := [_, _, _, _, _]) F6 2 rfl sz31 rfl rfl rfl (ev_t rfl) (ev_t rfl) rfl rfl hs1.one ?_)
  intro w7 F7
  change Fr _ _ [_, _, blk _ _ [_, _, _, _, _, _, _, _, _, _, _, _, _], blk _ _ [_, _, _, _, _, _, _, _, _, _, _, _, _], blk _ _ [_, _, _, _, _, _, _, _, _, _, _, _, _]] _ at F7
  refine Ops.nil fun a hS => ?_
  refine hK4 _ _ ?_ a hS
  refine Cod.seq fun K5 hK5 => ?_
  refine Cod.region ?_
  refine Ops.step (One.val rfl rfl rfl (yld_field fi81_2 rfl (ev_t rfl)) ?_)
  refine Ops.step (One.val rfl rfl rfl (yld_load1 on4 rfl (ev_t rfl) (fun _ => F7.cell 4 rfl rfl)) ?_)
  refine Ops.step (One.val rfl rfl rfl (yld_field fi84_2 rfl (ev_t rfl)) ?_)
  refine Ops.step (One.store1 F7 2 rfl sz4 rfl rfl rfl (ev_t rfl) rfl (ev_t rfl) rfl ?_)
  intro w8 F8
  change Fr _ _ [_, _, blk _ _ [_, _, _, _, _, _, _, _, _, _, _, _, _], blk _ _ [_, _, _, _, _, _, _, _, _, _, _, _, _], blk _ _ [_, _, _, _, _, _, _, _, _, _, _, _, _]] _ at F8
  refine Ops.nil fun a hS => ?_
  refine hK5 _ _ ?_ a hS
  refine Cod.seq fun K6 hK6 => ?_
  refine Cod.region ?_
  refine Ops.step (One.val rfl rfl rfl (yld_field fi81_3 rfl (ev_t rfl)) ?_)
  refine Ops.step (One.val rfl rfl rfl (yld_loadN ag25 rfl (ev_t rfl) (fun _ => F8.range (m := 5) (cs' := [_, _, _, _, _]) 4 rfl rfl) rfl) ?_)
  refine Ops.step (One.call rfl rfl rfl (ent_f rfl (evl1 (ev_t rfl)) (enters en12)) (toVal_ct e.now _ _ (hnow.chg F8.chg) (by omega)) (fun e w9 hw9 => ?_))
  obtain ⟨x2, G2, rfl, C9, hs2, hb2⟩ := hw9
  have F9 := F8.new C9 (sep G2 e.now x2.val) hs2 hb2
  refine ⟨_, rfl, ?_⟩
  refine Ops.step (One.val rfl rfl rfl (yld_field fi84_3 rfl (ev_t rfl)) ?_)
  refine Ops.step (One.storeN (vs := [_, _, _, _, _]) F9 3 rfl sz31 rfl rfl rfl (ev_t rfl) (ev_t rfl) rfl rfl hs2.one ?_)
  intro w10 F10
  change Fr _ _ [_, _, _, blk _ _ [_, _, _, _, _, _, _, _, _, _, _, _, _], blk _ _ [_, _, _, _, _, _, _, _, _, _, _, _, _], blk _ _ [_, _, _, _, _, _, _, _, _, _, _, _, _]] _ at F10
  refine Ops.nil fun a hS => ?_
  refine hK6 _ _ ?_ a hS
  refine Cod.seq fun K7 hK7 => ?_
  refine Cod.region ?_
  refine Ops.step (One.val rfl rfl rfl (yld_field fi81_4 rfl (ev_t rfl)) ?_)
  refine Ops.step (One.val rfl rfl rfl (yld_load1 on4 rfl (ev_t rfl) (fun _ => F10.cell 5 rfl rfl)) ?_)
  refine Ops.step (One.val rfl rfl rfl (yld_field fi84_4 rfl (ev_t rfl)) ?_)
  refine Ops.step (One.store1 F10 3 rfl sz4 rfl rfl rfl (ev_t rfl) rfl (ev_t rfl) rfl ?_)
  intro w11 F11
  change Fr _ _ [_, _, _, blk _ _ [_, _, _, _, _, _, _, _, _, _, _, _, _], blk _ _ [_, _, _, _, _, _, _, _, _, _, _, _, _], blk _ _ [_, _, _, _, _, _, _, _, _, _, _, _, _]] _ at F11
  refine Ops.nil fun a hS => ?_
  refine hK7 _ _ ?_ a hS
  refine Cod.seq fun K8 hK8 => ?_
  refine Cod.region ?_
  refine Ops.step (One.val rfl rfl rfl (yld_loadN ag84 rfl (ev_t rfl) (fun _ => F11.range (m := 13) (cs' := [_, _, _, _, _, _, _, _, _, _, _, _, _]) 3 rfl rfl) rfl) ?_)
  refine Ops.step (One.storeN (vs := [_, _, _, _, _, _, _, _, _, _, _, _, _]) F11 4 rfl sz84 rfl rfl rfl (ev_t rfl) (ev_t rfl) rfl rfl (RepD.cells (F := Any) (e := ⟨e.p, e.was, e.had, e.now, e.has⟩) (x := ⟨u, x1, .bool e.had, x2, .bool e.has⟩) ⟨ownP (F11.get 2 rfl), (F11.get 1 rfl : Sep _ _ _ _).rep, rfl, (F11.get 0 rfl : Sep _ _ _ _).rep, rfl⟩) ?_)
  intro w12 F12
  change Fr _ _ [_, _, _, blk _ _ [_, _, _, _, _, _, _, _, _, _, _, _, _], blk _ _ [_, _, _, _, _, _, _, _, _, _, _, _, _], blk _ _ [_, _, _, _, _, _, _, _, _, _, _, _, _]] _ at F12
  refine Ops.nil fun a hS => ?_
  refine hK8 _ _ ?_ a hS
  refine Cod.ret fun a hS => ?_
  try simp only [Exit.then, Exit.inBlock]
  have hF := Fr.toRepD (had := e.had) (has := e.has) (((F12.pull 2 rfl).pull (1 + 1) rfl).pull (0 + 2) rfl)
  exact retc (t := 2) (ty := 84) rfl hS ag84 rfl (F12.range (m := 13) (cs' := [_, _, _, _, _, _, _, _, _, _, _, _, _]) 4 rfl rfl) rfl ⟨⟨u, x1, .bool e.had, x2, .bool e.has⟩, _, rfl, hF.chg, hF.get 0 rfl, fun b hb => (hF.dom _ (List.mem_cons_self ..) b hb).resolve_left id⟩

set_option maxRecDepth 100000 in
theorem toEditS_ct (p : List Ed) (v : Value) (w : World) (hp : RepDL Any w p v) (hn : p.length + sumN Ed.wt p ≤ 1048576) :
    Calls Try.prog 21 #[v] w fun e w' => ∃ v' F, e = .returned v' ∧ Chg No w w' ∧ (repDL F p v').is w' ∧ ∀ k, F k → w.heap.size ≤ k := by
  obtain ⟨A, c, rfl, -⟩ := hp.open
  refine enter Try.func21 rfl rfl rfl ?_
  have F0 := Fr.start w
  refine Cod.seq fun K1 hK1 => ?_
  refine Cod.region ?_
  refine Ops.step (One.val rfl rfl rfl (yld_assign rfl ev_c) ?_)
  refine Ops.nil fun a hS => ?_
  refine hK1 _ _ ?_ a hS
  refine Cod.seq fun K2 hK2 => ?_
  refine Cod.region ?_
  refine Ops.step (One.val rfl rfl rfl (yld_move rfl (ev_t rfl)) ?_)
  refine Ops.step (One.val rfl rfl rfl (yld_len sl38 rfl (ev_t rfl)) ?_)
  refine Ops.step (One.make (enc := enc13) (sz := 13) z13 F0 sl41 zero84 rfl rfl (fun _ => rfl) rfl rfl rfl rfl (ev_t rfl) (ev_t rfl) (by omega) (by omega) ?_)
  intro b1 w1 hb1 F1
  refine Ops.step (One.val rfl rfl rfl (yld_assign rfl (ev_t rfl)) ?_)
  refine Ops.nil fun a hS => ?_
  refine hK2 _ _ ?_ a hS
  refine Cod.seq fun K3 hK3 => ?_
  refine Cod.seq fun K4 hK4 => ?_
  refine Cod.region ?_
  refine Ops.step (One.val rfl rfl rfl (yld_assign rfl ev_c) ?_)
  refine Ops.nil fun a hS => ?_
  refine hK4 _ _ ?_ a hS
  refine Cod.block ?_
  refine Cod.loop (fun i : Nat × List V13 × (Nat → Prop) => [(0, true, .slice A p.length c), (3, true, .slice (some ⟨b1, 0, none⟩) p.length p.length), (4, true, .int .i64 (i.1 : Int))]) (fun i w' => i.1 ≤ p.length ∧ i.2.1.length = p.length ∧ Fr No w [own 84 13 (.slice (some ⟨b1, 0, none⟩) p.length p.length) p.length (i.2.1.flatMap enc13), kidsD i.2.2 (p.take i.1) i.2.1] w') (fun i => p.length - i.1) (0, List.replicate p.length z13, No) ⟨rfl, rfl, rfl, trivial⟩ ⟨Nat.zero_le _, by simp, F1.kidsD0⟩ ?_
  intro i w2 hW K5 hK5
  obtain ⟨i, xs, G⟩ := i
  obtain ⟨hi, hxl, F2⟩ := hW
  dsimp only at *
  refine Cod.seq fun K6 hK6 => ?_
  refine Cod.seq fun K7 hK7 => ?_
  refine Cod.region ?_
  refine Ops.step (One.val rfl rfl rfl (yld_move rfl (ev_t rfl)) ?_)
  refine Ops.step (One.val rfl rfl rfl (yld_move rfl (ev_t rfl)) ?_)
  refine Ops.step (One.val rfl rfl rfl (yld_len sl38 rfl (ev_t rfl)) ?_)
  refine Ops.step (One.val rfl rfl rfl (yld_lss rfl (ev_t rfl) (ev_t rfl)) ?_)
  refine Ops.nil fun a hS => ?_
  refine hK7 _ _ ?_ a hS
  refine Cod.cond rfl (fun hc11 => ?_) (fun hc11 => ?_)
  · skip
    have hi : i < p.length := by simpa using hc11
    obtain ⟨b, o, x, rfl, -, hr, ht⟩ := hp.at i hi
    have hwi := sumN_mem Ed.wt (List.getElem_mem hi)
    refine Cod.skip fun a hS => ?_
    refine hK6 _ _ ?_ a hS
    refine Cod.seq fun K8 hK8 => ?_
    refine Cod.block ?_
    refine Cod.region ?_
    refine Ops.step (One.val rfl rfl rfl (yld_move rfl (ev_t rfl)) ?_)
    refine Ops.step (One.val rfl rfl rfl (yld_move rfl (ev_t rfl)) ?_)
    refine Ops.step (One.val rfl rfl rfl (yld_move rfl (ev_t rfl)) ?_)
    refine Ops.step (One.val rfl rfl rfl (yld_move rfl (ev_t rfl)) ?_)
    refine Ops.step (One.val rfl rfl rfl (yld_indexN sl38 rfl (ev_t rfl) (ev_t rfl) (fun _ => by omega)) ?_)
    refine Ops.step (One.val rfl rfl rfl (yld_loadN ag81 rfl (ev_t rfl) (fun _ => rng hr F2.chg) rfl) ?_)
    refine Ops.step (One.call rfl rfl rfl (ent_f rfl (evl1 (ev_t rfl)) (enters en62)) (toEdit_ct p[i] x _ (ht.chg F2.chg) (by omega)) (fun e w3 hw3 => ?_))
    obtain ⟨x2, Fc, rfl, C3, hsep, hFc0⟩ := hw3
    have F3 := F2.new C3 (repD Fc p[i] x2) hsep hFc0
    refine ⟨_, rfl, ?_⟩
    refine Ops.step (One.val rfl rfl rfl (yld_indexN sl41 rfl (ev_t rfl) (ev_t rfl) (fun _ => by omega)) ?_)
    refine Ops.step (One.storeRow (enc := enc13) x2 (fun _ => rfl) F3 1 rfl hxl (by omega) sz84 rfl rfl rfl rfl (ev_t rfl) (ev_t rfl) hsep.1.cells ?_)
    intro w4 F4
    change Fr _ _ [_, _, _] _ at F4
    refine Ops.nil fun a hS => ?_
    refine hK8 _ _ ?_ a hS
    refine Cod.region ?_
    refine Ops.step (One.val rfl rfl rfl (yld_move rfl (ev_t rfl)) ?_)
    refine Ops.step (One.val rfl rfl rfl (yld_inc rfl (ev_t rfl) (fun _ => by omega)) ?_)
    refine Ops.step (One.val rfl rfl rfl (yld_assign rfl (ev_t rfl)) ?_)
    refine Ops.nil fun a hS => ?_
    have hx1 : (p.take i).length = i := by simp; omega
    have hF := F4.kidDIn (xs' := xs.set i x2) (by rw [hx1]; exact set_get_self (by omega)) (fun j hj => set_get_ne (by omega))
    rw [show p.take i ++ [p[i]] = p.take (i + 1) from (List.take_succ_eq_append_getElem hi).symm] at hF
    exact hK5 (i + 1, xs.set i x2, fun b => G b ∨ Fc b) _ a (hS.sub ⟨rfl, rfl, rfl, trivial⟩) ⟨by show i + 1 ≤ _; omega, by simp [hxl], hF⟩ (by show p.length - (i + 1) < p.length - i; omega)
  · skip
    obtain rfl : i = p.length := by simp at hc11; omega
    rw [List.take_length] at F2
    refine Cod.exit fun a hS => ?_
    simp only [Exit.then, Exit.inBlock, ↓reduceIte]
    refine hK3 _ _ ?_ a hS
    refine Cod.seq fun K9 hK9 => ?_
    refine Cod.region ?_
    refine Ops.step (One.val rfl rfl rfl (yld_move rfl (ev_t rfl)) ?_)
    refine Ops.step (One.val rfl rfl rfl (yld_assign rfl (ev_t rfl)) ?_)
    refine Ops.nil fun a hS => ?_
    refine hK9 _ _ ?_ a hS
    refine Cod.ret fun a hS => ?_
    try simp only [Exit.then, Exit.inBlock]
    rw [← hxl] at F2
    have hF := Fr.toRepDL F2 hxl
    exact ret1 (t := 2) rfl hS rfl ⟨_, _, by rw [hxl], hF.chg, hF.get 0 rfl, fun k hk => (hF.dom _ (List.mem_cons_self ..) k hk).resolve_left id⟩

end Go.Proofs.Ytodbflfelimppaa.Eng
