/- Walks of both EditOk: edits are ok just if each is and they are few enough. -/
import Derived.Test.YtodbflfelimppaaEdts
namespace Go.Proofs.Ytodbflfelimppaa.Eng
open Go.RowKit
set_option linter.unusedVariables false
set_option linter.unusedSimpArgs false
set_option maxHeartbeats 1000000


def lastM (p : List Stp) : Bool := match p.getLast? with | some s => s.m | none => false
theorem lastM_eq {p : List Stp} (h : 0 < p.length) : lastM p = (p[p.length - 1]'(by omega)).m := by
  unfold lastM
  rw [List.getLast?_eq_getElem?, List.getElem?_eq_getElem (by omega)]
theorem last_cell {F : Nat → Prop} {w : World} {p : List Stp} {A : Option Addr} {m c : Nat} (h : RepP F w p (.slice A m c)) : ∃ b o, (0 < p.length → A = some ⟨b, o, none⟩) ∧ ∀ w', Chg No w w' → 0 < p.length → w'.cell? ⟨b, o + (p.length - 1) * 3 + 0, none⟩ = some (.bool (lastM p)) := by
  by_cases hp : 0 < p.length
  · obtain ⟨b, o, e, -, hr⟩ := h.at (p.length - 1) (by omega)
    exact ⟨b, o, fun _ => e, fun w' hc _ => by rw [lastM_eq hp]; exact rangeAt_cell (rng hr hc) (j := 0) rfl⟩
  · exact ⟨0, 0, fun h => absurd h hp, fun _ _ h => absurd h hp⟩
theorem last_or (p : List Stp) : (decide ((p.length : Int) - 1 < 0) || !(lastM p)) = !(lastM p) := by
  by_cases h : 0 < p.length
  · rw [decide_eq_false (by omega), Bool.false_or]
  · obtain rfl : p = [] := List.eq_nil_of_length_eq_zero (by omega)
    rfl
noncomputable def Ed.ok (e : Ed) : Bool := pathOk e.p && okT e.was && okT e.now && (e.had || decide (e.was.kind = 0)) && (e.has || decide (e.now.kind = 0)) && (e.had || e.has) && ((e.had && e.has) || lastM e.p)
noncomputable def edsOk (l : List Ed) : Bool := l.all Ed.ok && decide (l.length ≤ 60)
theorem okF (t : Tr) : (decide (Form 6 t) && decide ((t.cnt : Int) ≤ 60)) = okT t := rfl

set_option maxRecDepth 100000 in
theorem l5Edit_ct (e : Ed) (x : V13) (w : World) (h : RepD Any w e x) (hf : e.Fit) (hw : e.wt ≤ 1048576) :
    Calls Try.prog 61 #[x.val] w fun ee w' => ee = .returned (.bool e.ok) ∧ Chg No w w' := by
  have hew := edwt e
  obtain ⟨hf1, hf2, hf3⟩ := hf
  obtain ⟨ax, ⟨y1, y2, y3, y4, y5⟩, hx, ⟨z1, z2, z3, z4, z5⟩, kx⟩ := x
  obtain ⟨hp, hwas, ehx, hnow, ekx⟩ := h
  dsimp only at hp hwas ehx hnow ekx
  subst ehx
  subst ekx
  obtain ⟨A, c, rfl, hnp⟩ := hp.open
  obtain ⟨lb, lo, hlA, hlc⟩ := last_cell hp
  obtain ⟨yA, yB, ey, hy3, hy4⟩ := hwas.form
  obtain ⟨zA, zB, ez, hz3, hz4⟩ := hnow.form
  simp only [V5.val, Value.agg.injEq, Array.mk.injEq, List.cons.injEq, and_true] at ey ez
  obtain ⟨rfl, rfl, rfl, rfl, rfl⟩ := ey
  obtain ⟨rfl, rfl, rfl, rfl, rfl⟩ := ez
  obtain ⟨p, was, had, now, has⟩ := e
  dsimp only at *
  refine enter Try.func61 rfl rfl rfl ?_
  have F0 := Fr.start w
  refine Cod.seq fun K1 hK1 => ?_
  refine Cod.region ?_
  refine Ops.step (One.box F0 rfl rfl rfl rfl (ev_t rfl) ?_)
  intro b1 w1 hb1 F1
  change Fr _ _ [blk _ _ [_, _, _, _, _, _, _, _, _, _, _, _, _]] _ at F1
  refine Ops.step (One.val rfl rfl rfl (yld_assign rfl ev_c) ?_)
  refine Ops.nil fun a hS => ?_
  refine hK1 _ _ ?_ a hS
  refine Cod.seq fun K2 hK2 => ?_
  refine Cod.seq fun K3 hK3 => ?_
  refine Cod.region ?_
  refine Ops.step (One.val rfl rfl rfl (yld_field fi84_0 rfl (ev_t rfl)) ?_)
  refine Ops.step (One.val rfl rfl rfl (yld_load1 on46 rfl (ev_t rfl) (fun _ => F1.cell 0 rfl rfl)) ?_)
  refine Ops.step (One.call rfl rfl rfl (ent_f rfl (evl1 (ev_t rfl)) (enters en71)) (specPathOk_ct p _ _ (hp.chg F1.chg) hf1) (fun e w2 hw2 => ?_))
  obtain ⟨rfl, C2⟩ := hw2
  have F2 := F1.call C2
  refine ⟨_, rfl, ?_⟩
  refine Ops.step (One.val rfl rfl rfl (yld_not rfl (ev_t rfl)) ?_)
  refine Ops.step (One.val rfl rfl rfl (yld_move rfl (ev_t rfl)) ?_)
  refine Ops.step (One.val (gd_some rfl rfl) rfl rfl (yld_field fi84_1 rfl (ev_t rfl)) ?_)
  refine Ops.step (One.val (gd_some rfl rfl) rfl rfl (yld_loadN ag31 rfl (ev_g rfl) (fun _ => F2.range (m := 5) (cs' := [_, _, _, _, _]) 0 rfl rfl) rfl) ?_)
  refine Ops.step (One.gcall (R := Chg No w2) (gd_some rfl rfl) rfl rfl (ent_f rfl (evl1 (ev_g rfl)) (enters en42)) (Chg.refl _ _) (fun hg => specOk_ct was _ _ (hwas.chg F2.chg) hf2 (by omega)) ?_)
  intro w3 C3
  have F3 := F2.call C3
  refine Ops.step (One.val (gd_some rfl rfl) rfl rfl (yld_not rfl (ev_g rfl)) ?_)
  refine Ops.step (One.val rfl rfl rfl (yld_or rfl (ev_t rfl) (ev_g rfl)) ?_)
  refine Ops.step (One.val rfl rfl rfl (yld_move rfl (ev_t rfl)) ?_)
  refine Ops.step (One.val (gd_some rfl rfl) rfl rfl (yld_field fi84_3 rfl (ev_t rfl)) ?_)
  refine Ops.step (One.val (gd_some rfl rfl) rfl rfl (yld_loadN ag31 rfl (ev_g rfl) (fun _ => F3.range (m := 5) (cs' := [_, _, _, _, _]) 0 rfl rfl) rfl) ?_)
  refine Ops.step (One.gcall (R := Chg No w3) (gd_some rfl rfl) rfl rfl (ent_f rfl (evl1 (ev_g rfl)) (enters en42)) (Chg.refl _ _) (fun hg => specOk_ct now _ _ (hnow.chg F3.chg) hf3 (by omega)) ?_)
  intro w4 C4
  have F4 := F3.call C4
  refine Ops.step (One.val (gd_some rfl rfl) rfl rfl (yld_not rfl (ev_g rfl)) ?_)
  refine Ops.step (One.val rfl rfl rfl (yld_or rfl (ev_t rfl) (ev_g rfl)) ?_)
  refine Ops.step (One.val rfl rfl rfl (yld_move rfl (ev_t rfl)) ?_)
  refine Ops.step (One.val (gd_some rfl rfl) rfl rfl (yld_field fi84_2 rfl (ev_t rfl)) ?_)
  refine Ops.step (One.val (gd_some rfl rfl) rfl rfl (yld_load1 on4 rfl (ev_g rfl) (fun _ => F4.cell 0 rfl rfl)) ?_)
  refine Ops.step (One.val (gd_some rfl rfl) rfl rfl (yld_not rfl (ev_g rfl)) ?_)
  refine Ops.step (One.val (gd_some rfl rfl) rfl rfl (yld_move rfl (ev_g rfl)) ?_)
  refine Ops.step (One.val (gd_some rfl rfl) rfl rfl (yld_field fi84_1 rfl (ev_t rfl)) ?_)
  refine Ops.step (One.val (gd_some rfl rfl) rfl rfl (yld_field fi31_0 rfl (ev_g rfl)) ?_)
  refine Ops.step (One.val (gd_some rfl rfl) rfl rfl (yld_load1 on3 rfl (ev_g rfl) (fun _ => F4.cell 0 rfl rfl)) ?_)
  refine Ops.step (One.val (gd_some rfl rfl) rfl rfl (yld_neq rfl (ev_g rfl) ev_c) ?_)
  refine Ops.step (One.val (gd_some rfl rfl) rfl rfl (yld_and rfl (ev_g rfl) (ev_g rfl)) ?_)
  refine Ops.step (One.val rfl rfl rfl (yld_or rfl (ev_t rfl) (ev_g rfl)) ?_)
  refine Ops.step (One.val rfl rfl rfl (yld_move rfl (ev_t rfl)) ?_)
  refine Ops.step (One.val (gd_some rfl rfl) rfl rfl (yld_field fi84_4 rfl (ev_t rfl)) ?_)
  refine Ops.step (One.val (gd_some rfl rfl) rfl rfl (yld_load1 on4 rfl (ev_g rfl) (fun _ => F4.cell 0 rfl rfl)) ?_)
  refine Ops.step (One.val (gd_some rfl rfl) rfl rfl (yld_not rfl (ev_g rfl)) ?_)
  refine Ops.step (One.val (gd_some rfl rfl) rfl rfl (yld_move rfl (ev_g rfl)) ?_)
  refine Ops.step (One.val (gd_some rfl rfl) rfl rfl (yld_field fi84_3 rfl (ev_t rfl)) ?_)
  refine Ops.step (One.val (gd_some rfl rfl) rfl rfl (yld_field fi31_0 rfl (ev_g rfl)) ?_)
  refine Ops.step (One.val (gd_some rfl rfl) rfl rfl (yld_load1 on3 rfl (ev_g rfl) (fun _ => F4.cell 0 rfl rfl)) ?_)
  refine Ops.step (One.val (gd_some rfl rfl) rfl rfl (yld_neq rfl (ev_g rfl) ev_c) ?_)
  refine Ops.step (One.val (gd_some rfl rfl) rfl rfl (yld_and rfl (ev_g rfl) (ev_g rfl)) ?_)
  refine Ops.step (One.val rfl rfl rfl (yld_or rfl (ev_t rfl) (ev_g rfl)) ?_)
  refine Ops.step (One.val rfl rfl rfl (yld_move rfl (ev_t rfl)) ?_)
  refine Ops.step (One.val (gd_some rfl rfl) rfl rfl (yld_field fi84_2 rfl (ev_t rfl)) ?_)
  refine Ops.step (One.val (gd_some rfl rfl) rfl rfl (yld_load1 on4 rfl (ev_g rfl) (fun _ => F4.cell 0 rfl rfl)) ?_)
  refine Ops.step (One.val (gd_some rfl rfl) rfl rfl (yld_not rfl (ev_g rfl)) ?_)
  refine Ops.step (One.val (gd_some rfl rfl) rfl rfl (yld_move rfl (ev_g rfl)) ?_)
  refine Ops.step (One.val (gd_some rfl rfl) rfl rfl (yld_field fi84_4 rfl (ev_t rfl)) ?_)
  refine Ops.step (One.val (gd_some rfl rfl) rfl rfl (yld_load1 on4 rfl (ev_g rfl) (fun _ => F4.cell 0 rfl rfl)) ?_)
  refine Ops.step (One.val (gd_some rfl rfl) rfl rfl (yld_not rfl (ev_g rfl)) ?_)
  refine Ops.step (One.val (gd_some rfl rfl) rfl rfl (yld_and rfl (ev_g rfl) (ev_g rfl)) ?_)
  refine Ops.step (One.val rfl rfl rfl (yld_or rfl (ev_t rfl) (ev_g rfl)) ?_)
  refine Ops.nil fun a hS => ?_
  refine hK3 _ _ ?_ a hS
  refine Cod.cond rfl (fun hc50 => ?_) (fun hc50 => ?_)
  · skip
    have hno : (Ed.mk p was had now has).ok = false := by
      simp only [okF] at hc50
      unfold Ed.ok
      dsimp only
      cases had <;> cases has <;> cases h1 : pathOk p <;> cases h2 : okT was <;> cases h3 : okT now <;> simp_all
    refine Cod.seq fun K4 hK4 => ?_
    refine Cod.region ?_
    refine Ops.step (One.val rfl rfl rfl (yld_assign rfl ev_c) ?_)
    refine Ops.nil fun a hS => ?_
    refine hK4 _ _ ?_ a hS
    refine Cod.ret fun a hS => ?_
    try simp only [Exit.then, Exit.inBlock]
    exact ret1 (t := 2) rfl hS rfl ⟨by rw [hno], F4.chg⟩
  · skip
    have hyes : (Ed.mk p was had now has).ok = ((had && has) || lastM p) := by
      simp only [okF] at hc50
      unfold Ed.ok
      dsimp only
      cases had <;> cases has <;> cases h1 : pathOk p <;> cases h2 : okT was <;> cases h3 : okT now <;> simp_all
    refine Cod.skip fun a hS => ?_
    refine hK2 _ _ ?_ a hS
    refine Cod.seq fun K5 hK5 => ?_
    refine Cod.region ?_
    refine Ops.step (One.val rfl rfl rfl (yld_field fi84_2 rfl (ev_t rfl)) ?_)
    refine Ops.step (One.val rfl rfl rfl (yld_load1 on4 rfl (ev_t rfl) (fun _ => F4.cell 0 rfl rfl)) ?_)
    refine Ops.step (One.val rfl rfl rfl (yld_move rfl (ev_t rfl)) ?_)
    refine Ops.step (One.val (gd_some rfl rfl) rfl rfl (yld_field fi84_4 rfl (ev_t rfl)) ?_)
    refine Ops.step (One.val (gd_some rfl rfl) rfl rfl (yld_load1 on4 rfl (ev_g rfl) (fun _ => F4.cell 0 rfl rfl)) ?_)
    refine Ops.step (One.val rfl rfl rfl (yld_and rfl (ev_t rfl) (ev_g rfl)) ?_)
    refine Ops.step (One.val rfl rfl rfl (yld_move rfl (ev_t rfl)) ?_)
    refine Ops.step (One.val (gd_some rfl rfl) rfl rfl (yld_field fi84_0 rfl (ev_t rfl)) ?_)
    refine Ops.step (One.val (gd_some rfl rfl) rfl rfl (yld_load1 on46 rfl (ev_g rfl) (fun _ => F4.cell 0 rfl rfl)) ?_)
    refine Ops.step (One.val (gd_some rfl rfl) rfl rfl (yld_len sl46 rfl (ev_g rfl)) ?_)
    refine Ops.step (One.val (gd_some rfl rfl) rfl rfl (yld_gtr rfl (ev_g rfl) ev_c) ?_)
    refine Ops.step (One.val (gd_some rfl rfl) rfl rfl (yld_move rfl (ev_g rfl)) ?_)
    refine Ops.step (One.val (gd_some rfl rfl) rfl rfl (yld_field fi84_0 rfl (ev_t rfl)) ?_)
    refine Ops.step (One.val (gd_some rfl rfl) rfl rfl (yld_load1 on46 rfl (ev_g rfl) (fun _ => F4.cell 0 rfl rfl)) ?_)
    refine Ops.step (One.val (gd_some rfl rfl) rfl rfl (yld_field fi84_0 rfl (ev_t rfl)) ?_)
    refine Ops.step (One.val (gd_some rfl rfl) rfl rfl (yld_load1 on46 rfl (ev_g rfl) (fun _ => F4.cell 0 rfl rfl)) ?_)
    refine Ops.step (One.val (gd_some rfl rfl) rfl rfl (yld_len sl46 rfl (ev_g rfl)) ?_)
    refine Ops.step (One.val (gd_some rfl rfl) rfl rfl (Yld.cast (v' := .int .i64 ((p.length - 1 : Nat) : Int)) (yld_sub rfl (ev_g rfl) ev_c (fun _ => by omega)) (fun hg => by
      have h0 : 0 < p.length := by simp [gof] at hg; omega
      rw [show ((p.length - 1 : Nat) : Int) = (p.length : Int) - 1 by omega])) ?_)
    refine Ops.step (One.val (gd_some rfl rfl) rfl rfl (yld_indexG (b := lb) (q := lo) (i := p.length - 1) sl46 rfl (ev_g rfl) (ev_g rfl) (fun hg => hlA (by simp [gof] at hg; omega)) (fun hg => by have h0 : 0 < p.length := (by simp [gof] at hg; omega); omega)) ?_)
    refine Ops.step (One.val (gd_some rfl rfl) rfl rfl (yld_field fi52_0 rfl (ev_g rfl)) ?_)
    refine Ops.step (One.val (gd_some rfl rfl) rfl rfl (yld_load1 on4 rfl (ev_g rfl) (fun hg => hlc _ F4.chg (by simp [gof] at hg; omega))) ?_)
    refine Ops.step (One.val (gd_some rfl rfl) rfl rfl (yld_and rfl (ev_g rfl) (ev_g rfl)) ?_)
    refine Ops.step (One.val rfl rfl rfl (yld_or rfl (ev_t rfl) (ev_g rfl)) ?_)
    refine Ops.step (One.val rfl rfl rfl (yld_assign rfl (ev_t rfl)) ?_)
    refine Ops.nil fun a hS => ?_
    refine hK5 _ _ ?_ a hS
    refine Cod.ret fun a hS => ?_
    try simp only [Exit.then, Exit.inBlock]
    exact ret1 (t := 2) rfl hS rfl ⟨ret_b (by rw [hyes]; cases had <;> cases has <;> simp <;> (cases p <;> simp [lastM])), F4.chg⟩

set_option maxRecDepth 100000 in
theorem specEdOk_ct (l : List Ed) (v : Value) (w : World) (hl : RepDL Any w l v) (hs : ∀ e ∈ l, e.Fit) (hw : ∀ e ∈ l, e.wt ≤ 1048576) :
    Calls Try.prog 20 #[v] w fun e w' => e = .returned (.bool (edsOk l)) ∧ Chg No w w' := by
  obtain ⟨A, c, rfl, hn⟩ := hl.open
  refine enter Try.func20 rfl rfl rfl ?_
  have F0 := Fr.start w
  refine Cod.seq fun K1 hK1 => ?_
  refine Cod.region ?_
  refine Ops.step (One.val rfl rfl rfl (yld_assign rfl ev_c) ?_)
  refine Ops.nil fun a hS => ?_
  refine hK1 _ _ ?_ a hS
  refine Cod.seq fun K2 hK2 => ?_
  refine Cod.seq fun K3 hK3 => ?_
  refine Cod.region ?_
  refine Ops.step (One.val rfl rfl rfl (yld_assign rfl ev_c) ?_)
  refine Ops.nil fun a hS => ?_
  refine hK3 _ _ ?_ a hS
  refine Cod.block ?_
  refine Cod.loop (fun i : Nat => [(0, true, .slice A l.length c), (3, true, .int .i64 (i : Int))]) (fun i w' => i ≤ l.length ∧ (∀ j (h1 : j < l.length), j < i → l[j].ok = true) ∧ Fr No w [] w') (fun i => l.length - i) 0 ⟨rfl, rfl, trivial⟩ ⟨Nat.zero_le _, fun j _ h => by omega, F0⟩ ?_
  intro i w1 hW K4 hK4
  obtain ⟨hi, hall, F1⟩ := hW
  refine Cod.seq fun K5 hK5 => ?_
  refine Cod.seq fun K6 hK6 => ?_
  refine Cod.region ?_
  refine Ops.step (One.val rfl rfl rfl (yld_move rfl (ev_t rfl)) ?_)
  refine Ops.step (One.val rfl rfl rfl (yld_move rfl (ev_t rfl)) ?_)
  refine Ops.step (One.val rfl rfl rfl (yld_len sl41 rfl (ev_t rfl)) ?_)
  refine Ops.step (One.val rfl rfl rfl (yld_lss rfl (ev_t rfl) (ev_t rfl)) ?_)
  refine Ops.nil fun a hS => ?_
  refine hK6 _ _ ?_ a hS
  refine Cod.cond rfl (fun hc7 => ?_) (fun hc7 => ?_)
  · skip
    have hi : i < l.length := by simpa using hc7
    obtain ⟨b, o, x, rfl, -, hr, ht⟩ := hl.at i hi
    refine Cod.skip fun a hS => ?_
    refine hK5 _ _ ?_ a hS
    refine Cod.seq fun K7 hK7 => ?_
    refine Cod.block ?_
    refine Cod.seq fun K8 hK8 => ?_
    refine Cod.region ?_
    refine Ops.step (One.val rfl rfl rfl (yld_move rfl (ev_t rfl)) ?_)
    refine Ops.step (One.val rfl rfl rfl (yld_move rfl (ev_t rfl)) ?_)
    refine Ops.step (One.val rfl rfl rfl (yld_indexN sl41 rfl (ev_t rfl) (ev_t rfl) (fun _ => by omega)) ?_)
    refine Ops.step (One.val rfl rfl rfl (yld_loadN ag84 rfl (ev_t rfl) (fun _ => rng hr F1.chg) rfl) ?_)
    refine Ops.step (One.call rfl rfl rfl (ent_f rfl (evl1 (ev_t rfl)) (enters en61)) (l5Edit_ct l[i] x _ (ht.chg F1.chg) (hs _ (List.getElem_mem hi)) (hw _ (List.getElem_mem hi))) (fun e w2 hw2 => ?_))
    obtain ⟨rfl, C2⟩ := hw2
    have F2 := F1.call C2
    refine ⟨_, rfl, ?_⟩
    refine Ops.step (One.val rfl rfl rfl (yld_not rfl (ev_t rfl)) ?_)
    refine Ops.nil fun a hS => ?_
    refine hK8 _ _ ?_ a hS
    refine Cod.cond rfl (fun hc15 => ?_) (fun hc15 => ?_)
    · skip
      refine Cod.seq fun K9 hK9 => ?_
      refine Cod.region ?_
      refine Ops.step (One.val rfl rfl rfl (yld_assign rfl ev_c) ?_)
      refine Ops.nil fun a hS => ?_
      refine hK9 _ _ ?_ a hS
      refine Cod.ret fun a hS => ?_
      try simp only [Exit.then, Exit.inBlock]
      exact ret1 (t := 2) rfl hS rfl ⟨ret_b (by unfold edsOk; rw [all_not i hi (by simpa using hc15)]; rfl), F2.chg⟩
    · skip
      refine Cod.skip fun a hS => ?_
      refine hK7 _ _ ?_ a hS
      refine Cod.region ?_
      refine Ops.step (One.val rfl rfl rfl (yld_move rfl (ev_t rfl)) ?_)
      refine Ops.step (One.val rfl rfl rfl (yld_inc rfl (ev_t rfl) (fun _ => by omega)) ?_)
      refine Ops.step (One.val rfl rfl rfl (yld_assign rfl (ev_t rfl)) ?_)
      refine Ops.nil fun a hS => ?_
      exact hK4 (i + 1) _ a (hS.sub ⟨rfl, rfl, trivial⟩) ⟨by omega, fun j h1 hji => if h : j = i then (by subst h; simpa using hc15) else hall j h1 (by omega), F2⟩ (by omega)
  · skip
    have heq : l.all Ed.ok = true := all_of fun j h1 => hall j h1 (by simp at hc7; omega)
    refine Cod.exit fun a hS => ?_
    simp only [Exit.then, Exit.inBlock, ↓reduceIte]
    refine hK2 _ _ ?_ a hS
    refine Cod.seq fun K10 hK10 => ?_
    refine Cod.region ?_
    refine Ops.step (One.val rfl rfl rfl (yld_move rfl (ev_t rfl)) ?_)
    refine Ops.step (One.val rfl rfl rfl (yld_len sl41 rfl (ev_t rfl)) ?_)
    refine Ops.step (One.val rfl rfl rfl (yld_leq rfl (ev_t rfl) ev_c) ?_)
    refine Ops.step (One.val rfl rfl rfl (yld_assign rfl (ev_t rfl)) ?_)
    refine Ops.nil fun a hS => ?_
    refine hK10 _ _ ?_ a hS
    refine Cod.ret fun a hS => ?_
    try simp only [Exit.then, Exit.inBlock]
    exact ret1 (t := 2) rfl hS rfl ⟨ret_b (by unfold edsOk; rw [heq, Bool.true_and]; exact decide_eq_decide.2 (by omega)), F1.chg⟩

set_option maxRecDepth 100000 in
theorem none_ct (t : Tr) (v : Value) (w : World) (hr : Rep Any w t v) :
    Calls Try.prog 64 #[v] w fun e w' => e = .returned (.bool (decide (t = .mk 0 0 ⟨#[]⟩ [] []))) ∧ Chg No w w' := by
  obtain ⟨v3, v4, ev, h3, h4⟩ := hr.form
  subst ev
  refine enter Try.func64 rfl rfl rfl ?_
  have F0 := Fr.start w
  refine Cod.seq fun K1 hK1 => ?_
  refine Cod.region ?_
  refine Ops.step (One.box F0 rfl rfl rfl rfl (ev_t rfl) ?_)
  intro b1 w1 hb1 F1
  change Fr _ _ [blk _ _ [_, _, _, _, _]] _ at F1
  refine Ops.step (One.val rfl rfl rfl (yld_assign rfl ev_c) ?_)
  refine Ops.nil fun a hS => ?_
  refine hK1 _ _ ?_ a hS
  refine Cod.seq fun K2 hK2 => ?_
  refine Cod.region ?_
  refine Ops.step (One.val rfl rfl rfl (yld_loadN ag31 rfl (ev_t rfl) (fun _ => F1.range (m := 5) (cs' := [_, _, _, _, _]) 0 rfl rfl) rfl) ?_)
  refine Ops.step (One.val rfl rfl rfl (yld_build (cells := [.int .i64 0, .int .i64 0, .string ⟨#[]⟩, .slice none 0 0, .slice none 0 0]) rfl (evp0) (by kernel_rfl)) ?_)
  refine Ops.step (One.call rfl rfl rfl (ent_f rfl (evl2 (ev_t rfl) (ev_t rfl)) (enters en27)) (valSame_ct t (.mk 0 0 ⟨#[]⟩ [] []) _ _ _ (hr.chg F1.chg) (Rep.close (RepE.nil _ _) (RepL.nil _ _))) (fun e w2 hw2 => ?_))
  obtain ⟨rfl, C2⟩ := hw2
  have F2 := F1.call C2
  refine ⟨_, rfl, ?_⟩
  refine Ops.step (One.val rfl rfl rfl (yld_assign rfl (ev_t rfl)) ?_)
  refine Ops.nil fun a hS => ?_
  refine hK2 _ _ ?_ a hS
  refine Cod.ret fun a hS => ?_
  try simp only [Exit.then, Exit.inBlock]
  exact ret1 (t := 2) rfl hS rfl ⟨rfl, F2.chg⟩


theorem ok_none {t : Tr} (h : okT t = true) : decide (t = .mk 0 0 ⟨#[]⟩ [] []) = decide (t.kind = 0) := by
  rw [decide_eq_decide]
  constructor
  · rintro rfl; rfl
  · intro h0
    obtain ⟨k, n, s, ks, l⟩ := t
    have hk : k = 0 := h0
    have hp := (Form.iff.1 (okT_node h).1).2.1
    have e1 := hp.z3 (by omega)
    have e2 := hp.z4 (by omega)
    have e3 := hp.z6 (by omega)
    have e4 := hp.z5 (by omega)
    rw [hk, e1, e2, e3, e4]

set_option maxRecDepth 100000 in
theorem edOk_ct (l : List Ed) (v : Value) (w : World) (hl : RepDL Any w l v) (hs : ∀ e ∈ l, e.Fit) :
    Calls Try.prog 22 #[v] w fun e w' => e = .returned (.bool (edsOk l)) ∧ Chg No w w' := by
  obtain ⟨A, c, rfl, hn⟩ := hl.open
  refine enter Try.func22 rfl rfl rfl ?_
  have F0 := Fr.start w
  refine Cod.seq fun K1 hK1 => ?_
  refine Cod.region ?_
  refine Ops.step (One.val rfl rfl rfl (yld_assign rfl ev_c) ?_)
  refine Ops.nil fun a hS => ?_
  refine hK1 _ _ ?_ a hS
  refine Cod.seq fun K2 hK2 => ?_
  refine Cod.seq fun K3 hK3 => ?_
  refine Cod.region ?_
  refine Ops.step (One.val rfl rfl rfl (yld_move rfl (ev_t rfl)) ?_)
  refine Ops.step (One.val rfl rfl rfl (yld_len sl41 rfl (ev_t rfl)) ?_)
  refine Ops.step (One.val rfl rfl rfl (yld_move rfl ev_c) ?_)
  refine Ops.nil fun a hS => ?_
  refine hK3 _ _ ?_ a hS
  refine Cod.block ?_
  refine Cod.loop (fun i : Nat => [(0, true, .slice A l.length c), (6, true, .slice A l.length c), (7, true, .int .i64 (l.length : Int)), (8, true, .int .i64 (i : Int))]) (fun i w' => i ≤ l.length ∧ (∀ j (h1 : j < l.length), j < i → l[j].ok = true) ∧ Fr No w [] w') (fun i => l.length - i) 0 ⟨rfl, rfl, rfl, rfl, trivial⟩ ⟨Nat.zero_le _, fun j _ h => by omega, F0⟩ ?_
  intro i w1 hW K4 hK4
  obtain ⟨hi, hall, F1⟩ := hW
  refine Cod.seq fun K5 hK5 => ?_
  refine Cod.region ?_
  refine Ops.step (One.val rfl rfl rfl (yld_lss rfl (ev_t rfl) (ev_t rfl)) ?_)
  refine Ops.nil fun a hS => ?_
  refine hK5 _ _ ?_ a hS
  refine Cod.seq fun K6 hK6 => ?_
  refine Cod.cond rfl (fun hc9 => ?_) (fun hc9 => ?_)
  · skip
    have hi : i < l.length := by simpa using hc9
    obtain ⟨b, o, x, rfl, -, hr, ht⟩ := hl.at i hi
    obtain ⟨ax, ⟨y1, y2, y3, y4, y5⟩, hx, ⟨z1, z2, z3, z4, z5⟩, kx⟩ := x
    have hcl := ht.cells
    obtain ⟨hp, hwas, ehx, hnow, ekx⟩ := ht
    dsimp only at hp hwas ehx hnow ekx
    subst ehx
    subst ekx
    obtain ⟨hf1, hf2, hf3⟩ := hs _ (List.getElem_mem hi)
    obtain ⟨e, hei⟩ : ∃ e, l[i] = e := ⟨_, rfl⟩
    rw [hei] at hp hwas hnow hf1 hf2 hf3 hcl hr
    obtain ⟨pA, pc, rfl, hnp⟩ := hp.open
    obtain ⟨lb, lo, hlA, hlc⟩ := last_cell hp
    obtain ⟨p, was, had, now, has⟩ := e
    dsimp only at hp hwas hnow hf1 hf2 hf3 hcl hr hnp hlA hlc
    refine Cod.skip fun a hS => ?_
    refine hK6 _ _ ?_ a hS
    refine Cod.seq fun K7 hK7 => ?_
    refine Cod.block ?_
    refine Cod.seq fun K8 hK8 => ?_
    refine Cod.region ?_
    refine Ops.step (One.val rfl rfl rfl (yld_indexN sl41 rfl (ev_t rfl) (ev_t rfl) (fun _ => by omega)) ?_)
    refine Ops.step (One.val rfl rfl rfl (yld_loadN ag84 rfl (ev_t rfl) (fun _ => rng hr F1.chg) rfl) ?_)
    refine Ops.step (One.alloc F1 zero84 rfl rfl rfl rfl ?_)
    intro b1 w2 hb1 F2
    change Fr _ _ [blk _ _ [_, _, _, _, _, _, _, _, _, _, _, _, _]] _ at F2
    refine Ops.step (One.storeN (vs := [_, _, _, _, _, _, _, _, _, _, _, _, _]) F2 0 rfl sz84 rfl rfl rfl (ev_t rfl) (ev_t rfl) rfl rfl hcl ?_)
    intro w3 F3
    change Fr _ _ [blk _ _ [_, _, _, _, _, _, _, _, _, _, _, _, _]] _ at F3
    refine Ops.nil fun a hS => ?_
    refine hK8 _ _ ?_ a hS
    refine Cod.seq fun K9 hK9 => ?_
    refine Cod.seq fun K10 hK10 => ?_
    refine Cod.region ?_
    refine Ops.step (One.val rfl rfl rfl (yld_field fi84_0 rfl (ev_t rfl)) ?_)
    refine Ops.step (One.val rfl rfl rfl (yld_load1 on46 rfl (ev_t rfl) (fun _ => F3.cell 0 rfl rfl)) ?_)
    refine Ops.step (One.call rfl rfl rfl (ent_f rfl (evl1 (ev_t rfl)) (enters en63)) (PathOk_ct p _ _ (hp.chg F3.chg) hf1) (fun e w4 hw4 => ?_))
    obtain ⟨rfl, C4⟩ := hw4
    have F4 := F3.call C4
    refine ⟨_, rfl, ?_⟩
    refine Ops.step (One.val rfl rfl rfl (yld_not rfl (ev_t rfl)) ?_)
    refine Ops.step (One.val rfl rfl rfl (yld_move rfl (ev_t rfl)) ?_)
    refine Ops.step (One.val (gd_some rfl rfl) rfl rfl (yld_field fi84_1 rfl (ev_t rfl)) ?_)
    refine Ops.step (One.val (gd_some rfl rfl) rfl rfl (yld_loadN ag31 rfl (ev_g rfl) (fun _ => F4.range (m := 5) (cs' := [_, _, _, _, _]) 0 rfl rfl) rfl) ?_)
    refine Ops.step (One.gcall (R := Chg No w4) (gd_some rfl rfl) rfl rfl (ent_f rfl (evl1 (ev_g rfl)) (enters en43)) (Chg.refl _ _) (fun hg => valOk_ct was _ _ (hwas.chg F4.chg) hf2) ?_)
    intro w5 C5
    have F5 := F4.call C5
    refine Ops.step (One.val (gd_some rfl rfl) rfl rfl (yld_not rfl (ev_g rfl)) ?_)
    refine Ops.step (One.val rfl rfl rfl (yld_or rfl (ev_t rfl) (ev_g rfl)) ?_)
    refine Ops.step (One.val rfl rfl rfl (yld_move rfl (ev_t rfl)) ?_)
    refine Ops.step (One.val (gd_some rfl rfl) rfl rfl (yld_field fi84_3 rfl (ev_t rfl)) ?_)
    refine Ops.step (One.val (gd_some rfl rfl) rfl rfl (yld_loadN ag31 rfl (ev_g rfl) (fun _ => F5.range (m := 5) (cs' := [_, _, _, _, _]) 0 rfl rfl) rfl) ?_)
    refine Ops.step (One.gcall (R := Chg No w5) (gd_some rfl rfl) rfl rfl (ent_f rfl (evl1 (ev_g rfl)) (enters en43)) (Chg.refl _ _) (fun hg => valOk_ct now _ _ (hnow.chg F5.chg) hf3) ?_)
    intro w6 C6
    have F6 := F5.call C6
    refine Ops.step (One.val (gd_some rfl rfl) rfl rfl (yld_not rfl (ev_g rfl)) ?_)
    refine Ops.step (One.val rfl rfl rfl (yld_or rfl (ev_t rfl) (ev_g rfl)) ?_)
    refine Ops.step (One.val rfl rfl rfl (yld_move rfl (ev_t rfl)) ?_)
    refine Ops.step (One.val (gd_some rfl rfl) rfl rfl (yld_field fi84_2 rfl (ev_t rfl)) ?_)
    refine Ops.step (One.val (gd_some rfl rfl) rfl rfl (yld_load1 on4 rfl (ev_g rfl) (fun _ => F6.cell 0 rfl rfl)) ?_)
    refine Ops.step (One.val (gd_some rfl rfl) rfl rfl (yld_not rfl (ev_g rfl)) ?_)
    refine Ops.step (One.val (gd_some rfl rfl) rfl rfl (yld_move rfl (ev_g rfl)) ?_)
    refine Ops.step (One.val (gd_some rfl rfl) rfl rfl (yld_field fi84_4 rfl (ev_t rfl)) ?_)
    refine Ops.step (One.val (gd_some rfl rfl) rfl rfl (yld_load1 on4 rfl (ev_g rfl) (fun _ => F6.cell 0 rfl rfl)) ?_)
    refine Ops.step (One.val (gd_some rfl rfl) rfl rfl (yld_not rfl (ev_g rfl)) ?_)
    refine Ops.step (One.val (gd_some rfl rfl) rfl rfl (yld_and rfl (ev_g rfl) (ev_g rfl)) ?_)
    refine Ops.step (One.val rfl rfl rfl (yld_or rfl (ev_t rfl) (ev_g rfl)) ?_)
    refine Ops.step (One.val rfl rfl rfl (yld_move rfl (ev_t rfl)) ?_)
    refine Ops.step (One.val (gd_some rfl rfl) rfl rfl (yld_field fi84_2 rfl (ev_t rfl)) ?_)
    refine Ops.step (One.val (gd_some rfl rfl) rfl rfl (yld_load1 on4 rfl (ev_g rfl) (fun _ => F6.cell 0 rfl rfl)) ?_)
    refine Ops.step (One.val (gd_some rfl rfl) rfl rfl (yld_not rfl (ev_g rfl)) ?_)
    refine Ops.step (One.val (gd_some rfl rfl) rfl rfl (yld_move rfl (ev_g rfl)) ?_)
    refine Ops.step (One.val (gd_some rfl rfl) rfl rfl (yld_field fi84_1 rfl (ev_t rfl)) ?_)
    refine Ops.step (One.val (gd_some rfl rfl) rfl rfl (yld_loadN ag31 rfl (ev_g rfl) (fun _ => F6.range (m := 5) (cs' := [_, _, _, _, _]) 0 rfl rfl) rfl) ?_)
    refine Ops.step (One.gcall (R := Chg No w6) (gd_some rfl rfl) rfl rfl (ent_f rfl (evl1 (ev_g rfl)) (enters en64)) (Chg.refl _ _) (fun hg => none_ct was _ _ (hwas.chg F6.chg)) ?_)
    intro w7 C7
    have F7 := F6.call C7
    refine Ops.step (One.val (gd_some rfl rfl) rfl rfl (yld_not rfl (ev_g rfl)) ?_)
    refine Ops.step (One.val (gd_some rfl rfl) rfl rfl (yld_and rfl (ev_g rfl) (ev_g rfl)) ?_)
    refine Ops.step (One.val rfl rfl rfl (yld_or rfl (ev_t rfl) (ev_g rfl)) ?_)
    refine Ops.step (One.val rfl rfl rfl (yld_move rfl (ev_t rfl)) ?_)
    refine Ops.step (One.val (gd_some rfl rfl) rfl rfl (yld_field fi84_4 rfl (ev_t rfl)) ?_)
    refine Ops.step (One.val (gd_some rfl rfl) rfl rfl (yld_load1 on4 rfl (ev_g rfl) (fun _ => F7.cell 0 rfl rfl)) ?_)
    refine Ops.step (One.val (gd_some rfl rfl) rfl rfl (yld_not rfl (ev_g rfl)) ?_)
    refine Ops.step (One.val (gd_some rfl rfl) rfl rfl (yld_move rfl (ev_g rfl)) ?_)
    refine Ops.step (One.val (gd_some rfl rfl) rfl rfl (yld_field fi84_3 rfl (ev_t rfl)) ?_)
    refine Ops.step (One.val (gd_some rfl rfl) rfl rfl (yld_loadN ag31 rfl (ev_g rfl) (fun _ => F7.range (m := 5) (cs' := [_, _, _, _, _]) 0 rfl rfl) rfl) ?_)
    refine Ops.step (One.gcall (R := Chg No w7) (gd_some rfl rfl) rfl rfl (ent_f rfl (evl1 (ev_g rfl)) (enters en64)) (Chg.refl _ _) (fun hg => none_ct now _ _ (hnow.chg F7.chg)) ?_)
    intro w8 C8
    have F8 := F7.call C8
    refine Ops.step (One.val (gd_some rfl rfl) rfl rfl (yld_not rfl (ev_g rfl)) ?_)
    refine Ops.step (One.val (gd_some rfl rfl) rfl rfl (yld_and rfl (ev_g rfl) (ev_g rfl)) ?_)
    refine Ops.step (One.val rfl rfl rfl (yld_or rfl (ev_t rfl) (ev_g rfl)) ?_)
    refine Ops.nil fun a hS => ?_
    refine hK10 _ _ ?_ a hS
    refine Cod.cond rfl (fun hc59 => ?_) (fun hc59 => ?_)
    · skip
      have hno : (Ed.mk p was had now has).ok = false := by
        simp only [okF] at hc59
        unfold Ed.ok
        dsimp only
        cases h2 : okT was <;> cases h3 : okT now <;> first
          | (cases had <;> cases has <;> cases h1 : pathOk p <;> simp_all; done)
          | (rw [ok_none h2, ok_none h3] at hc59; cases had <;> cases has <;> cases h1 : pathOk p <;> simp_all)
      refine Cod.seq fun K11 hK11 => ?_
      refine Cod.region ?_
      refine Ops.step (One.val rfl rfl rfl (yld_assign rfl ev_c) ?_)
      refine Ops.nil fun a hS => ?_
      refine hK11 _ _ ?_ a hS
      refine Cod.ret fun a hS => ?_
      try simp only [Exit.then, Exit.inBlock]
      exact ret1 (t := 2) rfl hS rfl ⟨ret_b (by unfold edsOk; rw [all_not i hi (by rw [hei]; exact hno)]; rfl), F8.chg⟩
    · skip
      have hyes : (Ed.mk p was had now has).ok = ((had && has) || lastM p) := by
        simp only [okF] at hc59
        unfold Ed.ok
        dsimp only
        cases h2 : okT was <;> cases h3 : okT now <;> first
          | (cases had <;> cases has <;> cases h1 : pathOk p <;> simp_all; done)
          | (rw [ok_none h2, ok_none h3] at hc59; cases had <;> cases has <;> cases h1 : pathOk p <;> simp_all)
      refine Cod.skip fun a hS => ?_
      refine hK9 _ _ ?_ a hS
      refine Cod.seq fun K12 hK12 => ?_
      refine Cod.region ?_
      refine Ops.step (One.val rfl rfl rfl (yld_field fi84_0 rfl (ev_t rfl)) ?_)
      refine Ops.step (One.val rfl rfl rfl (yld_load1 on46 rfl (ev_t rfl) (fun _ => F8.cell 0 rfl rfl)) ?_)
      refine Ops.step (One.val rfl rfl rfl (yld_len sl46 rfl (ev_t rfl)) ?_)
      refine Ops.step (One.val rfl rfl rfl (yld_sub rfl (ev_t rfl) ev_c (fun _ => by omega)) ?_)
      refine Ops.step (One.val rfl rfl rfl (yld_assign rfl (ev_t rfl)) ?_)
      refine Ops.nil fun a hS => ?_
      refine hK12 _ _ ?_ a hS
      refine Cod.seq fun K13 hK13 => ?_
      refine Cod.region ?_
      refine Ops.step (One.val rfl rfl rfl (yld_field fi84_2 rfl (ev_t rfl)) ?_)
      refine Ops.step (One.val rfl rfl rfl (yld_load1 on4 rfl (ev_t rfl) (fun _ => F8.cell 0 rfl rfl)) ?_)
      refine Ops.step (One.val rfl rfl rfl (yld_not rfl (ev_t rfl)) ?_)
      refine Ops.step (One.val rfl rfl rfl (yld_move rfl (ev_t rfl)) ?_)
      refine Ops.step (One.val (gd_some rfl rfl) rfl rfl (yld_field fi84_4 rfl (ev_t rfl)) ?_)
      refine Ops.step (One.val (gd_some rfl rfl) rfl rfl (yld_load1 on4 rfl (ev_g rfl) (fun _ => F8.cell 0 rfl rfl)) ?_)
      refine Ops.step (One.val (gd_some rfl rfl) rfl rfl (yld_not rfl (ev_g rfl)) ?_)
      refine Ops.step (One.val rfl rfl rfl (yld_or rfl (ev_t rfl) (ev_g rfl)) ?_)
      refine Ops.step (One.val rfl rfl rfl (yld_move rfl (ev_t rfl)) ?_)
      refine Ops.step (One.val (gd_some rfl rfl) rfl rfl (yld_move rfl (ev_t rfl)) ?_)
      refine Ops.step (One.val (gd_some rfl rfl) rfl rfl (yld_lss rfl (ev_g rfl) ev_c) ?_)
      refine Ops.step (One.val (gd_some rfl rfl) rfl rfl (yld_move rfl (ev_g rfl)) ?_)
      refine Ops.step (One.val (gd_some rfl rfl) rfl rfl (yld_field fi84_0 rfl (ev_t rfl)) ?_)
      refine Ops.step (One.val (gd_some rfl rfl) rfl rfl (yld_load1 on46 rfl (ev_g rfl) (fun _ => F8.cell 0 rfl rfl)) ?_)
      refine Ops.step (One.val (gd_some rfl rfl) rfl rfl (Yld.cast (v' := .int .i64 ((p.length - 1 : Nat) : Int)) (yld_move rfl (ev_t rfl)) (fun hg => by
      have h0 : 0 < p.length := by simp [gof] at hg; omega
      rw [show ((p.length - 1 : Nat) : Int) = (p.length : Int) - 1 by omega])) ?_)
      refine Ops.step (One.val (gd_some rfl rfl) rfl rfl (yld_indexG (b := lb) (q := lo) (i := p.length - 1) sl46 rfl (ev_g rfl) (ev_g rfl) (fun hg => hlA (by simp [gof] at hg; omega)) (fun hg => by have h0 : 0 < p.length := (by simp [gof] at hg; omega); omega)) ?_)
      refine Ops.step (One.val (gd_some rfl rfl) rfl rfl (yld_field fi52_0 rfl (ev_g rfl)) ?_)
      refine Ops.step (One.val (gd_some rfl rfl) rfl rfl (yld_load1 on4 rfl (ev_g rfl) (fun hg => hlc _ F8.chg (by simp [gof] at hg; omega))) ?_)
      refine Ops.step (One.val (gd_some rfl rfl) rfl rfl (yld_not rfl (ev_g rfl)) ?_)
      refine Ops.step (One.val (gd_some rfl rfl) rfl rfl (yld_or rfl (ev_g rfl) (ev_g rfl)) ?_)
      refine Ops.step (One.val rfl rfl rfl (yld_and rfl (ev_t rfl) (ev_g rfl)) ?_)
      refine Ops.nil fun a hS => ?_
      refine hK13 _ _ ?_ a hS
      refine Cod.cond rfl (fun hc84 => ?_) (fun hc84 => ?_)
      · skip
        have hno : (Ed.mk p was had now has).ok = false := by rw [last_or] at hc84; rw [hyes]; cases had <;> cases has <;> simp_all
        refine Cod.seq fun K14 hK14 => ?_
        refine Cod.region ?_
        refine Ops.step (One.val rfl rfl rfl (yld_assign rfl ev_c) ?_)
        refine Ops.nil fun a hS => ?_
        refine hK14 _ _ ?_ a hS
        refine Cod.ret fun a hS => ?_
        try simp only [Exit.then, Exit.inBlock]
        exact ret1 (t := 2) rfl hS rfl ⟨ret_b (by unfold edsOk; rw [all_not i hi (by rw [hei]; exact hno)]; rfl), F8.chg⟩
      · skip
        have hok : (Ed.mk p was had now has).ok = true := by rw [last_or] at hc84; rw [hyes]; cases had <;> cases has <;> simp_all
        refine Cod.skip fun a hS => ?_
        refine hK7 _ _ ?_ a hS
        refine Cod.region ?_
        refine Ops.step (One.val rfl rfl rfl (yld_inc rfl (ev_t rfl) (fun _ => by omega)) ?_)
        refine Ops.step (One.val rfl rfl rfl (yld_move rfl (ev_t rfl)) ?_)
        refine Ops.nil fun a hS => ?_
        exact hK4 (i + 1) _ a (hS.sub ⟨rfl, rfl, rfl, rfl, trivial⟩) ⟨by omega, fun j h1 hji => if h : j = i then (by subst h; rw [hei]; exact hok) else hall j h1 (by omega), F8.drop1⟩ (by omega)
  · skip
    have heq : l.all Ed.ok = true := all_of fun j h1 => hall j h1 (by simp at hc9; omega)
    refine Cod.exit fun a hS => ?_
    simp only [Exit.then, Exit.inBlock, ↓reduceIte]
    refine hK2 _ _ ?_ a hS
    refine Cod.seq fun K15 hK15 => ?_
    refine Cod.region ?_
    refine Ops.step (One.val rfl rfl rfl (yld_move rfl (ev_t rfl)) ?_)
    refine Ops.step (One.val rfl rfl rfl (yld_len sl41 rfl (ev_t rfl)) ?_)
    refine Ops.step (One.val rfl rfl rfl (yld_leq rfl (ev_t rfl) ev_c) ?_)
    refine Ops.step (One.val rfl rfl rfl (yld_assign rfl (ev_t rfl)) ?_)
    refine Ops.nil fun a hS => ?_
    refine hK15 _ _ ?_ a hS
    refine Cod.ret fun a hS => ?_
    try simp only [Exit.then, Exit.inBlock]
    exact ret1 (t := 2) rfl hS rfl ⟨ret_b (by unfold edsOk; rw [heq, Bool.true_and]; exact decide_eq_decide.2 (by omega)), F1.chg⟩

end Go.Proofs.Ytodbflfelimppaa.Eng
