/- FnRowHas returns true for all bytes: both RowHas give the same, and a row has a tree just if the row turned about, the row in order and the row with each tree once have it. No condition. -/
import Derived.Test.YtodbflfelimppaaHas
import Derived.Test.YtodbflfelimppaaOnce
import Derived.Test.YtodbflfelimppaaDrawH
import Derived.Test.YtodbflfelimppaaArgB
import Derived.Test.YtodbflfelimppaaRows
namespace Go.Proofs.Ytodbflfelimppaa.Eng
open Go.RowKit Go.ChangeShapes Go.WideShapes Go.ChangeAt
set_option linter.unusedVariables false
set_option linter.unusedSimpArgs false
set_option maxHeartbeats 1000000
set_option linter.constructorNameAsVariable false
namespace GRowHas


theorem sortR_ok (t : Tr) (_ : t.Fit) : okT ((sortR t).getD zeroT) = true := by
  unfold sortR
  split
  · exact toldR_ok _ _
  · exact okT_zeroT
theorem okT_perm {l m : List Tr} (h : okT (.mk 5 0 ⟨#[]⟩ [] l) = true) (hp : l.Perm m) : okT (.mk 5 0 ⟨#[]⟩ [] m) = true := by
  obtain ⟨h1, h2⟩ := okT_node h
  have h3 := Form.iff.1 h1
  unfold okT
  rw [Bool.and_eq_true, decide_eq_true_eq, decide_eq_true_eq]
  refine ⟨Form.iff.2 ⟨h3.1, leafP (fun _ => rfl) (fun _ => rfl) (fun _ => rfl) (fun h => absurd h (by omega)) (by omega) (by omega) (by omega) okS_nil, fun x hx => h3.2.2 x (hp.mem_iff.2 hx)⟩, ?_⟩
  rw [Tr.cnt_mk] at h2 ⊢
  rw [← sumN_perm Tr.cnt hp]
  exact h2
theorem rowT_eta {t : Tr} (h : rowT t = true) : t = .mk 5 0 ⟨#[]⟩ [] t.list := by
  unfold rowT at h
  obtain ⟨k, n, s, ks, l⟩ := t
  have hk : k = 5 := by cases h1 : okT (.mk k n s ks l) <;> simp [h1] at h; exact h
  have hok : okT (.mk k n s ks l) = true := by cases h1 : okT (.mk k n s ks l) <;> simp [h1] at h; rfl
  have hp := (Form.iff.1 (okT_node hok).1).2.1
  have h3 := hp.z3 (by omega)
  have h4 := hp.z4 (by omega)
  have h6 := hp.z6 (by omega)
  subst hk
  simp only [Tr.list]
  rw [h3, h4, h6]
theorem sortR_some {t : Tr} {r : Option Tr} (hr : r = sortR t) (h : r.isSome = true) : rowT t = true ∧ okT t = true ∧ r = some (.mk 5 0 ⟨#[]⟩ [] (sortL Tr.ord t.list)) := by
  subst hr
  unfold sortR at h ⊢
  split at h
  · rename_i h1
    rw [if_pos h1]
    refine ⟨h1, by unfold rowT at h1; rw [Bool.and_eq_true] at h1; exact h1.1, ?_⟩
    unfold toldR at h ⊢
    split at h
    · rename_i h2; rw [if_pos h2]
    · cases h
  · cases h
theorem row_of {l : List Tr} (h : okT (.mk 5 0 ⟨#[]⟩ [] l) = true) : rowT (.mk 5 0 ⟨#[]⟩ [] l) = true := by unfold rowT; rw [h]; rfl
theorem back_of {t : Tr} (h : rowT t = true) (ho : okT t = true) : backR t = some (.mk 5 0 ⟨#[]⟩ [] t.list.reverse) := by
  unfold backR
  rw [if_pos h]
  have e := rowT_eta h
  rw [e] at ho
  exact toldR_true (okT_perm ho (List.reverse_perm _).symm)
theorem ord_pre : Pre Tr.ord := Pre.of Tr.cmp
theorem sort_back (l : List Tr) : sortL Tr.ord l.reverse = sortL Tr.ord l :=
  srt_uniq Tr.cmp (sortL_srt ord_pre _) (sortL_srt ord_pre _) ((sortL_perm _).trans ((List.reverse_perm l).trans (sortL_perm l).symm))
theorem back_len {t : Tr} {r : Option Tr} (hr : r = backR t) (h : t.list.length ≤ 5) : (r.getD zeroT).list.length ≤ 19 := by
  subst hr
  unfold backR
  split
  · unfold toldR
    split
    · show t.list.reverse.length ≤ 19
      rw [List.length_reverse]; omega
    · exact Nat.zero_le _
  · exact Nat.zero_le _
theorem none14 {r : Option Tr} (h : (!r.isSome) = true) : ((r.getD zeroT).kind == 0) = true := by
  cases r with
  | none => rfl
  | some x => simp at h
noncomputable def cN (x : Tr) (l : List Tr) : Nat := sumN (fun y => if y = x then 1 else 0) l
theorem cN_take (x : Tr) (l : List Tr) (i : Nat) (hi : i < l.length) : cN x (l.take (i + 1)) = cN x (l.take i) + if l[i] = x then 1 else 0 := sumN_take _ l i hi
theorem cN_le (x : Tr) (l : List Tr) : cN x l ≤ l.length := by
  have h := sumNb (f := fun y => if y = x then 1 else 0) (b := 1) (l := l) fun y _ => by
    show (if y = x then 1 else 0) ≤ 1
    split <;> omega
  show sumN _ l ≤ _
  omega
theorem cN_perm {x : Tr} {l m : List Tr} (h : l.Perm m) : cN x l = cN x m := sumN_perm _ h
theorem srt_at {l : List Tr} (h : Srt Tr.ord l) (i : Nat) (hi : i + 1 < l.length) : ¬ l[i].ord l[i + 1] > 0 := by
  unfold Srt at h
  rw [List.pairwise_iff_getElem] at h
  have := h i (i + 1) (by omega) hi (by omega)
  omega
theorem fin {t : Tr} {r1 r2 r3 : Option Tr} (h1 : r1 = sortR t) (hs : r1.isSome = true) (h2 : r2 = backR t) (h3 : r3 = sortR (r2.getD zeroT)) :
    (((r2.isSome && r3.isSome) && decide (r3.getD zeroT = r1.getD zeroT)) && (((r1.getD zeroT).list.length : Int) == (t.list.length : Int))) = true := by
  obtain ⟨hr, ho, e1⟩ := sortR_some h1 hs
  have e2 := back_of hr ho
  have e0 := rowT_eta hr
  rw [← h2] at e2
  rw [e2] at h3
  have ho2 : okT (.mk 5 0 ⟨#[]⟩ [] t.list.reverse) = true := by
    rw [e0] at ho
    exact okT_perm ho (List.reverse_perm _).symm
  have ho3 : okT (.mk 5 0 ⟨#[]⟩ [] (sortL Tr.ord t.list)) = true := by
    rw [e0] at ho
    exact okT_perm ho (sortL_perm _).symm
  have e3 : r3 = some (.mk 5 0 ⟨#[]⟩ [] (sortL Tr.ord t.list)) := by
    rw [h3]
    show sortR (.mk 5 0 ⟨#[]⟩ [] t.list.reverse) = _
    unfold sortR
    rw [if_pos (row_of ho2)]
    show toldR true (.mk 5 0 ⟨#[]⟩ [] (sortL Tr.ord t.list.reverse)) = _
    rw [sort_back]
    exact toldR_true ho3
  rw [e1, e2, e3]
  simp
  show ((sortL Tr.ord t.list).length : Int) = _
  rw [sortL_len]


theorem onceR_ok (t : Tr) (_ : t.Fit) : okT ((onceR t).getD zeroT) = true := by
  unfold onceR
  split
  · exact toldR_ok _ _
  · exact okT_zeroT
theorem okT_sub {l m : List Tr} (h : okT (.mk 5 0 ⟨#[]⟩ [] l) = true) (hp : m.Sublist l) : okT (.mk 5 0 ⟨#[]⟩ [] m) = true := by
  obtain ⟨h1, h2⟩ := okT_row.1 h
  exact okT_row.2 ⟨fun x hx => h1 x (hp.subset hx), by have := sumN_sub Tr.cnt hp; omega⟩
theorem has_no {t u : Tr} (h : (!hasB t u) = true) : (!hasA t u) = true := by
  have h2 : hasB t u = false := by simpa using h
  unfold hasA
  rw [if_neg (by rw [h2]; simp)]
  rfl
theorem has_row {l : List Tr} {u : Tr} (h : okT (.mk 5 0 ⟨#[]⟩ [] l) = true) (hu : okT u = true) : hasA (.mk 5 0 ⟨#[]⟩ [] l) u = l.any (fun y => decide (u = y)) := by
  unfold hasA hasB
  rw [row_of h, hu]
  rfl
theorem any_mem {f : Tr → Bool} {l m : List Tr} (h : ∀ y, y ∈ l ↔ y ∈ m) : l.any f = m.any f := by
  rw [Bool.eq_iff_iff, List.any_eq_true, List.any_eq_true]
  exact ⟨fun ⟨y, h1, h2⟩ => ⟨y, (h y).1 h1, h2⟩, fun ⟨y, h1, h2⟩ => ⟨y, (h y).2 h1, h2⟩⟩
theorem finH {t u : Tr} {r1 r2 r3 : Option Tr} {s : Bool} (hB : hasB t u = true) (h1 : r1 = backR t) (h2 : r2 = sortR t) (h3 : r3 = onceR t) (hs : s = t.list.any (fun y => decide (y = u))) :
    ((((s == hasA t u) && (hasA (r1.getD zeroT) u == hasA t u)) && (hasA (r2.getD zeroT) u == hasA t u)) && (hasA (r3.getD zeroT) u == hasA t u)) = true := by
  have hb := hB
  unfold hasB at hb
  rw [Bool.and_eq_true] at hb
  obtain ⟨hr, hu⟩ := hb
  have ho : okT t = true := by have h := hr; unfold rowT at h; rw [Bool.and_eq_true] at h; exact h.1
  have e0 := rowT_eta hr
  have ho2 : okT (.mk 5 0 ⟨#[]⟩ [] t.list) = true := by rw [← e0]; exact ho
  have q0 : hasA t u = t.list.any (fun y => decide (u = y)) := by rw [e0]; exact has_row ho2 hu
  have q1 : hasA (r1.getD zeroT) u = hasA t u := by
    rw [h1, back_of hr ho, q0]
    show hasA (.mk 5 0 ⟨#[]⟩ [] t.list.reverse) u = _
    rw [has_row (okT_perm ho2 (List.reverse_perm _).symm) hu]
    exact any_mem fun y => List.mem_reverse
  have ho3 : okT (.mk 5 0 ⟨#[]⟩ [] (sortL Tr.ord t.list)) = true := okT_perm ho2 (sortL_perm _).symm
  have q2 : hasA (r2.getD zeroT) u = hasA t u := by
    rw [h2, q0]
    unfold sortR
    rw [if_pos hr, toldR_true ho3]
    show hasA (.mk 5 0 ⟨#[]⟩ [] (sortL Tr.ord t.list)) u = _
    rw [has_row ho3 hu]
    exact any_mem fun y => (sortL_perm _).mem_iff
  have q3 : hasA (r3.getD zeroT) u = hasA t u := by
    have ho4 := okT_sub ho3 (onceL_sub _)
    rw [h3, q0]
    unfold onceR
    rw [if_pos hr, toldR_true ho4]
    show hasA (.mk 5 0 ⟨#[]⟩ [] (onceL (sortL Tr.ord t.list))) u = _
    rw [has_row ho4 hu]
    exact any_mem fun y => (onceL_mem y _).trans (sortL_perm _).mem_iff
  have q4 : s = hasA t u := by
    rw [hs, q0]
    congr 1
    funext y
    exact decide_eq_decide.2 ⟨Eq.symm, Eq.symm⟩
  rw [q1, q2, q3, q4]
  simp

set_option maxHeartbeats 8000000 in
set_option maxRecDepth 100000 in
theorem walk (code : List UInt8) (v : Value) (w : World) (hp : RepE bCells 1 Any w code v) :
    Calls Try.prog 6 #[v] w fun e w' => e = .returned (.bool true) ∧ Chg No w w' := by
  obtain ⟨A, c, rfl, -⟩ := hp.open
  refine enter Try.func6 rfl rfl rfl ?_
  have F0 := Fr.start w
  refine Cod.seq fun K1 hK1 => ?_
  refine Cod.region ?_
  refine Ops.step (One.val rfl rfl rfl (yld_assign rfl ev_c) ?_)
  refine Ops.nil fun a hS => ?_
  refine hK1 _ _ ?_ a hS
  refine Cod.seq fun K2 hK2 => ?_
  refine Cod.seq fun K3 hK3 => ?_
  refine Cod.region ?_
  refine Ops.step (One.val rfl rfl rfl (yld_move rfl (ev_t rfl)) ?_)
  refine Ops.step (One.val rfl rfl rfl (yld_len sl45 rfl (ev_t rfl)) ?_)
  refine Ops.step (One.val rfl rfl rfl (yld_gtr rfl (ev_t rfl) ev_c) ?_)
  refine Ops.nil fun a hS => ?_
  refine hK3 _ _ ?_ a hS
  refine Cod.cond rfl (fun hc25 => ?_) (fun hc25 => ?_)
  · skip
    refine Cod.seq fun K4 hK4 => ?_
    refine Cod.region ?_
    refine Ops.step (One.val rfl rfl rfl (yld_assign rfl ev_c) ?_)
    refine Ops.nil fun a hS => ?_
    refine hK4 _ _ ?_ a hS
    refine Cod.ret fun a hS => ?_
    try simp only [Exit.then, Exit.inBlock]
    exact ret1 (t := 2) rfl hS rfl ⟨rfl, F0.chg⟩
  · skip
    refine Cod.skip fun a hS => ?_
    refine hK2 _ _ ?_ a hS
    refine Cod.seq fun K5 hK5 => ?_
    refine Cod.region ?_
    refine Ops.step (One.val rfl rfl rfl (yld_move rfl (ev_t rfl)) ?_)
    refine Ops.step (One.call rfl rfl rfl (ent_f rfl (evl1 (ev_t rfl)) (enters en30)) (drawHas_ct code _ _ (hp.chg F0.chg)) (fun e w1 hw1 => ?_))
    obtain ⟨xa, xb, ta, tb, rfl, C1, hrsa, hda, hdb⟩ := hw1
    have hwa := hda.wt
    have hwb := hdb.wt
    obtain ⟨Grsa, hGa⟩ : ∃ G, G = New w w1 := ⟨_, rfl⟩
    rw [← hGa] at hrsa
    obtain ⟨A3a, c3a, A4a, c4a, hxa⟩ := rep_x (rps_get hrsa 0 rfl)
    obtain ⟨A3b, c3b, A4b, c4b, hxb⟩ := rep_x (rps_get hrsa 1 rfl)
    subst hxa
    subst hxb
    have F1 := F0.new C1 (rps Grsa [(ta, (x5 ta.kind ta.num ta.str (.slice A3a ta.keys.length c3a) (.slice A4a ta.list.length c4a)).val), (tb, (x5 tb.kind tb.num tb.str (.slice A3b tb.keys.length c3b) (.slice A4b tb.list.length c4b)).val)]) hrsa (by rw [hGa]; exact New.new)
    refine ⟨_, rfl, ?_⟩
    refine Ops.step (One.val rfl rfl rfl (yld_move rfl (ev_t rfl)) ?_)
    refine Ops.step (One.val rfl rfl rfl (yld_extract rfl (ev_t rfl) rfl) ?_)
    refine Ops.step (One.val rfl rfl rfl (yld_extract rfl (ev_t rfl) rfl) ?_)
    refine Ops.step (One.alloc F1 zero31 rfl rfl rfl rfl ?_)
    intro b1 w2 hb1 F2
    change Fr _ _ [blk _ _ [_, _, _, _, _], _] _ at F2
    refine Ops.step (One.alloc F2 zero31 rfl rfl rfl rfl ?_)
    intro b2 w3 hb2 F3
    change Fr _ _ [blk _ _ [_, _, _, _, _], blk _ _ [_, _, _, _, _], _] _ at F3
    refine Ops.step (One.storeN (vs := [_, _, _, _, _]) F3 1 rfl sz31 rfl rfl rfl (ev_t rfl) (ev_t rfl) rfl rfl (rps_oneC (F3.get 2 rfl) 0 rfl) ?_)
    intro w4 F4
    change Fr _ _ [blk _ _ [_, _, _, _, _], blk _ _ [_, _, _, _, _], _] _ at F4
    refine Ops.step (One.storeN (vs := [_, _, _, _, _]) F4 0 rfl sz31 rfl rfl rfl (ev_t rfl) (ev_t rfl) rfl rfl (rps_oneC (F4.get 2 rfl) 1 rfl) ?_)
    intro w5 F5
    change Fr _ _ [blk _ _ [_, _, _, _, _], blk _ _ [_, _, _, _, _], _] _ at F5
    refine Ops.nil fun a hS => ?_
    refine hK5 _ _ ?_ a hS
    refine Cod.seq fun K6 hK6 => ?_
    refine Cod.region ?_
    refine Ops.step (One.val rfl rfl rfl (yld_loadN ag31 rfl (ev_t rfl) (fun _ => F5.range (m := 5) (cs' := [_, _, _, _, _]) 1 rfl rfl) rfl) ?_)
    refine Ops.step (One.val rfl rfl rfl (yld_loadN ag31 rfl (ev_t rfl) (fun _ => F5.range (m := 5) (cs' := [_, _, _, _, _]) 0 rfl rfl) rfl) ?_)
    refine Ops.step (One.call rfl rfl rfl (ent_f rfl (evl2 (ev_t rfl) (ev_t rfl)) (enters en31)) (rowHas_ct ta tb _ _ _ (rps_get (F5.get 2 rfl) 0 rfl) (rps_get (F5.get 2 rfl) 1 rfl) hda.fit hdb.fit) (fun e w6 hw6 => ?_))
    obtain ⟨rfl, C6⟩ := hw6
    have F6 := F5.call C6
    refine ⟨_, rfl, ?_⟩
    refine Ops.step (One.val rfl rfl rfl (yld_move rfl (ev_t rfl)) ?_)
    refine Ops.step (One.val rfl rfl rfl (yld_extract rfl (ev_t rfl) rfl) ?_)
    refine Ops.step (One.val rfl rfl rfl (yld_extract rfl (ev_t rfl) rfl) ?_)
    refine Ops.step (One.val rfl rfl rfl (yld_assign rfl (ev_t rfl)) ?_)
    refine Ops.step (One.val rfl rfl rfl (yld_assign rfl (ev_t rfl)) ?_)
    refine Ops.nil fun a hS => ?_
    refine hK6 _ _ ?_ a hS
    refine Cod.seq fun K7 hK7 => ?_
    refine Cod.region ?_
    refine Ops.step (One.val rfl rfl rfl (yld_loadN ag31 rfl (ev_t rfl) (fun _ => F6.range (m := 5) (cs' := [_, _, _, _, _]) 1 rfl rfl) rfl) ?_)
    refine Ops.step (One.val rfl rfl rfl (yld_loadN ag31 rfl (ev_t rfl) (fun _ => F6.range (m := 5) (cs' := [_, _, _, _, _]) 0 rfl rfl) rfl) ?_)
    refine Ops.step (One.call rfl rfl rfl (ent_f rfl (evl2 (ev_t rfl) (ev_t rfl)) (enters en32)) (specHas_ct ta tb _ _ _ (rps_get (F6.get 2 rfl) 0 rfl) (rps_get (F6.get 2 rfl) 1 rfl) hda.fit hdb.fit (by omega) (by omega)) (fun e w7 hw7 => ?_))
    obtain ⟨rfl, C7⟩ := hw7
    have F7 := F6.call C7
    refine ⟨_, rfl, ?_⟩
    refine Ops.step (One.val rfl rfl rfl (yld_move rfl (ev_t rfl)) ?_)
    refine Ops.step (One.val rfl rfl rfl (yld_extract rfl (ev_t rfl) rfl) ?_)
    refine Ops.step (One.val rfl rfl rfl (yld_extract rfl (ev_t rfl) rfl) ?_)
    refine Ops.step (One.val rfl rfl rfl (yld_assign rfl (ev_t rfl)) ?_)
    refine Ops.step (One.val rfl rfl rfl (yld_assign rfl (ev_t rfl)) ?_)
    refine Ops.nil fun a hS => ?_
    refine hK7 _ _ ?_ a hS
    refine Cod.seq fun K8 hK8 => ?_
    refine Cod.seq fun K9 hK9 => ?_
    refine Cod.region ?_
    refine Ops.step (One.val rfl rfl rfl (yld_move rfl (ev_t rfl)) ?_)
    refine Ops.step (One.val rfl rfl rfl (yld_move rfl (ev_t rfl)) ?_)
    refine Ops.step (One.val rfl rfl rfl (yld_bneq Try.underlying4 rfl (ev_t rfl) (ev_t rfl)) ?_)
    refine Ops.step (One.val rfl rfl rfl (yld_move rfl (ev_t rfl)) ?_)
    refine Ops.step (One.val (gd_some rfl rfl) rfl rfl (yld_move rfl (ev_t rfl)) ?_)
    refine Ops.step (One.val (gd_some rfl rfl) rfl rfl (yld_move rfl (ev_t rfl)) ?_)
    refine Ops.step (One.val (gd_some rfl rfl) rfl rfl (yld_bneq Try.underlying4 rfl (ev_g rfl) (ev_g rfl)) ?_)
    refine Ops.step (One.val rfl rfl rfl (yld_or rfl (ev_t rfl) (ev_g rfl)) ?_)
    refine Ops.nil fun a hS => ?_
    refine hK9 _ _ ?_ a hS
    refine Cod.cond rfl (fun hc50 => ?_) (fun hc50 => ?_)
    · skip
      simp at hc50
    · skip
      refine Cod.skip fun a hS => ?_
      refine hK8 _ _ ?_ a hS
      refine Cod.seq fun K10 hK10 => ?_
      refine Cod.seq fun K11 hK11 => ?_
      refine Cod.region ?_
      refine Ops.step (One.val rfl rfl rfl (yld_move rfl (ev_t rfl)) ?_)
      refine Ops.step (One.val rfl rfl rfl (yld_not rfl (ev_t rfl)) ?_)
      refine Ops.nil fun a hS => ?_
      refine hK11 _ _ ?_ a hS
      refine Cod.cond rfl (fun hc52 => ?_) (fun hc52 => ?_)
      · skip
        skip
        refine Cod.seq fun K12 hK12 => ?_
        refine Cod.region ?_
        refine Ops.step (One.val rfl rfl rfl (yld_move rfl (ev_t rfl)) ?_)
        refine Ops.step (One.val rfl rfl rfl (yld_not rfl (ev_t rfl)) ?_)
        refine Ops.step (One.val rfl rfl rfl (yld_assign rfl (ev_t rfl)) ?_)
        refine Ops.nil fun a hS => ?_
        refine hK12 _ _ ?_ a hS
        refine Cod.ret fun a hS => ?_
        try simp only [Exit.then, Exit.inBlock]
        exact ret1 (t := 2) rfl hS rfl ⟨ret_b (has_no hc52), F7.chg⟩
      · skip
        have hB : hasB ta tb = true := by simpa using hc52
        have hln := hda.len
        refine Cod.skip fun a hS => ?_
        refine hK10 _ _ ?_ a hS
        refine Cod.seq fun K13 hK13 => ?_
        refine Cod.region ?_
        refine Ops.step (One.val rfl rfl rfl (yld_assign rfl ev_c) ?_)
        refine Ops.nil fun a hS => ?_
        refine hK13 _ _ ?_ a hS
        refine Cod.seq fun K14 hK14 => ?_
        refine Cod.seq fun K15 hK15 => ?_
        refine Cod.region ?_
        refine Ops.step (One.val rfl rfl rfl (yld_assign rfl ev_c) ?_)
        refine Ops.nil fun a hS => ?_
        refine hK15 _ _ ?_ a hS
        refine Cod.block ?_
        have F8 := F7.pull 2 rfl
        have F9 := F8.pull 2 rfl
        have F10 := F9.pull 2 rfl
        refine Cod.loop (fun i : Nat × Bool => [(3, true, .pointer (some ⟨b1, 0, none⟩)), (4, true, .pointer (some ⟨b2, 0, none⟩)), (5, true, .bool (hasA ta tb)), (9, true, .bool i.2), (10, true, .int .i64 (i.1 : Int))]) (fun i w' => i.1 ≤ ta.list.length ∧ i.2 = (ta.list.take i.1).any (fun y => decide (y = tb)) ∧ Fr No w [blk b2 31 (enc5 (x5 tb.kind tb.num tb.str (.slice A3b tb.keys.length c3b) (.slice A4b tb.list.length c4b))), blk b1 31 (enc5 (x5 ta.kind ta.num ta.str (.slice A3a ta.keys.length c3a) (.slice A4a ta.list.length c4a))), rps Grsa [(ta, (x5 ta.kind ta.num ta.str (.slice A3a ta.keys.length c3a) (.slice A4a ta.list.length c4a)).val), (tb, (x5 tb.kind tb.num tb.str (.slice A3b tb.keys.length c3b) (.slice A4b tb.list.length c4b)).val)]] w') (fun i => ta.list.length - i.1) (0, false) ⟨rfl, rfl, rfl, rfl, rfl, trivial⟩ ⟨Nat.zero_le _, by simp, F10⟩ ?_
        intro i w8 hW K16 hK16
        obtain ⟨ix, sm⟩ := i
        obtain ⟨hi0, hsm, F11⟩ := hW
        dsimp only at *
        refine Cod.seq fun K17 hK17 => ?_
        refine Cod.seq fun K18 hK18 => ?_
        refine Cod.region ?_
        refine Ops.step (One.val rfl rfl rfl (yld_move rfl (ev_t rfl)) ?_)
        refine Ops.step (One.val rfl rfl rfl (yld_field fi31_4 rfl (ev_t rfl)) ?_)
        refine Ops.step (One.val rfl rfl rfl (yld_load1 on29 rfl (ev_t rfl) (fun _ => F11.cell 1 rfl rfl)) ?_)
        refine Ops.step (One.val rfl rfl rfl (yld_len sl29 rfl (ev_t rfl)) ?_)
        refine Ops.step (One.val rfl rfl rfl (yld_lss rfl (ev_t rfl) (ev_t rfl)) ?_)
        refine Ops.nil fun a hS => ?_
        refine hK18 _ _ ?_ a hS
        refine Cod.cond rfl (fun hc59 => ?_) (fun hc59 => ?_)
        · skip
          have hi : ix < ta.list.length := by simpa using hc59
          refine Cod.skip fun a hS => ?_
          refine hK17 _ _ ?_ a hS
          refine Cod.seq fun K19 hK19 => ?_
          refine Cod.block ?_
          have F12 := F11.drew
          obtain ⟨y1, p1, z1, hy1, -, hr1, ht1⟩ := at5 (rep_l (rps_get (F12.get 2 rfl) 0 rfl)) ix hi
          refine Cod.draw (C_of F12) (by kernel_rfl) ?_
          refine Hops.take 0 rfl (by kernel_rfl) (fun _ _ _ h => h) rfl rfl rfl F12 (fun w F => (yld_move rfl (ev_t rfl))) ?_
          refine Hops.take 1 rfl (by kernel_rfl) (fun _ _ _ h => h) rfl rfl rfl F12 (fun w F => (yld_move rfl (ev_t rfl))) ?_
          refine Hops.take 2 rfl (by kernel_rfl) (fun _ _ _ h => h) (gd_some rfl rfl) rfl rfl F12 (fun w F => (yld_field fi31_4 rfl (ev_t rfl))) ?_
          refine Hops.take 3 rfl (by kernel_rfl) (fun _ _ _ h => h) (gd_some rfl rfl) rfl rfl F12 (fun w F => (yld_load1 on29 rfl (ev_g rfl) (fun _ => F.cell 1 rfl rfl))) ?_
          refine Hops.take 4 rfl (by kernel_rfl) (fun _ _ _ h => h) (gd_some rfl rfl) rfl rfl F12 (fun w F => (yld_move rfl (ev_t rfl))) ?_
          refine Hops.take 5 rfl (by kernel_rfl) (fun _ _ _ h => h) (gd_some rfl rfl) rfl rfl F12 (fun w F => (yld_indexG (b := y1) (q := p1) (i := ix) sl29 rfl (ev_g rfl) (ev_g rfl) (fun _ => hy1) (fun _ => hi))) ?_
          refine Hops.take 7 rfl (by kernel_rfl) (fun _ _ _ h => h) (gd_some rfl rfl) rfl rfl F12 (fun w F => (yld_loadN ag31 rfl (ev_t rfl) (fun _ => F.range (m := 5) (cs' := [_, _, _, _, _]) 0 rfl rfl) rfl)) ?_
          refine Hops.one 6 rfl (by kernel_rfl) (One.val (gd_some rfl rfl) rfl rfl (yld_loadN (cs := [z1.a, z1.b, z1.c, z1.d, z1.e]) ag31 rfl (ev_g rfl) (fun _ => hr1) rfl) ?_)
          refine ⟨F12, ?_⟩
          have hvs := valSame_ct (ta.list[ix]'hi) tb _ _ w8.drew ht1 (rps_get (F12.get 2 rfl) 1 rfl)
          refine Hops.one 8 rfl (by kernel_rfl) (One.gcall (R := Chg No w8.drew) (gd_some rfl rfl) rfl rfl (ent_f rfl (evl2 (ev_g rfl) (ev_g rfl)) (enters en27)) (Chg.refl _ _) (fun hg => hvs) ?_)
          intro w9 C9
          have F13 := F12.call C9
          refine ⟨F13, ?_⟩
          refine Hops.take 9 rfl (by kernel_rfl) (fun _ _ _ h => h) rfl rfl rfl F13 (fun w F => (yld_or rfl (ev_t rfl) (ev_g rfl))) ?_
          refine Hops.one 10 rfl (by kernel_rfl) (One.val rfl rfl rfl (yld_assign rfl (ev_t rfl)) ?_)
          refine ⟨F13, ?_⟩
          refine Hops.nil (by kernel_rfl) fun a hS => ?_
          refine hK19 _ _ ?_ a hS
          refine Cod.region ?_
          refine Ops.step (One.val rfl rfl rfl (yld_move rfl (ev_t rfl)) ?_)
          refine Ops.step (One.val rfl rfl rfl (yld_inc rfl (ev_t rfl) (fun _ => by omega)) ?_)
          refine Ops.step (One.val rfl rfl rfl (yld_assign rfl (ev_t rfl)) ?_)
          refine Ops.nil fun a hS => ?_
          have F14 := F13.pull 2 rfl
          have F15 := F14.pull 2 rfl
          have F16 := F15.pull 2 rfl
          exact hK16 (ix + 1, _) _ a (hS.sub ⟨rfl, rfl, rfl, rfl, rfl, trivial⟩) ⟨by show ix + 1 ≤ _; omega, by show _ = (ta.list.take (ix + 1)).any _; rw [List.take_succ_eq_append_getElem hi, List.any_append, ← hsm]; cases sm <;> simp, F16⟩ (by show ta.list.length - (ix + 1) < ta.list.length - ix; omega)
        · skip
          have hie : ix = ta.list.length := by simp at hc59; omega
          rw [hie, List.take_length] at hsm
          refine Cod.exit fun a hS => ?_
          simp only [Exit.then, Exit.inBlock, ↓reduceIte]
          refine hK14 _ _ ?_ a hS
          refine Cod.seq fun K20 hK20 => ?_
          refine Cod.region ?_
          refine Ops.step (One.val rfl rfl rfl (yld_loadN ag31 rfl (ev_t rfl) (fun _ => F11.range (m := 5) (cs' := [_, _, _, _, _]) 1 rfl rfl) rfl) ?_)
          refine Ops.step (One.call rfl rfl rfl (ent_f rfl (evl1 (ev_t rfl)) (enters en33)) (back_ct ta _ _ (rps_get (F11.get 2 rfl) 0 rfl) hda.fit (by omega)) (fun e w10 hw10 => ?_))
          obtain ⟨R1, hR1⟩ : ∃ R, R = backR ta := ⟨_, rfl⟩
          have hO1 : okT (R1.getD zeroT) = true := by rw [hR1]; exact backR_ok _ hda.fit
          rw [← hR1] at hw10
          obtain ⟨e1, E1, rfl, C10, hE1, hEb1⟩ := hw10
          obtain ⟨A3e1, c3e1, A4e1, c4e1, hxe1⟩ := rep_x hE1.rep
          subst hxe1
          have F17 := F11.new C10 (sep E1 (R1.getD zeroT) (x5 (R1.getD zeroT).kind (R1.getD zeroT).num (R1.getD zeroT).str (.slice A3e1 (R1.getD zeroT).keys.length c3e1) (.slice A4e1 (R1.getD zeroT).list.length c4e1)).val) hE1 hEb1
          refine ⟨_, rfl, ?_⟩
          refine Ops.step (One.val rfl rfl rfl (yld_move rfl (ev_t rfl)) ?_)
          refine Ops.step (One.val rfl rfl rfl (yld_extract rfl (ev_t rfl) rfl) ?_)
          refine Ops.step (One.val rfl rfl rfl (yld_extract rfl (ev_t rfl) rfl) ?_)
          refine Ops.step (One.alloc F17 zero31 rfl rfl rfl rfl ?_)
          intro b3 w11 hb3 F18
          change Fr _ _ [blk _ _ [_, _, _, _, _], _, blk _ _ [_, _, _, _, _], blk _ _ [_, _, _, _, _], _] _ at F18
          refine Ops.step (One.storeN (vs := [_, _, _, _, _]) F18 0 rfl sz31 rfl rfl rfl (ev_t rfl) (ev_t rfl) rfl rfl (Sep.one (x := (x5 (R1.getD zeroT).kind (R1.getD zeroT).num (R1.getD zeroT).str (.slice A3e1 (R1.getD zeroT).keys.length c3e1) (.slice A4e1 (R1.getD zeroT).list.length c4e1))) (F18.get 1 rfl)) ?_)
          intro w12 F19
          change Fr _ _ [blk _ _ [_, _, _, _, _], _, blk _ _ [_, _, _, _, _], blk _ _ [_, _, _, _, _], _] _ at F19
          refine Ops.step (One.val rfl rfl rfl (yld_assign rfl (ev_t rfl)) ?_)
          refine Ops.nil fun a hS => ?_
          refine hK20 _ _ ?_ a hS
          refine Cod.seq fun K21 hK21 => ?_
          refine Cod.region ?_
          refine Ops.step (One.val rfl rfl rfl (yld_loadN ag31 rfl (ev_t rfl) (fun _ => F19.range (m := 5) (cs' := [_, _, _, _, _]) 3 rfl rfl) rfl) ?_)
          refine Ops.step (One.call rfl rfl rfl (ent_f rfl (evl1 (ev_t rfl)) (enters en34)) (sort_ct ta _ _ (rps_get (F19.get 4 rfl) 0 rfl) hda.fit (by omega) (by have := hda.len; omega)) (fun e w13 hw13 => ?_))
          obtain ⟨R2, hR2⟩ : ∃ R, R = sortR ta := ⟨_, rfl⟩
          have hO2 : okT (R2.getD zeroT) = true := by rw [hR2]; exact sortR_ok _ hda.fit
          rw [← hR2] at hw13
          obtain ⟨e2, E2, rfl, C13, hE2, hEb2⟩ := hw13
          obtain ⟨A3e2, c3e2, A4e2, c4e2, hxe2⟩ := rep_x hE2.rep
          subst hxe2
          have F20 := F19.new C13 (sep E2 (R2.getD zeroT) (x5 (R2.getD zeroT).kind (R2.getD zeroT).num (R2.getD zeroT).str (.slice A3e2 (R2.getD zeroT).keys.length c3e2) (.slice A4e2 (R2.getD zeroT).list.length c4e2)).val) hE2 hEb2
          refine ⟨_, rfl, ?_⟩
          refine Ops.step (One.val rfl rfl rfl (yld_move rfl (ev_t rfl)) ?_)
          refine Ops.step (One.val rfl rfl rfl (yld_extract rfl (ev_t rfl) rfl) ?_)
          refine Ops.step (One.val rfl rfl rfl (yld_extract rfl (ev_t rfl) rfl) ?_)
          refine Ops.step (One.alloc F20 zero31 rfl rfl rfl rfl ?_)
          intro b4 w14 hb4 F21
          change Fr _ _ [blk _ _ [_, _, _, _, _], _, blk _ _ [_, _, _, _, _], _, blk _ _ [_, _, _, _, _], blk _ _ [_, _, _, _, _], _] _ at F21
          refine Ops.step (One.storeN (vs := [_, _, _, _, _]) F21 0 rfl sz31 rfl rfl rfl (ev_t rfl) (ev_t rfl) rfl rfl (Sep.one (x := (x5 (R2.getD zeroT).kind (R2.getD zeroT).num (R2.getD zeroT).str (.slice A3e2 (R2.getD zeroT).keys.length c3e2) (.slice A4e2 (R2.getD zeroT).list.length c4e2))) (F21.get 1 rfl)) ?_)
          intro w15 F22
          change Fr _ _ [blk _ _ [_, _, _, _, _], _, blk _ _ [_, _, _, _, _], _, blk _ _ [_, _, _, _, _], blk _ _ [_, _, _, _, _], _] _ at F22
          refine Ops.step (One.val rfl rfl rfl (yld_assign rfl (ev_t rfl)) ?_)
          refine Ops.nil fun a hS => ?_
          refine hK21 _ _ ?_ a hS
          refine Cod.seq fun K22 hK22 => ?_
          refine Cod.region ?_
          refine Ops.step (One.val rfl rfl rfl (yld_loadN ag31 rfl (ev_t rfl) (fun _ => F22.range (m := 5) (cs' := [_, _, _, _, _]) 5 rfl rfl) rfl) ?_)
          refine Ops.step (One.call rfl rfl rfl (ent_f rfl (evl1 (ev_t rfl)) (enters en35)) (once_ct ta _ _ (rps_get (F22.get 6 rfl) 0 rfl) hda.fit (by omega) (by have := hda.len; omega)) (fun e w16 hw16 => ?_))
          obtain ⟨R3, hR3⟩ : ∃ R, R = onceR ta := ⟨_, rfl⟩
          have hO3 : okT (R3.getD zeroT) = true := by rw [hR3]; exact onceR_ok _ hda.fit
          rw [← hR3] at hw16
          obtain ⟨e3, E3, rfl, C16, hE3, hEb3⟩ := hw16
          obtain ⟨A3e3, c3e3, A4e3, c4e3, hxe3⟩ := rep_x hE3.rep
          subst hxe3
          have F23 := F22.new C16 (sep E3 (R3.getD zeroT) (x5 (R3.getD zeroT).kind (R3.getD zeroT).num (R3.getD zeroT).str (.slice A3e3 (R3.getD zeroT).keys.length c3e3) (.slice A4e3 (R3.getD zeroT).list.length c4e3)).val) hE3 hEb3
          refine ⟨_, rfl, ?_⟩
          refine Ops.step (One.val rfl rfl rfl (yld_move rfl (ev_t rfl)) ?_)
          refine Ops.step (One.val rfl rfl rfl (yld_extract rfl (ev_t rfl) rfl) ?_)
          refine Ops.step (One.val rfl rfl rfl (yld_extract rfl (ev_t rfl) rfl) ?_)
          refine Ops.step (One.alloc F23 zero31 rfl rfl rfl rfl ?_)
          intro b5 w17 hb5 F24
          change Fr _ _ [blk _ _ [_, _, _, _, _], _, blk _ _ [_, _, _, _, _], _, blk _ _ [_, _, _, _, _], _, blk _ _ [_, _, _, _, _], blk _ _ [_, _, _, _, _], _] _ at F24
          refine Ops.step (One.storeN (vs := [_, _, _, _, _]) F24 0 rfl sz31 rfl rfl rfl (ev_t rfl) (ev_t rfl) rfl rfl (Sep.one (x := (x5 (R3.getD zeroT).kind (R3.getD zeroT).num (R3.getD zeroT).str (.slice A3e3 (R3.getD zeroT).keys.length c3e3) (.slice A4e3 (R3.getD zeroT).list.length c4e3))) (F24.get 1 rfl)) ?_)
          intro w18 F25
          change Fr _ _ [blk _ _ [_, _, _, _, _], _, blk _ _ [_, _, _, _, _], _, blk _ _ [_, _, _, _, _], _, blk _ _ [_, _, _, _, _], blk _ _ [_, _, _, _, _], _] _ at F25
          refine Ops.step (One.val rfl rfl rfl (yld_assign rfl (ev_t rfl)) ?_)
          refine Ops.nil fun a hS => ?_
          refine hK22 _ _ ?_ a hS
          refine Cod.seq fun K23 hK23 => ?_
          refine Cod.region ?_
          refine Ops.step (One.val rfl rfl rfl (yld_loadN ag31 rfl (ev_t rfl) (fun _ => F25.range (m := 5) (cs' := [_, _, _, _, _]) 4 rfl rfl) rfl) ?_)
          refine Ops.step (One.val rfl rfl rfl (yld_loadN ag31 rfl (ev_t rfl) (fun _ => F25.range (m := 5) (cs' := [_, _, _, _, _]) 6 rfl rfl) rfl) ?_)
          refine Ops.step (One.call rfl rfl rfl (ent_f rfl (evl2 (ev_t rfl) (ev_t rfl)) (enters en31)) (rowHas_ct (R1.getD zeroT) tb _ _ _ (F25.get 5 rfl).rep (rps_get (F25.get 8 rfl) 1 rfl) (okT_fit hO1) hdb.fit) (fun e w19 hw19 => ?_))
          obtain ⟨rfl, C19⟩ := hw19
          have F26 := F25.call C19
          refine ⟨_, rfl, ?_⟩
          refine Ops.step (One.val rfl rfl rfl (yld_move rfl (ev_t rfl)) ?_)
          refine Ops.step (One.val rfl rfl rfl (yld_extract rfl (ev_t rfl) rfl) ?_)
          refine Ops.step (One.val rfl rfl rfl (yld_extract rfl (ev_t rfl) rfl) ?_)
          refine Ops.step (One.val rfl rfl rfl (yld_assign rfl (ev_t rfl)) ?_)
          refine Ops.step (One.val rfl rfl rfl (yld_assign rfl (ev_t rfl)) ?_)
          refine Ops.nil fun a hS => ?_
          refine hK23 _ _ ?_ a hS
          refine Cod.seq fun K24 hK24 => ?_
          refine Cod.region ?_
          refine Ops.step (One.val rfl rfl rfl (yld_loadN ag31 rfl (ev_t rfl) (fun _ => F26.range (m := 5) (cs' := [_, _, _, _, _]) 2 rfl rfl) rfl) ?_)
          refine Ops.step (One.val rfl rfl rfl (yld_loadN ag31 rfl (ev_t rfl) (fun _ => F26.range (m := 5) (cs' := [_, _, _, _, _]) 6 rfl rfl) rfl) ?_)
          refine Ops.step (One.call rfl rfl rfl (ent_f rfl (evl2 (ev_t rfl) (ev_t rfl)) (enters en31)) (rowHas_ct (R2.getD zeroT) tb _ _ _ (F26.get 3 rfl).rep (rps_get (F26.get 8 rfl) 1 rfl) (okT_fit hO2) hdb.fit) (fun e w20 hw20 => ?_))
          obtain ⟨rfl, C20⟩ := hw20
          have F27 := F26.call C20
          refine ⟨_, rfl, ?_⟩
          refine Ops.step (One.val rfl rfl rfl (yld_move rfl (ev_t rfl)) ?_)
          refine Ops.step (One.val rfl rfl rfl (yld_extract rfl (ev_t rfl) rfl) ?_)
          refine Ops.step (One.val rfl rfl rfl (yld_extract rfl (ev_t rfl) rfl) ?_)
          refine Ops.step (One.val rfl rfl rfl (yld_assign rfl (ev_t rfl)) ?_)
          refine Ops.step (One.val rfl rfl rfl (yld_assign rfl (ev_t rfl)) ?_)
          refine Ops.nil fun a hS => ?_
          refine hK24 _ _ ?_ a hS
          refine Cod.seq fun K25 hK25 => ?_
          refine Cod.region ?_
          refine Ops.step (One.val rfl rfl rfl (yld_loadN ag31 rfl (ev_t rfl) (fun _ => F27.range (m := 5) (cs' := [_, _, _, _, _]) 0 rfl rfl) rfl) ?_)
          refine Ops.step (One.val rfl rfl rfl (yld_loadN ag31 rfl (ev_t rfl) (fun _ => F27.range (m := 5) (cs' := [_, _, _, _, _]) 6 rfl rfl) rfl) ?_)
          refine Ops.step (One.call rfl rfl rfl (ent_f rfl (evl2 (ev_t rfl) (ev_t rfl)) (enters en31)) (rowHas_ct (R3.getD zeroT) tb _ _ _ (F27.get 1 rfl).rep (rps_get (F27.get 8 rfl) 1 rfl) (okT_fit hO3) hdb.fit) (fun e w21 hw21 => ?_))
          obtain ⟨rfl, C21⟩ := hw21
          have F28 := F27.call C21
          refine ⟨_, rfl, ?_⟩
          refine Ops.step (One.val rfl rfl rfl (yld_move rfl (ev_t rfl)) ?_)
          refine Ops.step (One.val rfl rfl rfl (yld_extract rfl (ev_t rfl) rfl) ?_)
          refine Ops.step (One.val rfl rfl rfl (yld_extract rfl (ev_t rfl) rfl) ?_)
          refine Ops.step (One.val rfl rfl rfl (yld_assign rfl (ev_t rfl)) ?_)
          refine Ops.step (One.val rfl rfl rfl (yld_assign rfl (ev_t rfl)) ?_)
          refine Ops.nil fun a hS => ?_
          refine hK25 _ _ ?_ a hS
          refine Cod.seq fun K26 hK26 => ?_
          refine Cod.region ?_
          refine Ops.step (One.val rfl rfl rfl (yld_move rfl (ev_t rfl)) ?_)
          refine Ops.step (One.val rfl rfl rfl (yld_move rfl (ev_t rfl)) ?_)
          refine Ops.step (One.val rfl rfl rfl (yld_beql Try.underlying4 rfl (ev_t rfl) (ev_t rfl)) ?_)
          refine Ops.step (One.val rfl rfl rfl (yld_move rfl (ev_t rfl)) ?_)
          refine Ops.step (One.val (gd_some rfl rfl) rfl rfl (yld_move rfl (ev_t rfl)) ?_)
          refine Ops.step (One.val (gd_some rfl rfl) rfl rfl (yld_move rfl (ev_t rfl)) ?_)
          refine Ops.step (One.val (gd_some rfl rfl) rfl rfl (yld_beql Try.underlying4 rfl (ev_g rfl) (ev_g rfl)) ?_)
          refine Ops.step (One.val rfl rfl rfl (yld_and rfl (ev_t rfl) (ev_g rfl)) ?_)
          refine Ops.step (One.val rfl rfl rfl (yld_move rfl (ev_t rfl)) ?_)
          refine Ops.step (One.val (gd_some rfl rfl) rfl rfl (yld_move rfl (ev_t rfl)) ?_)
          refine Ops.step (One.val (gd_some rfl rfl) rfl rfl (yld_move rfl (ev_t rfl)) ?_)
          refine Ops.step (One.val (gd_some rfl rfl) rfl rfl (yld_beql Try.underlying4 rfl (ev_g rfl) (ev_g rfl)) ?_)
          refine Ops.step (One.val rfl rfl rfl (yld_and rfl (ev_t rfl) (ev_g rfl)) ?_)
          refine Ops.step (One.val rfl rfl rfl (yld_move rfl (ev_t rfl)) ?_)
          refine Ops.step (One.val (gd_some rfl rfl) rfl rfl (yld_move rfl (ev_t rfl)) ?_)
          refine Ops.step (One.val (gd_some rfl rfl) rfl rfl (yld_move rfl (ev_t rfl)) ?_)
          refine Ops.step (One.val (gd_some rfl rfl) rfl rfl (yld_beql Try.underlying4 rfl (ev_g rfl) (ev_g rfl)) ?_)
          refine Ops.step (One.val rfl rfl rfl (yld_and rfl (ev_t rfl) (ev_g rfl)) ?_)
          refine Ops.step (One.val rfl rfl rfl (yld_assign rfl (ev_t rfl)) ?_)
          refine Ops.nil fun a hS => ?_
          refine hK26 _ _ ?_ a hS
          refine Cod.ret fun a hS => ?_
          try simp only [Exit.then, Exit.inBlock]
          exact ret1 (t := 2) rfl hS rfl ⟨ret_b (finH hB hR1 hR2 hR3 hsm), F28.chg⟩


theorem ownKnob_none : ownKnob Try.prog.godebug = none := by kernel_rfl
theorem params_ok : ∀ t ∈ Try.f6.params.toList, Try.prog.readableRec t = true ∧ t < Try.prog.types.size := by
  rw [Try.params6]
  intro t ht
  simp only [List.mem_cons, List.not_mem_nil, or_false] at ht
  rcases ht with rfl <;> exact ⟨by kernel_rfl, of_decide_eq_true (by kernel_rfl)⟩
set_option maxRecDepth 100000 in
theorem lifted (os : Os) (started : os.Started) (H : Type) (enc : TypeId × Value → H) :
    ReturnsInHanded {} Try.checked os 6 .any (Rows.fnRowHasSpec.pre6 enc Try.prog Try.f6 Rows.fnRowHasRow.domain false) (Rows.fnRowHasSpec.post enc Try.prog Try.f6 false true false false) := by
  refine returnsInHanded_of_change (C := Try.checked) ownKnob_none started (by kernel_rfl) Try.func6
    (ChangeSpec.witness6 (enc := enc) (C := Try.checked) false ⟨#[], #[.slice none 0 0], []⟩ 8 (by kernel_rfl) (by kernel_rfl) (by kernel_rfl) (by kernel_rfl)) ?_
  intro W base args ds gs before hval0 hW hcnd _
  have hval : ∀ (j : Nat) t v, Try.f6.params[j]? = some t → args[j]? = some v → Value.okWide Try.prog W .any base t v := hval0
  have hW' := hW
  obtain ⟨p, q, hA0, hV, rfl, hfz, hnd⟩ := hW
  have hA : DataW.TrodAll enc Try.prog W 0 (fun _ => true) true Try.f6.params.toList args.toList ds p := hA0
  rw [Try.params6] at hA hval
  obtain ⟨v0, d0, rfl, rfl, h0⟩ := trodAll_one hA
  obtain ⟨rfl, rfl⟩ := trodVars_none hV
  obtain ⟨code, hp⟩ := open_bytes (hval 0 _ v0 rfl rfl) h0
  refine (walk code v0 W hp).mono fun e W' ⟨he, hc⟩ => ?_
  subst he
  exact ⟨_, rfl, post_chg laidOut rfl params_ok hW' (fun _ _ _ => (trodAll_cons_mk (shut_bool Try.underlying4 _) trodAll_mk0)) rfl rfl hc (ok_one (by kernel_rfl) rfl (okWide_bool_mk Try.underlying4 _))⟩

theorem over : Rows.fnRowHasRow.holds Try.pinned (OpenSpec.ofChange Rows.fnRowHasSpec) :=
  OpenClaim.holds_of_wide 6 Try.f6 rfl rfl rfl rfl rfl rfl rfl ⟨rfl, rfl, rfl, rfl, rfl⟩ rfl rfl rfl rfl rfl (by kernel_rfl) Try.func6 (by kernel_rfl)
    (of_decide_eq_true (by kernel_rfl)) (by unfold Func.isWrapper; first | (rw [if_pos (by decide +kernel)]; kernel_rfl) | (rw [if_neg (by decide +kernel)]; exact ⟨rfl, rfl⟩))
    (fun os started H enc _ => lifted os started H enc)

/-- The statement. -/
theorem proved : Rows.FnRowHasSaid := over
#print axioms proved

end GRowHas
end Go.Proofs.Ytodbflfelimppaa.Eng
