/- FnRowSort returns true for all bytes: both RowSort give the same, what they give stands in order and holds each tree as often as the row does, and the row turned about comes to the same. No condition. -/
import Derived.Test.YtodbflfelimppaaLawT
import Derived.Test.YtodbflfelimppaaSort
import Derived.Test.YtodbflfelimppaaArgB
import Derived.Test.YtodbflfelimppaaRows
namespace Go.Proofs.Ytodbflfelimppaa.Eng
open Go.RowKit Go.ChangeShapes Go.WideShapes Go.ChangeAt
set_option linter.unusedVariables false
set_option linter.unusedSimpArgs false
set_option maxHeartbeats 1000000
set_option linter.constructorNameAsVariable false
namespace GRowSort


theorem sortR_ok (t : Tr) (_ : t.Fit) : okT ((sortR t).getD zeroT) = true := by
  unfold sortR
  split
  · exact toldR_ok _ _
  · exact okT_zeroT
theorem okT_perm {l m : List Tr} (h : okT (.mk 5 0 ⟨#[]⟩ [] l) = true) (hp : l.Perm m) : okT (.mk 5 0 ⟨#[]⟩ [] m) = true := by
  obtain ⟨h1, h2⟩ := okT_node h
  have h3 := Form.iff.1 h1
  unfold okT
  rw [Bool.and_eq_true, decide_eq_true_eq, decide_eq_true_eq]
  refine ⟨Form.iff.2 ⟨h3.1, leafP (fun _ => rfl) (fun _ => rfl) (fun _ => rfl) (fun h => absurd h (by omega)) (by omega) (by omega) (by omega) okS_nil, fun x hx => h3.2.2 x (hp.mem_iff.2 hx)⟩, ?_⟩
  rw [Tr.cnt_mk] at h2 ⊢
  rw [← sumN_perm Tr.cnt hp]
  exact h2
theorem rowT_eta {t : Tr} (h : rowT t = true) : t = .mk 5 0 ⟨#[]⟩ [] t.list := by
  unfold rowT at h
  obtain ⟨k, n, s, ks, l⟩ := t
  have hk : k = 5 := by cases h1 : okT (.mk k n s ks l) <;> simp [h1] at h; exact h
  have hok : okT (.mk k n s ks l) = true := by cases h1 : okT (.mk k n s ks l) <;> simp [h1] at h; rfl
  have hp := (Form.iff.1 (okT_node hok).1).2.1
  have h3 := hp.z3 (by omega)
  have h4 := hp.z4 (by omega)
  have h6 := hp.z6 (by omega)
  subst hk
  simp only [Tr.list]
  rw [h3, h4, h6]
theorem sortR_some {t : Tr} {r : Option Tr} (hr : r = sortR t) (h : r.isSome = true) : rowT t = true ∧ okT t = true ∧ r = some (.mk 5 0 ⟨#[]⟩ [] (sortL Tr.ord t.list)) := by
  subst hr
  unfold sortR at h ⊢
  split at h
  · rename_i h1
    rw [if_pos h1]
    refine ⟨h1, by unfold rowT at h1; rw [Bool.and_eq_true] at h1; exact h1.1, ?_⟩
    unfold toldR at h ⊢
    split at h
    · rename_i h2; rw [if_pos h2]
    · cases h
  · cases h
theorem row_of {l : List Tr} (h : okT (.mk 5 0 ⟨#[]⟩ [] l) = true) : rowT (.mk 5 0 ⟨#[]⟩ [] l) = true := by unfold rowT; rw [h]; rfl
theorem back_of {t : Tr} (h : rowT t = true) (ho : okT t = true) : backR t = some (.mk 5 0 ⟨#[]⟩ [] t.list.reverse) := by
  unfold backR
  rw [if_pos h]
  have e := rowT_eta h
  rw [e] at ho
  exact toldR_true (okT_perm ho (List.reverse_perm _).symm)
theorem ord_pre : Pre Tr.ord := Pre.of Tr.cmp
theorem sort_back (l : List Tr) : sortL Tr.ord l.reverse = sortL Tr.ord l :=
  srt_uniq Tr.cmp (sortL_srt ord_pre _) (sortL_srt ord_pre _) ((sortL_perm _).trans ((List.reverse_perm l).trans (sortL_perm l).symm))
theorem back_len {t : Tr} {r : Option Tr} (hr : r = backR t) (h : t.list.length ≤ 5) : (r.getD zeroT).list.length ≤ 19 := by
  subst hr
  unfold backR
  split
  · unfold toldR
    split
    · show t.list.reverse.length ≤ 19
      rw [List.length_reverse]; omega
    · exact Nat.zero_le _
  · exact Nat.zero_le _
theorem none14 {r : Option Tr} (h : (!r.isSome) = true) : ((r.getD zeroT).kind == 0) = true := by
  cases r with
  | none => rfl
  | some x => simp at h
noncomputable def cN (x : Tr) (l : List Tr) : Nat := sumN (fun y => if y = x then 1 else 0) l
theorem cN_take (x : Tr) (l : List Tr) (i : Nat) (hi : i < l.length) : cN x (l.take (i + 1)) = cN x (l.take i) + if l[i] = x then 1 else 0 := sumN_take _ l i hi
theorem cN_le (x : Tr) (l : List Tr) : cN x l ≤ l.length := by
  have h := sumNb (f := fun y => if y = x then 1 else 0) (b := 1) (l := l) fun y _ => by
    show (if y = x then 1 else 0) ≤ 1
    split <;> omega
  show sumN _ l ≤ _
  omega
theorem cN_perm {x : Tr} {l m : List Tr} (h : l.Perm m) : cN x l = cN x m := sumN_perm _ h
theorem srt_at {l : List Tr} (h : Srt Tr.ord l) (i : Nat) (hi : i + 1 < l.length) : ¬ l[i].ord l[i + 1] > 0 := by
  unfold Srt at h
  rw [List.pairwise_iff_getElem] at h
  have := h i (i + 1) (by omega) hi (by omega)
  omega
theorem fin {t : Tr} {r1 r2 r3 : Option Tr} (h1 : r1 = sortR t) (hs : r1.isSome = true) (h2 : r2 = backR t) (h3 : r3 = sortR (r2.getD zeroT)) :
    (((r2.isSome && r3.isSome) && decide (r3.getD zeroT = r1.getD zeroT)) && (((r1.getD zeroT).list.length : Int) == (t.list.length : Int))) = true := by
  obtain ⟨hr, ho, e1⟩ := sortR_some h1 hs
  have e2 := back_of hr ho
  have e0 := rowT_eta hr
  rw [← h2] at e2
  rw [e2] at h3
  have ho2 : okT (.mk 5 0 ⟨#[]⟩ [] t.list.reverse) = true := by
    rw [e0] at ho
    exact okT_perm ho (List.reverse_perm _).symm
  have ho3 : okT (.mk 5 0 ⟨#[]⟩ [] (sortL Tr.ord t.list)) = true := by
    rw [e0] at ho
    exact okT_perm ho (sortL_perm _).symm
  have e3 : r3 = some (.mk 5 0 ⟨#[]⟩ [] (sortL Tr.ord t.list)) := by
    rw [h3]
    show sortR (.mk 5 0 ⟨#[]⟩ [] t.list.reverse) = _
    unfold sortR
    rw [if_pos (row_of ho2)]
    show toldR true (.mk 5 0 ⟨#[]⟩ [] (sortL Tr.ord t.list.reverse)) = _
    rw [sort_back]
    exact toldR_true ho3
  rw [e1, e2, e3]
  simp
  show ((sortL Tr.ord t.list).length : Int) = _
  rw [sortL_len]

set_option maxHeartbeats 8000000 in
set_option maxRecDepth 100000 in
theorem walk (code : List UInt8) (v : Value) (w : World) (hp : RepE bCells 1 Any w code v) :
    Calls Try.prog 7 #[v] w fun e w' => e = .returned (.bool true) ∧ Chg No w w' := by
  obtain ⟨A, c, rfl, -⟩ := hp.open
  refine enter Try.func7 rfl rfl rfl ?_
  have F0 := Fr.start w
  refine Cod.seq fun K1 hK1 => ?_
  refine Cod.region ?_
  refine Ops.step (One.val rfl rfl rfl (yld_assign rfl ev_c) ?_)
  refine Ops.nil fun a hS => ?_
  refine hK1 _ _ ?_ a hS
  refine Cod.seq fun K2 hK2 => ?_
  refine Cod.seq fun K3 hK3 => ?_
  refine Cod.region ?_
  refine Ops.step (One.val rfl rfl rfl (yld_move rfl (ev_t rfl)) ?_)
  refine Ops.step (One.val rfl rfl rfl (yld_len sl45 rfl (ev_t rfl)) ?_)
  refine Ops.step (One.val rfl rfl rfl (yld_gtr rfl (ev_t rfl) ev_c) ?_)
  refine Ops.nil fun a hS => ?_
  refine hK3 _ _ ?_ a hS
  refine Cod.cond rfl (fun hc18 => ?_) (fun hc18 => ?_)
  · skip
    refine Cod.seq fun K4 hK4 => ?_
    refine Cod.region ?_
    refine Ops.step (One.val rfl rfl rfl (yld_assign rfl ev_c) ?_)
    refine Ops.nil fun a hS => ?_
    refine hK4 _ _ ?_ a hS
    refine Cod.ret fun a hS => ?_
    try simp only [Exit.then, Exit.inBlock]
    exact ret1 (t := 2) rfl hS rfl ⟨rfl, F0.chg⟩
  · skip
    refine Cod.skip fun a hS => ?_
    refine hK2 _ _ ?_ a hS
    refine Cod.seq fun K5 hK5 => ?_
    refine Cod.region ?_
    refine Ops.step (One.val rfl rfl rfl (yld_move rfl (ev_t rfl)) ?_)
    refine Ops.step (One.call rfl rfl rfl (ent_f rfl (evl1 (ev_t rfl)) (enters en36)) (drawSort_ct code _ _ (hp.chg F0.chg)) (fun e w1 hw1 => ?_))
    obtain ⟨xa, ta, rfl, C1, hrsa, hda⟩ := hw1
    have hwa := hda.wt
    obtain ⟨Grsa, hGa⟩ : ∃ G, G = New w w1 := ⟨_, rfl⟩
    rw [← hGa] at hrsa
    obtain ⟨A3a, c3a, A4a, c4a, hxa⟩ := rep_x (rps_get hrsa 0 rfl)
    subst hxa
    have F1 := F0.new C1 (rps Grsa [(ta, (x5 ta.kind ta.num ta.str (.slice A3a ta.keys.length c3a) (.slice A4a ta.list.length c4a)).val)]) hrsa (by rw [hGa]; exact New.new)
    refine ⟨_, rfl, ?_⟩
    refine Ops.step (One.alloc F1 zero31 rfl rfl rfl rfl ?_)
    intro b1 w2 hb1 F2
    change Fr _ _ [blk _ _ [_, _, _, _, _], _] _ at F2
    refine Ops.step (One.storeN (vs := [_, _, _, _, _]) F2 0 rfl sz31 rfl rfl rfl (ev_t rfl) (ev_t rfl) rfl rfl (rps_oneC (F2.get 1 rfl) 0 rfl) ?_)
    intro w3 F3
    change Fr _ _ [blk _ _ [_, _, _, _, _], _] _ at F3
    refine Ops.nil fun a hS => ?_
    refine hK5 _ _ ?_ a hS
    refine Cod.seq fun K6 hK6 => ?_
    refine Cod.region ?_
    refine Ops.step (One.val rfl rfl rfl (yld_loadN ag31 rfl (ev_t rfl) (fun _ => F3.range (m := 5) (cs' := [_, _, _, _, _]) 0 rfl rfl) rfl) ?_)
    refine Ops.step (One.call rfl rfl rfl (ent_f rfl (evl1 (ev_t rfl)) (enters en34)) (sort_ct ta _ _ (rps_get (F3.get 1 rfl) 0 rfl) hda.fit (by omega) (by have := hda.len; omega)) (fun e w4 hw4 => ?_))
    obtain ⟨R1, hR1⟩ : ∃ R, R = sortR ta := ⟨_, rfl⟩
    have hO1 : okT (R1.getD zeroT) = true := by rw [hR1]; exact sortR_ok _ hda.fit
    rw [← hR1] at hw4
    obtain ⟨e1, E1, rfl, C4, hE1, hEb1⟩ := hw4
    obtain ⟨A3e1, c3e1, A4e1, c4e1, hxe1⟩ := rep_x hE1.rep
    subst hxe1
    have F4 := F3.new C4 (sep E1 (R1.getD zeroT) (x5 (R1.getD zeroT).kind (R1.getD zeroT).num (R1.getD zeroT).str (.slice A3e1 (R1.getD zeroT).keys.length c3e1) (.slice A4e1 (R1.getD zeroT).list.length c4e1)).val) hE1 hEb1
    refine ⟨_, rfl, ?_⟩
    refine Ops.step (One.val rfl rfl rfl (yld_move rfl (ev_t rfl)) ?_)
    refine Ops.step (One.val rfl rfl rfl (yld_extract rfl (ev_t rfl) rfl) ?_)
    refine Ops.step (One.val rfl rfl rfl (yld_extract rfl (ev_t rfl) rfl) ?_)
    refine Ops.step (One.alloc F4 zero31 rfl rfl rfl rfl ?_)
    intro b2 w5 hb2 F5
    change Fr _ _ [blk _ _ [_, _, _, _, _], _, blk _ _ [_, _, _, _, _], _] _ at F5
    refine Ops.step (One.storeN (vs := [_, _, _, _, _]) F5 0 rfl sz31 rfl rfl rfl (ev_t rfl) (ev_t rfl) rfl rfl (Sep.one (x := (x5 (R1.getD zeroT).kind (R1.getD zeroT).num (R1.getD zeroT).str (.slice A3e1 (R1.getD zeroT).keys.length c3e1) (.slice A4e1 (R1.getD zeroT).list.length c4e1))) (F5.get 1 rfl)) ?_)
    intro w6 F6
    change Fr _ _ [blk _ _ [_, _, _, _, _], _, blk _ _ [_, _, _, _, _], _] _ at F6
    refine Ops.step (One.val rfl rfl rfl (yld_assign rfl (ev_t rfl)) ?_)
    refine Ops.nil fun a hS => ?_
    refine hK6 _ _ ?_ a hS
    refine Cod.seq fun K7 hK7 => ?_
    refine Cod.region ?_
    refine Ops.step (One.val rfl rfl rfl (yld_loadN ag31 rfl (ev_t rfl) (fun _ => F6.range (m := 5) (cs' := [_, _, _, _, _]) 2 rfl rfl) rfl) ?_)
    refine Ops.step (One.call rfl rfl rfl (ent_f rfl (evl1 (ev_t rfl)) (enters en37)) (specSort_ct ta _ _ (rps_get (F6.get 3 rfl) 0 rfl) hda.fit (by omega) (by have := hda.len; omega)) (fun e w7 hw7 => ?_))
    rw [← hR1] at hw7
    obtain ⟨e2, E2, rfl, C7, hE2, hEb2⟩ := hw7
    obtain ⟨A3e2, c3e2, A4e2, c4e2, hxe2⟩ := rep_x hE2.rep
    subst hxe2
    have F7 := F6.new C7 (sep E2 (R1.getD zeroT) (x5 (R1.getD zeroT).kind (R1.getD zeroT).num (R1.getD zeroT).str (.slice A3e2 (R1.getD zeroT).keys.length c3e2) (.slice A4e2 (R1.getD zeroT).list.length c4e2)).val) hE2 hEb2
    refine ⟨_, rfl, ?_⟩
    refine Ops.step (One.val rfl rfl rfl (yld_move rfl (ev_t rfl)) ?_)
    refine Ops.step (One.val rfl rfl rfl (yld_extract rfl (ev_t rfl) rfl) ?_)
    refine Ops.step (One.val rfl rfl rfl (yld_extract rfl (ev_t rfl) rfl) ?_)
    refine Ops.step (One.alloc F7 zero31 rfl rfl rfl rfl ?_)
    intro b3 w8 hb3 F8
    change Fr _ _ [blk _ _ [_, _, _, _, _], _, blk _ _ [_, _, _, _, _], _, blk _ _ [_, _, _, _, _], _] _ at F8
    refine Ops.step (One.storeN (vs := [_, _, _, _, _]) F8 0 rfl sz31 rfl rfl rfl (ev_t rfl) (ev_t rfl) rfl rfl (Sep.one (x := (x5 (R1.getD zeroT).kind (R1.getD zeroT).num (R1.getD zeroT).str (.slice A3e2 (R1.getD zeroT).keys.length c3e2) (.slice A4e2 (R1.getD zeroT).list.length c4e2))) (F8.get 1 rfl)) ?_)
    intro w9 F9
    change Fr _ _ [blk _ _ [_, _, _, _, _], _, blk _ _ [_, _, _, _, _], _, blk _ _ [_, _, _, _, _], _] _ at F9
    refine Ops.step (One.val rfl rfl rfl (yld_assign rfl (ev_t rfl)) ?_)
    refine Ops.nil fun a hS => ?_
    refine hK7 _ _ ?_ a hS
    refine Cod.seq fun K8 hK8 => ?_
    refine Cod.seq fun K9 hK9 => ?_
    refine Cod.region ?_
    refine Ops.step (One.val rfl rfl rfl (yld_move rfl (ev_t rfl)) ?_)
    refine Ops.step (One.val rfl rfl rfl (yld_move rfl (ev_t rfl)) ?_)
    refine Ops.step (One.val rfl rfl rfl (yld_bneq Try.underlying4 rfl (ev_t rfl) (ev_t rfl)) ?_)
    refine Ops.step (One.val rfl rfl rfl (yld_move rfl (ev_t rfl)) ?_)
    refine Ops.step (One.val (gd_some rfl rfl) rfl rfl (yld_loadN ag31 rfl (ev_t rfl) (fun _ => F9.range (m := 5) (cs' := [_, _, _, _, _]) 2 rfl rfl) rfl) ?_)
    refine Ops.step (One.val (gd_some rfl rfl) rfl rfl (yld_loadN ag31 rfl (ev_t rfl) (fun _ => F9.range (m := 5) (cs' := [_, _, _, _, _]) 0 rfl rfl) rfl) ?_)
    refine Ops.step (One.gcall (R := Chg No w9) (gd_some rfl rfl) rfl rfl (ent_f rfl (evl2 (ev_g rfl) (ev_g rfl)) (enters en27)) (Chg.refl _ _) (fun hg => valSame_ct (R1.getD zeroT) (R1.getD zeroT) _ _ _ (F9.get 3 rfl).rep (F9.get 1 rfl).rep) ?_)
    intro w10 C10
    have F10 := F9.call C10
    refine Ops.step (One.val (gd_some rfl rfl) rfl rfl (yld_not rfl (ev_g rfl)) ?_)
    refine Ops.step (One.val rfl rfl rfl (yld_or rfl (ev_t rfl) (ev_g rfl)) ?_)
    refine Ops.nil fun a hS => ?_
    refine hK9 _ _ ?_ a hS
    refine Cod.cond rfl (fun hc39 => ?_) (fun hc39 => ?_)
    · skip
      simp at hc39
    · skip
      refine Cod.skip fun a hS => ?_
      refine hK8 _ _ ?_ a hS
      refine Cod.seq fun K10 hK10 => ?_
      refine Cod.seq fun K11 hK11 => ?_
      refine Cod.region ?_
      refine Ops.step (One.val rfl rfl rfl (yld_move rfl (ev_t rfl)) ?_)
      refine Ops.step (One.val rfl rfl rfl (yld_not rfl (ev_t rfl)) ?_)
      refine Ops.nil fun a hS => ?_
      refine hK11 _ _ ?_ a hS
      refine Cod.cond rfl (fun hc41 => ?_) (fun hc41 => ?_)
      · skip
        skip
        refine Cod.seq fun K12 hK12 => ?_
        refine Cod.region ?_
        refine Ops.step (One.val rfl rfl rfl (yld_field fi31_0 rfl (ev_t rfl)) ?_)
        refine Ops.step (One.val rfl rfl rfl (yld_load1 on3 rfl (ev_t rfl) (fun _ => F10.cell 2 rfl rfl)) ?_)
        refine Ops.step (One.val rfl rfl rfl (yld_eql rfl (ev_t rfl) ev_c) ?_)
        refine Ops.step (One.val rfl rfl rfl (yld_assign rfl (ev_t rfl)) ?_)
        refine Ops.nil fun a hS => ?_
        refine hK12 _ _ ?_ a hS
        refine Cod.ret fun a hS => ?_
        try simp only [Exit.then, Exit.inBlock]
        exact ret1 (t := 2) rfl hS rfl ⟨ret_b (none14 hc41), F10.chg⟩
      · skip
        have hsome : R1.isSome = true := by simpa using hc41
        obtain ⟨hrow, hoka, hR1e⟩ := sortR_some hR1 hsome
        have hSl : (R1.getD zeroT).list = sortL Tr.ord ta.list := by rw [hR1e]; rfl
        have hSn : (R1.getD zeroT).list.length = ta.list.length := by rw [hSl, sortL_len]
        have hSs : Srt Tr.ord (R1.getD zeroT).list := by rw [hSl]; exact sortL_srt ord_pre _
        have hln := hda.len
        refine Cod.skip fun a hS => ?_
        refine hK10 _ _ ?_ a hS
        refine Cod.seq fun K13 hK13 => ?_
        refine Cod.region ?_
        refine Ops.step (One.val rfl rfl rfl (yld_loadN ag31 rfl (ev_t rfl) (fun _ => F10.range (m := 5) (cs' := [_, _, _, _, _]) 4 rfl rfl) rfl) ?_)
        refine Ops.step (One.call rfl rfl rfl (ent_f rfl (evl1 (ev_t rfl)) (enters en33)) (back_ct ta _ _ (rps_get (F10.get 5 rfl) 0 rfl) hda.fit (by omega)) (fun e w11 hw11 => ?_))
        obtain ⟨R2, hR2⟩ : ∃ R, R = backR ta := ⟨_, rfl⟩
        have hO2 : okT (R2.getD zeroT) = true := by rw [hR2]; exact backR_ok _ hda.fit
        rw [← hR2] at hw11
        obtain ⟨e3, E3, rfl, C11, hE3, hEb3⟩ := hw11
        obtain ⟨A3e3, c3e3, A4e3, c4e3, hxe3⟩ := rep_x hE3.rep
        subst hxe3
        have F11 := F10.new C11 (sep E3 (R2.getD zeroT) (x5 (R2.getD zeroT).kind (R2.getD zeroT).num (R2.getD zeroT).str (.slice A3e3 (R2.getD zeroT).keys.length c3e3) (.slice A4e3 (R2.getD zeroT).list.length c4e3)).val) hE3 hEb3
        refine ⟨_, rfl, ?_⟩
        refine Ops.step (One.val rfl rfl rfl (yld_move rfl (ev_t rfl)) ?_)
        refine Ops.step (One.val rfl rfl rfl (yld_extract rfl (ev_t rfl) rfl) ?_)
        refine Ops.step (One.val rfl rfl rfl (yld_extract rfl (ev_t rfl) rfl) ?_)
        refine Ops.step (One.alloc F11 zero31 rfl rfl rfl rfl ?_)
        intro b4 w12 hb4 F12
        change Fr _ _ [blk _ _ [_, _, _, _, _], _, blk _ _ [_, _, _, _, _], _, blk _ _ [_, _, _, _, _], _, blk _ _ [_, _, _, _, _], _] _ at F12
        refine Ops.step (One.storeN (vs := [_, _, _, _, _]) F12 0 rfl sz31 rfl rfl rfl (ev_t rfl) (ev_t rfl) rfl rfl (Sep.one (x := (x5 (R2.getD zeroT).kind (R2.getD zeroT).num (R2.getD zeroT).str (.slice A3e3 (R2.getD zeroT).keys.length c3e3) (.slice A4e3 (R2.getD zeroT).list.length c4e3))) (F12.get 1 rfl)) ?_)
        intro w13 F13
        change Fr _ _ [blk _ _ [_, _, _, _, _], _, blk _ _ [_, _, _, _, _], _, blk _ _ [_, _, _, _, _], _, blk _ _ [_, _, _, _, _], _] _ at F13
        refine Ops.step (One.val rfl rfl rfl (yld_assign rfl (ev_t rfl)) ?_)
        refine Ops.nil fun a hS => ?_
        refine hK13 _ _ ?_ a hS
        refine Cod.seq fun K14 hK14 => ?_
        refine Cod.region ?_
        refine Ops.step (One.val rfl rfl rfl (yld_loadN ag31 rfl (ev_t rfl) (fun _ => F13.range (m := 5) (cs' := [_, _, _, _, _]) 0 rfl rfl) rfl) ?_)
        refine Ops.step (One.call rfl rfl rfl (ent_f rfl (evl1 (ev_t rfl)) (enters en34)) (sort_ct (R2.getD zeroT) _ _ (F13.get 1 rfl).rep (okT_fit hO2) (okT_w hO2) (back_len hR2 hda.len)) (fun e w14 hw14 => ?_))
        obtain ⟨R3, hR3⟩ : ∃ R, R = sortR (R2.getD zeroT) := ⟨_, rfl⟩
        have hO3 : okT (R3.getD zeroT) = true := by rw [hR3]; exact sortR_ok _ (okT_fit hO2)
        rw [← hR3] at hw14
        obtain ⟨e4, E4, rfl, C14, hE4, hEb4⟩ := hw14
        obtain ⟨A3e4, c3e4, A4e4, c4e4, hxe4⟩ := rep_x hE4.rep
        subst hxe4
        have F14 := F13.new C14 (sep E4 (R3.getD zeroT) (x5 (R3.getD zeroT).kind (R3.getD zeroT).num (R3.getD zeroT).str (.slice A3e4 (R3.getD zeroT).keys.length c3e4) (.slice A4e4 (R3.getD zeroT).list.length c4e4)).val) hE4 hEb4
        refine ⟨_, rfl, ?_⟩
        refine Ops.step (One.val rfl rfl rfl (yld_move rfl (ev_t rfl)) ?_)
        refine Ops.step (One.val rfl rfl rfl (yld_extract rfl (ev_t rfl) rfl) ?_)
        refine Ops.step (One.val rfl rfl rfl (yld_extract rfl (ev_t rfl) rfl) ?_)
        refine Ops.step (One.alloc F14 zero31 rfl rfl rfl rfl ?_)
        intro b5 w15 hb5 F15
        change Fr _ _ [blk _ _ [_, _, _, _, _], _, blk _ _ [_, _, _, _, _], _, blk _ _ [_, _, _, _, _], _, blk _ _ [_, _, _, _, _], _, blk _ _ [_, _, _, _, _], _] _ at F15
        refine Ops.step (One.storeN (vs := [_, _, _, _, _]) F15 0 rfl sz31 rfl rfl rfl (ev_t rfl) (ev_t rfl) rfl rfl (Sep.one (x := (x5 (R3.getD zeroT).kind (R3.getD zeroT).num (R3.getD zeroT).str (.slice A3e4 (R3.getD zeroT).keys.length c3e4) (.slice A4e4 (R3.getD zeroT).list.length c4e4))) (F15.get 1 rfl)) ?_)
        intro w16 F16
        change Fr _ _ [blk _ _ [_, _, _, _, _], _, blk _ _ [_, _, _, _, _], _, blk _ _ [_, _, _, _, _], _, blk _ _ [_, _, _, _, _], _, blk _ _ [_, _, _, _, _], _] _ at F16
        refine Ops.step (One.val rfl rfl rfl (yld_assign rfl (ev_t rfl)) ?_)
        refine Ops.nil fun a hS => ?_
        refine hK14 _ _ ?_ a hS
        refine Cod.seq fun K15 hK15 => ?_
        refine Cod.seq fun K16 hK16 => ?_
        refine Cod.region ?_
        refine Ops.step (One.val rfl rfl rfl (yld_assign rfl ev_c) ?_)
        refine Ops.nil fun a hS => ?_
        refine hK16 _ _ ?_ a hS
        refine Cod.block ?_
        have F17 := F16.pull 9 rfl
        have F18 := F17.pull 9 rfl
        have F19 := F18.pull 9 rfl
        have F20 := F19.pull 9 rfl
        have F21 := F20.pull 5 rfl
        have F22 := F21.pull 5 rfl
        have F23 := F22.erase 6
        have F24 := F23.erase 6
        have F25 := F24.erase 6
        have F26 := F25.erase 6
        refine Cod.loop (fun i : Nat => [(3, true, .pointer (some ⟨b1, 0, none⟩)), (4, true, .pointer (some ⟨b2, 0, none⟩)), (9, true, .bool R2.isSome), (10, true, .pointer (some ⟨b5, 0, none⟩)), (11, true, .bool R3.isSome), (12, true, .int .i64 ((i + 1 : Nat) : Int))]) (fun i w' => i ≤ 10 ∧ Fr No w [blk b5 31 (enc5 (x5 (R3.getD zeroT).kind (R3.getD zeroT).num (R3.getD zeroT).str (.slice A3e4 (R3.getD zeroT).keys.length c3e4) (.slice A4e4 (R3.getD zeroT).list.length c4e4))), sep E4 (R3.getD zeroT) (x5 (R3.getD zeroT).kind (R3.getD zeroT).num (R3.getD zeroT).str (.slice A3e4 (R3.getD zeroT).keys.length c3e4) (.slice A4e4 (R3.getD zeroT).list.length c4e4)).val, blk b2 31 (enc5 (x5 (R1.getD zeroT).kind (R1.getD zeroT).num (R1.getD zeroT).str (.slice A3e1 (R1.getD zeroT).keys.length c3e1) (.slice A4e1 (R1.getD zeroT).list.length c4e1))), sep E1 (R1.getD zeroT) (x5 (R1.getD zeroT).kind (R1.getD zeroT).num (R1.getD zeroT).str (.slice A3e1 (R1.getD zeroT).keys.length c3e1) (.slice A4e1 (R1.getD zeroT).list.length c4e1)).val, blk b1 31 (enc5 (x5 ta.kind ta.num ta.str (.slice A3a ta.keys.length c3a) (.slice A4a ta.list.length c4a))), rps Grsa [(ta, (x5 ta.kind ta.num ta.str (.slice A3a ta.keys.length c3a) (.slice A4a ta.list.length c4a)).val)]] w') (fun i => 10 - i) 0 ⟨rfl, rfl, rfl, rfl, rfl, rfl, trivial⟩ ⟨Nat.zero_le _, F26⟩ ?_
        intro i w17 hW K17 hK17
        obtain ⟨ix, hix⟩ : ∃ ix, ix = i := ⟨i, rfl⟩
        subst hix
        obtain ⟨hi0, F27⟩ := hW
        refine Cod.seq fun K18 hK18 => ?_
        refine Cod.seq fun K19 hK19 => ?_
        refine Cod.region ?_
        refine Ops.step (One.val rfl rfl rfl (yld_move rfl (ev_t rfl)) ?_)
        refine Ops.step (One.val rfl rfl rfl (yld_field fi31_4 rfl (ev_t rfl)) ?_)
        refine Ops.step (One.val rfl rfl rfl (yld_load1 on29 rfl (ev_t rfl) (fun _ => F27.cell 2 rfl rfl)) ?_)
        refine Ops.step (One.val rfl rfl rfl (yld_len sl29 rfl (ev_t rfl)) ?_)
        refine Ops.step (One.val rfl rfl rfl (yld_lss rfl (ev_t rfl) (ev_t rfl)) ?_)
        refine Ops.nil fun a hS => ?_
        refine hK19 _ _ ?_ a hS
        refine Cod.cond rfl (fun hc59 => ?_) (fun hc59 => ?_)
        · skip
          have hi : ix + 1 < (R1.getD zeroT).list.length := by simp at hc59; omega
          refine Cod.skip fun a hS => ?_
          refine hK18 _ _ ?_ a hS
          refine Cod.seq fun K20 hK20 => ?_
          refine Cod.block ?_
          refine Cod.seq fun K21 hK21 => ?_
          have F28 := F27.drew
          obtain ⟨y1, p1, z1, hy1, -, hr1, ht1⟩ := at5 (rep_l (F28.get 3 rfl).rep) ix (by omega)
          obtain ⟨y2, p2, z2, hy2, -, hr2, ht2⟩ := at5 (rep_l (F28.get 3 rfl).rep) (ix + 1) hi
          refine Cod.draw (C_of F28) (by kernel_rfl) ?_
          refine Hops.take 0 rfl (by kernel_rfl) (fun _ _ _ h => h) rfl rfl rfl F28 (fun w F => (yld_field fi31_4 rfl (ev_t rfl))) ?_
          refine Hops.take 1 rfl (by kernel_rfl) (fun _ _ _ h => h) rfl rfl rfl F28 (fun w F => (yld_load1 on29 rfl (ev_t rfl) (fun _ => F.cell 2 rfl rfl))) ?_
          refine Hops.take 2 rfl (by kernel_rfl) (fun _ _ _ h => h) rfl rfl rfl F28 (fun w F => (yld_move rfl (ev_t rfl))) ?_
          refine Hops.take 3 rfl (by kernel_rfl) (fun _ _ _ h => h) rfl rfl rfl F28 (fun w F => (Yld.castE (v' := .int .i64 (ix : Int)) (yld_sub rfl (ev_t rfl) ev_c (fun _ => by omega)) (fun _ => by rw [show ((ix + 1 : Nat) : Int) - 1 = (ix : Int) by omega]))) ?_
          refine Hops.take 4 rfl (by kernel_rfl) (fun _ _ _ h => h) rfl rfl rfl F28 (fun w F => (yld_indexG (b := y1) (q := p1) (i := ix) sl29 rfl (ev_t rfl) (ev_t rfl) (fun _ => hy1) (fun _ => by omega))) ?_
          refine Hops.take 6 rfl (by kernel_rfl) (fun _ _ _ h => h) rfl rfl rfl F28 (fun w F => (yld_field fi31_4 rfl (ev_t rfl))) ?_
          refine Hops.take 7 rfl (by kernel_rfl) (fun _ _ _ h => h) rfl rfl rfl F28 (fun w F => (yld_load1 on29 rfl (ev_t rfl) (fun _ => F.cell 2 rfl rfl))) ?_
          refine Hops.take 8 rfl (by kernel_rfl) (fun _ _ _ h => h) rfl rfl rfl F28 (fun w F => (yld_move rfl (ev_t rfl))) ?_
          refine Hops.take 9 rfl (by kernel_rfl) (fun _ _ _ h => h) rfl rfl rfl F28 (fun w F => (yld_indexG (b := y2) (q := p2) (i := ix + 1) sl29 rfl (ev_t rfl) (ev_t rfl) (fun _ => hy2) (fun _ => hi))) ?_
          refine Hops.two 5 10 rfl rfl (by kernel_rfl) ?_ ?_
          · skip
            refine (One.val rfl rfl rfl (yld_loadN (cs := [z1.a, z1.b, z1.c, z1.d, z1.e]) ag31 rfl (ev_t rfl) (fun _ => hr1) rfl) ?_)
            refine ⟨F28, ?_⟩
            refine Hops.one 10 rfl (by kernel_rfl) (One.val rfl rfl rfl (yld_loadN (cs := [z2.a, z2.b, z2.c, z2.d, z2.e]) ag31 rfl (ev_t rfl) (fun _ => hr2) rfl) ?_)
            refine ⟨F28, ?_⟩
            refine Hops.one 11 rfl (by kernel_rfl) (One.call rfl rfl rfl (ent_f rfl (evl2 (ev_t rfl) (ev_t rfl)) (enters en38)) (valOrd_ct ((R1.getD zeroT).list[ix]'(by omega)) ((R1.getD zeroT).list[ix + 1]'hi) _ _ _ ht1 ht2) (fun e w18 hw18 => ?_))
            obtain ⟨rfl, C18⟩ := hw18
            have F29 := F28.call C18
            refine ⟨_, rfl, ?_⟩
            refine ⟨F29, ?_⟩
            refine Hops.take 12 rfl (by kernel_rfl) (fun _ _ _ h => h) rfl rfl rfl F29 (fun w F => (yld_gtr rfl (ev_t rfl) ev_c)) ?_
            refine Hops.nil (by kernel_rfl) fun a hS => ?_
            refine hK21 _ _ ?_ a hS
            refine Cod.cond rfl (fun hc74 => ?_) (fun hc74 => ?_)
            · skip
              exact absurd (of_decide_eq_true hc74) (srt_at hSs ix hi)
            · skip
              refine Cod.skip fun a hS => ?_
              refine hK20 _ _ ?_ a hS
              refine Cod.region ?_
              refine Ops.step (One.val rfl rfl rfl (yld_move rfl (ev_t rfl)) ?_)
              refine Ops.step (One.val rfl rfl rfl (yld_inc rfl (ev_t rfl) (fun _ => by omega)) ?_)
              refine Ops.step (One.val rfl rfl rfl (yld_assign rfl (ev_t rfl)) ?_)
              refine Ops.nil fun a hS => ?_
              have F30 := F29.pull 5 rfl
              have F31 := F30.pull 5 rfl
              have F32 := F31.pull 5 rfl
              have F33 := F32.pull 5 rfl
              have F34 := F33.pull 5 rfl
              have F35 := F34.pull 5 rfl
              exact hK17 (ix + 1) _ a (hS.sub ⟨rfl, rfl, rfl, rfl, rfl, rfl, trivial⟩) ⟨by omega, F35⟩ (by omega)
          · skip
            refine (One.val rfl rfl rfl (yld_loadN (cs := [z2.a, z2.b, z2.c, z2.d, z2.e]) ag31 rfl (ev_t rfl) (fun _ => hr2) rfl) ?_)
            refine ⟨F28, ?_⟩
            refine Hops.one 5 rfl (by kernel_rfl) (One.val rfl rfl rfl (yld_loadN (cs := [z1.a, z1.b, z1.c, z1.d, z1.e]) ag31 rfl (ev_t rfl) (fun _ => hr1) rfl) ?_)
            refine ⟨F28, ?_⟩
            refine Hops.one 11 rfl (by kernel_rfl) (One.call rfl rfl rfl (ent_f rfl (evl2 (ev_t rfl) (ev_t rfl)) (enters en38)) (valOrd_ct ((R1.getD zeroT).list[ix]'(by omega)) ((R1.getD zeroT).list[ix + 1]'hi) _ _ _ ht1 ht2) (fun e w19 hw19 => ?_))
            obtain ⟨rfl, C19⟩ := hw19
            have F36 := F28.call C19
            refine ⟨_, rfl, ?_⟩
            refine ⟨F36, ?_⟩
            refine Hops.take 12 rfl (by kernel_rfl) (fun _ _ _ h => h) rfl rfl rfl F36 (fun w F => (yld_gtr rfl (ev_t rfl) ev_c)) ?_
            refine Hops.nil (by kernel_rfl) fun a hS => ?_
            refine hK21 _ _ ?_ a hS
            refine Cod.cond rfl (fun hc74 => ?_) (fun hc74 => ?_)
            · skip
              exact absurd (of_decide_eq_true hc74) (srt_at hSs ix hi)
            · skip
              refine Cod.skip fun a hS => ?_
              refine hK20 _ _ ?_ a hS
              refine Cod.region ?_
              refine Ops.step (One.val rfl rfl rfl (yld_move rfl (ev_t rfl)) ?_)
              refine Ops.step (One.val rfl rfl rfl (yld_inc rfl (ev_t rfl) (fun _ => by omega)) ?_)
              refine Ops.step (One.val rfl rfl rfl (yld_assign rfl (ev_t rfl)) ?_)
              refine Ops.nil fun a hS => ?_
              have F37 := F36.pull 5 rfl
              have F38 := F37.pull 5 rfl
              have F39 := F38.pull 5 rfl
              have F40 := F39.pull 5 rfl
              have F41 := F40.pull 5 rfl
              have F42 := F41.pull 5 rfl
              exact hK17 (ix + 1) _ a (hS.sub ⟨rfl, rfl, rfl, rfl, rfl, rfl, trivial⟩) ⟨by omega, F42⟩ (by omega)
        · skip
          skip
          refine Cod.exit fun a hS => ?_
          simp only [Exit.then, Exit.inBlock, ↓reduceIte]
          refine hK15 _ _ ?_ a hS
          refine Cod.seq fun K22 hK22 => ?_
          refine Cod.seq fun K23 hK23 => ?_
          refine Cod.region ?_
          refine Ops.step (One.val rfl rfl rfl (yld_assign rfl ev_c) ?_)
          refine Ops.nil fun a hS => ?_
          refine hK23 _ _ ?_ a hS
          refine Cod.block ?_
          refine Cod.loop (fun i : Nat => [(3, true, .pointer (some ⟨b1, 0, none⟩)), (4, true, .pointer (some ⟨b2, 0, none⟩)), (9, true, .bool R2.isSome), (10, true, .pointer (some ⟨b5, 0, none⟩)), (11, true, .bool R3.isSome), (13, true, .int .i64 (i : Int))]) (fun i w' => i ≤ ta.list.length ∧ Fr No w [blk b5 31 (enc5 (x5 (R3.getD zeroT).kind (R3.getD zeroT).num (R3.getD zeroT).str (.slice A3e4 (R3.getD zeroT).keys.length c3e4) (.slice A4e4 (R3.getD zeroT).list.length c4e4))), sep E4 (R3.getD zeroT) (x5 (R3.getD zeroT).kind (R3.getD zeroT).num (R3.getD zeroT).str (.slice A3e4 (R3.getD zeroT).keys.length c3e4) (.slice A4e4 (R3.getD zeroT).list.length c4e4)).val, blk b2 31 (enc5 (x5 (R1.getD zeroT).kind (R1.getD zeroT).num (R1.getD zeroT).str (.slice A3e1 (R1.getD zeroT).keys.length c3e1) (.slice A4e1 (R1.getD zeroT).list.length c4e1))), sep E1 (R1.getD zeroT) (x5 (R1.getD zeroT).kind (R1.getD zeroT).num (R1.getD zeroT).str (.slice A3e1 (R1.getD zeroT).keys.length c3e1) (.slice A4e1 (R1.getD zeroT).list.length c4e1)).val, blk b1 31 (enc5 (x5 ta.kind ta.num ta.str (.slice A3a ta.keys.length c3a) (.slice A4a ta.list.length c4a))), rps Grsa [(ta, (x5 ta.kind ta.num ta.str (.slice A3a ta.keys.length c3a) (.slice A4a ta.list.length c4a)).val)]] w') (fun i => ta.list.length - i) 0 ⟨rfl, rfl, rfl, rfl, rfl, rfl, trivial⟩ ⟨Nat.zero_le _, F27⟩ ?_
          intro i w20 hW K24 hK24
          obtain ⟨ix, hix⟩ : ∃ ix, ix = i := ⟨i, rfl⟩
          subst hix
          obtain ⟨hi0, F43⟩ := hW
          refine Cod.seq fun K25 hK25 => ?_
          refine Cod.seq fun K26 hK26 => ?_
          refine Cod.region ?_
          refine Ops.step (One.val rfl rfl rfl (yld_move rfl (ev_t rfl)) ?_)
          refine Ops.step (One.val rfl rfl rfl (yld_field fi31_4 rfl (ev_t rfl)) ?_)
          refine Ops.step (One.val rfl rfl rfl (yld_load1 on29 rfl (ev_t rfl) (fun _ => F43.cell 4 rfl rfl)) ?_)
          refine Ops.step (One.val rfl rfl rfl (yld_len sl29 rfl (ev_t rfl)) ?_)
          refine Ops.step (One.val rfl rfl rfl (yld_lss rfl (ev_t rfl) (ev_t rfl)) ?_)
          refine Ops.nil fun a hS => ?_
          refine hK26 _ _ ?_ a hS
          refine Cod.cond rfl (fun hc79 => ?_) (fun hc79 => ?_)
          · skip
            have hi : ix < ta.list.length := by simpa using hc79
            refine Cod.skip fun a hS => ?_
            refine hK25 _ _ ?_ a hS
            refine Cod.seq fun K27 hK27 => ?_
            refine Cod.block ?_
            refine Cod.seq fun K28 hK28 => ?_
            refine Cod.region ?_
            refine Ops.step (One.val rfl rfl rfl (yld_assign rfl ev_c) ?_)
            refine Ops.nil fun a hS => ?_
            refine hK28 _ _ ?_ a hS
            refine Cod.seq fun K29 hK29 => ?_
            refine Cod.seq fun K30 hK30 => ?_
            refine Cod.region ?_
            refine Ops.step (One.val rfl rfl rfl (yld_assign rfl ev_c) ?_)
            refine Ops.nil fun a hS => ?_
            refine hK30 _ _ ?_ a hS
            refine Cod.block ?_
            refine Cod.loop (fun i : Nat × Int => [(3, true, .pointer (some ⟨b1, 0, none⟩)), (4, true, .pointer (some ⟨b2, 0, none⟩)), (9, true, .bool R2.isSome), (10, true, .pointer (some ⟨b5, 0, none⟩)), (11, true, .bool R3.isSome), (13, true, .int .i64 (ix : Int)), (14, true, .int .i64 i.2), (15, true, .int .i64 (i.1 : Int))]) (fun i w' => i.1 ≤ ta.list.length ∧ i.2 = (((cN (ta.list[ix]'hi) (ta.list.take i.1) : Nat) : Int) - ((cN (ta.list[ix]'hi) ((R1.getD zeroT).list.take i.1) : Nat) : Int)) ∧ Fr No w [blk b5 31 (enc5 (x5 (R3.getD zeroT).kind (R3.getD zeroT).num (R3.getD zeroT).str (.slice A3e4 (R3.getD zeroT).keys.length c3e4) (.slice A4e4 (R3.getD zeroT).list.length c4e4))), sep E4 (R3.getD zeroT) (x5 (R3.getD zeroT).kind (R3.getD zeroT).num (R3.getD zeroT).str (.slice A3e4 (R3.getD zeroT).keys.length c3e4) (.slice A4e4 (R3.getD zeroT).list.length c4e4)).val, blk b2 31 (enc5 (x5 (R1.getD zeroT).kind (R1.getD zeroT).num (R1.getD zeroT).str (.slice A3e1 (R1.getD zeroT).keys.length c3e1) (.slice A4e1 (R1.getD zeroT).list.length c4e1))), sep E1 (R1.getD zeroT) (x5 (R1.getD zeroT).kind (R1.getD zeroT).num (R1.getD zeroT).str (.slice A3e1 (R1.getD zeroT).keys.length c3e1) (.slice A4e1 (R1.getD zeroT).list.length c4e1)).val, blk b1 31 (enc5 (x5 ta.kind ta.num ta.str (.slice A3a ta.keys.length c3a) (.slice A4a ta.list.length c4a))), rps Grsa [(ta, (x5 ta.kind ta.num ta.str (.slice A3a ta.keys.length c3a) (.slice A4a ta.list.length c4a)).val)]] w') (fun i => ta.list.length - i.1) (0, 0) ⟨rfl, rfl, rfl, rfl, rfl, rfl, rfl, rfl, trivial⟩ ⟨Nat.zero_le _, by simp [cN, sumN], F43⟩ ?_
            intro i w21 hW K31 hK31
            obtain ⟨kx, nn⟩ := i
            obtain ⟨hk0, hnn, F44⟩ := hW
            dsimp only at *
            refine Cod.seq fun K32 hK32 => ?_
            refine Cod.seq fun K33 hK33 => ?_
            refine Cod.region ?_
            refine Ops.step (One.val rfl rfl rfl (yld_move rfl (ev_t rfl)) ?_)
            refine Ops.step (One.val rfl rfl rfl (yld_field fi31_4 rfl (ev_t rfl)) ?_)
            refine Ops.step (One.val rfl rfl rfl (yld_load1 on29 rfl (ev_t rfl) (fun _ => F44.cell 4 rfl rfl)) ?_)
            refine Ops.step (One.val rfl rfl rfl (yld_len sl29 rfl (ev_t rfl)) ?_)
            refine Ops.step (One.val rfl rfl rfl (yld_lss rfl (ev_t rfl) (ev_t rfl)) ?_)
            refine Ops.nil fun a hS => ?_
            refine hK33 _ _ ?_ a hS
            refine Cod.cond rfl (fun hc86 => ?_) (fun hc86 => ?_)
            · skip
              have hk : kx < ta.list.length := by simpa using hc86
              have hca := cN_take (ta.list[ix]'hi) ta.list kx hk
              have hcb := cN_take (ta.list[ix]'hi) (R1.getD zeroT).list kx (by omega)
              have hcl := cN_le (ta.list[ix]'hi) (ta.list.take kx)
              have hcm := cN_le (ta.list[ix]'hi) ((R1.getD zeroT).list.take kx)
              rw [List.length_take] at hcl hcm
              refine Cod.skip fun a hS => ?_
              refine hK32 _ _ ?_ a hS
              refine Cod.seq fun K34 hK34 => ?_
              refine Cod.block ?_
              refine Cod.cut (fun i : Int => [(3, true, .pointer (some ⟨b1, 0, none⟩)), (4, true, .pointer (some ⟨b2, 0, none⟩)), (9, true, .bool R2.isSome), (10, true, .pointer (some ⟨b5, 0, none⟩)), (11, true, .bool R3.isSome), (13, true, .int .i64 (ix : Int)), (14, true, .int .i64 i), (15, true, .int .i64 (kx : Int))]) (fun i w' => i = (((cN (ta.list[ix]'hi) (ta.list.take (kx + 1)) : Nat) : Int) - ((cN (ta.list[ix]'hi) ((R1.getD zeroT).list.take kx) : Nat) : Int)) ∧ Fr No w [blk b5 31 (enc5 (x5 (R3.getD zeroT).kind (R3.getD zeroT).num (R3.getD zeroT).str (.slice A3e4 (R3.getD zeroT).keys.length c3e4) (.slice A4e4 (R3.getD zeroT).list.length c4e4))), sep E4 (R3.getD zeroT) (x5 (R3.getD zeroT).kind (R3.getD zeroT).num (R3.getD zeroT).str (.slice A3e4 (R3.getD zeroT).keys.length c3e4) (.slice A4e4 (R3.getD zeroT).list.length c4e4)).val, blk b2 31 (enc5 (x5 (R1.getD zeroT).kind (R1.getD zeroT).num (R1.getD zeroT).str (.slice A3e1 (R1.getD zeroT).keys.length c3e1) (.slice A4e1 (R1.getD zeroT).list.length c4e1))), sep E1 (R1.getD zeroT) (x5 (R1.getD zeroT).kind (R1.getD zeroT).num (R1.getD zeroT).str (.slice A3e1 (R1.getD zeroT).keys.length c3e1) (.slice A4e1 (R1.getD zeroT).list.length c4e1)).val, blk b1 31 (enc5 (x5 ta.kind ta.num ta.str (.slice A3a ta.keys.length c3a) (.slice A4a ta.list.length c4a))), rps Grsa [(ta, (x5 ta.kind ta.num ta.str (.slice A3a ta.keys.length c3a) (.slice A4a ta.list.length c4a)).val)]] w') (fun K35 hK35 => ?_) ?_
              · skip
                refine Cod.seq fun K36 hK36 => ?_
                have F45 := F44.drew
                obtain ⟨y1, p1, z1, hy1, -, hr1, ht1⟩ := at5 (rep_l (rps_get (F45.get 5 rfl) 0 rfl)) kx hk
                obtain ⟨y2, p2, z2, hy2, -, hr2, ht2⟩ := at5 (rep_l (rps_get (F45.get 5 rfl) 0 rfl)) ix hi
                refine Cod.draw (C_of F45) (by kernel_rfl) ?_
                refine Hops.take 0 rfl (by kernel_rfl) (fun _ _ _ h => h) rfl rfl rfl F45 (fun w F => (yld_field fi31_4 rfl (ev_t rfl))) ?_
                refine Hops.take 1 rfl (by kernel_rfl) (fun _ _ _ h => h) rfl rfl rfl F45 (fun w F => (yld_load1 on29 rfl (ev_t rfl) (fun _ => F.cell 4 rfl rfl))) ?_
                refine Hops.take 2 rfl (by kernel_rfl) (fun _ _ _ h => h) rfl rfl rfl F45 (fun w F => (yld_move rfl (ev_t rfl))) ?_
                refine Hops.take 3 rfl (by kernel_rfl) (fun _ _ _ h => h) rfl rfl rfl F45 (fun w F => (yld_indexG (b := y1) (q := p1) (i := kx) sl29 rfl (ev_t rfl) (ev_t rfl) (fun _ => hy1) (fun _ => hk))) ?_
                refine Hops.take 5 rfl (by kernel_rfl) (fun _ _ _ h => h) rfl rfl rfl F45 (fun w F => (yld_field fi31_4 rfl (ev_t rfl))) ?_
                refine Hops.take 6 rfl (by kernel_rfl) (fun _ _ _ h => h) rfl rfl rfl F45 (fun w F => (yld_load1 on29 rfl (ev_t rfl) (fun _ => F.cell 4 rfl rfl))) ?_
                refine Hops.take 7 rfl (by kernel_rfl) (fun _ _ _ h => h) rfl rfl rfl F45 (fun w F => (yld_move rfl (ev_t rfl))) ?_
                refine Hops.take 8 rfl (by kernel_rfl) (fun _ _ _ h => h) rfl rfl rfl F45 (fun w F => (yld_indexG (b := y2) (q := p2) (i := ix) sl29 rfl (ev_t rfl) (ev_t rfl) (fun _ => hy2) (fun _ => hi))) ?_
                refine Hops.two 4 9 rfl rfl (by kernel_rfl) ?_ ?_
                · skip
                  refine (One.val rfl rfl rfl (yld_loadN (cs := [z1.a, z1.b, z1.c, z1.d, z1.e]) ag31 rfl (ev_t rfl) (fun _ => hr1) rfl) ?_)
                  refine ⟨F45, ?_⟩
                  refine Hops.one 9 rfl (by kernel_rfl) (One.val rfl rfl rfl (yld_loadN (cs := [z2.a, z2.b, z2.c, z2.d, z2.e]) ag31 rfl (ev_t rfl) (fun _ => hr2) rfl) ?_)
                  refine ⟨F45, ?_⟩
                  refine Hops.one 10 rfl (by kernel_rfl) (One.call rfl rfl rfl (ent_f rfl (evl2 (ev_t rfl) (ev_t rfl)) (enters en27)) (valSame_ct (ta.list[kx]'hk) (ta.list[ix]'hi) _ _ _ ht1 ht2) (fun e w22 hw22 => ?_))
                  obtain ⟨rfl, C22⟩ := hw22
                  have F46 := F45.call C22
                  refine ⟨_, rfl, ?_⟩
                  refine ⟨F46, ?_⟩
                  refine Hops.nil (by kernel_rfl) fun a hS => ?_
                  refine hK36 _ _ ?_ a hS
                  refine Cod.cond rfl (fun hc99 => ?_) (fun hc99 => ?_)
                  · skip
                    have hq1 : ta.list[kx] = ta.list[ix] := of_decide_eq_true hc99
                    rw [if_pos hq1] at hca
                    refine Cod.region ?_
                    refine Ops.step (One.val rfl rfl rfl (yld_move rfl (ev_t rfl)) ?_)
                    refine Ops.step (One.val rfl rfl rfl (yld_add rfl (ev_t rfl) ev_c (fun _ => by omega)) ?_)
                    refine Ops.step (One.val rfl rfl rfl (yld_assign rfl (ev_t rfl)) ?_)
                    refine Ops.nil fun a hS => ?_
                    have F47 := F46.pull 5 rfl
                    have F48 := F47.pull 5 rfl
                    have F49 := F48.pull 5 rfl
                    have F50 := F49.pull 5 rfl
                    have F51 := F50.pull 5 rfl
                    have F52 := F51.pull 5 rfl
                    exact hK35 _ _ a (hS.sub ⟨rfl, rfl, rfl, rfl, rfl, rfl, rfl, rfl, trivial⟩) ⟨by rw [hca]; omega, F52⟩
                  · skip
                    have hq1 : ¬ ta.list[kx] = ta.list[ix] := of_decide_eq_false hc99
                    rw [if_neg hq1] at hca
                    refine Cod.skip fun a hS => ?_
                    have F53 := F46.pull 5 rfl
                    have F54 := F53.pull 5 rfl
                    have F55 := F54.pull 5 rfl
                    have F56 := F55.pull 5 rfl
                    have F57 := F56.pull 5 rfl
                    have F58 := F57.pull 5 rfl
                    exact hK35 _ _ a (hS.sub ⟨rfl, rfl, rfl, rfl, rfl, rfl, rfl, rfl, trivial⟩) ⟨by rw [hca]; omega, F58⟩
                · skip
                  refine (One.val rfl rfl rfl (yld_loadN (cs := [z2.a, z2.b, z2.c, z2.d, z2.e]) ag31 rfl (ev_t rfl) (fun _ => hr2) rfl) ?_)
                  refine ⟨F45, ?_⟩
                  refine Hops.one 4 rfl (by kernel_rfl) (One.val rfl rfl rfl (yld_loadN (cs := [z1.a, z1.b, z1.c, z1.d, z1.e]) ag31 rfl (ev_t rfl) (fun _ => hr1) rfl) ?_)
                  refine ⟨F45, ?_⟩
                  refine Hops.one 10 rfl (by kernel_rfl) (One.call rfl rfl rfl (ent_f rfl (evl2 (ev_t rfl) (ev_t rfl)) (enters en27)) (valSame_ct (ta.list[kx]'hk) (ta.list[ix]'hi) _ _ _ ht1 ht2) (fun e w23 hw23 => ?_))
                  obtain ⟨rfl, C23⟩ := hw23
                  have F59 := F45.call C23
                  refine ⟨_, rfl, ?_⟩
                  refine ⟨F59, ?_⟩
                  refine Hops.nil (by kernel_rfl) fun a hS => ?_
                  refine hK36 _ _ ?_ a hS
                  refine Cod.cond rfl (fun hc99 => ?_) (fun hc99 => ?_)
                  · skip
                    have hq1 : ta.list[kx] = ta.list[ix] := of_decide_eq_true hc99
                    rw [if_pos hq1] at hca
                    refine Cod.region ?_
                    refine Ops.step (One.val rfl rfl rfl (yld_move rfl (ev_t rfl)) ?_)
                    refine Ops.step (One.val rfl rfl rfl (yld_add rfl (ev_t rfl) ev_c (fun _ => by omega)) ?_)
                    refine Ops.step (One.val rfl rfl rfl (yld_assign rfl (ev_t rfl)) ?_)
                    refine Ops.nil fun a hS => ?_
                    have F60 := F59.pull 5 rfl
                    have F61 := F60.pull 5 rfl
                    have F62 := F61.pull 5 rfl
                    have F63 := F62.pull 5 rfl
                    have F64 := F63.pull 5 rfl
                    have F65 := F64.pull 5 rfl
                    exact hK35 _ _ a (hS.sub ⟨rfl, rfl, rfl, rfl, rfl, rfl, rfl, rfl, trivial⟩) ⟨by rw [hca]; omega, F65⟩
                  · skip
                    have hq1 : ¬ ta.list[kx] = ta.list[ix] := of_decide_eq_false hc99
                    rw [if_neg hq1] at hca
                    refine Cod.skip fun a hS => ?_
                    have F66 := F59.pull 5 rfl
                    have F67 := F66.pull 5 rfl
                    have F68 := F67.pull 5 rfl
                    have F69 := F68.pull 5 rfl
                    have F70 := F69.pull 5 rfl
                    have F71 := F70.pull 5 rfl
                    exact hK35 _ _ a (hS.sub ⟨rfl, rfl, rfl, rfl, rfl, rfl, rfl, rfl, trivial⟩) ⟨by rw [hca]; omega, F71⟩
              · skip
                intro i w24 hW
                obtain ⟨mm, hmm⟩ : ∃ mm, mm = i := ⟨i, rfl⟩
                subst hmm
                obtain ⟨hmn, F72⟩ := hW
                have hcl2 := cN_le (ta.list[ix]'hi) (ta.list.take (kx + 1))
                rw [List.length_take] at hcl2
                refine Cod.seq fun K37 hK37 => ?_
                have F73 := F72.drew
                obtain ⟨y1, p1, z1, hy1, -, hr1, ht1⟩ := at5 (rep_l (F73.get 3 rfl).rep) kx (by omega)
                obtain ⟨y2, p2, z2, hy2, -, hr2, ht2⟩ := at5 (rep_l (rps_get (F73.get 5 rfl) 0 rfl)) ix hi
                refine Cod.draw (C_of F73) (by kernel_rfl) ?_
                refine Hops.take 0 rfl (by kernel_rfl) (fun _ _ _ h => h) rfl rfl rfl F73 (fun w F => (yld_field fi31_4 rfl (ev_t rfl))) ?_
                refine Hops.take 1 rfl (by kernel_rfl) (fun _ _ _ h => h) rfl rfl rfl F73 (fun w F => (yld_load1 on29 rfl (ev_t rfl) (fun _ => F.cell 2 rfl rfl))) ?_
                refine Hops.take 2 rfl (by kernel_rfl) (fun _ _ _ h => h) rfl rfl rfl F73 (fun w F => (yld_move rfl (ev_t rfl))) ?_
                refine Hops.take 3 rfl (by kernel_rfl) (fun _ _ _ h => h) rfl rfl rfl F73 (fun w F => (yld_indexG (b := y1) (q := p1) (i := kx) sl29 rfl (ev_t rfl) (ev_t rfl) (fun _ => hy1) (fun _ => by omega))) ?_
                refine Hops.take 5 rfl (by kernel_rfl) (fun _ _ _ h => h) rfl rfl rfl F73 (fun w F => (yld_field fi31_4 rfl (ev_t rfl))) ?_
                refine Hops.take 6 rfl (by kernel_rfl) (fun _ _ _ h => h) rfl rfl rfl F73 (fun w F => (yld_load1 on29 rfl (ev_t rfl) (fun _ => F.cell 4 rfl rfl))) ?_
                refine Hops.take 7 rfl (by kernel_rfl) (fun _ _ _ h => h) rfl rfl rfl F73 (fun w F => (yld_move rfl (ev_t rfl))) ?_
                refine Hops.take 8 rfl (by kernel_rfl) (fun _ _ _ h => h) rfl rfl rfl F73 (fun w F => (yld_indexG (b := y2) (q := p2) (i := ix) sl29 rfl (ev_t rfl) (ev_t rfl) (fun _ => hy2) (fun _ => hi))) ?_
                refine Hops.two 4 9 rfl rfl (by kernel_rfl) ?_ ?_
                · skip
                  refine (One.val rfl rfl rfl (yld_loadN (cs := [z1.a, z1.b, z1.c, z1.d, z1.e]) ag31 rfl (ev_t rfl) (fun _ => hr1) rfl) ?_)
                  refine ⟨F73, ?_⟩
                  refine Hops.one 9 rfl (by kernel_rfl) (One.val rfl rfl rfl (yld_loadN (cs := [z2.a, z2.b, z2.c, z2.d, z2.e]) ag31 rfl (ev_t rfl) (fun _ => hr2) rfl) ?_)
                  refine ⟨F73, ?_⟩
                  refine Hops.one 10 rfl (by kernel_rfl) (One.call rfl rfl rfl (ent_f rfl (evl2 (ev_t rfl) (ev_t rfl)) (enters en27)) (valSame_ct ((R1.getD zeroT).list[kx]'(by omega)) (ta.list[ix]'hi) _ _ _ ht1 ht2) (fun e w25 hw25 => ?_))
                  obtain ⟨rfl, C25⟩ := hw25
                  have F74 := F73.call C25
                  refine ⟨_, rfl, ?_⟩
                  refine ⟨F74, ?_⟩
                  refine Hops.nil (by kernel_rfl) fun a hS => ?_
                  refine hK37 _ _ ?_ a hS
                  refine Cod.cond rfl (fun hc112 => ?_) (fun hc112 => ?_)
                  · skip
                    have hq2 : (if ((R1.getD zeroT).list[kx]'(by omega)) = ta.list[ix] then 1 else 0) = 1 := if_pos (of_decide_eq_true hc112)
                    refine Cod.region ?_
                    refine Ops.step (One.val rfl rfl rfl (yld_move rfl (ev_t rfl)) ?_)
                    refine Ops.step (One.val rfl rfl rfl (yld_sub rfl (ev_t rfl) ev_c (fun _ => by omega)) ?_)
                    refine Ops.step (One.val rfl rfl rfl (yld_assign rfl (ev_t rfl)) ?_)
                    refine Ops.nil fun a hS => ?_
                    refine hK34 _ _ ?_ a hS
                    refine Cod.region ?_
                    refine Ops.step (One.val rfl rfl rfl (yld_move rfl (ev_t rfl)) ?_)
                    refine Ops.step (One.val rfl rfl rfl (yld_inc rfl (ev_t rfl) (fun _ => by omega)) ?_)
                    refine Ops.step (One.val rfl rfl rfl (yld_assign rfl (ev_t rfl)) ?_)
                    refine Ops.nil fun a hS => ?_
                    have F75 := F74.pull 5 rfl
                    have F76 := F75.pull 5 rfl
                    have F77 := F76.pull 5 rfl
                    have F78 := F77.pull 5 rfl
                    have F79 := F78.pull 5 rfl
                    have F80 := F79.pull 5 rfl
                    exact hK31 (kx + 1, _) _ a (hS.sub ⟨rfl, rfl, rfl, rfl, rfl, rfl, rfl, rfl, trivial⟩) ⟨by show kx + 1 ≤ _; omega, by show _ = (((cN (ta.list[ix]'hi) (ta.list.take (kx + 1)) : Nat) : Int) - ((cN (ta.list[ix]'hi) ((R1.getD zeroT).list.take (kx + 1)) : Nat) : Int)); rw [hcb, hq2]; omega, F80⟩ (by show ta.list.length - (kx + 1) < ta.list.length - kx; omega)
                  · skip
                    have hq2 : (if ((R1.getD zeroT).list[kx]'(by omega)) = ta.list[ix] then 1 else 0) = 0 := if_neg (of_decide_eq_false hc112)
                    refine Cod.skip fun a hS => ?_
                    refine hK34 _ _ ?_ a hS
                    refine Cod.region ?_
                    refine Ops.step (One.val rfl rfl rfl (yld_move rfl (ev_t rfl)) ?_)
                    refine Ops.step (One.val rfl rfl rfl (yld_inc rfl (ev_t rfl) (fun _ => by omega)) ?_)
                    refine Ops.step (One.val rfl rfl rfl (yld_assign rfl (ev_t rfl)) ?_)
                    refine Ops.nil fun a hS => ?_
                    have F81 := F74.pull 5 rfl
                    have F82 := F81.pull 5 rfl
                    have F83 := F82.pull 5 rfl
                    have F84 := F83.pull 5 rfl
                    have F85 := F84.pull 5 rfl
                    have F86 := F85.pull 5 rfl
                    exact hK31 (kx + 1, _) _ a (hS.sub ⟨rfl, rfl, rfl, rfl, rfl, rfl, rfl, rfl, trivial⟩) ⟨by show kx + 1 ≤ _; omega, by show _ = (((cN (ta.list[ix]'hi) (ta.list.take (kx + 1)) : Nat) : Int) - ((cN (ta.list[ix]'hi) ((R1.getD zeroT).list.take (kx + 1)) : Nat) : Int)); rw [hcb, hq2]; omega, F86⟩ (by show ta.list.length - (kx + 1) < ta.list.length - kx; omega)
                · skip
                  refine (One.val rfl rfl rfl (yld_loadN (cs := [z2.a, z2.b, z2.c, z2.d, z2.e]) ag31 rfl (ev_t rfl) (fun _ => hr2) rfl) ?_)
                  refine ⟨F73, ?_⟩
                  refine Hops.one 4 rfl (by kernel_rfl) (One.val rfl rfl rfl (yld_loadN (cs := [z1.a, z1.b, z1.c, z1.d, z1.e]) ag31 rfl (ev_t rfl) (fun _ => hr1) rfl) ?_)
                  refine ⟨F73, ?_⟩
                  refine Hops.one 10 rfl (by kernel_rfl) (One.call rfl rfl rfl (ent_f rfl (evl2 (ev_t rfl) (ev_t rfl)) (enters en27)) (valSame_ct ((R1.getD zeroT).list[kx]'(by omega)) (ta.list[ix]'hi) _ _ _ ht1 ht2) (fun e w26 hw26 => ?_))
                  obtain ⟨rfl, C26⟩ := hw26
                  have F87 := F73.call C26
                  refine ⟨_, rfl, ?_⟩
                  refine ⟨F87, ?_⟩
                  refine Hops.nil (by kernel_rfl) fun a hS => ?_
                  refine hK37 _ _ ?_ a hS
                  refine Cod.cond rfl (fun hc112 => ?_) (fun hc112 => ?_)
                  · skip
                    have hq2 : (if ((R1.getD zeroT).list[kx]'(by omega)) = ta.list[ix] then 1 else 0) = 1 := if_pos (of_decide_eq_true hc112)
                    refine Cod.region ?_
                    refine Ops.step (One.val rfl rfl rfl (yld_move rfl (ev_t rfl)) ?_)
                    refine Ops.step (One.val rfl rfl rfl (yld_sub rfl (ev_t rfl) ev_c (fun _ => by omega)) ?_)
                    refine Ops.step (One.val rfl rfl rfl (yld_assign rfl (ev_t rfl)) ?_)
                    refine Ops.nil fun a hS => ?_
                    refine hK34 _ _ ?_ a hS
                    refine Cod.region ?_
                    refine Ops.step (One.val rfl rfl rfl (yld_move rfl (ev_t rfl)) ?_)
                    refine Ops.step (One.val rfl rfl rfl (yld_inc rfl (ev_t rfl) (fun _ => by omega)) ?_)
                    refine Ops.step (One.val rfl rfl rfl (yld_assign rfl (ev_t rfl)) ?_)
                    refine Ops.nil fun a hS => ?_
                    have F88 := F87.pull 5 rfl
                    have F89 := F88.pull 5 rfl
                    have F90 := F89.pull 5 rfl
                    have F91 := F90.pull 5 rfl
                    have F92 := F91.pull 5 rfl
                    have F93 := F92.pull 5 rfl
                    exact hK31 (kx + 1, _) _ a (hS.sub ⟨rfl, rfl, rfl, rfl, rfl, rfl, rfl, rfl, trivial⟩) ⟨by show kx + 1 ≤ _; omega, by show _ = (((cN (ta.list[ix]'hi) (ta.list.take (kx + 1)) : Nat) : Int) - ((cN (ta.list[ix]'hi) ((R1.getD zeroT).list.take (kx + 1)) : Nat) : Int)); rw [hcb, hq2]; omega, F93⟩ (by show ta.list.length - (kx + 1) < ta.list.length - kx; omega)
                  · skip
                    have hq2 : (if ((R1.getD zeroT).list[kx]'(by omega)) = ta.list[ix] then 1 else 0) = 0 := if_neg (of_decide_eq_false hc112)
                    refine Cod.skip fun a hS => ?_
                    refine hK34 _ _ ?_ a hS
                    refine Cod.region ?_
                    refine Ops.step (One.val rfl rfl rfl (yld_move rfl (ev_t rfl)) ?_)
                    refine Ops.step (One.val rfl rfl rfl (yld_inc rfl (ev_t rfl) (fun _ => by omega)) ?_)
                    refine Ops.step (One.val rfl rfl rfl (yld_assign rfl (ev_t rfl)) ?_)
                    refine Ops.nil fun a hS => ?_
                    have F94 := F87.pull 5 rfl
                    have F95 := F94.pull 5 rfl
                    have F96 := F95.pull 5 rfl
                    have F97 := F96.pull 5 rfl
                    have F98 := F97.pull 5 rfl
                    have F99 := F98.pull 5 rfl
                    exact hK31 (kx + 1, _) _ a (hS.sub ⟨rfl, rfl, rfl, rfl, rfl, rfl, rfl, rfl, trivial⟩) ⟨by show kx + 1 ≤ _; omega, by show _ = (((cN (ta.list[ix]'hi) (ta.list.take (kx + 1)) : Nat) : Int) - ((cN (ta.list[ix]'hi) ((R1.getD zeroT).list.take (kx + 1)) : Nat) : Int)); rw [hcb, hq2]; omega, F99⟩ (by show ta.list.length - (kx + 1) < ta.list.length - kx; omega)
            · skip
              have hke : kx = ta.list.length := by simp at hc86; omega
              have hn0 : nn = 0 := by
                rw [hnn, hke, List.take_length, ← hSn, List.take_length, cN_perm (show (ta.list).Perm (R1.getD zeroT).list by rw [hSl]; exact (sortL_perm _).symm)]
                omega
              refine Cod.exit fun a hS => ?_
              simp only [Exit.then, Exit.inBlock, ↓reduceIte]
              refine hK29 _ _ ?_ a hS
              refine Cod.seq fun K38 hK38 => ?_
              refine Cod.region ?_
              refine Ops.step (One.val rfl rfl rfl (yld_move rfl (ev_t rfl)) ?_)
              refine Ops.step (One.val rfl rfl rfl (yld_neq rfl (ev_t rfl) ev_c) ?_)
              refine Ops.nil fun a hS => ?_
              refine hK38 _ _ ?_ a hS
              refine Cod.cond rfl (fun hc116 => ?_) (fun hc116 => ?_)
              · skip
                (rw [hn0] at hc116; simp at hc116)
              · skip
                refine Cod.skip fun a hS => ?_
                refine hK27 _ _ ?_ a hS
                refine Cod.region ?_
                refine Ops.step (One.val rfl rfl rfl (yld_move rfl (ev_t rfl)) ?_)
                refine Ops.step (One.val rfl rfl rfl (yld_inc rfl (ev_t rfl) (fun _ => by omega)) ?_)
                refine Ops.step (One.val rfl rfl rfl (yld_assign rfl (ev_t rfl)) ?_)
                refine Ops.nil fun a hS => ?_
                have F100 := F44.pull 5 rfl
                have F101 := F100.pull 5 rfl
                have F102 := F101.pull 5 rfl
                have F103 := F102.pull 5 rfl
                have F104 := F103.pull 5 rfl
                have F105 := F104.pull 5 rfl
                exact hK24 (ix + 1) _ a (hS.sub ⟨rfl, rfl, rfl, rfl, rfl, rfl, trivial⟩) ⟨by omega, F105⟩ (by omega)
          · skip
            skip
            refine Cod.exit fun a hS => ?_
            simp only [Exit.then, Exit.inBlock, ↓reduceIte]
            refine hK22 _ _ ?_ a hS
            refine Cod.seq fun K39 hK39 => ?_
            refine Cod.region ?_
            refine Ops.step (One.val rfl rfl rfl (yld_move rfl (ev_t rfl)) ?_)
            refine Ops.step (One.val rfl rfl rfl (yld_move rfl (ev_t rfl)) ?_)
            refine Ops.step (One.val (gd_some rfl rfl) rfl rfl (yld_move rfl (ev_t rfl)) ?_)
            refine Ops.step (One.val rfl rfl rfl (yld_and rfl (ev_t rfl) (ev_g rfl)) ?_)
            refine Ops.step (One.val rfl rfl rfl (yld_move rfl (ev_t rfl)) ?_)
            refine Ops.step (One.val (gd_some rfl rfl) rfl rfl (yld_loadN ag31 rfl (ev_t rfl) (fun _ => F43.range (m := 5) (cs' := [_, _, _, _, _]) 0 rfl rfl) rfl) ?_)
            refine Ops.step (One.val (gd_some rfl rfl) rfl rfl (yld_loadN ag31 rfl (ev_t rfl) (fun _ => F43.range (m := 5) (cs' := [_, _, _, _, _]) 2 rfl rfl) rfl) ?_)
            refine Ops.step (One.gcall (R := Chg No w20) (gd_some rfl rfl) rfl rfl (ent_f rfl (evl2 (ev_g rfl) (ev_g rfl)) (enters en27)) (Chg.refl _ _) (fun hg => valSame_ct (R3.getD zeroT) (R1.getD zeroT) _ _ _ (F43.get 1 rfl).rep (F43.get 3 rfl).rep) ?_)
            intro w27 C27
            have F106 := F43.call C27
            refine Ops.step (One.val rfl rfl rfl (yld_and rfl (ev_t rfl) (ev_g rfl)) ?_)
            refine Ops.step (One.val rfl rfl rfl (yld_move rfl (ev_t rfl)) ?_)
            refine Ops.step (One.val (gd_some rfl rfl) rfl rfl (yld_field fi31_4 rfl (ev_t rfl)) ?_)
            refine Ops.step (One.val (gd_some rfl rfl) rfl rfl (yld_load1 on29 rfl (ev_g rfl) (fun _ => F106.cell 2 rfl rfl)) ?_)
            refine Ops.step (One.val (gd_some rfl rfl) rfl rfl (yld_len sl29 rfl (ev_g rfl)) ?_)
            refine Ops.step (One.val (gd_some rfl rfl) rfl rfl (yld_field fi31_4 rfl (ev_t rfl)) ?_)
            refine Ops.step (One.val (gd_some rfl rfl) rfl rfl (yld_load1 on29 rfl (ev_g rfl) (fun _ => F106.cell 4 rfl rfl)) ?_)
            refine Ops.step (One.val (gd_some rfl rfl) rfl rfl (yld_len sl29 rfl (ev_g rfl)) ?_)
            refine Ops.step (One.val (gd_some rfl rfl) rfl rfl (yld_eql rfl (ev_g rfl) (ev_g rfl)) ?_)
            refine Ops.step (One.val rfl rfl rfl (yld_and rfl (ev_t rfl) (ev_g rfl)) ?_)
            refine Ops.step (One.val rfl rfl rfl (yld_assign rfl (ev_t rfl)) ?_)
            refine Ops.nil fun a hS => ?_
            refine hK39 _ _ ?_ a hS
            refine Cod.ret fun a hS => ?_
            try simp only [Exit.then, Exit.inBlock]
            exact ret1 (t := 2) rfl hS rfl ⟨ret_b (fin hR1 hsome hR2 hR3), F106.chg⟩


theorem ownKnob_none : ownKnob Try.prog.godebug = none := by kernel_rfl
theorem params_ok : ∀ t ∈ Try.f7.params.toList, Try.prog.readableRec t = true ∧ t < Try.prog.types.size := by
  rw [Try.params7]
  intro t ht
  simp only [List.mem_cons, List.not_mem_nil, or_false] at ht
  rcases ht with rfl <;> exact ⟨by kernel_rfl, of_decide_eq_true (by kernel_rfl)⟩
set_option maxRecDepth 100000 in
theorem lifted (os : Os) (started : os.Started) (H : Type) (enc : TypeId × Value → H) :
    ReturnsInHanded {} Try.checked os 7 .any (Rows.fnRowSortSpec.pre6 enc Try.prog Try.f7 Rows.fnRowSortRow.domain false) (Rows.fnRowSortSpec.post enc Try.prog Try.f7 false true false false) := by
  refine returnsInHanded_of_change (C := Try.checked) ownKnob_none started (by kernel_rfl) Try.func7
    (ChangeSpec.witness6 (enc := enc) (C := Try.checked) false ⟨#[], #[.slice none 0 0], []⟩ 8 (by kernel_rfl) (by kernel_rfl) (by kernel_rfl) (by kernel_rfl)) ?_
  intro W base args ds gs before hval0 hW hcnd _
  have hval : ∀ (j : Nat) t v, Try.f7.params[j]? = some t → args[j]? = some v → Value.okWide Try.prog W .any base t v := hval0
  have hW' := hW
  obtain ⟨p, q, hA0, hV, rfl, hfz, hnd⟩ := hW
  have hA : DataW.TrodAll enc Try.prog W 0 (fun _ => true) true Try.f7.params.toList args.toList ds p := hA0
  rw [Try.params7] at hA hval
  obtain ⟨v0, d0, rfl, rfl, h0⟩ := trodAll_one hA
  obtain ⟨rfl, rfl⟩ := trodVars_none hV
  obtain ⟨code, hp⟩ := open_bytes (hval 0 _ v0 rfl rfl) h0
  refine (walk code v0 W hp).mono fun e W' ⟨he, hc⟩ => ?_
  subst he
  exact ⟨_, rfl, post_chg laidOut rfl params_ok hW' (fun _ _ _ => (trodAll_cons_mk (shut_bool Try.underlying4 _) trodAll_mk0)) rfl rfl hc (ok_one (by kernel_rfl) rfl (okWide_bool_mk Try.underlying4 _))⟩

theorem over : Rows.fnRowSortRow.holds Try.pinned (OpenSpec.ofChange Rows.fnRowSortSpec) :=
  OpenClaim.holds_of_wide 7 Try.f7 rfl rfl rfl rfl rfl rfl rfl ⟨rfl, rfl, rfl, rfl, rfl⟩ rfl rfl rfl rfl rfl (by kernel_rfl) Try.func7 (by kernel_rfl)
    (of_decide_eq_true (by kernel_rfl)) (by unfold Func.isWrapper; first | (rw [if_pos (by decide +kernel)]; kernel_rfl) | (rw [if_neg (by decide +kernel)]; exact ⟨rfl, rfl⟩))
    (fun os started H enc _ => lifted os started H enc)

/-- The statement. -/
theorem proved : Rows.FnRowSortSaid := over
#print axioms proved

end GRowSort
end Go.Proofs.Ytodbflfelimppaa.Eng
