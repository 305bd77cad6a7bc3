/- FnValBent returns true for all bytes: the program tells which trees are ok as the reference does; a tree that is bent is not ok, and has no text and no count; two ok trees have one text just if they are one. The card: the library's tables read as the program's text lays them. No condition besides. -/
import Derived.Test.YtpfkcblhojkaiaaDoorVInj
import Derived.Test.YtpfkcblhojkaiaaDoorDraw3
import Derived.Test.YtpfkcblhojkaiaaDoorMany
import Derived.Test.YtpfkcblhojkaiaaDoorSame
import Derived.Test.YtpfkcblhojkaiaaDoorLaiR
import Derived.Test.YtpfkcblhojkaiaaDoorArgB
import Derived.Test.YtpfkcblhojkaiaaDoorRows
import Derived.Test.YtpfkcblhojkaiaaDoorTie
import Derived.Test.YtpfkcblhojkaiaaDoorCards
namespace Go.Proofs.YtpfkcblhojkaiaaDoor.Eng
open Go.RowKit Go.ChangeShapes Go.WideShapes Go.ChangeAt
set_option linter.unusedVariables false
set_option linter.unusedSimpArgs false
set_option maxHeartbeats 1000000
set_option linter.constructorNameAsVariable false
namespace LValBent


theorem rep_x {F : Nat → Prop} {w : World} {t : Tr} {x : V5} (h : Rep F w t x.val) : ∃ A3 c3 A4 c4, x = x5 t.kind t.num t.str (.slice A3 t.keys.length c3) (.slice A4 t.list.length c4) := by
  obtain ⟨v3, v4, e, h3, h4⟩ := h.form
  obtain ⟨A3, c3, rfl, -⟩ := h3.open
  obtain ⟨A4, c4, rfl, -⟩ := h4.open
  exact ⟨A3, c3, A4, c4, V5.inj e⟩
theorem rep_re {w : World} {t : Tr} {k n k' n' : Int} {s s' : ByteArray} {v3 v4 : Value} (h : Rep Any w t (x5 k n s v3 v4).val) : Rep Any w (.mk k' n' s' t.keys t.list) (x5 k' n' s' v3 v4).val := by
  obtain ⟨u3, u4, e, h3, h4⟩ := h.form
  have e' := (Value.agg.inj e)
  simp only [x5, V5.val] at e'
  injection e' with e'
  simp only [List.cons.injEq] at e'
  obtain ⟨-, -, -, rfl, rfl, -⟩ := e'
  exact Rep.close h3 h4
theorem keys_rep {w : World} {t : Tr} {k n : Int} {s : ByteArray} {v3 v4 : Value} (h : Rep Any w t (x5 k n s v3 v4).val) : RepS Any w t.keys v3 := by
  obtain ⟨u3, u4, e, h3, h4⟩ := h.form
  have e' := (Value.agg.inj e)
  simp only [x5, V5.val] at e'
  injection e' with e'
  simp only [List.cons.injEq] at e'
  obtain ⟨-, -, -, rfl, rfl, -⟩ := e'
  exact h3
theorem rep_keys {w : World} {t : Tr} {k n k' n' : Int} {s s' : ByteArray} {v3 v4 u : Value} {ks : List ByteArray} (h : Rep Any w t (x5 k n s v3 v4).val) (hk : RepS Any w ks u) : Rep Any w (.mk k' n' s' ks t.list) (x5 k' n' s' u v4).val := by
  obtain ⟨u3, u4, e, h3, h4⟩ := h.form
  have e' := (Value.agg.inj e)
  simp only [x5, V5.val] at e'
  injection e' with e'
  simp only [List.cons.injEq] at e'
  obtain ⟨-, -, -, rfl, rfl, -⟩ := e'
  exact Rep.close hk h4
theorem fit_re {t : Tr} (h : t.Fit) (k n : Int) {s : ByteArray} (hs : s.size ≤ 9223372036854775807) {ks : List ByteArray} (hk : ∀ x ∈ ks, x.size ≤ 9223372036854775807) : Tr.Fit (.mk k n s ks t.list) := by
  cases h with
  | mk h1 h2 h3 => exact .mk hs hk h3
theorem fit_s {t : Tr} (h : t.Fit) : t.str.size ≤ 9223372036854775807 := by cases h with | mk h1 h2 h3 => exact h1
theorem fit_k {t : Tr} (h : t.Fit) : ∀ x ∈ t.keys, x.size ≤ 9223372036854775807 := by cases h with | mk h1 h2 h3 => exact h2
theorem fit_ka {t : Tr} (h : t.Fit) : ∀ x ∈ ([] ++ t.keys) ++ [(⟨#[97]⟩ : ByteArray)], x.size ≤ 9223372036854775807 := fun x hx => by
  rcases List.mem_append.1 hx with hx | hx
  · exact fit_k h x (by simpa using hx)
  · obtain rfl := List.mem_singleton.1 hx
    decide
theorem okB_no {t : Tr} (h : ¬ Form 6 t) : (decide (Form 6 t) && decide ((t.cnt : Int) ≤ 60)) = false := by rw [decide_eq_false h]; rfl
theorem bentA {n : Int} {s : ByteArray} {ks : List ByteArray} {l : List Tr} : ¬ Form 6 (.mk 7 n s ks l) := fun h => by
  have := (Form.iff.1 h).2.1.k6
  omega
theorem bentB {t : Tr} (ho : Form 6 t) : ¬ Form 6 (.mk t.kind t.num t.str (([] ++ t.keys) ++ [⟨#[97]⟩]) t.list) := fun h => by
  obtain ⟨k, n, s, ks, l⟩ := t
  obtain ⟨-, hp, -⟩ := Form.iff.1 ho
  obtain ⟨-, hp', -⟩ := Form.iff.1 h
  simp only [Tr.kind, Tr.keys, Tr.list] at hp'
  by_cases h6 : k = 6
  · have h1 := hp.len h6
    have h2 := hp'.len h6
    simp at h2
    omega
  · have := hp'.z6 h6
    simp at this
theorem bentC {k : Int} {s : ByteArray} {ks : List ByteArray} {l : List Tr} : ¬ Form 6 (.mk k 1000001 s ks l) := fun h => by
  have := (Form.iff.1 h).2.1.n1
  omega
theorem bentD {k n : Int} {ks : List ByteArray} {l : List Tr} : ¬ Form 6 (.mk k n ⟨#[97, 98, 99, 100, 101, 102, 103, 104, 105, 106, 107, 108, 109]⟩ ks l) := fun h => by
  have := okS_size (Form.iff.1 h).2.1.ok
  revert this
  decide
theorem none_txt {t : Tr} (h : (decide (Form 6 t) && decide ((t.cnt : Int) ≤ 60)) = false) : (decide (valTxt t = ⟨#[]⟩) && (manyOf t == 0)) = true := by
  unfold valTxt manyOf
  rw [if_neg (by rw [h]; simp), if_neg (by rw [h]; simp)]
  simp
theorem fin_txt {t t' : Tr} (h : (decide (Form 6 t) && decide ((t.cnt : Int) ≤ 60)) = true) : ((!(decide (Form 6 t') && decide ((t'.cnt : Int) ≤ 60))) || (decide (t = t') == decide (valTxt t = valTxt t'))) = true := by
  cases h' : (decide (Form 6 t') && decide ((t'.cnt : Int) ≤ 60)) with
  | false => rfl
  | true =>
    have e : decide (t = t') = decide (valTxt t = valTxt t') := by
      refine decide_eq_decide.2 ⟨fun e => by rw [e], fun e => ?_⟩
      unfold valTxt at e
      rw [if_pos h, if_pos h'] at e
      have e1 : t.txt = t'.txt := by rw [← bs_list t.txt, e, bs_list]
      simp only [Bool.and_eq_true, decide_eq_true_eq] at h h'
      exact txt_inj h.1 h'.1 e1
    rw [e]
    simp

set_option maxHeartbeats 4000000 in
set_option maxRecDepth 100000 in
theorem walk (code more : List UInt8) (v u : Value) (w : World) (hp : RepE bCells 1 Any w code v) (hq : RepE bCells 1 Any w more u) (hT : PowTab w) :
    Calls Tryd.prog 9 #[v, u] w fun e w' => e = .returned (.bool true) ∧ Chg No w w' := by
  obtain ⟨A, c, rfl, -⟩ := hp.open
  obtain ⟨B, d, rfl, -⟩ := hq.open
  refine enter Tryd.func9 rfl rfl rfl ?_
  have F0 := Fr.start w
  refine Cod.seq fun K1 hK1 => ?_
  refine Cod.region ?_
  refine Ops.step (One.val rfl rfl rfl (yld_assign rfl ev_c) ?_)
  refine Ops.nil fun a hS => ?_
  refine hK1 _ _ ?_ a hS
  refine Cod.seq fun K2 hK2 => ?_
  refine Cod.seq fun K3 hK3 => ?_
  refine Cod.region ?_
  refine Ops.step (One.val rfl rfl rfl (yld_move rfl (ev_t rfl)) ?_)
  refine Ops.step (One.val rfl rfl rfl (yld_len sl57 rfl (ev_t rfl)) ?_)
  refine Ops.step (One.val rfl rfl rfl (yld_gtr rfl (ev_t rfl) ev_c) ?_)
  refine Ops.step (One.val rfl rfl rfl (yld_move rfl (ev_t rfl)) ?_)
  refine Ops.step (One.val (gd_some rfl rfl) rfl rfl (yld_move rfl (ev_t rfl)) ?_)
  refine Ops.step (One.val (gd_some rfl rfl) rfl rfl (yld_len sl57 rfl (ev_g rfl)) ?_)
  refine Ops.step (One.val (gd_some rfl rfl) rfl rfl (yld_gtr rfl (ev_g rfl) ev_c) ?_)
  refine Ops.step (One.val rfl rfl rfl (yld_or rfl (ev_t rfl) (ev_g rfl)) ?_)
  refine Ops.nil fun a hS => ?_
  refine hK3 _ _ ?_ a hS
  refine Cod.cond rfl (fun hc18 => ?_) (fun hc18 => ?_)
  · skip
    refine Cod.seq fun K4 hK4 => ?_
    refine Cod.region ?_
    refine Ops.step (One.val rfl rfl rfl (yld_assign rfl ev_c) ?_)
    refine Ops.nil fun a hS => ?_
    refine hK4 _ _ ?_ a hS
    refine Cod.ret fun a hS => ?_
    try simp only [Exit.then, Exit.inBlock]
    exact ret1 (t := 4) rfl hS rfl ⟨rfl, F0.chg⟩
  · skip
    refine Cod.skip fun a hS => ?_
    refine hK2 _ _ ?_ a hS
    refine Cod.seq fun K5 hK5 => ?_
    refine Cod.region ?_
    refine Ops.step (One.val rfl rfl rfl (yld_move rfl (ev_t rfl)) ?_)
    refine Ops.step (One.call rfl rfl rfl (ent_f rfl (evl1 (ev_t rfl)) (enters en34)) (drawOk_ct code _ _ (hp.chg F0.chg)) (fun e w1 hw1 => ?_))
    obtain ⟨xc, tc, rfl, C1, hrsc, hdc⟩ := hw1
    have hwc := hdc.wt
    obtain ⟨Grsc, hGc⟩ : ∃ G, G = New w w1 := ⟨_, rfl⟩
    rw [← hGc] at hrsc
    obtain ⟨A3c, c3c, A4c, c4c, hxc⟩ := rep_x (rps_get hrsc 0 rfl)
    subst hxc
    have F1 := F0.new C1 (rps Grsc [(tc, (x5 tc.kind tc.num tc.str (.slice A3c tc.keys.length c3c) (.slice A4c tc.list.length c4c)).val)]) hrsc (by rw [hGc]; exact New.new)
    refine ⟨_, rfl, ?_⟩
    refine Ops.step (One.alloc F1 zero33 rfl rfl rfl rfl ?_)
    intro b1 w2 hb1 F2
    change Fr _ _ [blk _ _ [_, _, _, _, _], _] _ at F2
    refine Ops.step (One.storeN (vs := [_, _, _, _, _]) F2 0 rfl sz33 rfl rfl rfl (ev_t rfl) (ev_t rfl) rfl rfl (rps_oneC (F2.get 1 rfl) 0 rfl) ?_)
    intro w3 F3
    change Fr _ _ [blk _ _ [_, _, _, _, _], _] _ at F3
    refine Ops.nil fun a hS => ?_
    refine hK5 _ _ ?_ a hS
    refine Cod.seq fun K6 hK6 => ?_
    refine Cod.region ?_
    refine Ops.step (One.val rfl rfl rfl (yld_move rfl (ev_t rfl)) ?_)
    refine Ops.step (One.call rfl rfl rfl (ent_f rfl (evl1 (ev_t rfl)) (enters en35)) (drawMany_ct more _ _ (hq.chg F3.chg)) (fun e w4 hw4 => ?_))
    obtain ⟨xa, ta, rfl, C4, hrsa, hda⟩ := hw4
    have hwa := hda.wt
    obtain ⟨Grsa, hGa⟩ : ∃ G, G = New w3 w4 := ⟨_, rfl⟩
    rw [← hGa] at hrsa
    obtain ⟨A3a, c3a, A4a, c4a, hxa⟩ := rep_x (rps_get hrsa 0 rfl)
    subst hxa
    have F4 := F3.new C4 (rps Grsa [(ta, (x5 ta.kind ta.num ta.str (.slice A3a ta.keys.length c3a) (.slice A4a ta.list.length c4a)).val)]) hrsa (by rw [hGa]; exact New.new)
    refine ⟨_, rfl, ?_⟩
    refine Ops.step (One.alloc F4 zero33 rfl rfl rfl rfl ?_)
    intro b2 w5 hb2 F5
    change Fr _ _ [blk _ _ [_, _, _, _, _], _, blk _ _ [_, _, _, _, _], _] _ at F5
    refine Ops.step (One.storeN (vs := [_, _, _, _, _]) F5 0 rfl sz33 rfl rfl rfl (ev_t rfl) (ev_t rfl) rfl rfl (rps_oneC (F5.get 1 rfl) 0 rfl) ?_)
    intro w6 F6
    change Fr _ _ [blk _ _ [_, _, _, _, _], _, blk _ _ [_, _, _, _, _], _] _ at F6
    refine Ops.nil fun a hS => ?_
    refine hK6 _ _ ?_ a hS
    refine Cod.seq fun K7 hK7 => ?_
    refine Cod.seq fun K8 hK8 => ?_
    have F7 := F6.drew
    refine Cod.draw (C_of F7) (by kernel_rfl) ?_
    refine Hops.take 0 rfl (by kernel_rfl) (fun _ _ _ h => h) rfl rfl rfl F7 (fun w F => (yld_loadN ag33 rfl (ev_t rfl) (fun _ => F.range (m := 5) (cs' := [_, _, _, _, _]) 2 rfl rfl) rfl)) ?_
    refine Hops.take 2 rfl (by kernel_rfl) (fun _ _ _ h => h) rfl rfl rfl F7 (fun w F => (yld_loadN ag33 rfl (ev_t rfl) (fun _ => F.range (m := 5) (cs' := [_, _, _, _, _]) 2 rfl rfl) rfl)) ?_
    refine Hops.one 1 rfl (by kernel_rfl) (One.call rfl rfl rfl (ent_f rfl (evl1 (ev_t rfl)) (enters en36)) (valOk_ct tc _ _ (rps_get (F7.get 3 rfl) 0 rfl) hdc.fit) (fun e w7 hw7 => ?_))
    obtain ⟨rfl, C7⟩ := hw7
    have F8 := F7.call C7
    refine ⟨_, rfl, ?_⟩
    refine ⟨F8, ?_⟩
    refine Hops.one 3 rfl (by kernel_rfl) (One.call rfl rfl rfl (ent_f rfl (evl1 (ev_t rfl)) (enters en37)) (specOk_ct tc _ _ (rps_get (F8.get 3 rfl) 0 rfl) hdc.fit (by omega)) (fun e w8 hw8 => ?_))
    obtain ⟨rfl, C8⟩ := hw8
    have F9 := F8.call C8
    refine ⟨_, rfl, ?_⟩
    refine ⟨F9, ?_⟩
    refine Hops.take 4 rfl (by kernel_rfl) (fun _ _ _ h => h) rfl rfl rfl F9 (fun w F => (yld_bneq Tryd.underlying4 rfl (ev_t rfl) (ev_t rfl))) ?_
    refine Hops.nil (by kernel_rfl) fun a hS => ?_
    refine hK8 _ _ ?_ a hS
    refine Cod.cond rfl (fun hc27 => ?_) (fun hc27 => ?_)
    · skip
      simp at hc27
    · skip
      refine Cod.skip fun a hS => ?_
      refine hK7 _ _ ?_ a hS
      refine Cod.seq fun K9 hK9 => ?_
      refine Cod.seq fun K10 hK10 => ?_
      refine Cod.region ?_
      refine Ops.step (One.val rfl rfl rfl (yld_loadN ag33 rfl (ev_t rfl) (fun _ => F9.range (m := 5) (cs' := [_, _, _, _, _]) 2 rfl rfl) rfl) ?_)
      refine Ops.step (One.call rfl rfl rfl (ent_f rfl (evl1 (ev_t rfl)) (enters en37)) (specOk_ct tc _ _ (rps_get (F9.get 3 rfl) 0 rfl) hdc.fit (by omega)) (fun e w9 hw9 => ?_))
      obtain ⟨rfl, C9⟩ := hw9
      have F10 := F9.call C9
      refine ⟨_, rfl, ?_⟩
      refine Ops.step (One.val rfl rfl rfl (yld_not rfl (ev_t rfl)) ?_)
      refine Ops.nil fun a hS => ?_
      refine hK10 _ _ ?_ a hS
      refine Cod.cond rfl (fun hc30 => ?_) (fun hc30 => ?_)
      · skip
        have hno : (decide (Form 6 tc) && decide ((tc.cnt : Int) ≤ 60)) = false := by
          have h := hc30
          rw [Bool.not_eq_true'] at h
          exact h
        refine Cod.seq fun K11 hK11 => ?_
        refine Cod.region ?_
        refine Ops.step (One.val rfl rfl rfl (yld_loadN ag33 rfl (ev_t rfl) (fun _ => F10.range (m := 5) (cs' := [_, _, _, _, _]) 2 rfl rfl) rfl) ?_)
        refine Ops.step (One.call rfl rfl rfl (ent_f rfl (evl1 (ev_t rfl)) (enters en29)) (valText_ct tc _ _ (rps_get (F10.get 3 rfl) 0 rfl) hdc.fit (by omega) (hT.chg F10.chg)) (fun e w10 hw10 => ?_))
        obtain ⟨rfl, C10⟩ := hw10
        have F11 := F10.call C10
        refine ⟨_, rfl, ?_⟩
        refine Ops.step (One.val rfl rfl rfl (yld_seql rfl (ev_t rfl) ev_c) ?_)
        refine Ops.step (One.val rfl rfl rfl (yld_move rfl (ev_t rfl)) ?_)
        refine Ops.step (One.val (gd_some rfl rfl) rfl rfl (yld_loadN ag33 rfl (ev_t rfl) (fun _ => F11.range (m := 5) (cs' := [_, _, _, _, _]) 2 rfl rfl) rfl) ?_)
        refine Ops.step (One.gcall (R := Chg No w10) (gd_some rfl rfl) rfl rfl (ent_f rfl (evl1 (ev_g rfl)) (enters en38)) (Chg.refl _ _) (fun hg => valMany_ct tc _ _ (rps_get (F11.get 3 rfl) 0 rfl) hdc.fit (by omega)) ?_)
        intro w11 C11
        have F12 := F11.call C11
        refine Ops.step (One.val (gd_some rfl rfl) rfl rfl (yld_eql rfl (ev_g rfl) ev_c) ?_)
        refine Ops.step (One.val rfl rfl rfl (yld_and rfl (ev_t rfl) (ev_g rfl)) ?_)
        refine Ops.step (One.val rfl rfl rfl (yld_assign rfl (ev_t rfl)) ?_)
        refine Ops.nil fun a hS => ?_
        refine hK11 _ _ ?_ a hS
        refine Cod.ret fun a hS => ?_
        try simp only [Exit.then, Exit.inBlock]
        exact ret1 (t := 4) rfl hS rfl ⟨ret_b (none_txt hno), F12.chg⟩
      · skip
        have hyes : (decide (Form 6 tc) && decide ((tc.cnt : Int) ≤ 60)) = true := by
          have h := hc30
          rw [Bool.not_eq_false'] at h
          exact h
        have hmk1 := tc.mkn_list
        have hyf : Form 6 tc := by simp at hyes; exact hyes.1
        refine Cod.skip fun a hS => ?_
        refine hK9 _ _ ?_ a hS
        refine Cod.seq fun K12 hK12 => ?_
        refine Cod.region ?_
        refine Ops.step (One.val rfl rfl rfl (yld_loadN ag33 rfl (ev_t rfl) (fun _ => F10.range (m := 5) (cs' := [_, _, _, _, _]) 2 rfl rfl) rfl) ?_)
        refine Ops.step (One.alloc F10 zero33 rfl rfl rfl rfl ?_)
        intro b3 w12 hb3 F13
        change Fr _ _ [blk _ _ [_, _, _, _, _], blk _ _ [_, _, _, _, _], _, blk _ _ [_, _, _, _, _], _] _ at F13
        refine Ops.step (One.storeN (vs := [_, _, _, _, _]) F13 0 rfl sz33 rfl rfl rfl (ev_t rfl) (ev_t rfl) rfl rfl (rps_oneC (F13.get 4 rfl) 0 rfl) ?_)
        intro w13 F14
        change Fr _ _ [blk _ _ [_, _, _, _, _], blk _ _ [_, _, _, _, _], _, blk _ _ [_, _, _, _, _], _] _ at F14
        refine Ops.nil fun a hS => ?_
        refine hK12 _ _ ?_ a hS
        refine Cod.seq fun K13 hK13 => ?_
        refine Cod.region ?_
        refine Ops.step (One.val rfl rfl rfl (yld_field fi33_0 rfl (ev_t rfl)) ?_)
        refine Ops.step (One.store1 F14 0 rfl sz3 rfl rfl rfl (ev_t rfl) rfl ev_c rfl ?_)
        intro w14 F15
        change Fr _ _ [blk _ _ [_, _, _, _, _], blk _ _ [_, _, _, _, _], _, blk _ _ [_, _, _, _, _], _] _ at F15
        refine Ops.nil fun a hS => ?_
        refine hK13 _ _ ?_ a hS
        refine Cod.seq fun K14 hK14 => ?_
        refine Cod.region ?_
        refine Ops.step (One.val rfl rfl rfl (yld_loadN ag33 rfl (ev_t rfl) (fun _ => F15.range (m := 5) (cs' := [_, _, _, _, _]) 3 rfl rfl) rfl) ?_)
        refine Ops.step (One.alloc F15 zero33 rfl rfl rfl rfl ?_)
        intro b4 w15 hb4 F16
        change Fr _ _ [blk _ _ [_, _, _, _, _], blk _ _ [_, _, _, _, _], blk _ _ [_, _, _, _, _], _, blk _ _ [_, _, _, _, _], _] _ at F16
        refine Ops.step (One.storeN (vs := [_, _, _, _, _]) F16 0 rfl sz33 rfl rfl rfl (ev_t rfl) (ev_t rfl) rfl rfl (rps_oneC (F16.get 5 rfl) 0 rfl) ?_)
        intro w16 F17
        change Fr _ _ [blk _ _ [_, _, _, _, _], blk _ _ [_, _, _, _, _], blk _ _ [_, _, _, _, _], _, blk _ _ [_, _, _, _, _], _] _ at F17
        refine Ops.nil fun a hS => ?_
        refine hK14 _ _ ?_ a hS
        refine Cod.seq fun K15 hK15 => ?_
        refine Cod.region ?_
        refine Ops.step (One.buildNil sCells F17 sl22 rfl rfl rfl rfl ?_)
        intro b5 w17 hb5 F18
        refine Ops.step (One.val rfl rfl rfl (yld_field fi33_3 rfl (ev_t rfl)) ?_)
        refine Ops.step (One.val rfl rfl rfl (yld_load1 on22 rfl (ev_t rfl) (fun _ => F18.cell 5 rfl rfl)) ?_)
        refine Ops.step (One.append (enc := sCells) tc.keys F18 0 rfl sl22 zero9 rfl rfl (fun _ => rfl) rfl rfl rfl rfl (ev_t rfl) (ev_t rfl) (keys_rep (rps_get (F18.get 6 rfl) 0 rfl)) (fun _ _ => rfl) (by simp; omega) (by simp; omega) ?_)
        intro u12 w18 hu12 F19
        change Fr _ _ [_, blk _ _ [_, _, _, _, _], blk _ _ [_, _, _, _, _], blk _ _ [_, _, _, _, _], _, blk _ _ [_, _, _, _, _], _] _ at F19
        refine Ops.step (One.buildSlice (cells := [.string ⟨#[97]⟩]) F19 sl22 zero9 rfl rfl rfl rfl (evp1 ev_c) rfl rfl (by kernel_rfl) ?_)
        intro b6 w19 hb6 F20
        refine Ops.step (One.append (enc := sCells) [⟨#[97]⟩] F20 1 rfl sl22 zero9 rfl rfl (fun _ => rfl) rfl rfl rfl rfl (ev_t rfl) (ev_t rfl) ((blk_rep (enc := sCells) (sz := 1) (xs := [⟨#[97]⟩]) (fun _ => rfl) (by simpa [sCells] using F20.get 0 rfl) (by simp) (by simp)).weak fun _ _ => trivial) (fun _ _ => rfl) (by simp; omega) (by simp; omega) ?_)
        intro v12 w20 hv12 F21
        change Fr _ _ [_, _, blk _ _ [_, _, _, _, _], blk _ _ [_, _, _, _, _], blk _ _ [_, _, _, _, _], _, blk _ _ [_, _, _, _, _], _] _ at F21
        refine Ops.step (One.val rfl rfl rfl (yld_field fi33_3 rfl (ev_t rfl)) ?_)
        refine Ops.step (One.store1 F21 2 rfl sz22 rfl rfl rfl (ev_t rfl) rfl (ev_t rfl) (own_one (F21.get 1 rfl)) ?_)
        intro w21 F22
        change Fr _ _ [_, _, blk _ _ [_, _, _, _, _], blk _ _ [_, _, _, _, _], blk _ _ [_, _, _, _, _], _, blk _ _ [_, _, _, _, _], _] _ at F22
        refine Ops.nil fun a hS => ?_
        refine hK15 _ _ ?_ a hS
        refine Cod.seq fun K16 hK16 => ?_
        refine Cod.region ?_
        refine Ops.step (One.val rfl rfl rfl (yld_loadN ag33 rfl (ev_t rfl) (fun _ => F22.range (m := 5) (cs' := [_, _, _, _, _]) 6 rfl rfl) rfl) ?_)
        refine Ops.step (One.alloc F22 zero33 rfl rfl rfl rfl ?_)
        intro b7 w22 hb7 F23
        change Fr _ _ [blk _ _ [_, _, _, _, _], _, _, blk _ _ [_, _, _, _, _], blk _ _ [_, _, _, _, _], blk _ _ [_, _, _, _, _], _, blk _ _ [_, _, _, _, _], _] _ at F23
        refine Ops.step (One.storeN (vs := [_, _, _, _, _]) F23 0 rfl sz33 rfl rfl rfl (ev_t rfl) (ev_t rfl) rfl rfl (rps_oneC (F23.get 8 rfl) 0 rfl) ?_)
        intro w23 F24
        change Fr _ _ [blk _ _ [_, _, _, _, _], _, _, blk _ _ [_, _, _, _, _], blk _ _ [_, _, _, _, _], blk _ _ [_, _, _, _, _], _, blk _ _ [_, _, _, _, _], _] _ at F24
        refine Ops.nil fun a hS => ?_
        refine hK16 _ _ ?_ a hS
        refine Cod.seq fun K17 hK17 => ?_
        refine Cod.region ?_
        refine Ops.step (One.val rfl rfl rfl (yld_field fi33_1 rfl (ev_t rfl)) ?_)
        refine Ops.step (One.store1 F24 0 rfl sz3 rfl rfl rfl (ev_t rfl) rfl ev_c rfl ?_)
        intro w24 F25
        change Fr _ _ [blk _ _ [_, _, _, _, _], _, _, blk _ _ [_, _, _, _, _], blk _ _ [_, _, _, _, _], blk _ _ [_, _, _, _, _], _, blk _ _ [_, _, _, _, _], _] _ at F25
        refine Ops.nil fun a hS => ?_
        refine hK17 _ _ ?_ a hS
        refine Cod.seq fun K18 hK18 => ?_
        refine Cod.region ?_
        refine Ops.step (One.val rfl rfl rfl (yld_loadN ag33 rfl (ev_t rfl) (fun _ => F25.range (m := 5) (cs' := [_, _, _, _, _]) 7 rfl rfl) rfl) ?_)
        refine Ops.step (One.alloc F25 zero33 rfl rfl rfl rfl ?_)
        intro b8 w25 hb8 F26
        change Fr _ _ [blk _ _ [_, _, _, _, _], blk _ _ [_, _, _, _, _], _, _, blk _ _ [_, _, _, _, _], blk _ _ [_, _, _, _, _], blk _ _ [_, _, _, _, _], _, blk _ _ [_, _, _, _, _], _] _ at F26
        refine Ops.step (One.storeN (vs := [_, _, _, _, _]) F26 0 rfl sz33 rfl rfl rfl (ev_t rfl) (ev_t rfl) rfl rfl (rps_oneC (F26.get 9 rfl) 0 rfl) ?_)
        intro w26 F27
        change Fr _ _ [blk _ _ [_, _, _, _, _], blk _ _ [_, _, _, _, _], _, _, blk _ _ [_, _, _, _, _], blk _ _ [_, _, _, _, _], blk _ _ [_, _, _, _, _], _, blk _ _ [_, _, _, _, _], _] _ at F27
        refine Ops.nil fun a hS => ?_
        refine hK18 _ _ ?_ a hS
        refine Cod.seq fun K19 hK19 => ?_
        refine Cod.region ?_
        refine Ops.step (One.val rfl rfl rfl (yld_field fi33_2 rfl (ev_t rfl)) ?_)
        refine Ops.step (One.store1 F27 0 rfl sz9 rfl rfl rfl (ev_t rfl) rfl ev_c rfl ?_)
        intro w27 F28
        change Fr _ _ [blk _ _ [_, _, _, _, _], blk _ _ [_, _, _, _, _], _, _, blk _ _ [_, _, _, _, _], blk _ _ [_, _, _, _, _], blk _ _ [_, _, _, _, _], _, blk _ _ [_, _, _, _, _], _] _ at F28
        refine Ops.nil fun a hS => ?_
        refine hK19 _ _ ?_ a hS
        refine Cod.seq fun K20 hK20 => ?_
        refine Cod.seq fun K21 hK21 => ?_
        refine Cod.region ?_
        refine Ops.step (One.val rfl rfl rfl (yld_loadN ag33 rfl (ev_t rfl) (fun _ => F28.range (m := 5) (cs' := [_, _, _, _, _]) 5 rfl rfl) rfl) ?_)
        refine Ops.step (One.call rfl rfl rfl (ent_f rfl (evl1 (ev_t rfl)) (enters en36)) (valOk_ct (Tr.mk 7 tc.num tc.str tc.keys tc.list) _ _ (rep_re (rps_get (F28.get 9 rfl) 0 rfl)) (fit_re hdc.fit _ _ (fit_s hdc.fit) (fit_k hdc.fit))) (fun e w28 hw28 => ?_))
        obtain ⟨rfl, C28⟩ := hw28
        have F29 := F28.call C28
        refine ⟨_, rfl, ?_⟩
        refine Ops.step (One.val rfl rfl rfl (yld_move rfl (ev_t rfl)) ?_)
        refine Ops.step (One.val (gd_some rfl rfl) rfl rfl (yld_loadN ag33 rfl (ev_t rfl) (fun _ => F29.range (m := 5) (cs' := [_, _, _, _, _]) 4 rfl rfl) rfl) ?_)
        have hrB : Rep Any w28 (Tr.mk tc.kind tc.num tc.str (([] ++ tc.keys) ++ [⟨#[97]⟩]) tc.list) (x5 tc.kind tc.num tc.str v12 (.slice A4c tc.list.length c4c)).val := rep_keys (rps_get (F29.get 9 rfl) 0 rfl) (ownS (F29.get 3 rfl))
        refine Ops.step (One.gcall (R := Chg No w28) (gd_some rfl rfl) rfl rfl (ent_f rfl (evl1 (ev_g rfl)) (enters en36)) (Chg.refl _ _) (fun hg => valOk_ct (Tr.mk tc.kind tc.num tc.str (([] ++ tc.keys) ++ [⟨#[97]⟩]) tc.list) _ _ hrB (fit_re hdc.fit _ _ (fit_s hdc.fit) (fit_ka hdc.fit))) ?_)
        intro w29 C29
        have F30 := F29.call C29
        refine Ops.step (One.val rfl rfl rfl (yld_or rfl (ev_t rfl) (ev_g rfl)) ?_)
        refine Ops.step (One.val rfl rfl rfl (yld_move rfl (ev_t rfl)) ?_)
        refine Ops.step (One.val (gd_some rfl rfl) rfl rfl (yld_loadN ag33 rfl (ev_t rfl) (fun _ => F30.range (m := 5) (cs' := [_, _, _, _, _]) 1 rfl rfl) rfl) ?_)
        refine Ops.step (One.gcall (R := Chg No w29) (gd_some rfl rfl) rfl rfl (ent_f rfl (evl1 (ev_g rfl)) (enters en36)) (Chg.refl _ _) (fun hg => valOk_ct (Tr.mk tc.kind 1000001 tc.str tc.keys tc.list) _ _ (rep_re (rps_get (F30.get 9 rfl) 0 rfl)) (fit_re hdc.fit _ _ (fit_s hdc.fit) (fit_k hdc.fit))) ?_)
        intro w30 C30
        have F31 := F30.call C30
        refine Ops.step (One.val rfl rfl rfl (yld_or rfl (ev_t rfl) (ev_g rfl)) ?_)
        refine Ops.step (One.val rfl rfl rfl (yld_move rfl (ev_t rfl)) ?_)
        refine Ops.step (One.val (gd_some rfl rfl) rfl rfl (yld_loadN ag33 rfl (ev_t rfl) (fun _ => F31.range (m := 5) (cs' := [_, _, _, _, _]) 0 rfl rfl) rfl) ?_)
        refine Ops.step (One.gcall (R := Chg No w30) (gd_some rfl rfl) rfl rfl (ent_f rfl (evl1 (ev_g rfl)) (enters en36)) (Chg.refl _ _) (fun hg => valOk_ct (Tr.mk tc.kind tc.num ⟨#[97, 98, 99, 100, 101, 102, 103, 104, 105, 106, 107, 108, 109]⟩ tc.keys tc.list) _ _ (rep_re (rps_get (F31.get 9 rfl) 0 rfl)) (fit_re hdc.fit _ _ (by decide) (fit_k hdc.fit))) ?_)
        intro w31 C31
        have F32 := F31.call C31
        refine Ops.step (One.val rfl rfl rfl (yld_or rfl (ev_t rfl) (ev_g rfl)) ?_)
        refine Ops.nil fun a hS => ?_
        refine hK21 _ _ ?_ a hS
        refine Cod.cond rfl (fun hc66 => ?_) (fun hc66 => ?_)
        · skip
          (rw [okB_no bentA, okB_no (bentB hyf), okB_no bentC, okB_no bentD] at hc66; simp at hc66)
        · skip
          refine Cod.skip fun a hS => ?_
          refine hK20 _ _ ?_ a hS
          refine Cod.seq fun K22 hK22 => ?_
          have F33 := F32.drew
          refine Cod.draw (C_of F33) (by kernel_rfl) ?_
          refine Hops.take 0 rfl (by kernel_rfl) (fun _ _ _ h => h) rfl rfl rfl F33 (fun w F => (yld_loadN ag33 rfl (ev_t rfl) (fun _ => F.range (m := 5) (cs' := [_, _, _, _, _]) 6 rfl rfl) rfl)) ?_
          refine Hops.one 1 rfl (by kernel_rfl) (One.call rfl rfl rfl (ent_f rfl (evl1 (ev_t rfl)) (enters en37)) (specOk_ct ta _ _ (rps_get (F33.get 7 rfl) 0 rfl) hda.fit (by omega)) (fun e w32 hw32 => ?_))
          obtain ⟨rfl, C32⟩ := hw32
          have F34 := F33.call C32
          refine ⟨_, rfl, ?_⟩
          refine ⟨F34, ?_⟩
          refine Hops.take 2 rfl (by kernel_rfl) (fun _ _ _ h => h) rfl rfl rfl F34 (fun w F => (yld_not rfl (ev_t rfl))) ?_
          refine Hops.take 3 rfl (by kernel_rfl) (fun _ _ _ h => h) rfl rfl rfl F34 (fun w F => (yld_move rfl (ev_t rfl))) ?_
          refine Hops.take 4 rfl (by kernel_rfl) (fun _ _ _ h => h) (gd_some rfl rfl) rfl rfl F34 (fun w F => (yld_loadN ag33 rfl (ev_t rfl) (fun _ => F.range (m := 5) (cs' := [_, _, _, _, _]) 8 rfl rfl) rfl)) ?_
          refine Hops.take 5 rfl (by kernel_rfl) (fun _ _ _ h => h) (gd_some rfl rfl) rfl rfl F34 (fun w F => (yld_loadN ag33 rfl (ev_t rfl) (fun _ => F.range (m := 5) (cs' := [_, _, _, _, _]) 6 rfl rfl) rfl)) ?_
          refine Hops.take 7 rfl (by kernel_rfl) (fun _ _ _ h => h) (gd_some rfl rfl) rfl rfl F34 (fun w F => (yld_loadN ag33 rfl (ev_t rfl) (fun _ => F.range (m := 5) (cs' := [_, _, _, _, _]) 8 rfl rfl) rfl)) ?_
          refine Hops.take 9 rfl (by kernel_rfl) (fun _ _ _ h => h) (gd_some rfl rfl) rfl rfl F34 (fun w F => (yld_loadN ag33 rfl (ev_t rfl) (fun _ => F.range (m := 5) (cs' := [_, _, _, _, _]) 6 rfl rfl) rfl)) ?_
          refine Hops.one 6 rfl (by kernel_rfl) (One.gcall (R := Chg No w32) (gd_some rfl rfl) rfl rfl (ent_f rfl (evl2 (ev_g rfl) (ev_g rfl)) (enters en39)) (Chg.refl _ _) (fun hg => valSame_ct tc ta _ _ _ (rps_get (F34.get 9 rfl) 0 rfl) (rps_get (F34.get 7 rfl) 0 rfl)) ?_)
          intro w33 C33
          have F35 := F34.call C33
          refine ⟨F35, ?_⟩
          refine Hops.one 8 rfl (by kernel_rfl) (One.gcall (R := Chg No w33) (gd_some rfl rfl) rfl rfl (ent_f rfl (evl1 (ev_g rfl)) (enters en29)) (Chg.refl _ _) (fun hg => valText_ct tc _ _ (rps_get (F35.get 9 rfl) 0 rfl) hdc.fit (by omega) (hT.chg F35.chg)) ?_)
          intro w34 C34
          have F36 := F35.call C34
          refine ⟨F36, ?_⟩
          refine Hops.one 10 rfl (by kernel_rfl) (One.gcall (R := Chg No w34) (gd_some rfl rfl) rfl rfl (ent_f rfl (evl1 (ev_g rfl)) (enters en29)) (Chg.refl _ _) (fun hg => valText_ct ta _ _ (rps_get (F36.get 7 rfl) 0 rfl) hda.fit (by omega) (hT.chg F36.chg)) ?_)
          intro w35 C35
          have F37 := F36.call C35
          refine ⟨F37, ?_⟩
          refine Hops.take 11 rfl (by kernel_rfl) (fun _ _ _ h => h) (gd_some rfl rfl) rfl rfl F37 (fun w F => (yld_seql rfl (ev_g rfl) (ev_g rfl))) ?_
          refine Hops.take 12 rfl (by kernel_rfl) (fun _ _ _ h => h) (gd_some rfl rfl) rfl rfl F37 (fun w F => (yld_beql Tryd.underlying4 rfl (ev_g rfl) (ev_g rfl))) ?_
          refine Hops.take 13 rfl (by kernel_rfl) (fun _ _ _ h => h) rfl rfl rfl F37 (fun w F => (yld_or rfl (ev_t rfl) (ev_g rfl))) ?_
          refine Hops.one 14 rfl (by kernel_rfl) (One.val rfl rfl rfl (yld_assign rfl (ev_t rfl)) ?_)
          refine ⟨F37, ?_⟩
          refine Hops.nil (by kernel_rfl) fun a hS => ?_
          refine hK22 _ _ ?_ a hS
          refine Cod.ret fun a hS => ?_
          try simp only [Exit.then, Exit.inBlock]
          exact ret1 (t := 4) rfl hS rfl ⟨ret_b (fin_txt hyes), F37.chg⟩


theorem ownKnob_none : ownKnob Tryd.prog.godebug = none := by kernel_rfl
theorem params_ok : ∀ t ∈ Tryd.f9.params.toList, Tryd.prog.readableRec t = true ∧ t < Tryd.prog.types.size := by
  rw [Tryd.params9]
  intro t ht
  simp only [List.mem_cons, List.not_mem_nil, or_false] at ht
  rcases ht with rfl | rfl <;> exact ⟨by kernel_rfl, of_decide_eq_true (by kernel_rfl)⟩
set_option maxRecDepth 100000 in
theorem lifted (os : Os) (started : os.Started) (H : Type) (enc : TypeId × Value → H) :
    ReturnsInHanded {} Tryd.checked os 9 .any (fun w args => (Rows.fnValBentSpec.pre enc Tryd.prog Tryd.f9 [] false w args ∧ laidMetH Tryd.prog Rows.fnValBentRow.laid w) ∧ sizedMet enc Tryd.prog Tryd.f9 (OpenSpec.ofChange Rows.fnValBentSpec) false w args)
      (Rows.fnValBentSpec.post enc Tryd.prog Tryd.f9 false true false false) := by
  refine returnsInHanded_of_change_and (C := Tryd.checked) (X := fun w _ => laidMetH Tryd.prog Rows.fnValBentRow.laid w) (fun _ _ _ hh h => h.of_heap hh) ownKnob_none started (by kernel_rfl) Tryd.func9
    (ChangeSpec.witness_shaped (enc := enc) (C := Tryd.checked) (os := os) (X := fun w _ => laidMetH Tryd.prog Rows.fnValBentRow.laid w) false (World.laidAll Tryd.prog os Rows.fnValBentRow.laid) #[.slice none 0 0, .slice none 0 0] 8 (World.laidAll_os _ _ _)
      (World.shaped_of_ZipB (by kernel_rfl) (by kernel_rfl)) (by kernel_rfl) (by kernel_rfl) (by kernel_rfl)
      (by rw [MakeChecks.laidMetH_plain _ _ _ (by kernel_rfl)]; exact laidMet_laidAll _ (by kernel_rfl) (by kernel_rfl))) ?_
  intro W base args ds gs before hval0 hW _ _ hL _
  have hval : ∀ (j : Nat) t v, Tryd.f9.params[j]? = some t → args[j]? = some v → Value.okWide Tryd.prog W .any base t v := hval0
  have hW' := hW
  obtain ⟨p, q, hA0, hV, rfl, hfz, hnd⟩ := hW
  have hA : DataW.TrodAll enc Tryd.prog W 0 (fun _ => true) true Tryd.f9.params.toList args.toList ds p := hA0
  rw [Tryd.params9] at hA hval
  obtain ⟨v0, v1, d0, d1, p0, p1, rfl, rfl, rfl, h0, h1⟩ := trodAll_two hA
  obtain ⟨rfl, rfl⟩ := trodVars_none hV
  rw [MakeChecks.laidMetH_plain _ _ _ (by kernel_rfl)] at hL
  obtain ⟨ps, ⟨g0, t0, cs0, f0, p0, q0, hg0, ht0, hv0, hd0, ⟨g1, t1, cs1, f1, p1, q1, hg1, ht1, hv1, hd1, ⟨g2, t2, cs2, f2, p2, q2, hg2, ht2, hv2, hd2, -, -⟩, -⟩, -⟩, -, -⟩ := hL
  have hT : PowTab W := powTab_of hg2 ht2 hv2 (by kernel_rfl) hd2
  obtain ⟨code, hp⟩ := open_bytes (hval 0 _ v0 rfl rfl) h0
  obtain ⟨more, hq⟩ := open_bytes (hval 1 _ v1 rfl rfl) h1
  refine (walk code more v0 v1 W hp hq hT).mono fun e W' ⟨he, hc⟩ => ?_
  subst he
  skip
  exact ⟨_, rfl, post_chgV hW' (fun _ _ _ => (trodAll_cons_mk (shut_bool Tryd.underlying4 _) trodAll_mk0)) (args_stay laidOut hc _ _ _ _ params_ok hA0 (fun x hx => hW'.lt x (by simp [hx])) (fun x hx => by simpa using hW'.lt x (by simp [hx]))) (rfl : DataW.TrodVars enc Tryd.prog W' _ [] [] []) hc⟩

theorem over : Rows.fnValBentRow.holds Tryd.pinned (OpenSpec.ofChange Rows.fnValBentSpec) :=
  OpenClaim.holds_of_wide 9 Tryd.f9 rfl rfl rfl rfl rfl rfl rfl ⟨rfl, rfl, rfl, rfl, rfl⟩ rfl rfl rfl rfl rfl (by kernel_rfl) Tryd.func9 (by kernel_rfl)
    (of_decide_eq_true (by kernel_rfl)) (by unfold Func.isWrapper; first | (rw [if_pos (by decide +kernel)]; kernel_rfl) | (rw [if_neg (by decide +kernel)]; exact ⟨rfl, rfl⟩))
    (fun os started H enc _ => lifted os started H enc)

/-- The statement: the tied card. -/
theorem proved : Rows.FnValBentCardSaid :=
  Claim7.holds_tied_plain_at .later [] [.data, .data, .data] true (true, "268f5d2513eeebe425927c9dc9135bbdd009be8dcd699a379ca5ed5d5dfdc605") true over (fun _ h => by cases h) (by kernel_rfl) (fun _ h => by cases h) fnValBent_row_tie rfl ⟨rfl, rfl⟩ (by kernel_rfl) rfl
    (fun f fn hf hfn => by
      obtain rfl : f = 9 := Option.some.inj ((show Tryd.prog.funcNamed "loop.example/cribble/laws.FnValBent" = some 9 by kernel_rfl).symm.trans hf) |>.symm
      obtain rfl : fn = Tryd.f9 := (Option.some.inj (Tryd.func9.symm.trans hfn)).symm
      exact ⟨by kernel_rfl, fun j t ht => by
        rw [Tryd.params9] at ht
        have hm : t ∈ [57, 57] := by simpa using Array.mem_of_getElem? ht
        have hall : ([57, 57].all fun u => !Tryd.prog.wantsStandIn u) = true := by kernel_rfl
        exact (show Tryd.prog.wantsStandIn t = false by simpa using List.all_eq_true.1 hall t hm)⟩)
    (by kernel_rfl)
#print axioms proved

end LValBent
end Go.Proofs.YtpfkcblhojkaiaaDoor.Eng
