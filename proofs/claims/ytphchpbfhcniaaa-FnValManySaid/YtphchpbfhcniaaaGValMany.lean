/- FnValMany returns true for all bytes: of the two trees drawn from them the program and the reference count the parts alike, the parts of their row add up, and so do those of a tree's children. No condition. -/
import Derived.Test.YtphchpbfhcniaaaLawC
import Derived.Test.YtphchpbfhcniaaaArgB
import Derived.Test.YtphchpbfhcniaaaRows
namespace Go.Proofs.Ytphchpbfhcniaaa.Eng
open Go.RowKit Go.ChangeShapes Go.WideShapes Go.ChangeAt
set_option linter.unusedVariables false
set_option linter.unusedSimpArgs false
set_option maxHeartbeats 1000000
set_option linter.constructorNameAsVariable false
namespace GValMany


theorem okRow {a b : Tr} (h : okT (.mk 5 0 ⟨#[]⟩ [] [a, b]) = true) : manyOf (.mk 5 0 ⟨#[]⟩ [] [a, b]) = manyOf a + manyOf b + 1 := by
  have ha := okT_child (x := a) h (by simp [Tr.list])
  have hb := okT_child (x := b) h (by simp [Tr.list])
  rw [many_ok h, many_ok ha, many_ok hb, Tr.cnt_mk, sumN_cons, sumN_cons]
  show ((1 + (a.cnt + (b.cnt + 0)) : Nat) : Int) = _
  omega
theorem no29 {t : Tr} (h : ((manyOf t != manyOf t) || (decide (0 < manyOf t) != (decide (Form 6 t) && decide ((t.cnt : Int) ≤ 60)))) = true) : False := by
  have e : (decide (Form 6 t) && decide ((t.cnt : Int) ≤ 60)) = okT t := rfl
  rw [e, many_pos] at h
  simp at h
theorem no45 {a b : Tr} (h : ((decide (Form 6 (Tr.mk 5 0 ⟨#[]⟩ [] [a, b])) && decide (((Tr.mk 5 0 ⟨#[]⟩ [] [a, b]).cnt : Int) ≤ 60)) && (manyOf (.mk 5 0 ⟨#[]⟩ [] [a, b]) != manyOf a + manyOf b + 1)) = true) : False := by
  have e : (decide (Form 6 (Tr.mk 5 0 ⟨#[]⟩ [] [a, b])) && decide (((Tr.mk 5 0 ⟨#[]⟩ [] [a, b]).cnt : Int) ≤ 60)) = okT (Tr.mk 5 0 ⟨#[]⟩ [] [a, b]) := rfl
  rw [e] at h
  cases hok : okT (Tr.mk 5 0 ⟨#[]⟩ [] [a, b])
  · simp [hok] at h
  · rw [okRow hok] at h; simp at h
theorem cnt_sum {t : Tr} (h : okT t = true) : manyOf t = 1 + ((sumN Tr.cnt t.list : Nat) : Int) ∧ sumN Tr.cnt t.list ≤ 59 := by
  rw [many_ok h]
  have h2 := (okT_node h).2
  obtain ⟨k, n, s, ks, l⟩ := t
  rw [Tr.cnt_mk] at h2 ⊢
  simp only [Tr.list]
  omega
theorem fin {t : Tr} {i : Nat} (hi : i = 0 ∨ (i ≤ t.list.length ∧ okT t = true)) (hx : (decide ((i : Int) < (t.list.length : Int)) && decide (0 < manyOf t)) = false) :
    ((manyOf t == 0) || (((1 + ((sumN Tr.cnt (t.list.take i) : Nat) : Int)) == manyOf t) && decide (manyOf t ≤ 60))) = true := by
  have h60 := (many_rng t).2
  rw [many_pos] at hx
  cases hok : okT t
  · rw [many_no hok]; rfl
  · rw [hok] at hx
    have hie : i ≥ t.list.length := by simp at hx; omega
    rw [List.take_of_length_le hie, ← (cnt_sum hok).1]
    simp [h60]

set_option maxHeartbeats 4000000 in
set_option maxRecDepth 100000 in
theorem walk (code : List UInt8) (v : Value) (w : World) (hp : RepE bCells 1 Any w code v) :
    Calls Try.prog 3 #[v] w fun e w' => e = .returned (.bool true) ∧ Chg No w w' := by
  obtain ⟨A, c, rfl, -⟩ := hp.open
  refine enter Try.func3 rfl rfl rfl ?_
  have F0 := Fr.start w
  refine Cod.seq fun K1 hK1 => ?_
  refine Cod.region ?_
  refine Ops.step (One.val rfl rfl rfl (yld_assign rfl ev_c) ?_)
  refine Ops.nil fun a hS => ?_
  refine hK1 _ _ ?_ a hS
  refine Cod.seq fun K2 hK2 => ?_
  refine Cod.seq fun K3 hK3 => ?_
  refine Cod.region ?_
  refine Ops.step (One.val rfl rfl rfl (yld_move rfl (ev_t rfl)) ?_)
  refine Ops.step (One.val rfl rfl rfl (yld_len sl22 rfl (ev_t rfl)) ?_)
  refine Ops.step (One.val rfl rfl rfl (yld_gtr rfl (ev_t rfl) ev_c) ?_)
  refine Ops.nil fun a hS => ?_
  refine hK3 _ _ ?_ a hS
  refine Cod.cond rfl (fun hc11 => ?_) (fun hc11 => ?_)
  · skip
    refine Cod.seq fun K4 hK4 => ?_
    refine Cod.region ?_
    refine Ops.step (One.val rfl rfl rfl (yld_assign rfl ev_c) ?_)
    refine Ops.nil fun a hS => ?_
    refine hK4 _ _ ?_ a hS
    refine Cod.ret fun a hS => ?_
    try simp only [Exit.then, Exit.inBlock]
    exact ret1 (t := 2) rfl hS rfl ⟨rfl, F0.chg⟩
  · skip
    refine Cod.skip fun a hS => ?_
    refine hK2 _ _ ?_ a hS
    refine Cod.seq fun K5 hK5 => ?_
    refine Cod.region ?_
    refine Ops.step (One.val rfl rfl rfl (yld_move rfl (ev_t rfl)) ?_)
    refine Ops.step (One.call rfl rfl rfl (ent_f rfl (evl1 (ev_t rfl)) (enters en12)) (drawSame_ct code _ _ (hp.chg F0.chg)) (fun e w1 hw1 => ?_))
    obtain ⟨xa, xb, ta, tb, rfl, C1, hrsa, hda, hdb⟩ := hw1
    have hwa := hda.wt
    have hwb := hdb.wt
    obtain ⟨Grsa, hGa⟩ : ∃ G, G = New w w1 := ⟨_, rfl⟩
    rw [← hGa] at hrsa
    obtain ⟨A3a, c3a, A4a, c4a, hxa⟩ := rep_x (rps_get hrsa 0 rfl)
    obtain ⟨A3b, c3b, A4b, c4b, hxb⟩ := rep_x (rps_get hrsa 1 rfl)
    subst hxa
    subst hxb
    have F1 := F0.new C1 (rps Grsa [(ta, (x5 ta.kind ta.num ta.str (.slice A3a ta.keys.length c3a) (.slice A4a ta.list.length c4a)).val), (tb, (x5 tb.kind tb.num tb.str (.slice A3b tb.keys.length c3b) (.slice A4b tb.list.length c4b)).val)]) hrsa (by rw [hGa]; exact New.new)
    refine ⟨_, rfl, ?_⟩
    refine Ops.step (One.val rfl rfl rfl (yld_move rfl (ev_t rfl)) ?_)
    refine Ops.step (One.val rfl rfl rfl (yld_extract rfl (ev_t rfl) rfl) ?_)
    refine Ops.step (One.val rfl rfl rfl (yld_extract rfl (ev_t rfl) rfl) ?_)
    refine Ops.step (One.alloc F1 zero26 rfl rfl rfl rfl ?_)
    intro b1 w2 hb1 F2
    change Fr _ _ [blk _ _ [_, _, _, _, _], _] _ at F2
    refine Ops.step (One.alloc F2 zero26 rfl rfl rfl rfl ?_)
    intro b2 w3 hb2 F3
    change Fr _ _ [blk _ _ [_, _, _, _, _], blk _ _ [_, _, _, _, _], _] _ at F3
    refine Ops.step (One.storeN (vs := [_, _, _, _, _]) F3 1 rfl sz26 rfl rfl rfl (ev_t rfl) (ev_t rfl) rfl rfl (rps_oneC (F3.get 2 rfl) 0 rfl) ?_)
    intro w4 F4
    change Fr _ _ [blk _ _ [_, _, _, _, _], blk _ _ [_, _, _, _, _], _] _ at F4
    refine Ops.step (One.storeN (vs := [_, _, _, _, _]) F4 0 rfl sz26 rfl rfl rfl (ev_t rfl) (ev_t rfl) rfl rfl (rps_oneC (F4.get 2 rfl) 1 rfl) ?_)
    intro w5 F5
    change Fr _ _ [blk _ _ [_, _, _, _, _], blk _ _ [_, _, _, _, _], _] _ at F5
    refine Ops.nil fun a hS => ?_
    refine hK5 _ _ ?_ a hS
    refine Cod.seq fun K6 hK6 => ?_
    refine Cod.region ?_
    refine Ops.step (One.val rfl rfl rfl (yld_loadN ag26 rfl (ev_t rfl) (fun _ => F5.range (m := 5) (cs' := [_, _, _, _, _]) 1 rfl rfl) rfl) ?_)
    refine Ops.step (One.call rfl rfl rfl (ent_f rfl (evl1 (ev_t rfl)) (enters en13)) (valMany_ct ta _ _ (rps_get (F5.get 2 rfl) 0 rfl) hda.fit (by omega)) (fun e w6 hw6 => ?_))
    obtain ⟨rfl, C6⟩ := hw6
    have F6 := F5.call C6
    refine ⟨_, rfl, ?_⟩
    refine Ops.step (One.val rfl rfl rfl (yld_assign rfl (ev_t rfl)) ?_)
    refine Ops.nil fun a hS => ?_
    refine hK6 _ _ ?_ a hS
    refine Cod.seq fun K7 hK7 => ?_
    refine Cod.seq fun K8 hK8 => ?_
    refine Cod.region ?_
    refine Ops.step (One.val rfl rfl rfl (yld_move rfl (ev_t rfl)) ?_)
    refine Ops.step (One.val rfl rfl rfl (yld_loadN ag26 rfl (ev_t rfl) (fun _ => F6.range (m := 5) (cs' := [_, _, _, _, _]) 1 rfl rfl) rfl) ?_)
    refine Ops.step (One.call rfl rfl rfl (ent_f rfl (evl1 (ev_t rfl)) (enters en14)) (specMany_ct ta _ _ (rps_get (F6.get 2 rfl) 0 rfl) hda.fit (by omega)) (fun e w7 hw7 => ?_))
    obtain ⟨rfl, C7⟩ := hw7
    have F7 := F6.call C7
    refine ⟨_, rfl, ?_⟩
    refine Ops.step (One.val rfl rfl rfl (yld_neq rfl (ev_t rfl) (ev_t rfl)) ?_)
    refine Ops.step (One.val rfl rfl rfl (yld_move rfl (ev_t rfl)) ?_)
    refine Ops.step (One.val (gd_some rfl rfl) rfl rfl (yld_move rfl (ev_t rfl)) ?_)
    refine Ops.step (One.val (gd_some rfl rfl) rfl rfl (yld_gtr rfl (ev_g rfl) ev_c) ?_)
    refine Ops.step (One.val (gd_some rfl rfl) rfl rfl (yld_loadN ag26 rfl (ev_t rfl) (fun _ => F7.range (m := 5) (cs' := [_, _, _, _, _]) 1 rfl rfl) rfl) ?_)
    refine Ops.step (One.gcall (R := Chg No w7) (gd_some rfl rfl) rfl rfl (ent_f rfl (evl1 (ev_g rfl)) (enters en15)) (Chg.refl _ _) (fun hg => specOk_ct ta _ _ (rps_get (F7.get 2 rfl) 0 rfl) hda.fit (by omega)) ?_)
    intro w8 C8
    have F8 := F7.call C8
    refine Ops.step (One.val (gd_some rfl rfl) rfl rfl (yld_bneq Try.underlying4 rfl (ev_g rfl) (ev_g rfl)) ?_)
    refine Ops.step (One.val rfl rfl rfl (yld_or rfl (ev_t rfl) (ev_g rfl)) ?_)
    refine Ops.nil fun a hS => ?_
    refine hK8 _ _ ?_ a hS
    refine Cod.cond rfl (fun hc29 => ?_) (fun hc29 => ?_)
    · skip
      exact (no29 hc29).elim
    · skip
      obtain ⟨hm0, hm1⟩ := many_rng ta
      obtain ⟨hn0, hn1⟩ := many_rng tb
      refine Cod.skip fun a hS => ?_
      refine hK7 _ _ ?_ a hS
      refine Cod.seq fun K9 hK9 => ?_
      refine Cod.region ?_
      refine Ops.step (One.val rfl rfl rfl (yld_loadN ag26 rfl (ev_t rfl) (fun _ => F8.range (m := 5) (cs' := [_, _, _, _, _]) 1 rfl rfl) rfl) ?_)
      refine Ops.step (One.val rfl rfl rfl (yld_loadN ag26 rfl (ev_t rfl) (fun _ => F8.range (m := 5) (cs' := [_, _, _, _, _]) 0 rfl rfl) rfl) ?_)
      refine Ops.step (One.buildSlice (cells := ([(x5 ta.kind ta.num ta.str (.slice A3a ta.keys.length c3a) (.slice A4a ta.list.length c4a)), (x5 tb.kind tb.num tb.str (.slice A3b tb.keys.length c3b) (.slice A4b tb.list.length c4b))].flatMap enc5)) F8 sl24 zero26 rfl rfl rfl rfl (evp2 (ev_t rfl) (ev_t rfl)) rfl rfl (by kernel_rfl) ?_)
      intro b3 w9 hb3 F9
      refine Ops.step (One.val rfl rfl rfl (yld_build (cells := [.int .i64 5, .int .i64 0, .string ⟨#[]⟩, .slice none 0 0, .slice (some ⟨b3, 0, none⟩) 2 2]) rfl (evp2 ev_c (ev_t rfl)) (by kernel_rfl)) ?_)
      refine Ops.step (One.alloc F9 zero26 rfl rfl rfl rfl ?_)
      intro b4 w10 hb4 F10
      change Fr _ _ [blk _ _ [_, _, _, _, _], _, blk _ _ [_, _, _, _, _], blk _ _ [_, _, _, _, _], _] _ at F10
      refine Ops.step (One.storeN (vs := [_, _, _, _, _]) F10 0 rfl sz26 rfl rfl rfl (ev_t rfl) (ev_t rfl) rfl rfl rfl ?_)
      intro w11 F11
      change Fr _ _ [blk _ _ [_, _, _, _, _], _, blk _ _ [_, _, _, _, _], blk _ _ [_, _, _, _, _], _] _ at F11
      refine Ops.nil fun a hS => ?_
      refine hK9 _ _ ?_ a hS
      refine Cod.seq fun K10 hK10 => ?_
      refine Cod.seq fun K11 hK11 => ?_
      have F12 := F11.drew
      refine Cod.draw (C_of F12) (by kernel_rfl) ?_
      refine Hops.take 0 rfl (by kernel_rfl) (fun _ _ _ h => h) rfl rfl rfl F12 (fun w F => (yld_loadN ag26 rfl (ev_t rfl) (fun _ => F.range (m := 5) (cs' := [_, _, _, _, _]) 0 rfl rfl) rfl)) ?_
      refine Hops.one 1 rfl (by kernel_rfl) (One.call rfl rfl rfl (ent_f rfl (evl1 (ev_t rfl)) (enters en16)) (valOk_ct (.mk 5 0 ⟨#[]⟩ [] [ta, tb]) _ _ (repRow (xs := [(x5 ta.kind ta.num ta.str (.slice A3a ta.keys.length c3a) (.slice A4a ta.list.length c4a)), (x5 tb.kind tb.num tb.str (.slice A3b tb.keys.length c3b) (.slice A4b tb.list.length c4b))]) (F12.get 1 rfl) (AL.two (rps_get (F12.get 4 rfl) 0 rfl) (rps_get (F12.get 4 rfl) 1 rfl)) (by simp)) (dr_row hda hdb).1) (fun e w12 hw12 => ?_))
      obtain ⟨rfl, C12⟩ := hw12
      have F13 := F12.call C12
      refine ⟨_, rfl, ?_⟩
      refine ⟨F13, ?_⟩
      refine Hops.take 2 rfl (by kernel_rfl) (fun _ _ _ h => h) rfl rfl rfl F13 (fun w F => (yld_move rfl (ev_t rfl))) ?_
      refine Hops.take 3 rfl (by kernel_rfl) (fun _ _ _ h => h) (gd_some rfl rfl) rfl rfl F13 (fun w F => (yld_loadN ag26 rfl (ev_t rfl) (fun _ => F.range (m := 5) (cs' := [_, _, _, _, _]) 0 rfl rfl) rfl)) ?_
      refine Hops.take 5 rfl (by kernel_rfl) (fun _ _ _ h => h) (gd_some rfl rfl) rfl rfl F13 (fun w F => (yld_move rfl (ev_t rfl))) ?_
      refine Hops.take 6 rfl (by kernel_rfl) (fun _ _ _ h => h) (gd_some rfl rfl) rfl rfl F13 (fun w F => (yld_loadN ag26 rfl (ev_t rfl) (fun _ => F.range (m := 5) (cs' := [_, _, _, _, _]) 2 rfl rfl) rfl)) ?_
      refine Hops.one 4 rfl (by kernel_rfl) (One.gcall (R := Chg No w12) (gd_some rfl rfl) rfl rfl (ent_f rfl (evl1 (ev_g rfl)) (enters en13)) (Chg.refl _ _) (fun hg => valMany_ct (.mk 5 0 ⟨#[]⟩ [] [ta, tb]) _ _ (repRow (xs := [(x5 ta.kind ta.num ta.str (.slice A3a ta.keys.length c3a) (.slice A4a ta.list.length c4a)), (x5 tb.kind tb.num tb.str (.slice A3b tb.keys.length c3b) (.slice A4b tb.list.length c4b))]) (F13.get 1 rfl) (AL.two (rps_get (F13.get 4 rfl) 0 rfl) (rps_get (F13.get 4 rfl) 1 rfl)) (by simp)) (dr_row hda hdb).1 (dr_row hda hdb).2) ?_)
      intro w13 C13
      have F14 := F13.call C13
      refine ⟨F14, ?_⟩
      refine Hops.one 7 rfl (by kernel_rfl) (One.gcall (R := Chg No w13) (gd_some rfl rfl) rfl rfl (ent_f rfl (evl1 (ev_g rfl)) (enters en13)) (Chg.refl _ _) (fun hg => valMany_ct tb _ _ (rps_get (F14.get 4 rfl) 1 rfl) hdb.fit (by omega)) ?_)
      intro w14 C14
      have F15 := F14.call C14
      refine ⟨F15, ?_⟩
      refine Hops.take 8 rfl (by kernel_rfl) (fun _ _ _ h => h) (gd_some rfl rfl) rfl rfl F15 (fun w F => (yld_add rfl (ev_g rfl) (ev_g rfl) (fun _ => by omega))) ?_
      refine Hops.take 9 rfl (by kernel_rfl) (fun _ _ _ h => h) (gd_some rfl rfl) rfl rfl F15 (fun w F => (yld_add rfl (ev_g rfl) ev_c (fun _ => by omega))) ?_
      refine Hops.take 10 rfl (by kernel_rfl) (fun _ _ _ h => h) (gd_some rfl rfl) rfl rfl F15 (fun w F => (yld_neq rfl (ev_g rfl) (ev_g rfl))) ?_
      refine Hops.take 11 rfl (by kernel_rfl) (fun _ _ _ h => h) rfl rfl rfl F15 (fun w F => (yld_and rfl (ev_t rfl) (ev_g rfl))) ?_
      refine Hops.nil (by kernel_rfl) fun a hS => ?_
      refine hK11 _ _ ?_ a hS
      refine Cod.cond rfl (fun hc45 => ?_) (fun hc45 => ?_)
      · skip
        exact (no45 hc45).elim
      · skip
        skip
        refine Cod.skip fun a hS => ?_
        refine hK10 _ _ ?_ a hS
        refine Cod.seq fun K12 hK12 => ?_
        refine Cod.region ?_
        refine Ops.step (One.val rfl rfl rfl (yld_assign rfl ev_c) ?_)
        refine Ops.nil fun a hS => ?_
        refine hK12 _ _ ?_ a hS
        refine Cod.seq fun K13 hK13 => ?_
        refine Cod.seq fun K14 hK14 => ?_
        refine Cod.region ?_
        refine Ops.step (One.val rfl rfl rfl (yld_assign rfl ev_c) ?_)
        refine Ops.nil fun a hS => ?_
        refine hK14 _ _ ?_ a hS
        refine Cod.block ?_
        have F16 := F15.pull 4 rfl
        have F17 := F16.pull 4 rfl
        have F18 := F17.erase 2
        have F19 := F18.erase 2
        have F20 := F19.erase 2
        refine Cod.loop (fun i : Nat => [(3, true, .pointer (some ⟨b1, 0, none⟩)), (5, true, .int .i64 (manyOf ta)), (7, true, .int .i64 (1 + ((sumN Tr.cnt (ta.list.take i) : Nat) : Int))), (8, true, .int .i64 (i : Int))]) (fun i w' => (i = 0 ∨ (i ≤ ta.list.length ∧ okT ta = true)) ∧ Fr No w [blk b1 26 (enc5 (x5 ta.kind ta.num ta.str (.slice A3a ta.keys.length c3a) (.slice A4a ta.list.length c4a))), rps Grsa [(ta, (x5 ta.kind ta.num ta.str (.slice A3a ta.keys.length c3a) (.slice A4a ta.list.length c4a)).val), (tb, (x5 tb.kind tb.num tb.str (.slice A3b tb.keys.length c3b) (.slice A4b tb.list.length c4b)).val)]] w') (fun i => ta.list.length - i) 0 ⟨rfl, rfl, rfl, rfl, trivial⟩ ⟨.inl rfl, F20⟩ ?_
        intro i w15 hW K15 hK15
        obtain ⟨hi0, F21⟩ := hW
        refine Cod.seq fun K16 hK16 => ?_
        refine Cod.seq fun K17 hK17 => ?_
        refine Cod.region ?_
        refine Ops.step (One.val rfl rfl rfl (yld_move rfl (ev_t rfl)) ?_)
        refine Ops.step (One.val rfl rfl rfl (yld_field fi26_4 rfl (ev_t rfl)) ?_)
        refine Ops.step (One.val rfl rfl rfl (yld_load1 on24 rfl (ev_t rfl) (fun _ => F21.cell 0 rfl rfl)) ?_)
        refine Ops.step (One.val rfl rfl rfl (yld_len sl24 rfl (ev_t rfl)) ?_)
        refine Ops.step (One.val rfl rfl rfl (yld_lss rfl (ev_t rfl) (ev_t rfl)) ?_)
        refine Ops.step (One.val rfl rfl rfl (yld_move rfl (ev_t rfl)) ?_)
        refine Ops.step (One.val (gd_some rfl rfl) rfl rfl (yld_move rfl (ev_t rfl)) ?_)
        refine Ops.step (One.val (gd_some rfl rfl) rfl rfl (yld_gtr rfl (ev_g rfl) ev_c) ?_)
        refine Ops.step (One.val rfl rfl rfl (yld_and rfl (ev_t rfl) (ev_g rfl)) ?_)
        refine Ops.nil fun a hS => ?_
        refine hK17 _ _ ?_ a hS
        refine Cod.cond rfl (fun hc54 => ?_) (fun hc54 => ?_)
        · skip
          have hi : i < ta.list.length ∧ okT ta = true := by
            have h := hc54
            rw [many_pos] at h
            simp at h
            exact ⟨by omega, h.2⟩
          have hck := okT_child hi.2 (List.getElem_mem hi.1)
          obtain ⟨hcs, hcs59⟩ := cnt_sum hi.2
          have hst := sumN_take Tr.cnt ta.list i hi.1
          have hsl := sumN_take_le Tr.cnt ta.list (i + 1)
          have hcr := many_ok hck
          have hl59 := okT_len60 hi.2
          obtain ⟨b, o, cs, rfl, -, hlc, hr, ht⟩ := (rep_l (rps_get (F21.get 1 rfl) 0 rfl)).at i hi.1
          refine Cod.skip fun a hS => ?_
          refine hK16 _ _ ?_ a hS
          refine Cod.seq fun K18 hK18 => ?_
          refine Cod.block ?_
          refine Cod.seq fun K19 hK19 => ?_
          refine Cod.seq fun K20 hK20 => ?_
          refine Cod.region ?_
          refine Ops.step (One.val rfl rfl rfl (yld_field fi26_4 rfl (ev_t rfl)) ?_)
          refine Ops.step (One.val rfl rfl rfl (yld_load1 on24 rfl (ev_t rfl) (fun _ => F21.cell 0 rfl rfl)) ?_)
          refine Ops.step (One.val rfl rfl rfl (yld_move rfl (ev_t rfl)) ?_)
          refine Ops.step (One.val rfl rfl rfl (yld_indexN sl24 rfl (ev_t rfl) (ev_t rfl) (fun _ => by omega)) ?_)
          refine Ops.step (One.val rfl rfl rfl (yld_loadN ag26 rfl (ev_t rfl) (fun _ => hr) hlc) ?_)
          refine Ops.step (One.call rfl rfl rfl (ent_f rfl (evl1 (ev_t rfl)) (enters en16)) (valOk_ct _ _ _ ht (okT_fit hck)) (fun e w16 hw16 => ?_))
          obtain ⟨rfl, C16⟩ := hw16
          have F22 := F21.call C16
          refine ⟨_, rfl, ?_⟩
          refine Ops.step (One.val rfl rfl rfl (yld_not rfl (ev_t rfl)) ?_)
          refine Ops.nil fun a hS => ?_
          refine hK20 _ _ ?_ a hS
          refine Cod.cond rfl (fun hc63 => ?_) (fun hc63 => ?_)
          · skip
            exact (no_ok hck hc63).elim
          · skip
            obtain ⟨b2, o2, cs2, e2, -, hlc2, hr2, ht2⟩ := (rep_l (rps_get (F22.get 1 rfl) 0 rfl)).at i hi.1
            obtain ⟨rfl, rfl⟩ : b = b2 ∧ o = o2 := by simpa using e2
            refine Cod.skip fun a hS => ?_
            refine hK19 _ _ ?_ a hS
            refine Cod.region ?_
            refine Ops.step (One.val rfl rfl rfl (yld_move rfl (ev_t rfl)) ?_)
            refine Ops.step (One.val rfl rfl rfl (yld_field fi26_4 rfl (ev_t rfl)) ?_)
            refine Ops.step (One.val rfl rfl rfl (yld_load1 on24 rfl (ev_t rfl) (fun _ => F22.cell 0 rfl rfl)) ?_)
            refine Ops.step (One.val rfl rfl rfl (yld_move rfl (ev_t rfl)) ?_)
            refine Ops.step (One.val rfl rfl rfl (yld_indexN sl24 rfl (ev_t rfl) (ev_t rfl) (fun _ => by omega)) ?_)
            refine Ops.step (One.val rfl rfl rfl (yld_loadN ag26 rfl (ev_t rfl) (fun _ => hr2) hlc2) ?_)
            refine Ops.step (One.call rfl rfl rfl (ent_f rfl (evl1 (ev_t rfl)) (enters en13)) (valMany_ct _ _ _ ht2 (okT_fit hck) (okT_w hck)) (fun e w17 hw17 => ?_))
            obtain ⟨rfl, C17⟩ := hw17
            have F23 := F22.call C17
            refine ⟨_, rfl, ?_⟩
            refine Ops.step (One.val rfl rfl rfl (yld_add rfl (ev_t rfl) (ev_t rfl) (fun _ => by omega)) ?_)
            refine Ops.step (One.val rfl rfl rfl (yld_assign rfl (ev_t rfl)) ?_)
            refine Ops.nil fun a hS => ?_
            refine hK18 _ _ ?_ a hS
            refine Cod.region ?_
            refine Ops.step (One.val rfl rfl rfl (yld_move rfl (ev_t rfl)) ?_)
            refine Ops.step (One.val rfl rfl rfl (yld_inc rfl (ev_t rfl) (fun _ => by omega)) ?_)
            refine Ops.step (One.val rfl rfl rfl (yld_assign rfl (ev_t rfl)) ?_)
            refine Ops.nil fun a hS => ?_
            have F24 := F23.pull 1 rfl
            have F25 := F24.pull 1 rfl
            have hsum : (1 + ((sumN Tr.cnt (ta.list.take i) : Nat) : Int)) + manyOf ta.list[i] = (1 + ((sumN Tr.cnt (ta.list.take (i + 1)) : Nat) : Int)) := by rw [many_ok hck]; omega
            rw [hsum] at hS
            exact hK15 (i + 1) _ a (hS.sub ⟨rfl, rfl, rfl, rfl, trivial⟩) ⟨.inr ⟨by omega, hi.2⟩, F25⟩ (by omega)
        · skip
          skip
          refine Cod.exit fun a hS => ?_
          simp only [Exit.then, Exit.inBlock, ↓reduceIte]
          refine hK13 _ _ ?_ a hS
          refine Cod.seq fun K21 hK21 => ?_
          refine Cod.region ?_
          refine Ops.step (One.val rfl rfl rfl (yld_move rfl (ev_t rfl)) ?_)
          refine Ops.step (One.val rfl rfl rfl (yld_eql rfl (ev_t rfl) ev_c) ?_)
          refine Ops.step (One.val rfl rfl rfl (yld_move rfl (ev_t rfl)) ?_)
          refine Ops.step (One.val (gd_some rfl rfl) rfl rfl (yld_move rfl (ev_t rfl)) ?_)
          refine Ops.step (One.val (gd_some rfl rfl) rfl rfl (yld_move rfl (ev_t rfl)) ?_)
          refine Ops.step (One.val (gd_some rfl rfl) rfl rfl (yld_eql rfl (ev_g rfl) (ev_g rfl)) ?_)
          refine Ops.step (One.val (gd_some rfl rfl) rfl rfl (yld_move rfl (ev_g rfl)) ?_)
          refine Ops.step (One.val (gd_some rfl rfl) rfl rfl (yld_move rfl (ev_t rfl)) ?_)
          refine Ops.step (One.val (gd_some rfl rfl) rfl rfl (yld_leq rfl (ev_g rfl) ev_c) ?_)
          refine Ops.step (One.val (gd_some rfl rfl) rfl rfl (yld_and rfl (ev_g rfl) (ev_g rfl)) ?_)
          refine Ops.step (One.val rfl rfl rfl (yld_or rfl (ev_t rfl) (ev_g rfl)) ?_)
          refine Ops.step (One.val rfl rfl rfl (yld_assign rfl (ev_t rfl)) ?_)
          refine Ops.nil fun a hS => ?_
          refine hK21 _ _ ?_ a hS
          refine Cod.ret fun a hS => ?_
          try simp only [Exit.then, Exit.inBlock]
          exact ret1 (t := 2) rfl hS rfl ⟨ret_b (fin hi0 hc54), F21.chg⟩


theorem ownKnob_none : ownKnob Try.prog.godebug = none := by kernel_rfl
theorem params_ok : ∀ t ∈ Try.f3.params.toList, Try.prog.readableRec t = true ∧ t < Try.prog.types.size := by
  rw [Try.params3]
  intro t ht
  simp only [List.mem_cons, List.not_mem_nil, or_false] at ht
  rcases ht with rfl <;> exact ⟨by kernel_rfl, of_decide_eq_true (by kernel_rfl)⟩
set_option maxRecDepth 100000 in
theorem lifted (os : Os) (started : os.Started) (H : Type) (enc : TypeId × Value → H) :
    ReturnsInHanded {} Try.checked os 3 .any (Rows.fnValManySpec.pre6 enc Try.prog Try.f3 Rows.fnValManyRow.domain false) (Rows.fnValManySpec.post enc Try.prog Try.f3 false true false false) := by
  refine returnsInHanded_of_change (C := Try.checked) ownKnob_none started (by kernel_rfl) Try.func3
    (ChangeSpec.witness6 (enc := enc) (C := Try.checked) false ⟨#[], #[.slice none 0 0], []⟩ 8 (by kernel_rfl) (by kernel_rfl) (by kernel_rfl) (by kernel_rfl)) ?_
  intro W base args ds gs before hval0 hW hcnd _
  have hval : ∀ (j : Nat) t v, Try.f3.params[j]? = some t → args[j]? = some v → Value.okWide Try.prog W .any base t v := hval0
  have hW' := hW
  obtain ⟨p, q, hA0, hV, rfl, hfz, hnd⟩ := hW
  have hA : DataW.TrodAll enc Try.prog W 0 (fun _ => true) true Try.f3.params.toList args.toList ds p := hA0
  rw [Try.params3] at hA hval
  obtain ⟨v0, d0, rfl, rfl, h0⟩ := trodAll_one hA
  obtain ⟨rfl, rfl⟩ := trodVars_none hV
  obtain ⟨code, hp⟩ := open_bytes (hval 0 _ v0 rfl rfl) h0
  refine (walk code v0 W hp).mono fun e W' ⟨he, hc⟩ => ?_
  subst he
  exact ⟨_, rfl, post_chg laidOut rfl params_ok hW' (fun _ _ _ => (trodAll_cons_mk (shut_bool Try.underlying4 _) trodAll_mk0)) rfl rfl hc (ok_one (by kernel_rfl) rfl (okWide_bool_mk Try.underlying4 _))⟩

theorem over : Rows.fnValManyRow.holds Try.pinned (OpenSpec.ofChange Rows.fnValManySpec) :=
  OpenClaim.holds_of_wide 3 Try.f3 rfl rfl rfl rfl rfl rfl rfl ⟨rfl, rfl, rfl, rfl, rfl⟩ rfl rfl rfl rfl rfl (by kernel_rfl) Try.func3 (by kernel_rfl)
    (of_decide_eq_true (by kernel_rfl)) (by unfold Func.isWrapper; first | (rw [if_pos (by decide +kernel)]; kernel_rfl) | (rw [if_neg (by decide +kernel)]; exact ⟨rfl, rfl⟩))
    (fun os started H enc _ => lifted os started H enc)

/-- The statement. -/
theorem proved : Rows.FnValManySaid := over
#print axioms proved

end GValMany
end Go.Proofs.Ytphchpbfhcniaaa.Eng
