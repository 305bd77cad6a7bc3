/- FnValOrder returns true for all bytes: of the trees drawn from them one is ahead of the other one or they are one, and three stand in one order; the reference says the same. No condition. -/
import Derived.Test.YtphchpbfhcniaaaLawC
import Derived.Test.YtphchpbfhcniaaaSame
import Derived.Test.YtphchpbfhcniaaaOrdP
import Derived.Test.YtphchpbfhcniaaaArgB
import Derived.Test.YtphchpbfhcniaaaRows
namespace Go.Proofs.Ytphchpbfhcniaaa.Eng
open Go.RowKit Go.ChangeShapes Go.WideShapes Go.ChangeAt
set_option linter.unusedVariables false
set_option linter.unusedSimpArgs false
set_option maxHeartbeats 1000000
set_option linter.constructorNameAsVariable false
namespace GValOrder


theorem no1 {a b : Tr} (h : (((((a.ord b != a.ord b) || (a.ord b != -(b.ord a))) || (a.ord a != 0)) || decide (a.ord b < -1)) || decide (1 < a.ord b)) = true) : False := by
  have h1 := (Tr.cmp a).neg b
  have h2 := ((Tr.cmp a).eq a).2 rfl
  have h3 := (Tr.cmp a).rng b
  rw [h1, h2] at h
  simp at h
  omega
theorem no2 {a b : Tr} (h : (((a.ord b == 0) != decide (a = b)) || (decide (a = b) != decide (a = b))) = true) : False := by
  have h1 := (Tr.cmp a).eq b
  by_cases h2 : a = b
  · simp [h2, (Tr.cmp b).eq b] at h
  · have h3 : a.ord b ≠ 0 := fun e => h2 (h1.1 e)
    simp [h2, h3] at h
theorem fin {a b c : Tr} : ((!(decide (a.ord b ≤ 0) && decide (b.ord c ≤ 0))) || decide (a.ord c ≤ 0)) = true := by
  have h1 := (Tr.cmp a).tr b c
  by_cases h2 : a.ord b ≤ 0 <;> by_cases h3 : b.ord c ≤ 0 <;> simp [h2, h3]
  exact h1 h2 h3

set_option maxHeartbeats 4000000 in
set_option maxRecDepth 100000 in
theorem walk (code more : List UInt8) (v u : Value) (w : World) (hp : RepE bCells 1 Any w code v) (hq : RepE bCells 1 Any w more u) :
    Calls Try.prog 8 #[v, u] w fun e w' => e = .returned (.bool true) ∧ Chg No w w' := by
  obtain ⟨A, c, rfl, -⟩ := hp.open
  obtain ⟨B, d, rfl, -⟩ := hq.open
  refine enter Try.func8 rfl rfl rfl ?_
  have F0 := Fr.start w
  refine Cod.seq fun K1 hK1 => ?_
  refine Cod.region ?_
  refine Ops.step (One.val rfl rfl rfl (yld_assign rfl ev_c) ?_)
  refine Ops.nil fun a hS => ?_
  refine hK1 _ _ ?_ a hS
  refine Cod.seq fun K2 hK2 => ?_
  refine Cod.seq fun K3 hK3 => ?_
  refine Cod.region ?_
  refine Ops.step (One.val rfl rfl rfl (yld_move rfl (ev_t rfl)) ?_)
  refine Ops.step (One.val rfl rfl rfl (yld_len sl22 rfl (ev_t rfl)) ?_)
  refine Ops.step (One.val rfl rfl rfl (yld_gtr rfl (ev_t rfl) ev_c) ?_)
  refine Ops.step (One.val rfl rfl rfl (yld_move rfl (ev_t rfl)) ?_)
  refine Ops.step (One.val (gd_some rfl rfl) rfl rfl (yld_move rfl (ev_t rfl)) ?_)
  refine Ops.step (One.val (gd_some rfl rfl) rfl rfl (yld_len sl22 rfl (ev_g rfl)) ?_)
  refine Ops.step (One.val (gd_some rfl rfl) rfl rfl (yld_gtr rfl (ev_g rfl) ev_c) ?_)
  refine Ops.step (One.val rfl rfl rfl (yld_or rfl (ev_t rfl) (ev_g rfl)) ?_)
  refine Ops.nil fun a hS => ?_
  refine hK3 _ _ ?_ a hS
  refine Cod.cond rfl (fun hc16 => ?_) (fun hc16 => ?_)
  · skip
    refine Cod.seq fun K4 hK4 => ?_
    refine Cod.region ?_
    refine Ops.step (One.val rfl rfl rfl (yld_assign rfl ev_c) ?_)
    refine Ops.nil fun a hS => ?_
    refine hK4 _ _ ?_ a hS
    refine Cod.ret fun a hS => ?_
    try simp only [Exit.then, Exit.inBlock]
    exact ret1 (t := 4) rfl hS rfl ⟨rfl, F0.chg⟩
  · skip
    refine Cod.skip fun a hS => ?_
    refine hK2 _ _ ?_ a hS
    refine Cod.seq fun K5 hK5 => ?_
    refine Cod.region ?_
    refine Ops.step (One.val rfl rfl rfl (yld_move rfl (ev_t rfl)) ?_)
    refine Ops.step (One.call rfl rfl rfl (ent_f rfl (evl1 (ev_t rfl)) (enters en25)) (drawOrder_ct code _ _ (hp.chg F0.chg)) (fun e w1 hw1 => ?_))
    obtain ⟨xa, xb, ta, tb, rfl, C1, hrsa, hda, hdb⟩ := hw1
    have hwa := hda.wt
    have hwb := hdb.wt
    obtain ⟨Grsa, hGa⟩ : ∃ G, G = New w w1 := ⟨_, rfl⟩
    rw [← hGa] at hrsa
    obtain ⟨A3a, c3a, A4a, c4a, hxa⟩ := rep_x (rps_get hrsa 0 rfl)
    obtain ⟨A3b, c3b, A4b, c4b, hxb⟩ := rep_x (rps_get hrsa 1 rfl)
    subst hxa
    subst hxb
    have F1 := F0.new C1 (rps Grsa [(ta, (x5 ta.kind ta.num ta.str (.slice A3a ta.keys.length c3a) (.slice A4a ta.list.length c4a)).val), (tb, (x5 tb.kind tb.num tb.str (.slice A3b tb.keys.length c3b) (.slice A4b tb.list.length c4b)).val)]) hrsa (by rw [hGa]; exact New.new)
    refine ⟨_, rfl, ?_⟩
    refine Ops.step (One.val rfl rfl rfl (yld_move rfl (ev_t rfl)) ?_)
    refine Ops.step (One.val rfl rfl rfl (yld_extract rfl (ev_t rfl) rfl) ?_)
    refine Ops.step (One.val rfl rfl rfl (yld_extract rfl (ev_t rfl) rfl) ?_)
    refine Ops.step (One.alloc F1 zero26 rfl rfl rfl rfl ?_)
    intro b1 w2 hb1 F2
    change Fr _ _ [blk _ _ [_, _, _, _, _], _] _ at F2
    refine Ops.step (One.alloc F2 zero26 rfl rfl rfl rfl ?_)
    intro b2 w3 hb2 F3
    change Fr _ _ [blk _ _ [_, _, _, _, _], blk _ _ [_, _, _, _, _], _] _ at F3
    refine Ops.step (One.storeN (vs := [_, _, _, _, _]) F3 1 rfl sz26 rfl rfl rfl (ev_t rfl) (ev_t rfl) rfl rfl (rps_oneC (F3.get 2 rfl) 0 rfl) ?_)
    intro w4 F4
    change Fr _ _ [blk _ _ [_, _, _, _, _], blk _ _ [_, _, _, _, _], _] _ at F4
    refine Ops.step (One.storeN (vs := [_, _, _, _, _]) F4 0 rfl sz26 rfl rfl rfl (ev_t rfl) (ev_t rfl) rfl rfl (rps_oneC (F4.get 2 rfl) 1 rfl) ?_)
    intro w5 F5
    change Fr _ _ [blk _ _ [_, _, _, _, _], blk _ _ [_, _, _, _, _], _] _ at F5
    refine Ops.nil fun a hS => ?_
    refine hK5 _ _ ?_ a hS
    refine Cod.seq fun K6 hK6 => ?_
    refine Cod.region ?_
    refine Ops.step (One.val rfl rfl rfl (yld_move rfl (ev_t rfl)) ?_)
    refine Ops.step (One.call rfl rfl rfl (ent_f rfl (evl1 (ev_t rfl)) (enters en26)) (drawOk_ct more _ _ (hq.chg F5.chg)) (fun e w6 hw6 => ?_))
    obtain ⟨xc, tc, rfl, C6, hrsc, hdc⟩ := hw6
    have hwc := hdc.wt
    obtain ⟨Grsc, hGc⟩ : ∃ G, G = New w5 w6 := ⟨_, rfl⟩
    rw [← hGc] at hrsc
    obtain ⟨A3c, c3c, A4c, c4c, hxc⟩ := rep_x (rps_get hrsc 0 rfl)
    subst hxc
    have F6 := F5.new C6 (rps Grsc [(tc, (x5 tc.kind tc.num tc.str (.slice A3c tc.keys.length c3c) (.slice A4c tc.list.length c4c)).val)]) hrsc (by rw [hGc]; exact New.new)
    refine ⟨_, rfl, ?_⟩
    refine Ops.step (One.alloc F6 zero26 rfl rfl rfl rfl ?_)
    intro b3 w7 hb3 F7
    change Fr _ _ [blk _ _ [_, _, _, _, _], _, blk _ _ [_, _, _, _, _], blk _ _ [_, _, _, _, _], _] _ at F7
    refine Ops.step (One.storeN (vs := [_, _, _, _, _]) F7 0 rfl sz26 rfl rfl rfl (ev_t rfl) (ev_t rfl) rfl rfl (rps_oneC (F7.get 1 rfl) 0 rfl) ?_)
    intro w8 F8
    change Fr _ _ [blk _ _ [_, _, _, _, _], _, blk _ _ [_, _, _, _, _], blk _ _ [_, _, _, _, _], _] _ at F8
    refine Ops.nil fun a hS => ?_
    refine hK6 _ _ ?_ a hS
    refine Cod.seq fun K7 hK7 => ?_
    refine Cod.region ?_
    refine Ops.step (One.val rfl rfl rfl (yld_loadN ag26 rfl (ev_t rfl) (fun _ => F8.range (m := 5) (cs' := [_, _, _, _, _]) 3 rfl rfl) rfl) ?_)
    refine Ops.step (One.val rfl rfl rfl (yld_loadN ag26 rfl (ev_t rfl) (fun _ => F8.range (m := 5) (cs' := [_, _, _, _, _]) 2 rfl rfl) rfl) ?_)
    refine Ops.step (One.call rfl rfl rfl (ent_f rfl (evl2 (ev_t rfl) (ev_t rfl)) (enters en27)) (valOrd_ct ta tb _ _ _ (rps_get (F8.get 4 rfl) 0 rfl) (rps_get (F8.get 4 rfl) 1 rfl)) (fun e w9 hw9 => ?_))
    obtain ⟨rfl, C9⟩ := hw9
    have F9 := F8.call C9
    refine ⟨_, rfl, ?_⟩
    refine Ops.step (One.val rfl rfl rfl (yld_assign rfl (ev_t rfl)) ?_)
    refine Ops.nil fun a hS => ?_
    refine hK7 _ _ ?_ a hS
    refine Cod.seq fun K8 hK8 => ?_
    refine Cod.seq fun K9 hK9 => ?_
    have hr1 := (Tr.cmp tb).rng ta
    refine Cod.region ?_
    refine Ops.step (One.val rfl rfl rfl (yld_move rfl (ev_t rfl)) ?_)
    refine Ops.step (One.val rfl rfl rfl (yld_loadN ag26 rfl (ev_t rfl) (fun _ => F9.range (m := 5) (cs' := [_, _, _, _, _]) 3 rfl rfl) rfl) ?_)
    refine Ops.step (One.val rfl rfl rfl (yld_loadN ag26 rfl (ev_t rfl) (fun _ => F9.range (m := 5) (cs' := [_, _, _, _, _]) 2 rfl rfl) rfl) ?_)
    refine Ops.step (One.call rfl rfl rfl (ent_f rfl (evl2 (ev_t rfl) (ev_t rfl)) (enters en28)) (specOrd_ct ta tb _ _ _ (rps_get (F9.get 4 rfl) 0 rfl) (rps_get (F9.get 4 rfl) 1 rfl)) (fun e w10 hw10 => ?_))
    obtain ⟨rfl, C10⟩ := hw10
    have F10 := F9.call C10
    refine ⟨_, rfl, ?_⟩
    refine Ops.step (One.val rfl rfl rfl (yld_neq rfl (ev_t rfl) (ev_t rfl)) ?_)
    refine Ops.step (One.val rfl rfl rfl (yld_move rfl (ev_t rfl)) ?_)
    refine Ops.step (One.val (gd_some rfl rfl) rfl rfl (yld_move rfl (ev_t rfl)) ?_)
    refine Ops.step (One.val (gd_some rfl rfl) rfl rfl (yld_loadN ag26 rfl (ev_t rfl) (fun _ => F10.range (m := 5) (cs' := [_, _, _, _, _]) 2 rfl rfl) rfl) ?_)
    refine Ops.step (One.val (gd_some rfl rfl) rfl rfl (yld_loadN ag26 rfl (ev_t rfl) (fun _ => F10.range (m := 5) (cs' := [_, _, _, _, _]) 3 rfl rfl) rfl) ?_)
    refine Ops.step (One.gcall (R := Chg No w10) (gd_some rfl rfl) rfl rfl (ent_f rfl (evl2 (ev_g rfl) (ev_g rfl)) (enters en27)) (Chg.refl _ _) (fun hg => valOrd_ct tb ta _ _ _ (rps_get (F10.get 4 rfl) 1 rfl) (rps_get (F10.get 4 rfl) 0 rfl)) ?_)
    intro w11 C11
    have F11 := F10.call C11
    refine Ops.step (One.val (gd_some rfl rfl) rfl rfl (yld_neg rfl (ev_g rfl) (fun _ => by omega)) ?_)
    refine Ops.step (One.val (gd_some rfl rfl) rfl rfl (yld_neq rfl (ev_g rfl) (ev_g rfl)) ?_)
    refine Ops.step (One.val rfl rfl rfl (yld_or rfl (ev_t rfl) (ev_g rfl)) ?_)
    refine Ops.step (One.val rfl rfl rfl (yld_move rfl (ev_t rfl)) ?_)
    refine Ops.step (One.val (gd_some rfl rfl) rfl rfl (yld_loadN ag26 rfl (ev_t rfl) (fun _ => F11.range (m := 5) (cs' := [_, _, _, _, _]) 3 rfl rfl) rfl) ?_)
    refine Ops.step (One.val (gd_some rfl rfl) rfl rfl (yld_loadN ag26 rfl (ev_t rfl) (fun _ => F11.range (m := 5) (cs' := [_, _, _, _, _]) 3 rfl rfl) rfl) ?_)
    refine Ops.step (One.gcall (R := Chg No w11) (gd_some rfl rfl) rfl rfl (ent_f rfl (evl2 (ev_g rfl) (ev_g rfl)) (enters en27)) (Chg.refl _ _) (fun hg => valOrd_ct ta ta _ _ _ (rps_get (F11.get 4 rfl) 0 rfl) (rps_get (F11.get 4 rfl) 0 rfl)) ?_)
    intro w12 C12
    have F12 := F11.call C12
    refine Ops.step (One.val (gd_some rfl rfl) rfl rfl (yld_neq rfl (ev_g rfl) ev_c) ?_)
    refine Ops.step (One.val rfl rfl rfl (yld_or rfl (ev_t rfl) (ev_g rfl)) ?_)
    refine Ops.step (One.val rfl rfl rfl (yld_move rfl (ev_t rfl)) ?_)
    refine Ops.step (One.val (gd_some rfl rfl) rfl rfl (yld_move rfl (ev_t rfl)) ?_)
    refine Ops.step (One.val (gd_some rfl rfl) rfl rfl (yld_lss rfl (ev_g rfl) ev_c) ?_)
    refine Ops.step (One.val rfl rfl rfl (yld_or rfl (ev_t rfl) (ev_g rfl)) ?_)
    refine Ops.step (One.val rfl rfl rfl (yld_move rfl (ev_t rfl)) ?_)
    refine Ops.step (One.val (gd_some rfl rfl) rfl rfl (yld_move rfl (ev_t rfl)) ?_)
    refine Ops.step (One.val (gd_some rfl rfl) rfl rfl (yld_gtr rfl (ev_g rfl) ev_c) ?_)
    refine Ops.step (One.val rfl rfl rfl (yld_or rfl (ev_t rfl) (ev_g rfl)) ?_)
    refine Ops.nil fun a hS => ?_
    refine hK9 _ _ ?_ a hS
    refine Cod.cond rfl (fun hc53 => ?_) (fun hc53 => ?_)
    · skip
      exact (no1 hc53).elim
    · skip
      refine Cod.skip fun a hS => ?_
      refine hK8 _ _ ?_ a hS
      refine Cod.seq fun K10 hK10 => ?_
      refine Cod.seq fun K11 hK11 => ?_
      have F13 := F12.drew
      refine Cod.draw (C_of F13) (by kernel_rfl) ?_
      refine Hops.take 0 rfl (by kernel_rfl) (fun _ _ _ h => h) rfl rfl rfl F13 (fun w F => (yld_move rfl (ev_t rfl))) ?_
      refine Hops.take 1 rfl (by kernel_rfl) (fun _ _ _ h => h) rfl rfl rfl F13 (fun w F => (yld_eql rfl (ev_t rfl) ev_c)) ?_
      refine Hops.take 2 rfl (by kernel_rfl) (fun _ _ _ h => h) rfl rfl rfl F13 (fun w F => (yld_loadN ag26 rfl (ev_t rfl) (fun _ => F.range (m := 5) (cs' := [_, _, _, _, _]) 3 rfl rfl) rfl)) ?_
      refine Hops.take 3 rfl (by kernel_rfl) (fun _ _ _ h => h) rfl rfl rfl F13 (fun w F => (yld_loadN ag26 rfl (ev_t rfl) (fun _ => F.range (m := 5) (cs' := [_, _, _, _, _]) 2 rfl rfl) rfl)) ?_
      refine Hops.one 4 rfl (by kernel_rfl) (One.call rfl rfl rfl (ent_f rfl (evl2 (ev_t rfl) (ev_t rfl)) (enters en20)) (valSame_ct ta tb _ _ _ (rps_get (F13.get 4 rfl) 0 rfl) (rps_get (F13.get 4 rfl) 1 rfl)) (fun e w13 hw13 => ?_))
      obtain ⟨rfl, C13⟩ := hw13
      have F14 := F13.call C13
      refine ⟨_, rfl, ?_⟩
      refine ⟨F14, ?_⟩
      refine Hops.take 5 rfl (by kernel_rfl) (fun _ _ _ h => h) rfl rfl rfl F14 (fun w F => (yld_bneq Try.underlying4 rfl (ev_t rfl) (ev_t rfl))) ?_
      refine Hops.take 6 rfl (by kernel_rfl) (fun _ _ _ h => h) rfl rfl rfl F14 (fun w F => (yld_move rfl (ev_t rfl))) ?_
      refine Hops.take 7 rfl (by kernel_rfl) (fun _ _ _ h => h) (gd_some rfl rfl) rfl rfl F14 (fun w F => (yld_loadN ag26 rfl (ev_t rfl) (fun _ => F.range (m := 5) (cs' := [_, _, _, _, _]) 3 rfl rfl) rfl)) ?_
      refine Hops.take 8 rfl (by kernel_rfl) (fun _ _ _ h => h) (gd_some rfl rfl) rfl rfl F14 (fun w F => (yld_loadN ag26 rfl (ev_t rfl) (fun _ => F.range (m := 5) (cs' := [_, _, _, _, _]) 2 rfl rfl) rfl)) ?_
      refine Hops.take 10 rfl (by kernel_rfl) (fun _ _ _ h => h) (gd_some rfl rfl) rfl rfl F14 (fun w F => (yld_loadN ag26 rfl (ev_t rfl) (fun _ => F.range (m := 5) (cs' := [_, _, _, _, _]) 3 rfl rfl) rfl)) ?_
      refine Hops.take 11 rfl (by kernel_rfl) (fun _ _ _ h => h) (gd_some rfl rfl) rfl rfl F14 (fun w F => (yld_loadN ag26 rfl (ev_t rfl) (fun _ => F.range (m := 5) (cs' := [_, _, _, _, _]) 2 rfl rfl) rfl)) ?_
      refine Hops.one 9 rfl (by kernel_rfl) (One.gcall (R := Chg No w13) (gd_some rfl rfl) rfl rfl (ent_f rfl (evl2 (ev_g rfl) (ev_g rfl)) (enters en20)) (Chg.refl _ _) (fun hg => valSame_ct ta tb _ _ _ (rps_get (F14.get 4 rfl) 0 rfl) (rps_get (F14.get 4 rfl) 1 rfl)) ?_)
      intro w14 C14
      have F15 := F14.call C14
      refine ⟨F15, ?_⟩
      refine Hops.one 12 rfl (by kernel_rfl) (One.gcall (R := Chg No w14) (gd_some rfl rfl) rfl rfl (ent_f rfl (evl2 (ev_g rfl) (ev_g rfl)) (enters en33)) (Chg.refl _ _) (fun hg => specSame_ct ta tb _ _ _ (rps_get (F15.get 4 rfl) 0 rfl) (rps_get (F15.get 4 rfl) 1 rfl)) ?_)
      intro w15 C15
      have F16 := F15.call C15
      refine ⟨F16, ?_⟩
      refine Hops.take 13 rfl (by kernel_rfl) (fun _ _ _ h => h) (gd_some rfl rfl) rfl rfl F16 (fun w F => (yld_bneq Try.underlying4 rfl (ev_g rfl) (ev_g rfl))) ?_
      refine Hops.take 14 rfl (by kernel_rfl) (fun _ _ _ h => h) rfl rfl rfl F16 (fun w F => (yld_or rfl (ev_t rfl) (ev_g rfl))) ?_
      refine Hops.nil (by kernel_rfl) fun a hS => ?_
      refine hK11 _ _ ?_ a hS
      refine Cod.cond rfl (fun hc68 => ?_) (fun hc68 => ?_)
      · skip
        exact (no2 hc68).elim
      · skip
        refine Cod.skip fun a hS => ?_
        refine hK10 _ _ ?_ a hS
        refine Cod.seq fun K12 hK12 => ?_
        refine Cod.region ?_
        refine Ops.step (One.val rfl rfl rfl (yld_loadN ag26 rfl (ev_t rfl) (fun _ => F16.range (m := 5) (cs' := [_, _, _, _, _]) 3 rfl rfl) rfl) ?_)
        refine Ops.step (One.val rfl rfl rfl (yld_loadN ag26 rfl (ev_t rfl) (fun _ => F16.range (m := 5) (cs' := [_, _, _, _, _]) 2 rfl rfl) rfl) ?_)
        refine Ops.step (One.call rfl rfl rfl (ent_f rfl (evl2 (ev_t rfl) (ev_t rfl)) (enters en27)) (valOrd_ct ta tb _ _ _ (rps_get (F16.get 4 rfl) 0 rfl) (rps_get (F16.get 4 rfl) 1 rfl)) (fun e w16 hw16 => ?_))
        obtain ⟨rfl, C16⟩ := hw16
        have F17 := F16.call C16
        refine ⟨_, rfl, ?_⟩
        refine Ops.step (One.val rfl rfl rfl (yld_leq rfl (ev_t rfl) ev_c) ?_)
        refine Ops.step (One.val rfl rfl rfl (yld_move rfl (ev_t rfl)) ?_)
        refine Ops.step (One.val (gd_some rfl rfl) rfl rfl (yld_loadN ag26 rfl (ev_t rfl) (fun _ => F17.range (m := 5) (cs' := [_, _, _, _, _]) 2 rfl rfl) rfl) ?_)
        refine Ops.step (One.val (gd_some rfl rfl) rfl rfl (yld_loadN ag26 rfl (ev_t rfl) (fun _ => F17.range (m := 5) (cs' := [_, _, _, _, _]) 0 rfl rfl) rfl) ?_)
        refine Ops.step (One.gcall (R := Chg No w16) (gd_some rfl rfl) rfl rfl (ent_f rfl (evl2 (ev_g rfl) (ev_g rfl)) (enters en27)) (Chg.refl _ _) (fun hg => valOrd_ct tb tc _ _ _ (rps_get (F17.get 4 rfl) 1 rfl) (rps_get (F17.get 1 rfl) 0 rfl)) ?_)
        intro w17 C17
        have F18 := F17.call C17
        refine Ops.step (One.val (gd_some rfl rfl) rfl rfl (yld_leq rfl (ev_g rfl) ev_c) ?_)
        refine Ops.step (One.val rfl rfl rfl (yld_and rfl (ev_t rfl) (ev_g rfl)) ?_)
        refine Ops.step (One.val rfl rfl rfl (yld_not rfl (ev_t rfl)) ?_)
        refine Ops.step (One.val rfl rfl rfl (yld_move rfl (ev_t rfl)) ?_)
        refine Ops.step (One.val (gd_some rfl rfl) rfl rfl (yld_loadN ag26 rfl (ev_t rfl) (fun _ => F18.range (m := 5) (cs' := [_, _, _, _, _]) 3 rfl rfl) rfl) ?_)
        refine Ops.step (One.val (gd_some rfl rfl) rfl rfl (yld_loadN ag26 rfl (ev_t rfl) (fun _ => F18.range (m := 5) (cs' := [_, _, _, _, _]) 0 rfl rfl) rfl) ?_)
        refine Ops.step (One.gcall (R := Chg No w17) (gd_some rfl rfl) rfl rfl (ent_f rfl (evl2 (ev_g rfl) (ev_g rfl)) (enters en27)) (Chg.refl _ _) (fun hg => valOrd_ct ta tc _ _ _ (rps_get (F18.get 4 rfl) 0 rfl) (rps_get (F18.get 1 rfl) 0 rfl)) ?_)
        intro w18 C18
        have F19 := F18.call C18
        refine Ops.step (One.val (gd_some rfl rfl) rfl rfl (yld_leq rfl (ev_g rfl) ev_c) ?_)
        refine Ops.step (One.val rfl rfl rfl (yld_or rfl (ev_t rfl) (ev_g rfl)) ?_)
        refine Ops.step (One.val rfl rfl rfl (yld_assign rfl (ev_t rfl)) ?_)
        refine Ops.nil fun a hS => ?_
        refine hK12 _ _ ?_ a hS
        refine Cod.ret fun a hS => ?_
        try simp only [Exit.then, Exit.inBlock]
        exact ret1 (t := 4) rfl hS rfl ⟨ret_b fin, F19.chg⟩


theorem ownKnob_none : ownKnob Try.prog.godebug = none := by kernel_rfl
theorem params_ok : ∀ t ∈ Try.f8.params.toList, Try.prog.readableRec t = true ∧ t < Try.prog.types.size := by
  rw [Try.params8]
  intro t ht
  simp only [List.mem_cons, List.not_mem_nil, or_false] at ht
  rcases ht with rfl | rfl <;> exact ⟨by kernel_rfl, of_decide_eq_true (by kernel_rfl)⟩
set_option maxRecDepth 100000 in
theorem lifted (os : Os) (started : os.Started) (H : Type) (enc : TypeId × Value → H) :
    ReturnsInHanded {} Try.checked os 8 .any (Rows.fnValOrderSpec.pre6 enc Try.prog Try.f8 Rows.fnValOrderRow.domain false) (Rows.fnValOrderSpec.post enc Try.prog Try.f8 false true false false) := by
  refine returnsInHanded_of_change (C := Try.checked) ownKnob_none started (by kernel_rfl) Try.func8
    (ChangeSpec.witness6 (enc := enc) (C := Try.checked) false ⟨#[], #[.slice none 0 0, .slice none 0 0], []⟩ 8 (by kernel_rfl) (by kernel_rfl) (by kernel_rfl) (by kernel_rfl)) ?_
  intro W base args ds gs before hval0 hW hcnd _
  have hval : ∀ (j : Nat) t v, Try.f8.params[j]? = some t → args[j]? = some v → Value.okWide Try.prog W .any base t v := hval0
  have hW' := hW
  obtain ⟨p, q, hA0, hV, rfl, hfz, hnd⟩ := hW
  have hA : DataW.TrodAll enc Try.prog W 0 (fun _ => true) true Try.f8.params.toList args.toList ds p := hA0
  rw [Try.params8] at hA hval
  obtain ⟨v0, v1, d0, d1, p0, p1, rfl, rfl, rfl, h0, h1⟩ := trodAll_two hA
  obtain ⟨rfl, rfl⟩ := trodVars_none hV
  obtain ⟨code, hp⟩ := open_bytes (hval 0 _ v0 rfl rfl) h0
  obtain ⟨more, hq⟩ := open_bytes (hval 1 _ v1 rfl rfl) h1
  refine (walk code more v0 v1 W hp hq).mono fun e W' ⟨he, hc⟩ => ?_
  subst he
  exact ⟨_, rfl, post_chg laidOut rfl params_ok hW' (fun _ _ _ => (trodAll_cons_mk (shut_bool Try.underlying4 _) trodAll_mk0)) rfl rfl hc (ok_one (by kernel_rfl) rfl (okWide_bool_mk Try.underlying4 _))⟩

theorem over : Rows.fnValOrderRow.holds Try.pinned (OpenSpec.ofChange Rows.fnValOrderSpec) :=
  OpenClaim.holds_of_wide 8 Try.f8 rfl rfl rfl rfl rfl rfl rfl ⟨rfl, rfl, rfl, rfl, rfl⟩ rfl rfl rfl rfl rfl (by kernel_rfl) Try.func8 (by kernel_rfl)
    (of_decide_eq_true (by kernel_rfl)) (by unfold Func.isWrapper; first | (rw [if_pos (by decide +kernel)]; kernel_rfl) | (rw [if_neg (by decide +kernel)]; exact ⟨rfl, rfl⟩))
    (fun os started H enc _ => lifted os started H enc)

/-- The statement. -/
theorem proved : Rows.FnValOrderSaid := over
#print axioms proved

end GValOrder
end Go.Proofs.Ytphchpbfhcniaaa.Eng
