/- FnValRow returns true for all bytes: two trees drawn from them stand in a row, ahead of the same tree, as they stand; a row that goes on is behind. No condition. -/
import Derived.Test.YtphchpbfhcniaaaLawC
import Derived.Test.YtphchpbfhcniaaaSame
import Derived.Test.YtphchpbfhcniaaaOrdP
import Derived.Test.YtphchpbfhcniaaaArgB
import Derived.Test.YtphchpbfhcniaaaRows
namespace Go.Proofs.Ytphchpbfhcniaaa.Eng
open Go.RowKit Go.ChangeShapes Go.WideShapes Go.ChangeAt
set_option linter.unusedVariables false
set_option linter.unusedSimpArgs false
set_option maxHeartbeats 1000000
set_option linter.constructorNameAsVariable false
namespace GValRow


theorem cmpS_zero (s : ByteArray) : cmpS s s = 0 := cmpS_self s
theorem row_ord (p q : List Tr) : (Tr.mk 5 0 ⟨#[]⟩ [] p).ord (.mk 5 0 ⟨#[]⟩ [] q) = listCmp Tr.ord p q := by
  rw [Tr.ord_mk, orI_cons, orI_cons, orI_cons, orI_cons, orI_one, cmpI_self, cmpI_self, cmpS_self]
  simp [lx, listCmp]
theorem ord_self (a : Tr) : a.ord a = 0 := ((Tr.cmp a).eq a).2 rfl
theorem fin {a b c : Tr} : (((((Tr.mk 5 0 ⟨#[]⟩ [] [a, c]).ord (.mk 5 0 ⟨#[]⟩ [] [b, c]) == a.ord b) && ((Tr.mk 5 0 ⟨#[]⟩ [] [a]).ord (.mk 5 0 ⟨#[]⟩ [] [a, c]) == -1)) && ((Tr.mk 5 0 ⟨#[]⟩ [] []).ord (.mk 5 0 ⟨#[]⟩ [] [a]) == -1)) && (decide (Tr.mk 5 0 ⟨#[]⟩ [] [a, c] = .mk 5 0 ⟨#[]⟩ [] [b, c]) == decide (a = b))) = true := by
  rw [row_ord, row_ord, row_ord]
  have h1 : listCmp Tr.ord [a, c] [b, c] = a.ord b := by
    simp only [listCmp, ord_self]
    split
    · rfl
    · rename_i h; simp at h ⊢; omega
  have h2 : listCmp Tr.ord [a] [a, c] = -1 := by simp [listCmp, ord_self]
  have h3 : listCmp Tr.ord [] [a] = -1 := by simp [listCmp]
  rw [h1, h2, h3]
  by_cases h : a = b <;> simp [h]

set_option maxHeartbeats 4000000 in
set_option maxRecDepth 100000 in
theorem walk (code more : List UInt8) (v u : Value) (w : World) (hp : RepE bCells 1 Any w code v) (hq : RepE bCells 1 Any w more u) :
    Calls Try.prog 6 #[v, u] w fun e w' => e = .returned (.bool true) ∧ Chg No w w' := by
  obtain ⟨A, c, rfl, -⟩ := hp.open
  obtain ⟨B, d, rfl, -⟩ := hq.open
  refine enter Try.func6 rfl rfl rfl ?_
  have F0 := Fr.start w
  refine Cod.seq fun K1 hK1 => ?_
  refine Cod.region ?_
  refine Ops.step (One.val rfl rfl rfl (yld_assign rfl ev_c) ?_)
  refine Ops.nil fun a hS => ?_
  refine hK1 _ _ ?_ a hS
  refine Cod.seq fun K2 hK2 => ?_
  refine Cod.seq fun K3 hK3 => ?_
  refine Cod.region ?_
  refine Ops.step (One.val rfl rfl rfl (yld_move rfl (ev_t rfl)) ?_)
  refine Ops.step (One.val rfl rfl rfl (yld_len sl22 rfl (ev_t rfl)) ?_)
  refine Ops.step (One.val rfl rfl rfl (yld_gtr rfl (ev_t rfl) ev_c) ?_)
  refine Ops.step (One.val rfl rfl rfl (yld_move rfl (ev_t rfl)) ?_)
  refine Ops.step (One.val (gd_some rfl rfl) rfl rfl (yld_move rfl (ev_t rfl)) ?_)
  refine Ops.step (One.val (gd_some rfl rfl) rfl rfl (yld_len sl22 rfl (ev_g rfl)) ?_)
  refine Ops.step (One.val (gd_some rfl rfl) rfl rfl (yld_gtr rfl (ev_g rfl) ev_c) ?_)
  refine Ops.step (One.val rfl rfl rfl (yld_or rfl (ev_t rfl) (ev_g rfl)) ?_)
  refine Ops.nil fun a hS => ?_
  refine hK3 _ _ ?_ a hS
  refine Cod.cond rfl (fun hc19 => ?_) (fun hc19 => ?_)
  · skip
    refine Cod.seq fun K4 hK4 => ?_
    refine Cod.region ?_
    refine Ops.step (One.val rfl rfl rfl (yld_assign rfl ev_c) ?_)
    refine Ops.nil fun a hS => ?_
    refine hK4 _ _ ?_ a hS
    refine Cod.ret fun a hS => ?_
    try simp only [Exit.then, Exit.inBlock]
    exact ret1 (t := 4) rfl hS rfl ⟨rfl, F0.chg⟩
  · skip
    refine Cod.skip fun a hS => ?_
    refine hK2 _ _ ?_ a hS
    refine Cod.seq fun K5 hK5 => ?_
    refine Cod.region ?_
    refine Ops.step (One.val rfl rfl rfl (yld_move rfl (ev_t rfl)) ?_)
    refine Ops.step (One.call rfl rfl rfl (ent_f rfl (evl1 (ev_t rfl)) (enters en25)) (drawOrder_ct code _ _ (hp.chg F0.chg)) (fun e w1 hw1 => ?_))
    obtain ⟨xa, xb, ta, tb, rfl, C1, hrsa, hda, hdb⟩ := hw1
    have hwa := hda.wt
    have hwb := hdb.wt
    obtain ⟨Grsa, hGa⟩ : ∃ G, G = New w w1 := ⟨_, rfl⟩
    rw [← hGa] at hrsa
    obtain ⟨A3a, c3a, A4a, c4a, hxa⟩ := rep_x (rps_get hrsa 0 rfl)
    obtain ⟨A3b, c3b, A4b, c4b, hxb⟩ := rep_x (rps_get hrsa 1 rfl)
    subst hxa
    subst hxb
    have F1 := F0.new C1 (rps Grsa [(ta, (x5 ta.kind ta.num ta.str (.slice A3a ta.keys.length c3a) (.slice A4a ta.list.length c4a)).val), (tb, (x5 tb.kind tb.num tb.str (.slice A3b tb.keys.length c3b) (.slice A4b tb.list.length c4b)).val)]) hrsa (by rw [hGa]; exact New.new)
    refine ⟨_, rfl, ?_⟩
    refine Ops.step (One.val rfl rfl rfl (yld_move rfl (ev_t rfl)) ?_)
    refine Ops.step (One.val rfl rfl rfl (yld_extract rfl (ev_t rfl) rfl) ?_)
    refine Ops.step (One.val rfl rfl rfl (yld_extract rfl (ev_t rfl) rfl) ?_)
    refine Ops.step (One.alloc F1 zero26 rfl rfl rfl rfl ?_)
    intro b1 w2 hb1 F2
    change Fr _ _ [blk _ _ [_, _, _, _, _], _] _ at F2
    refine Ops.step (One.alloc F2 zero26 rfl rfl rfl rfl ?_)
    intro b2 w3 hb2 F3
    change Fr _ _ [blk _ _ [_, _, _, _, _], blk _ _ [_, _, _, _, _], _] _ at F3
    refine Ops.step (One.storeN (vs := [_, _, _, _, _]) F3 1 rfl sz26 rfl rfl rfl (ev_t rfl) (ev_t rfl) rfl rfl (rps_oneC (F3.get 2 rfl) 0 rfl) ?_)
    intro w4 F4
    change Fr _ _ [blk _ _ [_, _, _, _, _], blk _ _ [_, _, _, _, _], _] _ at F4
    refine Ops.step (One.storeN (vs := [_, _, _, _, _]) F4 0 rfl sz26 rfl rfl rfl (ev_t rfl) (ev_t rfl) rfl rfl (rps_oneC (F4.get 2 rfl) 1 rfl) ?_)
    intro w5 F5
    change Fr _ _ [blk _ _ [_, _, _, _, _], blk _ _ [_, _, _, _, _], _] _ at F5
    refine Ops.nil fun a hS => ?_
    refine hK5 _ _ ?_ a hS
    refine Cod.seq fun K6 hK6 => ?_
    refine Cod.region ?_
    refine Ops.step (One.val rfl rfl rfl (yld_move rfl (ev_t rfl)) ?_)
    refine Ops.step (One.call rfl rfl rfl (ent_f rfl (evl1 (ev_t rfl)) (enters en26)) (drawOk_ct more _ _ (hq.chg F5.chg)) (fun e w6 hw6 => ?_))
    obtain ⟨xc, tc, rfl, C6, hrsc, hdc⟩ := hw6
    have hwc := hdc.wt
    obtain ⟨Grsc, hGc⟩ : ∃ G, G = New w5 w6 := ⟨_, rfl⟩
    rw [← hGc] at hrsc
    obtain ⟨A3c, c3c, A4c, c4c, hxc⟩ := rep_x (rps_get hrsc 0 rfl)
    subst hxc
    have F6 := F5.new C6 (rps Grsc [(tc, (x5 tc.kind tc.num tc.str (.slice A3c tc.keys.length c3c) (.slice A4c tc.list.length c4c)).val)]) hrsc (by rw [hGc]; exact New.new)
    refine ⟨_, rfl, ?_⟩
    refine Ops.step (One.alloc F6 zero26 rfl rfl rfl rfl ?_)
    intro b3 w7 hb3 F7
    change Fr _ _ [blk _ _ [_, _, _, _, _], _, blk _ _ [_, _, _, _, _], blk _ _ [_, _, _, _, _], _] _ at F7
    refine Ops.step (One.storeN (vs := [_, _, _, _, _]) F7 0 rfl sz26 rfl rfl rfl (ev_t rfl) (ev_t rfl) rfl rfl (rps_oneC (F7.get 1 rfl) 0 rfl) ?_)
    intro w8 F8
    change Fr _ _ [blk _ _ [_, _, _, _, _], _, blk _ _ [_, _, _, _, _], blk _ _ [_, _, _, _, _], _] _ at F8
    refine Ops.nil fun a hS => ?_
    refine hK6 _ _ ?_ a hS
    refine Cod.seq fun K7 hK7 => ?_
    refine Cod.region ?_
    refine Ops.step (One.val rfl rfl rfl (yld_loadN ag26 rfl (ev_t rfl) (fun _ => F8.range (m := 5) (cs' := [_, _, _, _, _]) 3 rfl rfl) rfl) ?_)
    refine Ops.step (One.val rfl rfl rfl (yld_loadN ag26 rfl (ev_t rfl) (fun _ => F8.range (m := 5) (cs' := [_, _, _, _, _]) 2 rfl rfl) rfl) ?_)
    refine Ops.step (One.call rfl rfl rfl (ent_f rfl (evl2 (ev_t rfl) (ev_t rfl)) (enters en27)) (valOrd_ct ta tb _ _ _ (rps_get (F8.get 4 rfl) 0 rfl) (rps_get (F8.get 4 rfl) 1 rfl)) (fun e w9 hw9 => ?_))
    obtain ⟨rfl, C9⟩ := hw9
    have F9 := F8.call C9
    refine ⟨_, rfl, ?_⟩
    refine Ops.step (One.val rfl rfl rfl (yld_assign rfl (ev_t rfl)) ?_)
    refine Ops.nil fun a hS => ?_
    refine hK7 _ _ ?_ a hS
    refine Cod.seq fun K8 hK8 => ?_
    refine Cod.seq fun K9 hK9 => ?_
    refine Cod.region ?_
    refine Ops.step (One.val rfl rfl rfl (yld_move rfl (ev_t rfl)) ?_)
    refine Ops.step (One.val rfl rfl rfl (yld_loadN ag26 rfl (ev_t rfl) (fun _ => F9.range (m := 5) (cs' := [_, _, _, _, _]) 3 rfl rfl) rfl) ?_)
    refine Ops.step (One.val rfl rfl rfl (yld_loadN ag26 rfl (ev_t rfl) (fun _ => F9.range (m := 5) (cs' := [_, _, _, _, _]) 2 rfl rfl) rfl) ?_)
    refine Ops.step (One.call rfl rfl rfl (ent_f rfl (evl2 (ev_t rfl) (ev_t rfl)) (enters en28)) (specOrd_ct ta tb _ _ _ (rps_get (F9.get 4 rfl) 0 rfl) (rps_get (F9.get 4 rfl) 1 rfl)) (fun e w10 hw10 => ?_))
    obtain ⟨rfl, C10⟩ := hw10
    have F10 := F9.call C10
    refine ⟨_, rfl, ?_⟩
    refine Ops.step (One.val rfl rfl rfl (yld_neq rfl (ev_t rfl) (ev_t rfl)) ?_)
    refine Ops.nil fun a hS => ?_
    refine hK9 _ _ ?_ a hS
    refine Cod.cond rfl (fun hc34 => ?_) (fun hc34 => ?_)
    · skip
      simp at hc34
    · skip
      refine Cod.skip fun a hS => ?_
      refine hK8 _ _ ?_ a hS
      refine Cod.seq fun K10 hK10 => ?_
      refine Cod.region ?_
      refine Ops.step (One.val rfl rfl rfl (yld_loadN ag26 rfl (ev_t rfl) (fun _ => F10.range (m := 5) (cs' := [_, _, _, _, _]) 3 rfl rfl) rfl) ?_)
      refine Ops.step (One.val rfl rfl rfl (yld_loadN ag26 rfl (ev_t rfl) (fun _ => F10.range (m := 5) (cs' := [_, _, _, _, _]) 0 rfl rfl) rfl) ?_)
      refine Ops.step (One.buildSlice (cells := ([(x5 ta.kind ta.num ta.str (.slice A3a ta.keys.length c3a) (.slice A4a ta.list.length c4a)), (x5 tc.kind tc.num tc.str (.slice A3c tc.keys.length c3c) (.slice A4c tc.list.length c4c))].flatMap enc5)) F10 sl24 zero26 rfl rfl rfl rfl (evp2 (ev_t rfl) (ev_t rfl)) rfl rfl (by kernel_rfl) ?_)
      intro b4 w11 hb4 F11
      refine Ops.step (One.val rfl rfl rfl (yld_build (cells := [.int .i64 5, .int .i64 0, .string ⟨#[]⟩, .slice none 0 0, .slice (some ⟨b4, 0, none⟩) 2 2]) rfl (evp2 ev_c (ev_t rfl)) (by kernel_rfl)) ?_)
      refine Ops.step (One.alloc F11 zero26 rfl rfl rfl rfl ?_)
      intro b5 w12 hb5 F12
      change Fr _ _ [blk _ _ [_, _, _, _, _], _, blk _ _ [_, _, _, _, _], _, blk _ _ [_, _, _, _, _], blk _ _ [_, _, _, _, _], _] _ at F12
      refine Ops.step (One.storeN (vs := [_, _, _, _, _]) F12 0 rfl sz26 rfl rfl rfl (ev_t rfl) (ev_t rfl) rfl rfl rfl ?_)
      intro w13 F13
      change Fr _ _ [blk _ _ [_, _, _, _, _], _, blk _ _ [_, _, _, _, _], _, blk _ _ [_, _, _, _, _], blk _ _ [_, _, _, _, _], _] _ at F13
      refine Ops.nil fun a hS => ?_
      refine hK10 _ _ ?_ a hS
      refine Cod.seq fun K11 hK11 => ?_
      refine Cod.region ?_
      refine Ops.step (One.val rfl rfl rfl (yld_loadN ag26 rfl (ev_t rfl) (fun _ => F13.range (m := 5) (cs' := [_, _, _, _, _]) 4 rfl rfl) rfl) ?_)
      refine Ops.step (One.val rfl rfl rfl (yld_loadN ag26 rfl (ev_t rfl) (fun _ => F13.range (m := 5) (cs' := [_, _, _, _, _]) 2 rfl rfl) rfl) ?_)
      refine Ops.step (One.buildSlice (cells := ([(x5 tb.kind tb.num tb.str (.slice A3b tb.keys.length c3b) (.slice A4b tb.list.length c4b)), (x5 tc.kind tc.num tc.str (.slice A3c tc.keys.length c3c) (.slice A4c tc.list.length c4c))].flatMap enc5)) F13 sl24 zero26 rfl rfl rfl rfl (evp2 (ev_t rfl) (ev_t rfl)) rfl rfl (by kernel_rfl) ?_)
      intro b6 w14 hb6 F14
      refine Ops.step (One.val rfl rfl rfl (yld_build (cells := [.int .i64 5, .int .i64 0, .string ⟨#[]⟩, .slice none 0 0, .slice (some ⟨b6, 0, none⟩) 2 2]) rfl (evp2 ev_c (ev_t rfl)) (by kernel_rfl)) ?_)
      refine Ops.step (One.alloc F14 zero26 rfl rfl rfl rfl ?_)
      intro b7 w15 hb7 F15
      change Fr _ _ [blk _ _ [_, _, _, _, _], _, blk _ _ [_, _, _, _, _], _, blk _ _ [_, _, _, _, _], _, blk _ _ [_, _, _, _, _], blk _ _ [_, _, _, _, _], _] _ at F15
      refine Ops.step (One.storeN (vs := [_, _, _, _, _]) F15 0 rfl sz26 rfl rfl rfl (ev_t rfl) (ev_t rfl) rfl rfl rfl ?_)
      intro w16 F16
      change Fr _ _ [blk _ _ [_, _, _, _, _], _, blk _ _ [_, _, _, _, _], _, blk _ _ [_, _, _, _, _], _, blk _ _ [_, _, _, _, _], blk _ _ [_, _, _, _, _], _] _ at F16
      refine Ops.nil fun a hS => ?_
      refine hK11 _ _ ?_ a hS
      refine Cod.seq fun K12 hK12 => ?_
      refine Cod.region ?_
      refine Ops.step (One.val rfl rfl rfl (yld_loadN ag26 rfl (ev_t rfl) (fun _ => F16.range (m := 5) (cs' := [_, _, _, _, _]) 7 rfl rfl) rfl) ?_)
      refine Ops.step (One.buildSlice (cells := ([(x5 ta.kind ta.num ta.str (.slice A3a ta.keys.length c3a) (.slice A4a ta.list.length c4a))].flatMap enc5)) F16 sl24 zero26 rfl rfl rfl rfl (evp1 (ev_t rfl)) rfl rfl (by kernel_rfl) ?_)
      intro b8 w17 hb8 F17
      refine Ops.step (One.val rfl rfl rfl (yld_build (cells := [.int .i64 5, .int .i64 0, .string ⟨#[]⟩, .slice none 0 0, .slice (some ⟨b8, 0, none⟩) 1 1]) rfl (evp2 ev_c (ev_t rfl)) (by kernel_rfl)) ?_)
      refine Ops.step (One.alloc F17 zero26 rfl rfl rfl rfl ?_)
      intro b9 w18 hb9 F18
      change Fr _ _ [blk _ _ [_, _, _, _, _], _, blk _ _ [_, _, _, _, _], _, blk _ _ [_, _, _, _, _], _, blk _ _ [_, _, _, _, _], _, blk _ _ [_, _, _, _, _], blk _ _ [_, _, _, _, _], _] _ at F18
      refine Ops.step (One.storeN (vs := [_, _, _, _, _]) F18 0 rfl sz26 rfl rfl rfl (ev_t rfl) (ev_t rfl) rfl rfl rfl ?_)
      intro w19 F19
      change Fr _ _ [blk _ _ [_, _, _, _, _], _, blk _ _ [_, _, _, _, _], _, blk _ _ [_, _, _, _, _], _, blk _ _ [_, _, _, _, _], _, blk _ _ [_, _, _, _, _], blk _ _ [_, _, _, _, _], _] _ at F19
      refine Ops.nil fun a hS => ?_
      refine hK12 _ _ ?_ a hS
      refine Cod.seq fun K13 hK13 => ?_
      have F20 := F19.drew
      refine Cod.draw (C_of F20) (by kernel_rfl) ?_
      refine Hops.take 0 rfl (by kernel_rfl) (fun _ _ _ h => h) rfl rfl rfl F20 (fun w F => (yld_loadN ag26 rfl (ev_t rfl) (fun _ => F.range (m := 5) (cs' := [_, _, _, _, _]) 4 rfl rfl) rfl)) ?_
      refine Hops.take 1 rfl (by kernel_rfl) (fun _ _ _ h => h) rfl rfl rfl F20 (fun w F => (yld_loadN ag26 rfl (ev_t rfl) (fun _ => F.range (m := 5) (cs' := [_, _, _, _, _]) 2 rfl rfl) rfl)) ?_
      refine Hops.take 3 rfl (by kernel_rfl) (fun _ _ _ h => h) rfl rfl rfl F20 (fun w F => (yld_move rfl (ev_t rfl))) ?_
      refine Hops.one 2 rfl (by kernel_rfl) (One.call rfl rfl rfl (ent_f rfl (evl2 (ev_t rfl) (ev_t rfl)) (enters en27)) (valOrd_ct (.mk 5 0 ⟨#[]⟩ [] [ta, tc]) (.mk 5 0 ⟨#[]⟩ [] [tb, tc]) _ _ _ (repRow (xs := [(x5 ta.kind ta.num ta.str (.slice A3a ta.keys.length c3a) (.slice A4a ta.list.length c4a)), (x5 tc.kind tc.num tc.str (.slice A3c tc.keys.length c3c) (.slice A4c tc.list.length c4c))]) (F20.get 5 rfl) (AL.two (rps_get (F20.get 10 rfl) 0 rfl) (rps_get (F20.get 7 rfl) 0 rfl)) (by simp)) (repRow (xs := [(x5 tb.kind tb.num tb.str (.slice A3b tb.keys.length c3b) (.slice A4b tb.list.length c4b)), (x5 tc.kind tc.num tc.str (.slice A3c tc.keys.length c3c) (.slice A4c tc.list.length c4c))]) (F20.get 3 rfl) (AL.two (rps_get (F20.get 10 rfl) 1 rfl) (rps_get (F20.get 7 rfl) 0 rfl)) (by simp))) (fun e w20 hw20 => ?_))
      obtain ⟨rfl, C20⟩ := hw20
      have F21 := F20.call C20
      refine ⟨_, rfl, ?_⟩
      refine ⟨F21, ?_⟩
      refine Hops.take 4 rfl (by kernel_rfl) (fun _ _ _ h => h) rfl rfl rfl F21 (fun w F => (yld_eql rfl (ev_t rfl) (ev_t rfl))) ?_
      refine Hops.take 5 rfl (by kernel_rfl) (fun _ _ _ h => h) rfl rfl rfl F21 (fun w F => (yld_move rfl (ev_t rfl))) ?_
      refine Hops.take 6 rfl (by kernel_rfl) (fun _ _ _ h => h) (gd_some rfl rfl) rfl rfl F21 (fun w F => (yld_loadN ag26 rfl (ev_t rfl) (fun _ => F.range (m := 5) (cs' := [_, _, _, _, _]) 0 rfl rfl) rfl)) ?_
      refine Hops.take 7 rfl (by kernel_rfl) (fun _ _ _ h => h) (gd_some rfl rfl) rfl rfl F21 (fun w F => (yld_loadN ag26 rfl (ev_t rfl) (fun _ => F.range (m := 5) (cs' := [_, _, _, _, _]) 4 rfl rfl) rfl)) ?_
      refine Hops.one 8 rfl (by kernel_rfl) (One.gcall (R := Chg No w20) (gd_some rfl rfl) rfl rfl (ent_f rfl (evl2 (ev_g rfl) (ev_g rfl)) (enters en27)) (Chg.refl _ _) (fun hg => valOrd_ct (.mk 5 0 ⟨#[]⟩ [] [ta]) (.mk 5 0 ⟨#[]⟩ [] [ta, tc]) _ _ _ (repRow (xs := [(x5 ta.kind ta.num ta.str (.slice A3a ta.keys.length c3a) (.slice A4a ta.list.length c4a))]) (F21.get 1 rfl) (AL.one (rps_get (F21.get 10 rfl) 0 rfl)) (by simp)) (repRow (xs := [(x5 ta.kind ta.num ta.str (.slice A3a ta.keys.length c3a) (.slice A4a ta.list.length c4a)), (x5 tc.kind tc.num tc.str (.slice A3c tc.keys.length c3c) (.slice A4c tc.list.length c4c))]) (F21.get 5 rfl) (AL.two (rps_get (F21.get 10 rfl) 0 rfl) (rps_get (F21.get 7 rfl) 0 rfl)) (by simp))) ?_)
      intro w21 C21
      have F22 := F21.call C21
      refine ⟨F22, ?_⟩
      refine Hops.take 9 rfl (by kernel_rfl) (fun _ _ _ h => h) (gd_some rfl rfl) rfl rfl F22 (fun w F => (yld_eql rfl (ev_g rfl) ev_c)) ?_
      refine Hops.take 10 rfl (by kernel_rfl) (fun _ _ _ h => h) rfl rfl rfl F22 (fun w F => (yld_and rfl (ev_t rfl) (ev_g rfl))) ?_
      refine Hops.take 11 rfl (by kernel_rfl) (fun _ _ _ h => h) rfl rfl rfl F22 (fun w F => (yld_move rfl (ev_t rfl))) ?_
      refine Hops.take 12 rfl (by kernel_rfl) (fun _ _ _ h => h) (gd_some rfl rfl) rfl rfl F22 (fun w F => (yld_build (cells := [.int .i64 5, .int .i64 0, .string ⟨#[]⟩, .slice none 0 0, .slice none 0 0]) rfl (evp1 ev_c) (by kernel_rfl))) ?_
      refine Hops.take 13 rfl (by kernel_rfl) (fun _ _ _ h => h) (gd_some rfl rfl) rfl rfl F22 (fun w F => (yld_loadN ag26 rfl (ev_t rfl) (fun _ => F.range (m := 5) (cs' := [_, _, _, _, _]) 0 rfl rfl) rfl)) ?_
      refine Hops.one 14 rfl (by kernel_rfl) (One.gcall (R := Chg No w21) (gd_some rfl rfl) rfl rfl (ent_f rfl (evl2 (ev_g rfl) (ev_g rfl)) (enters en27)) (Chg.refl _ _) (fun hg => valOrd_ct (Tr.mk 5 0 ⟨#[]⟩ [] []) (.mk 5 0 ⟨#[]⟩ [] [ta]) _ _ _ (rep_leaf _ 5 0 ⟨#[]⟩) (repRow (xs := [(x5 ta.kind ta.num ta.str (.slice A3a ta.keys.length c3a) (.slice A4a ta.list.length c4a))]) (F22.get 1 rfl) (AL.one (rps_get (F22.get 10 rfl) 0 rfl)) (by simp))) ?_)
      intro w22 C22
      have F23 := F22.call C22
      refine ⟨F23, ?_⟩
      refine Hops.take 15 rfl (by kernel_rfl) (fun _ _ _ h => h) (gd_some rfl rfl) rfl rfl F23 (fun w F => (yld_eql rfl (ev_g rfl) ev_c)) ?_
      refine Hops.take 16 rfl (by kernel_rfl) (fun _ _ _ h => h) rfl rfl rfl F23 (fun w F => (yld_and rfl (ev_t rfl) (ev_g rfl))) ?_
      refine Hops.take 17 rfl (by kernel_rfl) (fun _ _ _ h => h) rfl rfl rfl F23 (fun w F => (yld_move rfl (ev_t rfl))) ?_
      refine Hops.take 18 rfl (by kernel_rfl) (fun _ _ _ h => h) (gd_some rfl rfl) rfl rfl F23 (fun w F => (yld_loadN ag26 rfl (ev_t rfl) (fun _ => F.range (m := 5) (cs' := [_, _, _, _, _]) 4 rfl rfl) rfl)) ?_
      refine Hops.take 19 rfl (by kernel_rfl) (fun _ _ _ h => h) (gd_some rfl rfl) rfl rfl F23 (fun w F => (yld_loadN ag26 rfl (ev_t rfl) (fun _ => F.range (m := 5) (cs' := [_, _, _, _, _]) 2 rfl rfl) rfl)) ?_
      refine Hops.take 21 rfl (by kernel_rfl) (fun _ _ _ h => h) (gd_some rfl rfl) rfl rfl F23 (fun w F => (yld_loadN ag26 rfl (ev_t rfl) (fun _ => F.range (m := 5) (cs' := [_, _, _, _, _]) 9 rfl rfl) rfl)) ?_
      refine Hops.take 22 rfl (by kernel_rfl) (fun _ _ _ h => h) (gd_some rfl rfl) rfl rfl F23 (fun w F => (yld_loadN ag26 rfl (ev_t rfl) (fun _ => F.range (m := 5) (cs' := [_, _, _, _, _]) 8 rfl rfl) rfl)) ?_
      refine Hops.one 20 rfl (by kernel_rfl) (One.gcall (R := Chg No w22) (gd_some rfl rfl) rfl rfl (ent_f rfl (evl2 (ev_g rfl) (ev_g rfl)) (enters en20)) (Chg.refl _ _) (fun hg => valSame_ct (.mk 5 0 ⟨#[]⟩ [] [ta, tc]) (.mk 5 0 ⟨#[]⟩ [] [tb, tc]) _ _ _ (repRow (xs := [(x5 ta.kind ta.num ta.str (.slice A3a ta.keys.length c3a) (.slice A4a ta.list.length c4a)), (x5 tc.kind tc.num tc.str (.slice A3c tc.keys.length c3c) (.slice A4c tc.list.length c4c))]) (F23.get 5 rfl) (AL.two (rps_get (F23.get 10 rfl) 0 rfl) (rps_get (F23.get 7 rfl) 0 rfl)) (by simp)) (repRow (xs := [(x5 tb.kind tb.num tb.str (.slice A3b tb.keys.length c3b) (.slice A4b tb.list.length c4b)), (x5 tc.kind tc.num tc.str (.slice A3c tc.keys.length c3c) (.slice A4c tc.list.length c4c))]) (F23.get 3 rfl) (AL.two (rps_get (F23.get 10 rfl) 1 rfl) (rps_get (F23.get 7 rfl) 0 rfl)) (by simp))) ?_)
      intro w23 C23
      have F24 := F23.call C23
      refine ⟨F24, ?_⟩
      refine Hops.one 23 rfl (by kernel_rfl) (One.gcall (R := Chg No w23) (gd_some rfl rfl) rfl rfl (ent_f rfl (evl2 (ev_g rfl) (ev_g rfl)) (enters en20)) (Chg.refl _ _) (fun hg => valSame_ct ta tb _ _ _ (rps_get (F24.get 10 rfl) 0 rfl) (rps_get (F24.get 10 rfl) 1 rfl)) ?_)
      intro w24 C24
      have F25 := F24.call C24
      refine ⟨F25, ?_⟩
      refine Hops.take 24 rfl (by kernel_rfl) (fun _ _ _ h => h) (gd_some rfl rfl) rfl rfl F25 (fun w F => (yld_beql Try.underlying4 rfl (ev_g rfl) (ev_g rfl))) ?_
      refine Hops.take 25 rfl (by kernel_rfl) (fun _ _ _ h => h) rfl rfl rfl F25 (fun w F => (yld_and rfl (ev_t rfl) (ev_g rfl))) ?_
      refine Hops.one 26 rfl (by kernel_rfl) (One.val rfl rfl rfl (yld_assign rfl (ev_t rfl)) ?_)
      refine ⟨F25, ?_⟩
      refine Hops.nil (by kernel_rfl) fun a hS => ?_
      refine hK13 _ _ ?_ a hS
      refine Cod.ret fun a hS => ?_
      try simp only [Exit.then, Exit.inBlock]
      exact ret1 (t := 4) rfl hS rfl ⟨ret_b fin, F25.chg⟩


theorem ownKnob_none : ownKnob Try.prog.godebug = none := by kernel_rfl
theorem params_ok : ∀ t ∈ Try.f6.params.toList, Try.prog.readableRec t = true ∧ t < Try.prog.types.size := by
  rw [Try.params6]
  intro t ht
  simp only [List.mem_cons, List.not_mem_nil, or_false] at ht
  rcases ht with rfl | rfl <;> exact ⟨by kernel_rfl, of_decide_eq_true (by kernel_rfl)⟩
set_option maxRecDepth 100000 in
theorem lifted (os : Os) (started : os.Started) (H : Type) (enc : TypeId × Value → H) :
    ReturnsInHanded {} Try.checked os 6 .any (Rows.fnValRowSpec.pre6 enc Try.prog Try.f6 Rows.fnValRowRow.domain false) (Rows.fnValRowSpec.post enc Try.prog Try.f6 false true false false) := by
  refine returnsInHanded_of_change (C := Try.checked) ownKnob_none started (by kernel_rfl) Try.func6
    (ChangeSpec.witness6 (enc := enc) (C := Try.checked) false ⟨#[], #[.slice none 0 0, .slice none 0 0], []⟩ 8 (by kernel_rfl) (by kernel_rfl) (by kernel_rfl) (by kernel_rfl)) ?_
  intro W base args ds gs before hval0 hW hcnd _
  have hval : ∀ (j : Nat) t v, Try.f6.params[j]? = some t → args[j]? = some v → Value.okWide Try.prog W .any base t v := hval0
  have hW' := hW
  obtain ⟨p, q, hA0, hV, rfl, hfz, hnd⟩ := hW
  have hA : DataW.TrodAll enc Try.prog W 0 (fun _ => true) true Try.f6.params.toList args.toList ds p := hA0
  rw [Try.params6] at hA hval
  obtain ⟨v0, v1, d0, d1, p0, p1, rfl, rfl, rfl, h0, h1⟩ := trodAll_two hA
  obtain ⟨rfl, rfl⟩ := trodVars_none hV
  obtain ⟨code, hp⟩ := open_bytes (hval 0 _ v0 rfl rfl) h0
  obtain ⟨more, hq⟩ := open_bytes (hval 1 _ v1 rfl rfl) h1
  refine (walk code more v0 v1 W hp hq).mono fun e W' ⟨he, hc⟩ => ?_
  subst he
  exact ⟨_, rfl, post_chg laidOut rfl params_ok hW' (fun _ _ _ => (trodAll_cons_mk (shut_bool Try.underlying4 _) trodAll_mk0)) rfl rfl hc (ok_one (by kernel_rfl) rfl (okWide_bool_mk Try.underlying4 _))⟩

theorem over : Rows.fnValRowRow.holds Try.pinned (OpenSpec.ofChange Rows.fnValRowSpec) :=
  OpenClaim.holds_of_wide 6 Try.f6 rfl rfl rfl rfl rfl rfl rfl ⟨rfl, rfl, rfl, rfl, rfl⟩ rfl rfl rfl rfl rfl (by kernel_rfl) Try.func6 (by kernel_rfl)
    (of_decide_eq_true (by kernel_rfl)) (by unfold Func.isWrapper; first | (rw [if_pos (by decide +kernel)]; kernel_rfl) | (rw [if_neg (by decide +kernel)]; exact ⟨rfl, rfl⟩))
    (fun os started H enc _ => lifted os started H enc)

/-- The statement. -/
theorem proved : Rows.FnValRowSaid := over
#print axioms proved

end GValRow
end Go.Proofs.Ytphchpbfhcniaaa.Eng
