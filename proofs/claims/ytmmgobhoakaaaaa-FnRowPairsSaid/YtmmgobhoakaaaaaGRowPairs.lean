/- FnRowPairs returns true for all bytes: the keys made of a tree's pairs are that tree; of a row of pairs the last pair of a key counts. No condition. -/
import Derived.Test.YtmmgobhoakaaaaaLawQ
import Derived.Test.YtmmgobhoakaaaaaLawS
import Derived.Test.YtmmgobhoakaaaaaRKeys
import Derived.Test.YtmmgobhoakaaaaaArgB
import Derived.Test.YtmmgobhoakaaaaaRows
namespace Go.Proofs.Ytmmgobhoakaaaaa.Eng
open Go.RowKit Go.ChangeShapes Go.WideShapes Go.ChangeAt
set_option linter.unusedVariables false
set_option linter.unusedSimpArgs false
set_option maxHeartbeats 1000000
set_option linter.constructorNameAsVariable false
namespace GRowPairs


theorem put_end {α : Type} {key : ByteArray} {x : α} : ∀ {ks : List ByteArray} {l : List α}, ks.length = l.length → (∀ k ∈ ks, ltS k key = true) → putK ks key = ks ++ [key] ∧ putL ks l key x = l ++ [x]
  | [], [], _, _ => ⟨putK_nil key, putL_nil key x⟩
  | [], _ :: _, h, _ => by simp at h
  | _ :: _, [], h, _ => by simp at h
  | k :: ks, a :: l, h, hk => by
    obtain ⟨h1, h2⟩ := put_end (x := x) (ks := ks) (l := l) (by simpa using h) fun k' hk' => hk k' (by simp [hk'])
    rw [putK_cons, putL_cons, if_pos (hk k (by simp)), if_pos (hk k (by simp)), h1, h2]
    exact ⟨rfl, rfl⟩
theorem rkF_sorted : ∀ (ks : List ByteArray) (l : List Tr) (a : List ByteArray) (b : List Tr), ks.length = l.length → a.length = b.length → (∀ k ∈ a, ∀ k' ∈ ks, ltS k k' = true) → List.Pairwise (fun x y => ltS x y = true) ks → rkF (List.zipWith pairT ks l) a b = some (.mk 6 0 ⟨#[]⟩ (a ++ ks) (b ++ l))
  | [], [], a, b, _, _, _, _ => by rw [List.append_nil, List.append_nil]; rfl
  | [], _ :: _, _, _, h, _, _, _ => by simp at h
  | _ :: _, [], _, _, h, _, _, _ => by simp at h
  | k :: ks, x :: l, a, b, h, hab, hlt, hpw => by
    obtain ⟨h1, h2⟩ := put_end (key := k) (x := x) hab fun k' hk' => hlt k' hk' k (by simp)
    rw [List.pairwise_cons] at hpw
    show rkF (pairT k x :: List.zipWith pairT ks l) a b = _
    rw [rkF, if_pos (show pairB (pairT k x) = true from rfl)]
    show rkF (List.zipWith pairT ks l) (putK a k) (putL a b k x) = _
    rw [h1, h2, rkF_sorted ks l (a ++ [k]) (b ++ [x]) (by simpa using h) (by simp [hab]) (fun k1 hk1 k2 hk2 => by
      rcases List.mem_append.1 hk1 with hk1 | hk1
      · exact hlt k1 hk1 k2 (by simp [hk2])
      · obtain rfl := List.mem_singleton.1 hk1
        exact hpw.1 k2 hk2) hpw.2]
    simp
theorem pairs_zip {t : Tr} (h : t.keys.length = t.list.length) : pairsL t t.list.length = List.zipWith pairT t.keys t.list := by
  apply List.ext_getElem
  · simp [pairsL, h]
  · intro i h1 h2
    have hi : i < t.list.length := by simpa [pairsL] using h1
    rw [List.getElem_zipWith]
    have := nthP (t := t) (i := i) (by omega) hi
    simpa [pairsL] using this
theorem pairs_some {t : Tr} {r : Option Tr} (hr : r = pairsR t) (h : r.isSome = true) : okT t = true ∧ t.kind = 6 ∧ r = some (pairsT t) ∧ okT (pairsT t) = true := by
  subst hr
  unfold pairsR at h ⊢
  split at h
  · rename_i h1
    rw [if_pos h1]
    unfold toldR at h ⊢
    split at h
    · rename_i h2
      exact ⟨h1.1, h1.2, if_pos h2, by simpa using h2⟩
    · cases h
  · cases h
theorem key_eta {t : Tr} (h : okT t = true) (h6 : t.kind = 6) : t = .mk 6 0 ⟨#[]⟩ t.keys t.list := by
  obtain ⟨k, n, s, ks, l⟩ := t
  have hk : k = 6 := h6
  have hp := (Form.iff.1 (okT_node h).1).2.1
  have h3 := hp.z3 (by omega)
  have h4 := hp.z4 (by omega)
  subst hk
  show _ = Tr.mk 6 0 ⟨#[]⟩ ks l
  rw [h3, h4]
theorem pairs_back {t : Tr} {r r2 : Option Tr} (hr : r = pairsR t) (h : r.isSome = true) (hr2 : r2 = rowKeysR (r.getD zeroT)) : r2 = some t := by
  obtain ⟨ot, kt, e1, op⟩ := pairs_some hr h
  have lt := okT_len ot kt
  have e := key_eta ot kt
  rw [hr2, e1]
  show rowKeysR (pairsT t) = _
  have hrow : rowT (pairsT t) = true := by unfold rowT; rw [op]; rfl
  unfold rowKeysR
  rw [if_pos hrow]
  show (rkF (pairsL t t.list.length) [] []).bind (toldR true) = _
  rw [pairs_zip lt, rkF_sorted _ _ _ _ lt rfl (by simp) (by
      rw [List.pairwise_iff_getElem]
      intro i j hi hj hij
      have := okT_sorted' ot i j hij hj
      rwa [nth_eq hi, nth_eq hj] at this)]
  show toldR true (.mk 6 0 ⟨#[]⟩ t.keys t.list) = _
  rw [← e]
  exact toldR_true ot
theorem no57 {t : Tr} {r : Option Tr} (h : r = some t) (hc : (!r.isSome || !(decide (r.getD zeroT = t))) = true) : False := by
  rw [h] at hc; simp at hc
theorem rkF_all : ∀ {r : List Tr} {ks : List ByteArray} {l : List Tr} {T : Tr}, rkF r ks l = some T → ∀ p ∈ r, pairB p = true
  | [], _, _, _, _, p, hp => by simp at hp
  | q :: r, ks, l, T, e, p, hp => by
    unfold rkF at e
    split at e
    · rename_i hq
      rcases List.mem_cons.1 hp with rfl | hp
      · exact hq
      · exact rkF_all e p hp
    · cases e
theorem pair_facts {t : Tr} {r : Option Tr} (hr : r = rowKeysR t) (h : r.isSome = true) : okT t = true ∧ ∀ i (hi : i < t.list.length), t.list[i].list.length = 2 ∧ okS (kOf t.list[i]) = true ∧ okT (vOf t.list[i]) = true := by
  subst hr
  unfold rowKeysR at h
  split at h
  · rename_i hrow
    have hok := rowT_ok hrow
    refine ⟨hok, fun i hi => ?_⟩
    cases e : rkF t.list [] [] with
    | none => rw [e] at h; cases h
    | some T =>
      have q2 := rkF_all e _ (List.getElem_mem hi)
      have hp := okT_child hok (List.getElem_mem hi)
      have h2 : t.list[i].list.length = 2 := by unfold pairB at q2; simp at q2; exact q2.1.2
      refine ⟨h2, ?_⟩
      generalize t.list[i] = p at hp h2
      obtain ⟨k, m, s, ks', l'⟩ := p
      match l', h2 with
      | [a, b], _ => exact ⟨okT_str (okT_child hp (x := a) (by simp [Tr.list])), okT_child hp (x := b) (by simp [Tr.list])⟩
  · cases h
theorem key_addr {w : World} {t : Tr} {x : V5} (h : Rep Any w t x.val) (h2 : t.list.length = 2) : ∃ b o c, x.e = .slice (some ⟨b, o, none⟩) 2 c := by
  obtain ⟨A3, c3, A4, c4, rfl⟩ := rep_x h
  obtain ⟨b, o, y, e, -⟩ := at5 (rep_l h) 0 (by omega)
  subst e
  exact ⟨b, o, c4, by rw [← h2]; rfl⟩
theorem list_e {w : World} {t : Tr} {x : V5} {v : Value} (h : Rep Any w t x.val) (he : x.e = v) : RepL Any w t.list v := by
  obtain ⟨A3, c3, A4, c4, rfl⟩ := rep_x h
  rw [← he]
  exact rep_l h
theorem key_cell {w : World} {t : Tr} {x : V5} {b o c : Nat} (h : Rep Any w t x.val) (h2 : t.list.length = 2) (he : x.e = .slice (some ⟨b, o, none⟩) 2 c) : w.cell? ⟨b, o + 0 * 5 + 2, none⟩ = some (.string (kOf t)) := by
  obtain ⟨b', o', y, e, -, hr, ht⟩ := at5 (list_e h he) 0 (by omega)
  obtain ⟨rfl, rfl⟩ : b = b' ∧ o = o' := by simpa using e
  obtain ⟨u3, u4, ey, -, -⟩ := ht.form
  have ek : kOf t = t.list[0].str := by unfold kOf; rw [List.getD_eq_getElem?_getD, List.getElem?_eq_getElem (by omega)]; rfl
  obtain rfl : y = x5 t.list[0].kind t.list[0].num t.list[0].str u3 u4 := V5.inj ey
  rw [ek]
  exact rangeAt_cell hr (j := 2) rfl
theorem val_at {w : World} {t : Tr} {x : V5} {b o c : Nat} (h : Rep Any w t x.val) (h2 : t.list.length = 2) (he : x.e = .slice (some ⟨b, o, none⟩) 2 c) : ∃ y : V5, w.rangeAt b (o + 1 * 5) (enc5 y) ∧ Rep Any w (vOf t) y.val := by
  obtain ⟨b', o', y, e, -, hr, ht⟩ := at5 (list_e h he) 1 (by omega)
  obtain ⟨rfl, rfl⟩ : b = b' ∧ o = o' := by simpa using e
  have ek : vOf t = t.list[1] := by unfold vOf; rw [List.getD_eq_getElem?_getD, List.getElem?_eq_getElem (by omega)]; rfl
  exact ⟨y, hr, by rw [ek]; exact ht⟩
theorem no147 {b : Bool} {r : Option Tr} {x : Tr} (h : b = true → r = some x) (hc : (b && !(decide (r.getD zeroT = x))) = true) : False := by
  cases b with
  | false => simp at hc
  | true => rw [h rfl] at hc; simp at hc
theorem rowKeysR_ok (t : Tr) (_ : t.Fit) : okT ((rowKeysR t).getD zeroT) = true := getD_ok fun x hx => by
  unfold rowKeysR at hx
  split at hx
  · cases h : rkF t.list [] [] with
    | none => rw [h] at hx; cases hx
    | some o =>
      rw [h] at hx
      have h2 := toldR_ok true o
      have hx2 : toldR true o = some x := hx
      rw [hx2] at h2
      exact h2
  · cases hx
theorem pairsR_ok (t : Tr) (_ : t.Fit) : okT ((pairsR t).getD zeroT) = true := by
  unfold pairsR
  split
  · exact toldR_ok _ _
  · exact okT_zeroT

set_option maxHeartbeats 4000000 in
set_option maxRecDepth 100000 in
theorem walk (code : List UInt8) (v : Value) (w : World) (hp : RepE bCells 1 Any w code v) :
    Calls Try.prog 8 #[v] w fun e w' => e = .returned (.bool true) ∧ Chg No w w' := by
  obtain ⟨A, c, rfl, -⟩ := hp.open
  refine enter Try.func8 rfl rfl rfl ?_
  have F0 := Fr.start w
  refine Cod.seq fun K1 hK1 => ?_
  refine Cod.region ?_
  refine Ops.step (One.val rfl rfl rfl (yld_assign rfl ev_c) ?_)
  refine Ops.nil fun a hS => ?_
  refine hK1 _ _ ?_ a hS
  refine Cod.seq fun K2 hK2 => ?_
  refine Cod.seq fun K3 hK3 => ?_
  refine Cod.region ?_
  refine Ops.step (One.val rfl rfl rfl (yld_move rfl (ev_t rfl)) ?_)
  refine Ops.step (One.val rfl rfl rfl (yld_len sl22 rfl (ev_t rfl)) ?_)
  refine Ops.step (One.val rfl rfl rfl (yld_gtr rfl (ev_t rfl) ev_c) ?_)
  refine Ops.nil fun a hS => ?_
  refine hK3 _ _ ?_ a hS
  refine Cod.cond rfl (fun hc22 => ?_) (fun hc22 => ?_)
  · skip
    refine Cod.seq fun K4 hK4 => ?_
    refine Cod.region ?_
    refine Ops.step (One.val rfl rfl rfl (yld_assign rfl ev_c) ?_)
    refine Ops.nil fun a hS => ?_
    refine hK4 _ _ ?_ a hS
    refine Cod.ret fun a hS => ?_
    try simp only [Exit.then, Exit.inBlock]
    exact ret1 (t := 2) rfl hS rfl ⟨rfl, F0.chg⟩
  · skip
    refine Cod.skip fun a hS => ?_
    refine hK2 _ _ ?_ a hS
    refine Cod.seq fun K5 hK5 => ?_
    refine Cod.region ?_
    refine Ops.step (One.val rfl rfl rfl (yld_move rfl (ev_t rfl)) ?_)
    refine Ops.step (One.call rfl rfl rfl (ent_f rfl (evl1 (ev_t rfl)) (enters en28)) (drawPairs_ct code _ _ (hp.chg F0.chg)) (fun e w1 hw1 => ?_))
    obtain ⟨xa, ta, rfl, C1, hrsa, hda⟩ := hw1
    have hwa := hda.wt
    obtain ⟨Grsa, hGa⟩ : ∃ G, G = New w w1 := ⟨_, rfl⟩
    rw [← hGa] at hrsa
    obtain ⟨A3a, c3a, A4a, c4a, hxa⟩ := rep_x (rps_get hrsa 0 rfl)
    subst hxa
    have F1 := F0.new C1 (rps Grsa [(ta, (x5 ta.kind ta.num ta.str (.slice A3a ta.keys.length c3a) (.slice A4a ta.list.length c4a)).val)]) hrsa (by rw [hGa]; exact New.new)
    refine ⟨_, rfl, ?_⟩
    refine Ops.step (One.alloc F1 zero26 rfl rfl rfl rfl ?_)
    intro b1 w2 hb1 F2
    change Fr _ _ [blk _ _ [_, _, _, _, _], _] _ at F2
    refine Ops.step (One.storeN (vs := [_, _, _, _, _]) F2 0 rfl sz26 rfl rfl rfl (ev_t rfl) (ev_t rfl) rfl rfl (rps_oneC (F2.get 1 rfl) 0 rfl) ?_)
    intro w3 F3
    change Fr _ _ [blk _ _ [_, _, _, _, _], _] _ at F3
    refine Ops.nil fun a hS => ?_
    refine hK5 _ _ ?_ a hS
    refine Cod.seq fun K6 hK6 => ?_
    refine Cod.region ?_
    refine Ops.step (One.val rfl rfl rfl (yld_loadN ag26 rfl (ev_t rfl) (fun _ => F3.range (m := 5) (cs' := [_, _, _, _, _]) 0 rfl rfl) rfl) ?_)
    refine Ops.step (One.call rfl rfl rfl (ent_f rfl (evl1 (ev_t rfl)) (enters en29)) (pairs_ct ta _ _ (rps_get (F3.get 1 rfl) 0 rfl) hda.fit (by omega)) (fun e w4 hw4 => ?_))
    obtain ⟨R1, hR1⟩ : ∃ R, R = pairsR ta := ⟨_, rfl⟩
    have hO1 : okT (R1.getD zeroT) = true := by rw [hR1]; exact pairsR_ok _ hda.fit
    rw [← hR1] at hw4
    obtain ⟨e1, E1, rfl, C4, hE1, hEb1⟩ := hw4
    obtain ⟨A3e1, c3e1, A4e1, c4e1, hxe1⟩ := rep_x hE1.rep
    subst hxe1
    have F4 := F3.new C4 (sep E1 (R1.getD zeroT) (x5 (R1.getD zeroT).kind (R1.getD zeroT).num (R1.getD zeroT).str (.slice A3e1 (R1.getD zeroT).keys.length c3e1) (.slice A4e1 (R1.getD zeroT).list.length c4e1)).val) hE1 hEb1
    refine ⟨_, rfl, ?_⟩
    refine Ops.step (One.val rfl rfl rfl (yld_move rfl (ev_t rfl)) ?_)
    refine Ops.step (One.val rfl rfl rfl (yld_extract rfl (ev_t rfl) rfl) ?_)
    refine Ops.step (One.val rfl rfl rfl (yld_extract rfl (ev_t rfl) rfl) ?_)
    refine Ops.step (One.alloc F4 zero26 rfl rfl rfl rfl ?_)
    intro b2 w5 hb2 F5
    change Fr _ _ [blk _ _ [_, _, _, _, _], _, blk _ _ [_, _, _, _, _], _] _ at F5
    refine Ops.step (One.storeN (vs := [_, _, _, _, _]) F5 0 rfl sz26 rfl rfl rfl (ev_t rfl) (ev_t rfl) rfl rfl (Sep.one (x := (x5 (R1.getD zeroT).kind (R1.getD zeroT).num (R1.getD zeroT).str (.slice A3e1 (R1.getD zeroT).keys.length c3e1) (.slice A4e1 (R1.getD zeroT).list.length c4e1))) (F5.get 1 rfl)) ?_)
    intro w6 F6
    change Fr _ _ [blk _ _ [_, _, _, _, _], _, blk _ _ [_, _, _, _, _], _] _ at F6
    refine Ops.step (One.val rfl rfl rfl (yld_assign rfl (ev_t rfl)) ?_)
    refine Ops.nil fun a hS => ?_
    refine hK6 _ _ ?_ a hS
    refine Cod.seq fun K7 hK7 => ?_
    refine Cod.region ?_
    refine Ops.step (One.val rfl rfl rfl (yld_loadN ag26 rfl (ev_t rfl) (fun _ => F6.range (m := 5) (cs' := [_, _, _, _, _]) 2 rfl rfl) rfl) ?_)
    refine Ops.step (One.call rfl rfl rfl (ent_f rfl (evl1 (ev_t rfl)) (enters en30)) (specPairs_ct ta _ _ (rps_get (F6.get 3 rfl) 0 rfl) hda.fit (by omega)) (fun e w7 hw7 => ?_))
    rw [← hR1] at hw7
    obtain ⟨e2, E2, rfl, C7, hE2, hEb2⟩ := hw7
    obtain ⟨A3e2, c3e2, A4e2, c4e2, hxe2⟩ := rep_x hE2.rep
    subst hxe2
    have F7 := F6.new C7 (sep E2 (R1.getD zeroT) (x5 (R1.getD zeroT).kind (R1.getD zeroT).num (R1.getD zeroT).str (.slice A3e2 (R1.getD zeroT).keys.length c3e2) (.slice A4e2 (R1.getD zeroT).list.length c4e2)).val) hE2 hEb2
    refine ⟨_, rfl, ?_⟩
    refine Ops.step (One.val rfl rfl rfl (yld_move rfl (ev_t rfl)) ?_)
    refine Ops.step (One.val rfl rfl rfl (yld_extract rfl (ev_t rfl) rfl) ?_)
    refine Ops.step (One.val rfl rfl rfl (yld_extract rfl (ev_t rfl) rfl) ?_)
    refine Ops.step (One.alloc F7 zero26 rfl rfl rfl rfl ?_)
    intro b3 w8 hb3 F8
    change Fr _ _ [blk _ _ [_, _, _, _, _], _, blk _ _ [_, _, _, _, _], _, blk _ _ [_, _, _, _, _], _] _ at F8
    refine Ops.step (One.storeN (vs := [_, _, _, _, _]) F8 0 rfl sz26 rfl rfl rfl (ev_t rfl) (ev_t rfl) rfl rfl (Sep.one (x := (x5 (R1.getD zeroT).kind (R1.getD zeroT).num (R1.getD zeroT).str (.slice A3e2 (R1.getD zeroT).keys.length c3e2) (.slice A4e2 (R1.getD zeroT).list.length c4e2))) (F8.get 1 rfl)) ?_)
    intro w9 F9
    change Fr _ _ [blk _ _ [_, _, _, _, _], _, blk _ _ [_, _, _, _, _], _, blk _ _ [_, _, _, _, _], _] _ at F9
    refine Ops.step (One.val rfl rfl rfl (yld_assign rfl (ev_t rfl)) ?_)
    refine Ops.nil fun a hS => ?_
    refine hK7 _ _ ?_ a hS
    refine Cod.seq fun K8 hK8 => ?_
    refine Cod.seq fun K9 hK9 => ?_
    refine Cod.region ?_
    refine Ops.step (One.val rfl rfl rfl (yld_move rfl (ev_t rfl)) ?_)
    refine Ops.step (One.val rfl rfl rfl (yld_move rfl (ev_t rfl)) ?_)
    refine Ops.step (One.val rfl rfl rfl (yld_bneq Try.underlying4 rfl (ev_t rfl) (ev_t rfl)) ?_)
    refine Ops.step (One.val rfl rfl rfl (yld_move rfl (ev_t rfl)) ?_)
    refine Ops.step (One.val (gd_some rfl rfl) rfl rfl (yld_loadN ag26 rfl (ev_t rfl) (fun _ => F9.range (m := 5) (cs' := [_, _, _, _, _]) 2 rfl rfl) rfl) ?_)
    refine Ops.step (One.val (gd_some rfl rfl) rfl rfl (yld_loadN ag26 rfl (ev_t rfl) (fun _ => F9.range (m := 5) (cs' := [_, _, _, _, _]) 0 rfl rfl) rfl) ?_)
    refine Ops.step (One.gcall (R := Chg No w9) (gd_some rfl rfl) rfl rfl (ent_f rfl (evl2 (ev_g rfl) (ev_g rfl)) (enters en17)) (Chg.refl _ _) (fun hg => valSame_ct (R1.getD zeroT) (R1.getD zeroT) _ _ _ (F9.get 3 rfl).rep (F9.get 1 rfl).rep) ?_)
    intro w10 C10
    have F10 := F9.call C10
    refine Ops.step (One.val (gd_some rfl rfl) rfl rfl (yld_not rfl (ev_g rfl)) ?_)
    refine Ops.step (One.val rfl rfl rfl (yld_or rfl (ev_t rfl) (ev_g rfl)) ?_)
    refine Ops.nil fun a hS => ?_
    refine hK9 _ _ ?_ a hS
    refine Cod.cond rfl (fun hc43 => ?_) (fun hc43 => ?_)
    · skip
      simp at hc43
    · skip
      skip
      refine Cod.skip fun a hS => ?_
      refine hK8 _ _ ?_ a hS
      refine Cod.cut (fun i : Unit => [(0, true, .slice A code.length c)]) (fun i w' => Fr No w [] w') (fun K10 hK10 => ?_) ?_
      · skip
        refine Cod.seq fun K11 hK11 => ?_
        refine Cod.region ?_
        refine Ops.step (One.val rfl rfl rfl (yld_move rfl (ev_t rfl)) ?_)
        refine Ops.nil fun a hS => ?_
        refine hK11 _ _ ?_ a hS
        refine Cod.cond rfl (fun hc44 => ?_) (fun hc44 => ?_)
        · skip
          have hsome : R1.isSome = true := hc44
          refine Cod.seq fun K12 hK12 => ?_
          refine Cod.region ?_
          refine Ops.step (One.val rfl rfl rfl (yld_loadN ag26 rfl (ev_t rfl) (fun _ => F10.range (m := 5) (cs' := [_, _, _, _, _]) 2 rfl rfl) rfl) ?_)
          refine Ops.step (One.call rfl rfl rfl (ent_f rfl (evl1 (ev_t rfl)) (enters en32)) (rowKeys_ct (R1.getD zeroT) _ _ (F10.get 3 rfl).rep (okT_fit hO1) (okT_w hO1)) (fun e w11 hw11 => ?_))
          obtain ⟨R2, hR2⟩ : ∃ R, R = rowKeysR (R1.getD zeroT) := ⟨_, rfl⟩
          have hO2 : okT (R2.getD zeroT) = true := by rw [hR2]; exact rowKeysR_ok _ (okT_fit hO1)
          rw [← hR2] at hw11
          obtain ⟨e3, E3, rfl, C11, hE3, hEb3⟩ := hw11
          obtain ⟨A3e3, c3e3, A4e3, c4e3, hxe3⟩ := rep_x hE3.rep
          subst hxe3
          have F11 := F10.new C11 (sep E3 (R2.getD zeroT) (x5 (R2.getD zeroT).kind (R2.getD zeroT).num (R2.getD zeroT).str (.slice A3e3 (R2.getD zeroT).keys.length c3e3) (.slice A4e3 (R2.getD zeroT).list.length c4e3)).val) hE3 hEb3
          refine ⟨_, rfl, ?_⟩
          refine Ops.step (One.val rfl rfl rfl (yld_move rfl (ev_t rfl)) ?_)
          refine Ops.step (One.val rfl rfl rfl (yld_extract rfl (ev_t rfl) rfl) ?_)
          refine Ops.step (One.val rfl rfl rfl (yld_extract rfl (ev_t rfl) rfl) ?_)
          refine Ops.step (One.alloc F11 zero26 rfl rfl rfl rfl ?_)
          intro b4 w12 hb4 F12
          change Fr _ _ [blk _ _ [_, _, _, _, _], _, blk _ _ [_, _, _, _, _], _, blk _ _ [_, _, _, _, _], _, blk _ _ [_, _, _, _, _], _] _ at F12
          refine Ops.step (One.storeN (vs := [_, _, _, _, _]) F12 0 rfl sz26 rfl rfl rfl (ev_t rfl) (ev_t rfl) rfl rfl (Sep.one (x := (x5 (R2.getD zeroT).kind (R2.getD zeroT).num (R2.getD zeroT).str (.slice A3e3 (R2.getD zeroT).keys.length c3e3) (.slice A4e3 (R2.getD zeroT).list.length c4e3))) (F12.get 1 rfl)) ?_)
          intro w13 F13
          change Fr _ _ [blk _ _ [_, _, _, _, _], _, blk _ _ [_, _, _, _, _], _, blk _ _ [_, _, _, _, _], _, blk _ _ [_, _, _, _, _], _] _ at F13
          refine Ops.step (One.val rfl rfl rfl (yld_assign rfl (ev_t rfl)) ?_)
          refine Ops.nil fun a hS => ?_
          refine hK12 _ _ ?_ a hS
          refine Cod.seq fun K13 hK13 => ?_
          refine Cod.region ?_
          refine Ops.step (One.val rfl rfl rfl (yld_move rfl (ev_t rfl)) ?_)
          refine Ops.step (One.val rfl rfl rfl (yld_not rfl (ev_t rfl)) ?_)
          refine Ops.step (One.val rfl rfl rfl (yld_move rfl (ev_t rfl)) ?_)
          refine Ops.step (One.val (gd_some rfl rfl) rfl rfl (yld_loadN ag26 rfl (ev_t rfl) (fun _ => F13.range (m := 5) (cs' := [_, _, _, _, _]) 0 rfl rfl) rfl) ?_)
          refine Ops.step (One.val (gd_some rfl rfl) rfl rfl (yld_loadN ag26 rfl (ev_t rfl) (fun _ => F13.range (m := 5) (cs' := [_, _, _, _, _]) 6 rfl rfl) rfl) ?_)
          refine Ops.step (One.gcall (R := Chg No w13) (gd_some rfl rfl) rfl rfl (ent_f rfl (evl2 (ev_g rfl) (ev_g rfl)) (enters en17)) (Chg.refl _ _) (fun hg => valSame_ct (R2.getD zeroT) ta _ _ _ (F13.get 1 rfl).rep (rps_get (F13.get 7 rfl) 0 rfl)) ?_)
          intro w14 C14
          have F14 := F13.call C14
          refine Ops.step (One.val (gd_some rfl rfl) rfl rfl (yld_not rfl (ev_g rfl)) ?_)
          refine Ops.step (One.val rfl rfl rfl (yld_or rfl (ev_t rfl) (ev_g rfl)) ?_)
          refine Ops.nil fun a hS => ?_
          refine hK13 _ _ ?_ a hS
          refine Cod.cond rfl (fun hc57 => ?_) (fun hc57 => ?_)
          · skip
            exact (no57 (pairs_back hR1 hsome hR2) hc57).elim
          · skip
            skip
            refine Cod.skip fun a hS => ?_
            exact hK10 () _ a (hS.sub ⟨rfl, trivial⟩) F14.none
        · skip
          skip
          refine Cod.skip fun a hS => ?_
          exact hK10 () _ a (hS.sub ⟨rfl, trivial⟩) F10.none
      · skip
        intro i w15 hW
        have F15 := hW
        refine Cod.seq fun K14 hK14 => ?_
        refine Cod.region ?_
        refine Ops.step (One.val rfl rfl rfl (yld_move rfl (ev_t rfl)) ?_)
        refine Ops.step (One.call rfl rfl rfl (ent_f rfl (evl1 (ev_t rfl)) (enters en37)) (drawKeys_ct code _ _ (hp.chg F15.chg)) (fun e w16 hw16 => ?_))
        obtain ⟨xp, tp, rfl, C16, hrsp, hdp⟩ := hw16
        have hwp := hdp.wt
        obtain ⟨Grsp, hGp⟩ : ∃ G, G = New w15 w16 := ⟨_, rfl⟩
        rw [← hGp] at hrsp
        obtain ⟨A3p, c3p, A4p, c4p, hxp⟩ := rep_x (rps_get hrsp 0 rfl)
        subst hxp
        have F16 := F15.new C16 (rps Grsp [(tp, (x5 tp.kind tp.num tp.str (.slice A3p tp.keys.length c3p) (.slice A4p tp.list.length c4p)).val)]) hrsp (by rw [hGp]; exact New.new)
        refine ⟨_, rfl, ?_⟩
        refine Ops.step (One.alloc F16 zero26 rfl rfl rfl rfl ?_)
        intro b5 w17 hb5 F17
        change Fr _ _ [blk _ _ [_, _, _, _, _], _] _ at F17
        refine Ops.step (One.storeN (vs := [_, _, _, _, _]) F17 0 rfl sz26 rfl rfl rfl (ev_t rfl) (ev_t rfl) rfl rfl (rps_oneC (F17.get 1 rfl) 0 rfl) ?_)
        intro w18 F18
        change Fr _ _ [blk _ _ [_, _, _, _, _], _] _ at F18
        refine Ops.nil fun a hS => ?_
        refine hK14 _ _ ?_ a hS
        refine Cod.seq fun K15 hK15 => ?_
        refine Cod.region ?_
        refine Ops.step (One.val rfl rfl rfl (yld_loadN ag26 rfl (ev_t rfl) (fun _ => F18.range (m := 5) (cs' := [_, _, _, _, _]) 0 rfl rfl) rfl) ?_)
        refine Ops.step (One.call rfl rfl rfl (ent_f rfl (evl1 (ev_t rfl)) (enters en32)) (rowKeys_ct tp _ _ (rps_get (F18.get 1 rfl) 0 rfl) hdp.fit (by omega)) (fun e w19 hw19 => ?_))
        obtain ⟨R3, hR3⟩ : ∃ R, R = rowKeysR tp := ⟨_, rfl⟩
        have hO3 : okT (R3.getD zeroT) = true := by rw [hR3]; exact rowKeysR_ok _ hdp.fit
        rw [← hR3] at hw19
        obtain ⟨e4, E4, rfl, C19, hE4, hEb4⟩ := hw19
        obtain ⟨A3e4, c3e4, A4e4, c4e4, hxe4⟩ := rep_x hE4.rep
        subst hxe4
        have F19 := F18.new C19 (sep E4 (R3.getD zeroT) (x5 (R3.getD zeroT).kind (R3.getD zeroT).num (R3.getD zeroT).str (.slice A3e4 (R3.getD zeroT).keys.length c3e4) (.slice A4e4 (R3.getD zeroT).list.length c4e4)).val) hE4 hEb4
        refine ⟨_, rfl, ?_⟩
        refine Ops.step (One.val rfl rfl rfl (yld_move rfl (ev_t rfl)) ?_)
        refine Ops.step (One.val rfl rfl rfl (yld_extract rfl (ev_t rfl) rfl) ?_)
        refine Ops.step (One.val rfl rfl rfl (yld_extract rfl (ev_t rfl) rfl) ?_)
        refine Ops.step (One.alloc F19 zero26 rfl rfl rfl rfl ?_)
        intro b6 w20 hb6 F20
        change Fr _ _ [blk _ _ [_, _, _, _, _], _, blk _ _ [_, _, _, _, _], _] _ at F20
        refine Ops.step (One.storeN (vs := [_, _, _, _, _]) F20 0 rfl sz26 rfl rfl rfl (ev_t rfl) (ev_t rfl) rfl rfl (Sep.one (x := (x5 (R3.getD zeroT).kind (R3.getD zeroT).num (R3.getD zeroT).str (.slice A3e4 (R3.getD zeroT).keys.length c3e4) (.slice A4e4 (R3.getD zeroT).list.length c4e4))) (F20.get 1 rfl)) ?_)
        intro w21 F21
        change Fr _ _ [blk _ _ [_, _, _, _, _], _, blk _ _ [_, _, _, _, _], _] _ at F21
        refine Ops.step (One.val rfl rfl rfl (yld_assign rfl (ev_t rfl)) ?_)
        refine Ops.nil fun a hS => ?_
        refine hK15 _ _ ?_ a hS
        refine Cod.seq fun K16 hK16 => ?_
        refine Cod.region ?_
        refine Ops.step (One.val rfl rfl rfl (yld_loadN ag26 rfl (ev_t rfl) (fun _ => F21.range (m := 5) (cs' := [_, _, _, _, _]) 2 rfl rfl) rfl) ?_)
        refine Ops.step (One.call rfl rfl rfl (ent_f rfl (evl1 (ev_t rfl)) (enters en38)) (specRowKeys_ct tp _ _ (rps_get (F21.get 3 rfl) 0 rfl) hdp.fit (by omega)) (fun e w22 hw22 => ?_))
        rw [← hR3] at hw22
        obtain ⟨e5, E5, rfl, C22, hE5, hEb5⟩ := hw22
        obtain ⟨A3e5, c3e5, A4e5, c4e5, hxe5⟩ := rep_x hE5.rep
        subst hxe5
        have F22 := F21.new C22 (sep E5 (R3.getD zeroT) (x5 (R3.getD zeroT).kind (R3.getD zeroT).num (R3.getD zeroT).str (.slice A3e5 (R3.getD zeroT).keys.length c3e5) (.slice A4e5 (R3.getD zeroT).list.length c4e5)).val) hE5 hEb5
        refine ⟨_, rfl, ?_⟩
        refine Ops.step (One.val rfl rfl rfl (yld_move rfl (ev_t rfl)) ?_)
        refine Ops.step (One.val rfl rfl rfl (yld_extract rfl (ev_t rfl) rfl) ?_)
        refine Ops.step (One.val rfl rfl rfl (yld_extract rfl (ev_t rfl) rfl) ?_)
        refine Ops.step (One.alloc F22 zero26 rfl rfl rfl rfl ?_)
        intro b7 w23 hb7 F23
        change Fr _ _ [blk _ _ [_, _, _, _, _], _, blk _ _ [_, _, _, _, _], _, blk _ _ [_, _, _, _, _], _] _ at F23
        refine Ops.step (One.storeN (vs := [_, _, _, _, _]) F23 0 rfl sz26 rfl rfl rfl (ev_t rfl) (ev_t rfl) rfl rfl (Sep.one (x := (x5 (R3.getD zeroT).kind (R3.getD zeroT).num (R3.getD zeroT).str (.slice A3e5 (R3.getD zeroT).keys.length c3e5) (.slice A4e5 (R3.getD zeroT).list.length c4e5))) (F23.get 1 rfl)) ?_)
        intro w24 F24
        change Fr _ _ [blk _ _ [_, _, _, _, _], _, blk _ _ [_, _, _, _, _], _, blk _ _ [_, _, _, _, _], _] _ at F24
        refine Ops.step (One.val rfl rfl rfl (yld_assign rfl (ev_t rfl)) ?_)
        refine Ops.nil fun a hS => ?_
        refine hK16 _ _ ?_ a hS
        refine Cod.seq fun K17 hK17 => ?_
        refine Cod.seq fun K18 hK18 => ?_
        refine Cod.region ?_
        refine Ops.step (One.val rfl rfl rfl (yld_move rfl (ev_t rfl)) ?_)
        refine Ops.step (One.val rfl rfl rfl (yld_move rfl (ev_t rfl)) ?_)
        refine Ops.step (One.val rfl rfl rfl (yld_bneq Try.underlying4 rfl (ev_t rfl) (ev_t rfl)) ?_)
        refine Ops.step (One.val rfl rfl rfl (yld_move rfl (ev_t rfl)) ?_)
        refine Ops.step (One.val (gd_some rfl rfl) rfl rfl (yld_loadN ag26 rfl (ev_t rfl) (fun _ => F24.range (m := 5) (cs' := [_, _, _, _, _]) 2 rfl rfl) rfl) ?_)
        refine Ops.step (One.val (gd_some rfl rfl) rfl rfl (yld_loadN ag26 rfl (ev_t rfl) (fun _ => F24.range (m := 5) (cs' := [_, _, _, _, _]) 0 rfl rfl) rfl) ?_)
        refine Ops.step (One.gcall (R := Chg No w24) (gd_some rfl rfl) rfl rfl (ent_f rfl (evl2 (ev_g rfl) (ev_g rfl)) (enters en17)) (Chg.refl _ _) (fun hg => valSame_ct (R3.getD zeroT) (R3.getD zeroT) _ _ _ (F24.get 3 rfl).rep (F24.get 1 rfl).rep) ?_)
        intro w25 C25
        have F25 := F24.call C25
        refine Ops.step (One.val (gd_some rfl rfl) rfl rfl (yld_not rfl (ev_g rfl)) ?_)
        refine Ops.step (One.val rfl rfl rfl (yld_or rfl (ev_t rfl) (ev_g rfl)) ?_)
        refine Ops.nil fun a hS => ?_
        refine hK18 _ _ ?_ a hS
        refine Cod.cond rfl (fun hc78 => ?_) (fun hc78 => ?_)
        · skip
          simp at hc78
        · skip
          obtain ⟨xsP, hxlP, F25⟩ := F25.toRpsE 5 rfl
          refine Cod.skip fun a hS => ?_
          refine hK17 _ _ ?_ a hS
          refine Cod.seq fun K19 hK19 => ?_
          refine Cod.seq fun K20 hK20 => ?_
          refine Cod.region ?_
          refine Ops.step (One.val rfl rfl rfl (yld_assign rfl ev_c) ?_)
          refine Ops.nil fun a hS => ?_
          refine hK20 _ _ ?_ a hS
          refine Cod.block ?_
          have F26 := F25.pull 5 rfl
          have F27 := F26.pull 5 rfl
          have F28 := F27.pull 5 rfl
          have F29 := F28.pull 5 rfl
          have F30 := F29.erase 4
          have F31 := F30.erase 4
          refine Cod.loop (fun i : Nat => [(10, true, .pointer (some ⟨b5, 0, none⟩)), (11, true, .pointer (some ⟨b6, 0, none⟩)), (12, true, .bool R3.isSome), (15, true, .int .i64 (i : Int))]) (fun i w' => i ≤ tp.list.length ∧ Fr No w [blk b6 26 (enc5 (x5 (R3.getD zeroT).kind (R3.getD zeroT).num (R3.getD zeroT).str (.slice A3e4 (R3.getD zeroT).keys.length c3e4) (.slice A4e4 (R3.getD zeroT).list.length c4e4))), sep E4 (R3.getD zeroT) (x5 (R3.getD zeroT).kind (R3.getD zeroT).num (R3.getD zeroT).str (.slice A3e4 (R3.getD zeroT).keys.length c3e4) (.slice A4e4 (R3.getD zeroT).list.length c4e4)).val, blk b5 26 (enc5 (x5 tp.kind tp.num tp.str (.slice A3p tp.keys.length c3p) (.slice A4p tp.list.length c4p))), rpsE Grsp [(tp, (x5 tp.kind tp.num tp.str (.slice A3p tp.keys.length c3p) (.slice A4p tp.list.length c4p)).val)] xsP] w') (fun i => tp.list.length - i) 0 ⟨rfl, rfl, rfl, rfl, trivial⟩ ⟨Nat.zero_le _, F31⟩ ?_
          intro i w26 hW K21 hK21
          obtain ⟨ix, hix⟩ : ∃ ix, ix = i := ⟨i, rfl⟩
          subst hix
          obtain ⟨hi0, F32⟩ := hW
          refine Cod.seq fun K22 hK22 => ?_
          refine Cod.seq fun K23 hK23 => ?_
          refine Cod.region ?_
          refine Ops.step (One.val rfl rfl rfl (yld_move rfl (ev_t rfl)) ?_)
          refine Ops.step (One.val rfl rfl rfl (yld_field fi26_4 rfl (ev_t rfl)) ?_)
          refine Ops.step (One.val rfl rfl rfl (yld_load1 on24 rfl (ev_t rfl) (fun _ => F32.cell 2 rfl rfl)) ?_)
          refine Ops.step (One.val rfl rfl rfl (yld_len sl24 rfl (ev_t rfl)) ?_)
          refine Ops.step (One.val rfl rfl rfl (yld_lss rfl (ev_t rfl) (ev_t rfl)) ?_)
          refine Ops.step (One.val rfl rfl rfl (yld_move rfl (ev_t rfl)) ?_)
          refine Ops.step (One.val (gd_some rfl rfl) rfl rfl (yld_move rfl (ev_t rfl)) ?_)
          refine Ops.step (One.val rfl rfl rfl (yld_and rfl (ev_t rfl) (ev_g rfl)) ?_)
          refine Ops.nil fun a hS => ?_
          refine hK23 _ _ ?_ a hS
          refine Cod.cond rfl (fun hc86 => ?_) (fun hc86 => ?_)
          · skip
            have hh : ix < tp.list.length ∧ R3.isSome = true := by
              have h := hc86
              simp at h
              exact h
            obtain ⟨hi, hsome⟩ := hh
            obtain ⟨hok, hpair⟩ := pair_facts hR3 hsome
            have hl60 := okT_len60 hok
            have hx : ix < xsP.length := by omega
            have hks := okS_le (hpair ix hi).2.1
            obtain ⟨yb, yo, hya, -⟩ := rpsE_at (F32.get 3 rfl) ix hx
            obtain ⟨kb, ko, kc, hke⟩ := key_addr (rpsE_rep (F32.get 3 rfl) ix hi hx) (hpair ix hi).1
            obtain ⟨R4, hR4⟩ : ∃ R, R = partGetR (R3.getD zeroT) (kOf (tp.list[ix]'hi)) := ⟨_, rfl⟩
            have hO4 : okT (R4.getD zeroT) = true := by rw [hR4]; exact partGetR_ok _ _
            refine Cod.skip fun a hS => ?_
            refine hK22 _ _ ?_ a hS
            refine Cod.seq fun K24 hK24 => ?_
            refine Cod.block ?_
            refine Cod.cut (fun i : Nat × V5 × (Nat → Prop) => [(10, true, .pointer (some ⟨b5, 0, none⟩)), (11, true, .pointer (some ⟨b6, 0, none⟩)), (12, true, .bool R3.isSome), (15, true, .int .i64 (ix : Int)), (16, true, .pointer (some ⟨i.1, 0, none⟩)), (17, true, .bool R4.isSome)]) (fun i w' => Fr No w [blk i.1 26 (enc5 i.2.1), sep i.2.2 (R4.getD zeroT) i.2.1.val, blk b6 26 (enc5 (x5 (R3.getD zeroT).kind (R3.getD zeroT).num (R3.getD zeroT).str (.slice A3e4 (R3.getD zeroT).keys.length c3e4) (.slice A4e4 (R3.getD zeroT).list.length c4e4))), sep E4 (R3.getD zeroT) (x5 (R3.getD zeroT).kind (R3.getD zeroT).num (R3.getD zeroT).str (.slice A3e4 (R3.getD zeroT).keys.length c3e4) (.slice A4e4 (R3.getD zeroT).list.length c4e4)).val, blk b5 26 (enc5 (x5 tp.kind tp.num tp.str (.slice A3p tp.keys.length c3p) (.slice A4p tp.list.length c4p))), rpsE Grsp [(tp, (x5 tp.kind tp.num tp.str (.slice A3p tp.keys.length c3p) (.slice A4p tp.list.length c4p)).val)] xsP] w') (fun K25 hK25 => ?_) ?_
            · skip
              have F33 := F32.drew
              refine Cod.draw (C_of F33) (by kernel_rfl) ?_
              refine Hops.take 0 rfl (by kernel_rfl) (fun _ _ _ h => h) rfl rfl rfl F33 (fun w F => (yld_loadN ag26 rfl (ev_t rfl) (fun _ => F.range (m := 5) (cs' := [_, _, _, _, _]) 0 rfl rfl) rfl)) ?_
              refine Hops.take 1 rfl (by kernel_rfl) (fun _ _ _ h => h) rfl rfl rfl F33 (fun w F => (yld_field fi26_4 rfl (ev_t rfl))) ?_
              refine Hops.take 2 rfl (by kernel_rfl) (fun _ _ _ h => h) rfl rfl rfl F33 (fun w F => (yld_load1 on24 rfl (ev_t rfl) (fun _ => F.cell 2 rfl rfl))) ?_
              refine Hops.take 3 rfl (by kernel_rfl) (fun _ _ _ h => h) rfl rfl rfl F33 (fun w F => (yld_move rfl (ev_t rfl))) ?_
              refine Hops.take 4 rfl (by kernel_rfl) (fun _ _ _ h => h) rfl rfl rfl F33 (fun w F => (yld_indexG (b := yb) (q := yo) (i := ix) sl24 rfl (ev_t rfl) (ev_t rfl) (fun _ => hya) (fun _ => hi))) ?_
              refine Hops.take 5 rfl (by kernel_rfl) (fun _ _ _ h => h) rfl rfl rfl F33 (fun w F => (yld_field fi26_4 rfl (ev_t rfl))) ?_
              refine Hops.take 6 rfl (by kernel_rfl) (fun _ _ _ h => h) rfl rfl rfl F33 (fun w F => (yld_load1 (v := .slice (some ⟨kb, ko, none⟩) 2 kc) on24 rfl (ev_t rfl) (fun _ => rangeAt_cell (rpsE_rng (F.get 3 rfl) hya ix hx) (j := 4) (by rw [← hke]; rfl)))) ?_
              refine Hops.take 7 rfl (by kernel_rfl) (fun _ _ _ h => h) rfl rfl rfl F33 (fun w F => (yld_indexN (i := 0) sl24 rfl (ev_t rfl) ev_c (fun _ => by omega))) ?_
              refine Hops.take 8 rfl (by kernel_rfl) (fun _ _ _ h => h) rfl rfl rfl F33 (fun w F => (yld_field fi26_2 rfl (ev_t rfl))) ?_
              refine Hops.take 9 rfl (by kernel_rfl) (fun _ _ _ h => h) rfl rfl rfl F33 (fun w F => (yld_load1 on9 rfl (ev_t rfl) (fun _ => key_cell (rpsE_rep (F.get 3 rfl) ix hi hx) (hpair ix hi).1 hke))) ?_
              refine Hops.two 10 14 rfl rfl (by kernel_rfl) ?_ ?_
              · skip
                refine (One.call rfl rfl rfl (ent_f rfl (evl2 (ev_t rfl) (ev_t rfl)) (enters en27)) (partGet_ct (R3.getD zeroT) (kOf (tp.list[ix]'hi)) (by omega) _ _ (F33.get 1 rfl).rep (okT_fit hO3) (okT_w hO3)) (fun e w27 hw27 => ?_))
                rw [← hR4] at hw27
                obtain ⟨e6, E6, rfl, C27, hE6, hEb6⟩ := hw27
                obtain ⟨A3e6, c3e6, A4e6, c4e6, hxe6⟩ := rep_x hE6.rep
                subst hxe6
                have F34 := F33.new C27 (sep E6 (R4.getD zeroT) (x5 (R4.getD zeroT).kind (R4.getD zeroT).num (R4.getD zeroT).str (.slice A3e6 (R4.getD zeroT).keys.length c3e6) (.slice A4e6 (R4.getD zeroT).list.length c4e6)).val) hE6 hEb6
                refine ⟨_, rfl, ?_⟩
                refine ⟨F34.drop1, ?_⟩
                refine Hops.take 11 rfl (by kernel_rfl) (fun _ _ _ h => h) rfl rfl rfl F34.drop1 (fun w F => (yld_move rfl (ev_t rfl))) ?_
                refine Hops.take 12 rfl (by kernel_rfl) (fun _ _ _ h => h) rfl rfl rfl F34.drop1 (fun w F => (yld_extract rfl (ev_t rfl) rfl)) ?_
                refine Hops.take 13 rfl (by kernel_rfl) (fun _ _ _ h => h) rfl rfl rfl F34.drop1 (fun w F => (yld_extract rfl (ev_t rfl) rfl)) ?_
                refine Hops.one 14 rfl (by kernel_rfl) (One.alloc F34 zero26 rfl rfl rfl rfl ?_)
                intro b8 w28 hb8 F35
                refine ⟨(F35.erase 1).drop1, ?_⟩
                change Fr _ _ [blk _ _ [_, _, _, _, _], _, blk _ _ [_, _, _, _, _], _, blk _ _ [_, _, _, _, _], _] _ at F35
                refine Hops.one 15 rfl (by kernel_rfl) (One.storeN (vs := [_, _, _, _, _]) F35 0 rfl sz26 rfl rfl rfl (ev_t rfl) (ev_t rfl) rfl rfl (Sep.one (x := (x5 (R4.getD zeroT).kind (R4.getD zeroT).num (R4.getD zeroT).str (.slice A3e6 (R4.getD zeroT).keys.length c3e6) (.slice A4e6 (R4.getD zeroT).list.length c4e6))) (F35.get 1 rfl)) ?_)
                intro w29 F36
                refine ⟨(F36.erase 1).drop1, ?_⟩
                change Fr _ _ [blk _ _ [_, _, _, _, _], _, blk _ _ [_, _, _, _, _], _, blk _ _ [_, _, _, _, _], _] _ at F36
                refine Hops.one 16 rfl (by kernel_rfl) (One.val rfl rfl rfl (yld_assign rfl (ev_t rfl)) ?_)
                refine ⟨(F36.erase 1).drop1, ?_⟩
                refine Hops.nil (by kernel_rfl) fun a hS => ?_
                have F37 := F36.pull 5 rfl
                have F38 := F37.pull 5 rfl
                have F39 := F38.pull 5 rfl
                have F40 := F39.pull 5 rfl
                have F41 := F40.pull 5 rfl
                have F42 := F41.pull 5 rfl
                exact hK25 (b8, (x5 (R4.getD zeroT).kind (R4.getD zeroT).num (R4.getD zeroT).str (.slice A3e6 (R4.getD zeroT).keys.length c3e6) (.slice A4e6 (R4.getD zeroT).list.length c4e6)), E6) _ a (hS.sub ⟨rfl, rfl, rfl, rfl, rfl, rfl, trivial⟩) F42
              · skip
                refine (One.alloc F33 zero26 rfl rfl rfl rfl ?_)
                intro b9 w30 hb9 F43
                refine ⟨F43.drop1, ?_⟩
                change Fr _ _ [blk _ _ [_, _, _, _, _], blk _ _ [_, _, _, _, _], _, blk _ _ [_, _, _, _, _], _] _ at F43
                refine Hops.one 10 rfl (by kernel_rfl) (One.call rfl rfl rfl (ent_f rfl (evl2 (ev_t rfl) (ev_t rfl)) (enters en27)) (partGet_ct (R3.getD zeroT) (kOf (tp.list[ix]'hi)) (by omega) _ _ (F43.get 2 rfl).rep (okT_fit hO3) (okT_w hO3)) (fun e w31 hw31 => ?_))
                rw [← hR4] at hw31
                obtain ⟨e7, E7, rfl, C31, hE7, hEb7⟩ := hw31
                obtain ⟨A3e7, c3e7, A4e7, c4e7, hxe7⟩ := rep_x hE7.rep
                subst hxe7
                have F44 := F43.new C31 (sep E7 (R4.getD zeroT) (x5 (R4.getD zeroT).kind (R4.getD zeroT).num (R4.getD zeroT).str (.slice A3e7 (R4.getD zeroT).keys.length c3e7) (.slice A4e7 (R4.getD zeroT).list.length c4e7)).val) hE7 hEb7
                refine ⟨_, rfl, ?_⟩
                refine ⟨(F44.erase 1).drop1, ?_⟩
                refine Hops.take 11 rfl (by kernel_rfl) (fun _ _ _ h => h) rfl rfl rfl (F44.erase 1).drop1 (fun w F => (yld_move rfl (ev_t rfl))) ?_
                refine Hops.take 12 rfl (by kernel_rfl) (fun _ _ _ h => h) rfl rfl rfl (F44.erase 1).drop1 (fun w F => (yld_extract rfl (ev_t rfl) rfl)) ?_
                refine Hops.take 13 rfl (by kernel_rfl) (fun _ _ _ h => h) rfl rfl rfl (F44.erase 1).drop1 (fun w F => (yld_extract rfl (ev_t rfl) rfl)) ?_
                refine Hops.one 15 rfl (by kernel_rfl) (One.storeN (vs := [_, _, _, _, _]) F44 1 rfl sz26 rfl rfl rfl (ev_t rfl) (ev_t rfl) rfl rfl (Sep.one (x := (x5 (R4.getD zeroT).kind (R4.getD zeroT).num (R4.getD zeroT).str (.slice A3e7 (R4.getD zeroT).keys.length c3e7) (.slice A4e7 (R4.getD zeroT).list.length c4e7))) (F44.get 0 rfl)) ?_)
                intro w32 F45
                refine ⟨(F45.erase 1).drop1, ?_⟩
                change Fr _ _ [_, blk _ _ [_, _, _, _, _], blk _ _ [_, _, _, _, _], _, blk _ _ [_, _, _, _, _], _] _ at F45
                refine Hops.one 16 rfl (by kernel_rfl) (One.val rfl rfl rfl (yld_assign rfl (ev_t rfl)) ?_)
                refine ⟨(F45.erase 1).drop1, ?_⟩
                refine Hops.nil (by kernel_rfl) fun a hS => ?_
                have F46 := F45.pull 5 rfl
                have F47 := F46.pull 5 rfl
                have F48 := F47.pull 5 rfl
                have F49 := F48.pull 5 rfl
                have F50 := F49.pull 4 rfl
                have F51 := F50.pull 5 rfl
                exact hK25 (b9, (x5 (R4.getD zeroT).kind (R4.getD zeroT).num (R4.getD zeroT).str (.slice A3e7 (R4.getD zeroT).keys.length c3e7) (.slice A4e7 (R4.getD zeroT).list.length c4e7)), E7) _ a (hS.sub ⟨rfl, rfl, rfl, rfl, rfl, rfl, trivial⟩) F51
            · skip
              intro i w33 hW
              obtain ⟨bn, xn, Gn⟩ := i
              have F52 := hW
              dsimp only at *
              refine Cod.seq fun K26 hK26 => ?_
              refine Cod.region ?_
              refine Ops.step (One.val rfl rfl rfl (yld_assign rfl ev_c) ?_)
              refine Ops.nil fun a hS => ?_
              refine hK26 _ _ ?_ a hS
              refine Cod.seq fun K27 hK27 => ?_
              refine Cod.seq fun K28 hK28 => ?_
              refine Cod.region ?_
              refine Ops.step (One.val rfl rfl rfl (yld_move rfl (ev_t rfl)) ?_)
              refine Ops.step (One.val rfl rfl rfl (yld_add rfl (ev_t rfl) ev_c (fun _ => by omega)) ?_)
              refine Ops.step (One.val rfl rfl rfl (yld_assign rfl (ev_t rfl)) ?_)
              refine Ops.nil fun a hS => ?_
              refine hK28 _ _ ?_ a hS
              refine Cod.block ?_
              refine Cod.loop (fun i : Nat × Bool => [(10, true, .pointer (some ⟨b5, 0, none⟩)), (11, true, .pointer (some ⟨b6, 0, none⟩)), (12, true, .bool R3.isSome), (15, true, .int .i64 (ix : Int)), (16, true, .pointer (some ⟨bn, 0, none⟩)), (17, true, .bool R4.isSome), (18, true, .bool i.2), (19, true, .int .i64 (i.1 : Int))]) (fun i w' => (i.1 ≤ tp.list.length ∧ ix < i.1 ∧ (i.2 = true → ∀ k (hk : k < tp.list.length), ix < k → k < i.1 → kOf tp.list[k] ≠ (kOf (tp.list[ix]'hi)))) ∧ Fr No w [blk bn 26 (enc5 xn), sep Gn (R4.getD zeroT) xn.val, blk b6 26 (enc5 (x5 (R3.getD zeroT).kind (R3.getD zeroT).num (R3.getD zeroT).str (.slice A3e4 (R3.getD zeroT).keys.length c3e4) (.slice A4e4 (R3.getD zeroT).list.length c4e4))), sep E4 (R3.getD zeroT) (x5 (R3.getD zeroT).kind (R3.getD zeroT).num (R3.getD zeroT).str (.slice A3e4 (R3.getD zeroT).keys.length c3e4) (.slice A4e4 (R3.getD zeroT).list.length c4e4)).val, blk b5 26 (enc5 (x5 tp.kind tp.num tp.str (.slice A3p tp.keys.length c3p) (.slice A4p tp.list.length c4p))), rpsE Grsp [(tp, (x5 tp.kind tp.num tp.str (.slice A3p tp.keys.length c3p) (.slice A4p tp.list.length c4p)).val)] xsP] w') (fun i => tp.list.length - i.1) (ix + 1, true) ⟨rfl, rfl, rfl, rfl, rfl, rfl, rfl, rfl, trivial⟩ ⟨⟨by omega, by omega, fun _ k hk h1 h2 => by omega⟩, F52⟩ ?_
              intro i w34 hW K29 hK29
              obtain ⟨jx, lb⟩ := i
              obtain ⟨⟨hj0, hij, hall⟩, F53⟩ := hW
              dsimp only at *
              refine Cod.seq fun K30 hK30 => ?_
              refine Cod.seq fun K31 hK31 => ?_
              refine Cod.region ?_
              refine Ops.step (One.val rfl rfl rfl (yld_move rfl (ev_t rfl)) ?_)
              refine Ops.step (One.val rfl rfl rfl (yld_field fi26_4 rfl (ev_t rfl)) ?_)
              refine Ops.step (One.val rfl rfl rfl (yld_load1 on24 rfl (ev_t rfl) (fun _ => F53.cell 4 rfl rfl)) ?_)
              refine Ops.step (One.val rfl rfl rfl (yld_len sl24 rfl (ev_t rfl)) ?_)
              refine Ops.step (One.val rfl rfl rfl (yld_lss rfl (ev_t rfl) (ev_t rfl)) ?_)
              refine Ops.nil fun a hS => ?_
              refine hK31 _ _ ?_ a hS
              refine Cod.cond rfl (fun hc109 => ?_) (fun hc109 => ?_)
              · skip
                have hj : jx < tp.list.length := by simpa using hc109
                have hxj : jx < xsP.length := by omega
                obtain ⟨kb2, ko2, kc2, hke2⟩ := key_addr (rpsE_rep (F53.get 5 rfl) jx hj hxj) (hpair jx hj).1
                refine Cod.skip fun a hS => ?_
                refine hK30 _ _ ?_ a hS
                refine Cod.seq fun K32 hK32 => ?_
                refine Cod.block ?_
                have F54 := F53.drew
                refine Cod.draw (C_of F54) (by kernel_rfl) ?_
                refine Hops.take 0 rfl (by kernel_rfl) (fun _ _ _ h => h) rfl rfl rfl F54 (fun w F => (yld_move rfl (ev_t rfl))) ?_
                refine Hops.take 1 rfl (by kernel_rfl) (fun _ _ _ h => h) rfl rfl rfl F54 (fun w F => (yld_move rfl (ev_t rfl))) ?_
                refine Hops.take 2 rfl (by kernel_rfl) (fun _ _ _ h => h) (gd_some rfl rfl) rfl rfl F54 (fun w F => (yld_field fi26_4 rfl (ev_t rfl))) ?_
                refine Hops.take 3 rfl (by kernel_rfl) (fun _ _ _ h => h) (gd_some rfl rfl) rfl rfl F54 (fun w F => (yld_load1 on24 rfl (ev_g rfl) (fun _ => F.cell 4 rfl rfl))) ?_
                refine Hops.take 4 rfl (by kernel_rfl) (fun _ _ _ h => h) (gd_some rfl rfl) rfl rfl F54 (fun w F => (yld_move rfl (ev_t rfl))) ?_
                refine Hops.take 5 rfl (by kernel_rfl) (fun _ _ _ h => h) (gd_some rfl rfl) rfl rfl F54 (fun w F => (yld_indexG (b := yb) (q := yo) (i := jx) sl24 rfl (ev_g rfl) (ev_g rfl) (fun _ => hya) (fun _ => hj))) ?_
                refine Hops.take 6 rfl (by kernel_rfl) (fun _ _ _ h => h) (gd_some rfl rfl) rfl rfl F54 (fun w F => (yld_field fi26_4 rfl (ev_g rfl))) ?_
                refine Hops.take 7 rfl (by kernel_rfl) (fun _ _ _ h => h) (gd_some rfl rfl) rfl rfl F54 (fun w F => (yld_load1 (v := .slice (some ⟨kb2, ko2, none⟩) 2 kc2) on24 rfl (ev_g rfl) (fun _ => rangeAt_cell (rpsE_rng (F.get 5 rfl) hya jx hxj) (j := 4) (by rw [← hke2]; rfl)))) ?_
                refine Hops.take 8 rfl (by kernel_rfl) (fun _ _ _ h => h) (gd_some rfl rfl) rfl rfl F54 (fun w F => (yld_indexN (i := 0) sl24 rfl (ev_g rfl) ev_c (fun _ => by omega))) ?_
                refine Hops.take 9 rfl (by kernel_rfl) (fun _ _ _ h => h) (gd_some rfl rfl) rfl rfl F54 (fun w F => (yld_field fi26_2 rfl (ev_g rfl))) ?_
                refine Hops.take 10 rfl (by kernel_rfl) (fun _ _ _ h => h) (gd_some rfl rfl) rfl rfl F54 (fun w F => (yld_load1 on9 rfl (ev_g rfl) (fun _ => key_cell (rpsE_rep (F.get 5 rfl) jx hj hxj) (hpair jx hj).1 hke2))) ?_
                refine Hops.take 11 rfl (by kernel_rfl) (fun _ _ _ h => h) (gd_some rfl rfl) rfl rfl F54 (fun w F => (yld_field fi26_4 rfl (ev_t rfl))) ?_
                refine Hops.take 12 rfl (by kernel_rfl) (fun _ _ _ h => h) (gd_some rfl rfl) rfl rfl F54 (fun w F => (yld_load1 on24 rfl (ev_g rfl) (fun _ => F.cell 4 rfl rfl))) ?_
                refine Hops.take 13 rfl (by kernel_rfl) (fun _ _ _ h => h) (gd_some rfl rfl) rfl rfl F54 (fun w F => (yld_move rfl (ev_t rfl))) ?_
                refine Hops.take 14 rfl (by kernel_rfl) (fun _ _ _ h => h) (gd_some rfl rfl) rfl rfl F54 (fun w F => (yld_indexG (b := yb) (q := yo) (i := ix) sl24 rfl (ev_g rfl) (ev_g rfl) (fun _ => hya) (fun _ => hi))) ?_
                refine Hops.take 15 rfl (by kernel_rfl) (fun _ _ _ h => h) (gd_some rfl rfl) rfl rfl F54 (fun w F => (yld_field fi26_4 rfl (ev_g rfl))) ?_
                refine Hops.take 16 rfl (by kernel_rfl) (fun _ _ _ h => h) (gd_some rfl rfl) rfl rfl F54 (fun w F => (yld_load1 (v := .slice (some ⟨kb, ko, none⟩) 2 kc) on24 rfl (ev_g rfl) (fun _ => rangeAt_cell (rpsE_rng (F.get 5 rfl) hya ix hx) (j := 4) (by rw [← hke]; rfl)))) ?_
                refine Hops.take 17 rfl (by kernel_rfl) (fun _ _ _ h => h) (gd_some rfl rfl) rfl rfl F54 (fun w F => (yld_indexN (i := 0) sl24 rfl (ev_g rfl) ev_c (fun _ => by omega))) ?_
                refine Hops.take 18 rfl (by kernel_rfl) (fun _ _ _ h => h) (gd_some rfl rfl) rfl rfl F54 (fun w F => (yld_field fi26_2 rfl (ev_g rfl))) ?_
                refine Hops.take 19 rfl (by kernel_rfl) (fun _ _ _ h => h) (gd_some rfl rfl) rfl rfl F54 (fun w F => (yld_load1 on9 rfl (ev_g rfl) (fun _ => key_cell (rpsE_rep (F.get 5 rfl) ix hi hx) (hpair ix hi).1 hke))) ?_
                refine Hops.take 20 rfl (by kernel_rfl) (fun _ _ _ h => h) (gd_some rfl rfl) rfl rfl F54 (fun w F => (yld_sneq rfl (ev_g rfl) (ev_g rfl))) ?_
                refine Hops.take 21 rfl (by kernel_rfl) (fun _ _ _ h => h) rfl rfl rfl F54 (fun w F => (yld_and rfl (ev_t rfl) (ev_g rfl))) ?_
                refine Hops.one 22 rfl (by kernel_rfl) (One.val rfl rfl rfl (yld_assign rfl (ev_t rfl)) ?_)
                refine ⟨F54, ?_⟩
                refine Hops.nil (by kernel_rfl) fun a hS => ?_
                refine hK32 _ _ ?_ a hS
                refine Cod.region ?_
                refine Ops.step (One.val rfl rfl rfl (yld_move rfl (ev_t rfl)) ?_)
                refine Ops.step (One.val rfl rfl rfl (yld_inc rfl (ev_t rfl) (fun _ => by omega)) ?_)
                refine Ops.step (One.val rfl rfl rfl (yld_assign rfl (ev_t rfl)) ?_)
                refine Ops.nil fun a hS => ?_
                have F55 := F54.pull 5 rfl
                have F56 := F55.pull 5 rfl
                have F57 := F56.pull 5 rfl
                have F58 := F57.pull 5 rfl
                have F59 := F58.pull 5 rfl
                have F60 := F59.pull 5 rfl
                refine hK29 (jx + 1, lb && !decide (kOf (tp.list[jx]'hj) = (kOf (tp.list[ix]'hi)))) _ a (hS.sub ⟨rfl, rfl, rfl, rfl, rfl, rfl, rfl, rfl, trivial⟩) ⟨⟨by show jx + 1 ≤ _; omega, by show ix < jx + 1; omega, fun h k hk h1 h2 => ?_⟩, F60⟩ (by show tp.list.length - (jx + 1) < tp.list.length - jx; omega)
                have h' : lb = true ∧ ¬ kOf (tp.list[jx]'hj) = (kOf (tp.list[ix]'hi)) := by simpa using h
                by_cases e : k = jx
                · subst e; exact h'.2
                · exact hall h'.1 k hk h1 (by have : k < jx + 1 := h2; omega)
              · skip
                have hje : jx = tp.list.length := by simp at hc109; omega
                have e4 : lb = true → R4 = some (vOf (tp.list[ix]'hi)) := fun h => by rw [hR4]; exact (rowKeys_last hR3 hsome hi fun j hj h1 => hall h j hj h1 (by omega)).1
                refine Cod.exit fun a hS => ?_
                simp only [Exit.then, Exit.inBlock, ↓reduceIte]
                refine hK27 _ _ ?_ a hS
                refine Cod.seq fun K33 hK33 => ?_
                have F61 := F53.drew
                obtain ⟨yv, hyr, hyt⟩ := val_at (rpsE_rep (F61.get 5 rfl) ix hi hx) (hpair ix hi).1 hke
                refine Cod.draw (C_of F61) (by kernel_rfl) ?_
                refine Hops.take 0 rfl (by kernel_rfl) (fun _ _ _ h => h) rfl rfl rfl F61 (fun w F => (yld_move rfl (ev_t rfl))) ?_
                refine Hops.take 1 rfl (by kernel_rfl) (fun _ _ _ h => h) rfl rfl rfl F61 (fun w F => (yld_move rfl (ev_t rfl))) ?_
                refine Hops.take 2 rfl (by kernel_rfl) (fun _ _ _ h => h) (gd_some rfl rfl) rfl rfl F61 (fun w F => (yld_loadN ag26 rfl (ev_t rfl) (fun _ => F.range (m := 5) (cs' := [_, _, _, _, _]) 0 rfl rfl) rfl)) ?_
                refine Hops.take 3 rfl (by kernel_rfl) (fun _ _ _ h => h) (gd_some rfl rfl) rfl rfl F61 (fun w F => (yld_field fi26_4 rfl (ev_t rfl))) ?_
                refine Hops.take 4 rfl (by kernel_rfl) (fun _ _ _ h => h) (gd_some rfl rfl) rfl rfl F61 (fun w F => (yld_load1 on24 rfl (ev_g rfl) (fun _ => F.cell 4 rfl rfl))) ?_
                refine Hops.take 5 rfl (by kernel_rfl) (fun _ _ _ h => h) (gd_some rfl rfl) rfl rfl F61 (fun w F => (yld_move rfl (ev_t rfl))) ?_
                refine Hops.take 6 rfl (by kernel_rfl) (fun _ _ _ h => h) (gd_some rfl rfl) rfl rfl F61 (fun w F => (yld_indexG (b := yb) (q := yo) (i := ix) sl24 rfl (ev_g rfl) (ev_g rfl) (fun _ => hya) (fun _ => hi))) ?_
                refine Hops.take 7 rfl (by kernel_rfl) (fun _ _ _ h => h) (gd_some rfl rfl) rfl rfl F61 (fun w F => (yld_field fi26_4 rfl (ev_g rfl))) ?_
                refine Hops.take 8 rfl (by kernel_rfl) (fun _ _ _ h => h) (gd_some rfl rfl) rfl rfl F61 (fun w F => (yld_load1 (v := .slice (some ⟨kb, ko, none⟩) 2 kc) on24 rfl (ev_g rfl) (fun _ => rangeAt_cell (rpsE_rng (F.get 5 rfl) hya ix hx) (j := 4) (by rw [← hke]; rfl)))) ?_
                refine Hops.take 9 rfl (by kernel_rfl) (fun _ _ _ h => h) (gd_some rfl rfl) rfl rfl F61 (fun w F => (yld_indexN (i := 1) sl24 rfl (ev_g rfl) ev_c (fun _ => by omega))) ?_
                refine Hops.one 10 rfl (by kernel_rfl) (One.val (gd_some rfl rfl) rfl rfl (yld_loadN (cs := [yv.a, yv.b, yv.c, yv.d, yv.e]) ag26 rfl (ev_g rfl) (fun _ => hyr) rfl) ?_)
                refine ⟨F61, ?_⟩
                have hvs := valSame_ct (R4.getD zeroT) (vOf (tp.list[ix]'hi)) _ _ w34.drew (F61.get 1 rfl).rep hyt
                refine Hops.one 11 rfl (by kernel_rfl) (One.gcall (R := Chg No w34.drew) (gd_some rfl rfl) rfl rfl (ent_f rfl (evl2 (ev_g rfl) (ev_g rfl)) (enters en17)) (Chg.refl _ _) (fun hg => hvs) ?_)
                intro w35 C35
                have F62 := F61.call C35
                refine ⟨F62, ?_⟩
                refine Hops.take 12 rfl (by kernel_rfl) (fun _ _ _ h => h) (gd_some rfl rfl) rfl rfl F62 (fun w F => (yld_not rfl (ev_g rfl))) ?_
                refine Hops.take 13 rfl (by kernel_rfl) (fun _ _ _ h => h) rfl rfl rfl F62 (fun w F => (yld_and rfl (ev_t rfl) (ev_g rfl))) ?_
                refine Hops.nil (by kernel_rfl) fun a hS => ?_
                refine hK33 _ _ ?_ a hS
                refine Cod.cond rfl (fun hc147 => ?_) (fun hc147 => ?_)
                · skip
                  exact (no147 e4 hc147).elim
                · skip
                  skip
                  refine Cod.skip fun a hS => ?_
                  refine hK24 _ _ ?_ a hS
                  refine Cod.region ?_
                  refine Ops.step (One.val rfl rfl rfl (yld_move rfl (ev_t rfl)) ?_)
                  refine Ops.step (One.val rfl rfl rfl (yld_inc rfl (ev_t rfl) (fun _ => by omega)) ?_)
                  refine Ops.step (One.val rfl rfl rfl (yld_assign rfl (ev_t rfl)) ?_)
                  refine Ops.nil fun a hS => ?_
                  have F63 := F62.pull 5 rfl
                  have F64 := F63.pull 5 rfl
                  have F65 := F64.pull 5 rfl
                  have F66 := F65.pull 5 rfl
                  have F67 := F66.erase 4
                  have F68 := F67.erase 4
                  exact hK21 (ix + 1) _ a (hS.sub ⟨rfl, rfl, rfl, rfl, trivial⟩) ⟨by omega, F68⟩ (by omega)
          · skip
            skip
            refine Cod.exit fun a hS => ?_
            simp only [Exit.then, Exit.inBlock, ↓reduceIte]
            refine hK19 _ _ ?_ a hS
            refine Cod.seq fun K34 hK34 => ?_
            refine Cod.region ?_
            refine Ops.step (One.val rfl rfl rfl (yld_assign rfl ev_c) ?_)
            refine Ops.nil fun a hS => ?_
            refine hK34 _ _ ?_ a hS
            refine Cod.ret fun a hS => ?_
            try simp only [Exit.then, Exit.inBlock]
            exact ret1 (t := 2) rfl hS rfl ⟨rfl, F32.chg⟩


theorem ownKnob_none : ownKnob Try.prog.godebug = none := by kernel_rfl
theorem params_ok : ∀ t ∈ Try.f8.params.toList, Try.prog.readableRec t = true ∧ t < Try.prog.types.size := by
  rw [Try.params8]
  intro t ht
  simp only [List.mem_cons, List.not_mem_nil, or_false] at ht
  rcases ht with rfl <;> exact ⟨by kernel_rfl, of_decide_eq_true (by kernel_rfl)⟩
set_option maxRecDepth 100000 in
theorem lifted (os : Os) (started : os.Started) (H : Type) (enc : TypeId × Value → H) :
    ReturnsInHanded {} Try.checked os 8 .any (Rows.fnRowPairsSpec.pre6 enc Try.prog Try.f8 Rows.fnRowPairsRow.domain false) (Rows.fnRowPairsSpec.post enc Try.prog Try.f8 false true false false) := by
  refine returnsInHanded_of_change (C := Try.checked) ownKnob_none started (by kernel_rfl) Try.func8
    (ChangeSpec.witness6 (enc := enc) (C := Try.checked) false ⟨#[], #[.slice none 0 0], []⟩ 8 (by kernel_rfl) (by kernel_rfl) (by kernel_rfl) (by kernel_rfl)) ?_
  intro W base args ds gs before hval0 hW hcnd _
  have hval : ∀ (j : Nat) t v, Try.f8.params[j]? = some t → args[j]? = some v → Value.okWide Try.prog W .any base t v := hval0
  have hW' := hW
  obtain ⟨p, q, hA0, hV, rfl, hfz, hnd⟩ := hW
  have hA : DataW.TrodAll enc Try.prog W 0 (fun _ => true) true Try.f8.params.toList args.toList ds p := hA0
  rw [Try.params8] at hA hval
  obtain ⟨v0, d0, rfl, rfl, h0⟩ := trodAll_one hA
  obtain ⟨rfl, rfl⟩ := trodVars_none hV
  obtain ⟨code, hp⟩ := open_bytes (hval 0 _ v0 rfl rfl) h0
  refine (walk code v0 W hp).mono fun e W' ⟨he, hc⟩ => ?_
  subst he
  exact ⟨_, rfl, post_chg laidOut rfl params_ok hW' (fun _ _ _ => (trodAll_cons_mk (shut_bool Try.underlying4 _) trodAll_mk0)) rfl rfl hc (ok_one (by kernel_rfl) rfl (okWide_bool_mk Try.underlying4 _))⟩

theorem over : Rows.fnRowPairsRow.holds Try.pinned (OpenSpec.ofChange Rows.fnRowPairsSpec) :=
  OpenClaim.holds_of_wide 8 Try.f8 rfl rfl rfl rfl rfl rfl rfl ⟨rfl, rfl, rfl, rfl, rfl⟩ rfl rfl rfl rfl rfl (by kernel_rfl) Try.func8 (by kernel_rfl)
    (of_decide_eq_true (by kernel_rfl)) (by unfold Func.isWrapper; first | (rw [if_pos (by decide +kernel)]; kernel_rfl) | (rw [if_neg (by decide +kernel)]; exact ⟨rfl, rfl⟩))
    (fun os started H enc _ => lifted os started H enc)

/-- The statement. -/
theorem proved : Rows.FnRowPairsSaid := over
#print axioms proved

end GRowPairs
end Go.Proofs.Ytmmgobhoakaaaaa.Eng
