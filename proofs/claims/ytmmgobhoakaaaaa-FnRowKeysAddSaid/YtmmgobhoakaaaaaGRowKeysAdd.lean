/- FnRowKeysAdd returns true for all bytes: the keys made of the pairs of two trees, one after the other, are the sum of the two trees. No condition. -/
import Derived.Test.YtmmgobhoakaaaaaLawP
import Derived.Test.YtmmgobhoakaaaaaRKeys
import Derived.Test.YtmmgobhoakaaaaaAdd
import Derived.Test.YtmmgobhoakaaaaaDraw7
import Derived.Test.YtmmgobhoakaaaaaArgB
import Derived.Test.YtmmgobhoakaaaaaRows
namespace Go.Proofs.Ytmmgobhoakaaaaa.Eng
open Go.RowKit Go.ChangeShapes Go.WideShapes Go.ChangeAt
set_option linter.unusedVariables false
set_option linter.unusedSimpArgs false
set_option maxHeartbeats 1000000
set_option linter.constructorNameAsVariable false
namespace GRowKeysAdd


theorem put_end {α : Type} {key : ByteArray} {x : α} : ∀ {ks : List ByteArray} {l : List α}, ks.length = l.length → (∀ k ∈ ks, ltS k key = true) → putK ks key = ks ++ [key] ∧ putL ks l key x = l ++ [x]
  | [], [], _, _ => ⟨putK_nil key, putL_nil key x⟩
  | [], _ :: _, h, _ => by simp at h
  | _ :: _, [], h, _ => by simp at h
  | k :: ks, a :: l, h, hk => by
    obtain ⟨h1, h2⟩ := put_end (x := x) (ks := ks) (l := l) (by simpa using h) fun k' hk' => hk k' (by simp [hk'])
    rw [putK_cons, putL_cons, if_pos (hk k (by simp)), if_pos (hk k (by simp)), h1, h2]
    exact ⟨rfl, rfl⟩
theorem addKL_sorted : ∀ (ks : List ByteArray) (l : List Tr) (a : List ByteArray) (b : List Tr), ks.length = l.length → a.length = b.length → (∀ k ∈ a, ∀ k' ∈ ks, ltS k k' = true) → List.Pairwise (fun x y => ltS x y = true) ks → addKL ks l a b = .mk 6 0 ⟨#[]⟩ (a ++ ks) (b ++ l)
  | [], [], a, b, _, _, _, _ => by rw [addKL, List.append_nil, List.append_nil]
  | [], _ :: _, _, _, h, _, _, _ => by simp at h
  | _ :: _, [], _, _, h, _, _, _ => by simp at h
  | k :: ks, x :: l, a, b, h, hab, hlt, hpw => by
    obtain ⟨h1, h2⟩ := put_end (key := k) (x := x) hab fun k' hk' => hlt k' hk' k (by simp)
    rw [List.pairwise_cons] at hpw
    rw [addKL, h1, h2, addKL_sorted ks l (a ++ [k]) (b ++ [x]) (by simpa using h) (by simp [hab]) (fun k1 hk1 k2 hk2 => by
      rcases List.mem_append.1 hk1 with hk1 | hk1
      · exact hlt k1 hk1 k2 (by simp [hk2])
      · obtain rfl := List.mem_singleton.1 hk1
        exact hpw.1 k2 hk2) hpw.2]
    simp
theorem rkF_pair (k : ByteArray) (x : Tr) (r : List Tr) (a : List ByteArray) (b : List Tr) : rkF (pairT k x :: r) a b = rkF r (putK a k) (putL a b k x) := by
  rw [rkF, if_pos (show pairB (pairT k x) = true from rfl)]
  rfl
theorem rkF_zip : ∀ (ks : List ByteArray) (l : List Tr) (a : List ByteArray) (b : List Tr), ks.length = l.length → ∃ a' b', addKL ks l a b = .mk 6 0 ⟨#[]⟩ a' b' ∧ ∀ r, rkF (List.zipWith pairT ks l ++ r) a b = rkF r a' b'
  | [], [], a, b, _ => ⟨a, b, by rw [addKL], fun r => rfl⟩
  | [], _ :: _, _, _, h => by simp at h
  | _ :: _, [], _, _, h => by simp at h
  | k :: ks, x :: l, a, b, h => by
    obtain ⟨a', b', h1, h2⟩ := rkF_zip ks l (putK a k) (putL a b k x) (by simpa using h)
    refine ⟨a', b', by rw [addKL]; exact h1, fun r => ?_⟩
    show rkF (pairT k x :: (List.zipWith pairT ks l ++ r)) a b = _
    rw [rkF_pair]
    exact h2 r
theorem pairs_zip {t : Tr} (h : t.keys.length = t.list.length) : pairsL t t.list.length = List.zipWith pairT t.keys t.list := by
  apply List.ext_getElem
  · simp [pairsL, h]
  · intro i h1 h2
    have hi : i < t.list.length := by simpa [pairsL] using h1
    rw [List.getElem_zipWith]
    have := nthP (t := t) (i := i) (by omega) hi
    simpa [pairsL] using this
theorem pairs_some {t : Tr} {r : Option Tr} (hr : r = pairsR t) (h : r.isSome = true) : okT t = true ∧ t.kind = 6 ∧ r = some (pairsT t) ∧ okT (pairsT t) = true := by
  subst hr
  unfold pairsR at h ⊢
  split at h
  · rename_i h1
    rw [if_pos h1]
    unfold toldR at h ⊢
    split at h
    · rename_i h2
      exact ⟨h1.1, h1.2, if_pos h2, by simpa using h2⟩
    · cases h
  · cases h
theorem fin {t u : Tr} {r1 r2 r3 r4 r5 : Option Tr} (hr1 : r1 = pairsR t) (h1 : r1.isSome = true) (hr2 : r2 = pairsR u) (hr3 : r3 = addR (r1.getD zeroT) (r2.getD zeroT)) (hr4 : r4 = rowKeysR (r3.getD zeroT)) (hr5 : r5 = addR t u) :
    (((((!r2.isSome) || (!r3.isSome)) || (!r4.isSome)) || (!r5.isSome)) || decide (r4.getD zeroT = r5.getD zeroT)) = true := by
  have key : r2.isSome = true → r3.isSome = true → r4.isSome = true → r5.isSome = true → r4 = r5 := fun h2 h3 h4 h5 => by
    obtain ⟨ot, kt, e1, op⟩ := pairs_some hr1 h1
    obtain ⟨ou, ku, e2, oq⟩ := pairs_some hr2 h2
    have lt := okT_len ot kt
    have lu := okT_len ou ku
    rw [e1, e2] at hr3
    have er : addR (pairsT t) (pairsT u) = toldR true (.mk 5 0 ⟨#[]⟩ [] (pairsL t t.list.length ++ pairsL u u.list.length)) := by
      unfold addR
      rw [if_neg (by rw [op, oq]; simp), if_neg (by show ¬ (5 : Int) = 0; omega), if_neg (by show ¬ (5 : Int) = 0; omega), if_neg (by show ¬ (5 : Int) ≠ 5; omega), if_neg (by show ¬ (5 : Int) = 3; omega), if_neg (by show ¬ (5 : Int) = 4; omega), if_pos (by rfl)]
      rfl
    have hr3' : r3 = toldR true (.mk 5 0 ⟨#[]⟩ [] (pairsL t t.list.length ++ pairsL u u.list.length)) := hr3.trans er
    have o3 : okT (.mk 5 0 ⟨#[]⟩ [] (pairsL t t.list.length ++ pairsL u u.list.length)) = true := by
      rw [hr3'] at h3
      unfold toldR at h3
      split at h3
      · rename_i h; simpa using h
      · cases h3
    rw [hr3', toldR_true o3] at hr4
    have e5 : addR t u = toldR true (addKL u.keys u.list t.keys t.list) := by
      unfold addR
      rw [if_neg (by rw [ot, ou]; simp), if_neg (by omega), if_neg (by omega), if_neg (by omega), if_neg (by omega), if_neg (by omega), if_neg (by omega), if_pos kt]
    obtain ⟨a', b', q1, q2⟩ := rkF_zip t.keys t.list [] [] lt
    obtain ⟨a2, b2, q3, q4⟩ := rkF_zip u.keys u.list t.keys t.list lu
    have q5 : addKL t.keys t.list [] [] = .mk 6 0 ⟨#[]⟩ ([] ++ t.keys) ([] ++ t.list) := addKL_sorted _ _ _ _ lt rfl (by simp) (by
      rw [List.pairwise_iff_getElem]
      intro i j hi hj hij
      have := okT_sorted' ot i j hij hj
      rwa [nth_eq hi, nth_eq hj] at this)
    rw [q5] at q1
    obtain ⟨rfl, rfl⟩ : t.keys = a' ∧ t.list = b' := by
      have := Tr.mk.inj q1
      simpa using this
    have q6 : rkF (pairsL t t.list.length ++ pairsL u u.list.length) [] [] = some (addKL u.keys u.list t.keys t.list) := by
      rw [pairs_zip lt, pairs_zip lu, q2]
      have := q4 []
      rw [List.append_nil] at this
      rw [this, q3, rkF]
    have hrow : rowT (.mk 5 0 ⟨#[]⟩ [] (pairsL t t.list.length ++ pairsL u u.list.length)) = true := by unfold rowT; rw [o3]; rfl
    rw [hr4, hr5, e5]
    show rowKeysR (.mk 5 0 ⟨#[]⟩ [] (pairsL t t.list.length ++ pairsL u u.list.length)) = _
    unfold rowKeysR
    rw [if_pos hrow]
    show (rkF (pairsL t t.list.length ++ pairsL u u.list.length) [] []).bind (toldR true) = _
    rw [q6]
    rfl
  cases h2 : r2.isSome <;> cases h3 : r3.isSome <;> cases h4 : r4.isSome <;> cases h5 : r5.isSome <;> simp
  rw [key h2 h3 h4 h5]
theorem rowKeysR_ok (t : Tr) (_ : t.Fit) : okT ((rowKeysR t).getD zeroT) = true := getD_ok fun x hx => by
  unfold rowKeysR at hx
  split at hx
  · cases h : rkF t.list [] [] with
    | none => rw [h] at hx; cases hx
    | some o =>
      rw [h] at hx
      have h2 := toldR_ok true o
      have hx2 : toldR true o = some x := hx
      rw [hx2] at h2
      exact h2
  · cases hx
theorem pairsR_ok (t : Tr) (_ : t.Fit) : okT ((pairsR t).getD zeroT) = true := by
  unfold pairsR
  split
  · exact toldR_ok _ _
  · exact okT_zeroT
theorem yes53 {r : Option Tr} {a b : Tr} (h : (((r.isSome != r.isSome) || !(decide (a = b))) || !r.isSome) = false) : r.isSome = true := by
  cases h1 : r.isSome <;> simp [h1] at h ⊢
theorem fin7 {r : Option Tr} {a : Tr} : ((r.isSome == r.isSome) && decide (a = a)) = true := by simp

set_option maxHeartbeats 4000000 in
set_option maxRecDepth 100000 in
theorem walk (code more : List UInt8) (v u : Value) (w : World) (hp : RepE bCells 1 Any w code v) (hq : RepE bCells 1 Any w more u) :
    Calls Try.prog 6 #[v, u] w fun e w' => e = .returned (.bool true) ∧ Chg No w w' := by
  obtain ⟨A, c, rfl, -⟩ := hp.open
  obtain ⟨B, d, rfl, -⟩ := hq.open
  refine enter Try.func6 rfl rfl rfl ?_
  have F0 := Fr.start w
  refine Cod.seq fun K1 hK1 => ?_
  refine Cod.region ?_
  refine Ops.step (One.val rfl rfl rfl (yld_assign rfl ev_c) ?_)
  refine Ops.nil fun a hS => ?_
  refine hK1 _ _ ?_ a hS
  refine Cod.seq fun K2 hK2 => ?_
  refine Cod.seq fun K3 hK3 => ?_
  refine Cod.region ?_
  refine Ops.step (One.val rfl rfl rfl (yld_move rfl (ev_t rfl)) ?_)
  refine Ops.step (One.val rfl rfl rfl (yld_len sl22 rfl (ev_t rfl)) ?_)
  refine Ops.step (One.val rfl rfl rfl (yld_gtr rfl (ev_t rfl) ev_c) ?_)
  refine Ops.step (One.val rfl rfl rfl (yld_move rfl (ev_t rfl)) ?_)
  refine Ops.step (One.val (gd_some rfl rfl) rfl rfl (yld_move rfl (ev_t rfl)) ?_)
  refine Ops.step (One.val (gd_some rfl rfl) rfl rfl (yld_len sl22 rfl (ev_g rfl)) ?_)
  refine Ops.step (One.val (gd_some rfl rfl) rfl rfl (yld_gtr rfl (ev_g rfl) ev_c) ?_)
  refine Ops.step (One.val rfl rfl rfl (yld_or rfl (ev_t rfl) (ev_g rfl)) ?_)
  refine Ops.nil fun a hS => ?_
  refine hK3 _ _ ?_ a hS
  refine Cod.cond rfl (fun hc26 => ?_) (fun hc26 => ?_)
  · skip
    refine Cod.seq fun K4 hK4 => ?_
    refine Cod.region ?_
    refine Ops.step (One.val rfl rfl rfl (yld_assign rfl ev_c) ?_)
    refine Ops.nil fun a hS => ?_
    refine hK4 _ _ ?_ a hS
    refine Cod.ret fun a hS => ?_
    try simp only [Exit.then, Exit.inBlock]
    exact ret1 (t := 4) rfl hS rfl ⟨rfl, F0.chg⟩
  · skip
    refine Cod.skip fun a hS => ?_
    refine hK2 _ _ ?_ a hS
    refine Cod.seq fun K5 hK5 => ?_
    refine Cod.region ?_
    refine Ops.step (One.val rfl rfl rfl (yld_move rfl (ev_t rfl)) ?_)
    refine Ops.step (One.call rfl rfl rfl (ent_f rfl (evl1 (ev_t rfl)) (enters en28)) (drawPairs_ct code _ _ (hp.chg F0.chg)) (fun e w1 hw1 => ?_))
    obtain ⟨xa, ta, rfl, C1, hrsa, hda⟩ := hw1
    have hwa := hda.wt
    obtain ⟨Grsa, hGa⟩ : ∃ G, G = New w w1 := ⟨_, rfl⟩
    rw [← hGa] at hrsa
    obtain ⟨A3a, c3a, A4a, c4a, hxa⟩ := rep_x (rps_get hrsa 0 rfl)
    subst hxa
    have F1 := F0.new C1 (rps Grsa [(ta, (x5 ta.kind ta.num ta.str (.slice A3a ta.keys.length c3a) (.slice A4a ta.list.length c4a)).val)]) hrsa (by rw [hGa]; exact New.new)
    refine ⟨_, rfl, ?_⟩
    refine Ops.step (One.alloc F1 zero26 rfl rfl rfl rfl ?_)
    intro b1 w2 hb1 F2
    change Fr _ _ [blk _ _ [_, _, _, _, _], _] _ at F2
    refine Ops.step (One.storeN (vs := [_, _, _, _, _]) F2 0 rfl sz26 rfl rfl rfl (ev_t rfl) (ev_t rfl) rfl rfl (rps_oneC (F2.get 1 rfl) 0 rfl) ?_)
    intro w3 F3
    change Fr _ _ [blk _ _ [_, _, _, _, _], _] _ at F3
    refine Ops.nil fun a hS => ?_
    refine hK5 _ _ ?_ a hS
    refine Cod.seq fun K6 hK6 => ?_
    refine Cod.region ?_
    refine Ops.step (One.val rfl rfl rfl (yld_move rfl (ev_t rfl)) ?_)
    refine Ops.step (One.call rfl rfl rfl (ent_f rfl (evl1 (ev_t rfl)) (enters en28)) (drawPairs_ct more _ _ (hq.chg F3.chg)) (fun e w4 hw4 => ?_))
    obtain ⟨xp, tp, rfl, C4, hrsp, hdp⟩ := hw4
    have hwp := hdp.wt
    obtain ⟨Grsp, hGp⟩ : ∃ G, G = New w3 w4 := ⟨_, rfl⟩
    rw [← hGp] at hrsp
    obtain ⟨A3p, c3p, A4p, c4p, hxp⟩ := rep_x (rps_get hrsp 0 rfl)
    subst hxp
    have F4 := F3.new C4 (rps Grsp [(tp, (x5 tp.kind tp.num tp.str (.slice A3p tp.keys.length c3p) (.slice A4p tp.list.length c4p)).val)]) hrsp (by rw [hGp]; exact New.new)
    refine ⟨_, rfl, ?_⟩
    refine Ops.step (One.alloc F4 zero26 rfl rfl rfl rfl ?_)
    intro b2 w5 hb2 F5
    change Fr _ _ [blk _ _ [_, _, _, _, _], _, blk _ _ [_, _, _, _, _], _] _ at F5
    refine Ops.step (One.storeN (vs := [_, _, _, _, _]) F5 0 rfl sz26 rfl rfl rfl (ev_t rfl) (ev_t rfl) rfl rfl (rps_oneC (F5.get 1 rfl) 0 rfl) ?_)
    intro w6 F6
    change Fr _ _ [blk _ _ [_, _, _, _, _], _, blk _ _ [_, _, _, _, _], _] _ at F6
    refine Ops.nil fun a hS => ?_
    refine hK6 _ _ ?_ a hS
    refine Cod.seq fun K7 hK7 => ?_
    refine Cod.region ?_
    refine Ops.step (One.val rfl rfl rfl (yld_loadN ag26 rfl (ev_t rfl) (fun _ => F6.range (m := 5) (cs' := [_, _, _, _, _]) 2 rfl rfl) rfl) ?_)
    refine Ops.step (One.call rfl rfl rfl (ent_f rfl (evl1 (ev_t rfl)) (enters en29)) (pairs_ct ta _ _ (rps_get (F6.get 3 rfl) 0 rfl) hda.fit (by omega)) (fun e w7 hw7 => ?_))
    obtain ⟨R1, hR1⟩ : ∃ R, R = pairsR ta := ⟨_, rfl⟩
    have hO1 : okT (R1.getD zeroT) = true := by rw [hR1]; exact pairsR_ok _ hda.fit
    rw [← hR1] at hw7
    obtain ⟨e1, E1, rfl, C7, hE1, hEb1⟩ := hw7
    obtain ⟨A3e1, c3e1, A4e1, c4e1, hxe1⟩ := rep_x hE1.rep
    subst hxe1
    have F7 := F6.new C7 (sep E1 (R1.getD zeroT) (x5 (R1.getD zeroT).kind (R1.getD zeroT).num (R1.getD zeroT).str (.slice A3e1 (R1.getD zeroT).keys.length c3e1) (.slice A4e1 (R1.getD zeroT).list.length c4e1)).val) hE1 hEb1
    refine ⟨_, rfl, ?_⟩
    refine Ops.step (One.val rfl rfl rfl (yld_move rfl (ev_t rfl)) ?_)
    refine Ops.step (One.val rfl rfl rfl (yld_extract rfl (ev_t rfl) rfl) ?_)
    refine Ops.step (One.val rfl rfl rfl (yld_extract rfl (ev_t rfl) rfl) ?_)
    refine Ops.step (One.alloc F7 zero26 rfl rfl rfl rfl ?_)
    intro b3 w8 hb3 F8
    change Fr _ _ [blk _ _ [_, _, _, _, _], _, blk _ _ [_, _, _, _, _], _, blk _ _ [_, _, _, _, _], _] _ at F8
    refine Ops.step (One.storeN (vs := [_, _, _, _, _]) F8 0 rfl sz26 rfl rfl rfl (ev_t rfl) (ev_t rfl) rfl rfl (Sep.one (x := (x5 (R1.getD zeroT).kind (R1.getD zeroT).num (R1.getD zeroT).str (.slice A3e1 (R1.getD zeroT).keys.length c3e1) (.slice A4e1 (R1.getD zeroT).list.length c4e1))) (F8.get 1 rfl)) ?_)
    intro w9 F9
    change Fr _ _ [blk _ _ [_, _, _, _, _], _, blk _ _ [_, _, _, _, _], _, blk _ _ [_, _, _, _, _], _] _ at F9
    refine Ops.step (One.val rfl rfl rfl (yld_assign rfl (ev_t rfl)) ?_)
    refine Ops.nil fun a hS => ?_
    refine hK7 _ _ ?_ a hS
    refine Cod.seq fun K8 hK8 => ?_
    refine Cod.region ?_
    refine Ops.step (One.val rfl rfl rfl (yld_loadN ag26 rfl (ev_t rfl) (fun _ => F9.range (m := 5) (cs' := [_, _, _, _, _]) 4 rfl rfl) rfl) ?_)
    refine Ops.step (One.call rfl rfl rfl (ent_f rfl (evl1 (ev_t rfl)) (enters en30)) (specPairs_ct ta _ _ (rps_get (F9.get 5 rfl) 0 rfl) hda.fit (by omega)) (fun e w10 hw10 => ?_))
    rw [← hR1] at hw10
    obtain ⟨e2, E2, rfl, C10, hE2, hEb2⟩ := hw10
    obtain ⟨A3e2, c3e2, A4e2, c4e2, hxe2⟩ := rep_x hE2.rep
    subst hxe2
    have F10 := F9.new C10 (sep E2 (R1.getD zeroT) (x5 (R1.getD zeroT).kind (R1.getD zeroT).num (R1.getD zeroT).str (.slice A3e2 (R1.getD zeroT).keys.length c3e2) (.slice A4e2 (R1.getD zeroT).list.length c4e2)).val) hE2 hEb2
    refine ⟨_, rfl, ?_⟩
    refine Ops.step (One.val rfl rfl rfl (yld_move rfl (ev_t rfl)) ?_)
    refine Ops.step (One.val rfl rfl rfl (yld_extract rfl (ev_t rfl) rfl) ?_)
    refine Ops.step (One.val rfl rfl rfl (yld_extract rfl (ev_t rfl) rfl) ?_)
    refine Ops.step (One.alloc F10 zero26 rfl rfl rfl rfl ?_)
    intro b4 w11 hb4 F11
    change Fr _ _ [blk _ _ [_, _, _, _, _], _, blk _ _ [_, _, _, _, _], _, blk _ _ [_, _, _, _, _], _, blk _ _ [_, _, _, _, _], _] _ at F11
    refine Ops.step (One.storeN (vs := [_, _, _, _, _]) F11 0 rfl sz26 rfl rfl rfl (ev_t rfl) (ev_t rfl) rfl rfl (Sep.one (x := (x5 (R1.getD zeroT).kind (R1.getD zeroT).num (R1.getD zeroT).str (.slice A3e2 (R1.getD zeroT).keys.length c3e2) (.slice A4e2 (R1.getD zeroT).list.length c4e2))) (F11.get 1 rfl)) ?_)
    intro w12 F12
    change Fr _ _ [blk _ _ [_, _, _, _, _], _, blk _ _ [_, _, _, _, _], _, blk _ _ [_, _, _, _, _], _, blk _ _ [_, _, _, _, _], _] _ at F12
    refine Ops.step (One.val rfl rfl rfl (yld_assign rfl (ev_t rfl)) ?_)
    refine Ops.nil fun a hS => ?_
    refine hK8 _ _ ?_ a hS
    refine Cod.seq fun K9 hK9 => ?_
    refine Cod.seq fun K10 hK10 => ?_
    refine Cod.region ?_
    refine Ops.step (One.val rfl rfl rfl (yld_move rfl (ev_t rfl)) ?_)
    refine Ops.step (One.val rfl rfl rfl (yld_move rfl (ev_t rfl)) ?_)
    refine Ops.step (One.val rfl rfl rfl (yld_bneq Try.underlying4 rfl (ev_t rfl) (ev_t rfl)) ?_)
    refine Ops.step (One.val rfl rfl rfl (yld_move rfl (ev_t rfl)) ?_)
    refine Ops.step (One.val (gd_some rfl rfl) rfl rfl (yld_loadN ag26 rfl (ev_t rfl) (fun _ => F12.range (m := 5) (cs' := [_, _, _, _, _]) 2 rfl rfl) rfl) ?_)
    refine Ops.step (One.val (gd_some rfl rfl) rfl rfl (yld_loadN ag26 rfl (ev_t rfl) (fun _ => F12.range (m := 5) (cs' := [_, _, _, _, _]) 0 rfl rfl) rfl) ?_)
    refine Ops.step (One.gcall (R := Chg No w12) (gd_some rfl rfl) rfl rfl (ent_f rfl (evl2 (ev_g rfl) (ev_g rfl)) (enters en17)) (Chg.refl _ _) (fun hg => valSame_ct (R1.getD zeroT) (R1.getD zeroT) _ _ _ (F12.get 3 rfl).rep (F12.get 1 rfl).rep) ?_)
    intro w13 C13
    have F13 := F12.call C13
    refine Ops.step (One.val (gd_some rfl rfl) rfl rfl (yld_not rfl (ev_g rfl)) ?_)
    refine Ops.step (One.val rfl rfl rfl (yld_or rfl (ev_t rfl) (ev_g rfl)) ?_)
    refine Ops.step (One.val rfl rfl rfl (yld_move rfl (ev_t rfl)) ?_)
    refine Ops.step (One.val (gd_some rfl rfl) rfl rfl (yld_move rfl (ev_t rfl)) ?_)
    refine Ops.step (One.val (gd_some rfl rfl) rfl rfl (yld_not rfl (ev_g rfl)) ?_)
    refine Ops.step (One.val rfl rfl rfl (yld_or rfl (ev_t rfl) (ev_g rfl)) ?_)
    refine Ops.nil fun a hS => ?_
    refine hK10 _ _ ?_ a hS
    refine Cod.cond rfl (fun hc53 => ?_) (fun hc53 => ?_)
    · skip
      skip
      refine Cod.seq fun K11 hK11 => ?_
      refine Cod.region ?_
      refine Ops.step (One.val rfl rfl rfl (yld_move rfl (ev_t rfl)) ?_)
      refine Ops.step (One.val rfl rfl rfl (yld_move rfl (ev_t rfl)) ?_)
      refine Ops.step (One.val rfl rfl rfl (yld_beql Try.underlying4 rfl (ev_t rfl) (ev_t rfl)) ?_)
      refine Ops.step (One.val rfl rfl rfl (yld_move rfl (ev_t rfl)) ?_)
      refine Ops.step (One.val (gd_some rfl rfl) rfl rfl (yld_loadN ag26 rfl (ev_t rfl) (fun _ => F13.range (m := 5) (cs' := [_, _, _, _, _]) 2 rfl rfl) rfl) ?_)
      refine Ops.step (One.val (gd_some rfl rfl) rfl rfl (yld_loadN ag26 rfl (ev_t rfl) (fun _ => F13.range (m := 5) (cs' := [_, _, _, _, _]) 0 rfl rfl) rfl) ?_)
      refine Ops.step (One.gcall (R := Chg No w13) (gd_some rfl rfl) rfl rfl (ent_f rfl (evl2 (ev_g rfl) (ev_g rfl)) (enters en17)) (Chg.refl _ _) (fun hg => valSame_ct (R1.getD zeroT) (R1.getD zeroT) _ _ _ (F13.get 3 rfl).rep (F13.get 1 rfl).rep) ?_)
      intro w14 C14
      have F14 := F13.call C14
      refine Ops.step (One.val rfl rfl rfl (yld_and rfl (ev_t rfl) (ev_g rfl)) ?_)
      refine Ops.step (One.val rfl rfl rfl (yld_assign rfl (ev_t rfl)) ?_)
      refine Ops.nil fun a hS => ?_
      refine hK11 _ _ ?_ a hS
      refine Cod.ret fun a hS => ?_
      try simp only [Exit.then, Exit.inBlock]
      exact ret1 (t := 4) rfl hS rfl ⟨ret_b fin7, F14.chg⟩
    · skip
      have hsome : R1.isSome = true := yes53 hc53
      refine Cod.skip fun a hS => ?_
      refine hK9 _ _ ?_ a hS
      refine Cod.seq fun K12 hK12 => ?_
      refine Cod.region ?_
      refine Ops.step (One.val rfl rfl rfl (yld_loadN ag26 rfl (ev_t rfl) (fun _ => F13.range (m := 5) (cs' := [_, _, _, _, _]) 4 rfl rfl) rfl) ?_)
      refine Ops.step (One.call rfl rfl rfl (ent_f rfl (evl1 (ev_t rfl)) (enters en29)) (pairs_ct tp _ _ (rps_get (F13.get 5 rfl) 0 rfl) hdp.fit (by omega)) (fun e w15 hw15 => ?_))
      obtain ⟨R2, hR2⟩ : ∃ R, R = pairsR tp := ⟨_, rfl⟩
      have hO2 : okT (R2.getD zeroT) = true := by rw [hR2]; exact pairsR_ok _ hdp.fit
      rw [← hR2] at hw15
      obtain ⟨e3, E3, rfl, C15, hE3, hEb3⟩ := hw15
      obtain ⟨A3e3, c3e3, A4e3, c4e3, hxe3⟩ := rep_x hE3.rep
      subst hxe3
      have F15 := F13.new C15 (sep E3 (R2.getD zeroT) (x5 (R2.getD zeroT).kind (R2.getD zeroT).num (R2.getD zeroT).str (.slice A3e3 (R2.getD zeroT).keys.length c3e3) (.slice A4e3 (R2.getD zeroT).list.length c4e3)).val) hE3 hEb3
      refine ⟨_, rfl, ?_⟩
      refine Ops.step (One.val rfl rfl rfl (yld_move rfl (ev_t rfl)) ?_)
      refine Ops.step (One.val rfl rfl rfl (yld_extract rfl (ev_t rfl) rfl) ?_)
      refine Ops.step (One.val rfl rfl rfl (yld_extract rfl (ev_t rfl) rfl) ?_)
      refine Ops.step (One.alloc F15 zero26 rfl rfl rfl rfl ?_)
      intro b5 w16 hb5 F16
      change Fr _ _ [blk _ _ [_, _, _, _, _], _, blk _ _ [_, _, _, _, _], _, blk _ _ [_, _, _, _, _], _, blk _ _ [_, _, _, _, _], _, blk _ _ [_, _, _, _, _], _] _ at F16
      refine Ops.step (One.storeN (vs := [_, _, _, _, _]) F16 0 rfl sz26 rfl rfl rfl (ev_t rfl) (ev_t rfl) rfl rfl (Sep.one (x := (x5 (R2.getD zeroT).kind (R2.getD zeroT).num (R2.getD zeroT).str (.slice A3e3 (R2.getD zeroT).keys.length c3e3) (.slice A4e3 (R2.getD zeroT).list.length c4e3))) (F16.get 1 rfl)) ?_)
      intro w17 F17
      change Fr _ _ [blk _ _ [_, _, _, _, _], _, blk _ _ [_, _, _, _, _], _, blk _ _ [_, _, _, _, _], _, blk _ _ [_, _, _, _, _], _, blk _ _ [_, _, _, _, _], _] _ at F17
      refine Ops.step (One.val rfl rfl rfl (yld_assign rfl (ev_t rfl)) ?_)
      refine Ops.nil fun a hS => ?_
      refine hK12 _ _ ?_ a hS
      refine Cod.seq fun K13 hK13 => ?_
      refine Cod.region ?_
      refine Ops.step (One.val rfl rfl rfl (yld_loadN ag26 rfl (ev_t rfl) (fun _ => F17.range (m := 5) (cs' := [_, _, _, _, _]) 4 rfl rfl) rfl) ?_)
      refine Ops.step (One.val rfl rfl rfl (yld_loadN ag26 rfl (ev_t rfl) (fun _ => F17.range (m := 5) (cs' := [_, _, _, _, _]) 0 rfl rfl) rfl) ?_)
      refine Ops.step (One.call rfl rfl rfl (ent_f rfl (evl2 (ev_t rfl) (ev_t rfl)) (enters en31)) (partAdd_ct (R1.getD zeroT) (R2.getD zeroT) _ _ _ (F17.get 5 rfl).rep (F17.get 1 rfl).rep (okT_fit hO1) (okT_fit hO2) (okT_w hO1) (okT_w hO2)) (fun e w18 hw18 => ?_))
      obtain ⟨R3, hR3⟩ : ∃ R, R = addR (R1.getD zeroT) (R2.getD zeroT) := ⟨_, rfl⟩
      have hO3 : okT (R3.getD zeroT) = true := by rw [hR3]; exact addR_ok (R1.getD zeroT) (R2.getD zeroT)
      rw [← hR3] at hw18
      obtain ⟨e4, E4, rfl, C18, hE4, hEb4⟩ := hw18
      obtain ⟨A3e4, c3e4, A4e4, c4e4, hxe4⟩ := rep_x hE4.rep
      subst hxe4
      have F18 := F17.new C18 (sep E4 (R3.getD zeroT) (x5 (R3.getD zeroT).kind (R3.getD zeroT).num (R3.getD zeroT).str (.slice A3e4 (R3.getD zeroT).keys.length c3e4) (.slice A4e4 (R3.getD zeroT).list.length c4e4)).val) hE4 hEb4
      refine ⟨_, rfl, ?_⟩
      refine Ops.step (One.val rfl rfl rfl (yld_move rfl (ev_t rfl)) ?_)
      refine Ops.step (One.val rfl rfl rfl (yld_extract rfl (ev_t rfl) rfl) ?_)
      refine Ops.step (One.val rfl rfl rfl (yld_extract rfl (ev_t rfl) rfl) ?_)
      refine Ops.step (One.alloc F18 zero26 rfl rfl rfl rfl ?_)
      intro b6 w19 hb6 F19
      change Fr _ _ [blk _ _ [_, _, _, _, _], _, blk _ _ [_, _, _, _, _], _, blk _ _ [_, _, _, _, _], _, blk _ _ [_, _, _, _, _], _, blk _ _ [_, _, _, _, _], _, blk _ _ [_, _, _, _, _], _] _ at F19
      refine Ops.step (One.storeN (vs := [_, _, _, _, _]) F19 0 rfl sz26 rfl rfl rfl (ev_t rfl) (ev_t rfl) rfl rfl (Sep.one (x := (x5 (R3.getD zeroT).kind (R3.getD zeroT).num (R3.getD zeroT).str (.slice A3e4 (R3.getD zeroT).keys.length c3e4) (.slice A4e4 (R3.getD zeroT).list.length c4e4))) (F19.get 1 rfl)) ?_)
      intro w20 F20
      change Fr _ _ [blk _ _ [_, _, _, _, _], _, blk _ _ [_, _, _, _, _], _, blk _ _ [_, _, _, _, _], _, blk _ _ [_, _, _, _, _], _, blk _ _ [_, _, _, _, _], _, blk _ _ [_, _, _, _, _], _] _ at F20
      refine Ops.step (One.val rfl rfl rfl (yld_assign rfl (ev_t rfl)) ?_)
      refine Ops.nil fun a hS => ?_
      refine hK13 _ _ ?_ a hS
      refine Cod.seq fun K14 hK14 => ?_
      refine Cod.region ?_
      refine Ops.step (One.val rfl rfl rfl (yld_loadN ag26 rfl (ev_t rfl) (fun _ => F20.range (m := 5) (cs' := [_, _, _, _, _]) 0 rfl rfl) rfl) ?_)
      refine Ops.step (One.call rfl rfl rfl (ent_f rfl (evl1 (ev_t rfl)) (enters en32)) (rowKeys_ct (R3.getD zeroT) _ _ (F20.get 1 rfl).rep (okT_fit hO3) (okT_w hO3)) (fun e w21 hw21 => ?_))
      obtain ⟨R4, hR4⟩ : ∃ R, R = rowKeysR (R3.getD zeroT) := ⟨_, rfl⟩
      have hO4 : okT (R4.getD zeroT) = true := by rw [hR4]; exact rowKeysR_ok _ (okT_fit hO3)
      rw [← hR4] at hw21
      obtain ⟨e5, E5, rfl, C21, hE5, hEb5⟩ := hw21
      obtain ⟨A3e5, c3e5, A4e5, c4e5, hxe5⟩ := rep_x hE5.rep
      subst hxe5
      have F21 := F20.new C21 (sep E5 (R4.getD zeroT) (x5 (R4.getD zeroT).kind (R4.getD zeroT).num (R4.getD zeroT).str (.slice A3e5 (R4.getD zeroT).keys.length c3e5) (.slice A4e5 (R4.getD zeroT).list.length c4e5)).val) hE5 hEb5
      refine ⟨_, rfl, ?_⟩
      refine Ops.step (One.val rfl rfl rfl (yld_move rfl (ev_t rfl)) ?_)
      refine Ops.step (One.val rfl rfl rfl (yld_extract rfl (ev_t rfl) rfl) ?_)
      refine Ops.step (One.val rfl rfl rfl (yld_extract rfl (ev_t rfl) rfl) ?_)
      refine Ops.step (One.alloc F21 zero26 rfl rfl rfl rfl ?_)
      intro b7 w22 hb7 F22
      change Fr _ _ [blk _ _ [_, _, _, _, _], _, blk _ _ [_, _, _, _, _], _, blk _ _ [_, _, _, _, _], _, blk _ _ [_, _, _, _, _], _, blk _ _ [_, _, _, _, _], _, blk _ _ [_, _, _, _, _], _, blk _ _ [_, _, _, _, _], _] _ at F22
      refine Ops.step (One.storeN (vs := [_, _, _, _, _]) F22 0 rfl sz26 rfl rfl rfl (ev_t rfl) (ev_t rfl) rfl rfl (Sep.one (x := (x5 (R4.getD zeroT).kind (R4.getD zeroT).num (R4.getD zeroT).str (.slice A3e5 (R4.getD zeroT).keys.length c3e5) (.slice A4e5 (R4.getD zeroT).list.length c4e5))) (F22.get 1 rfl)) ?_)
      intro w23 F23
      change Fr _ _ [blk _ _ [_, _, _, _, _], _, blk _ _ [_, _, _, _, _], _, blk _ _ [_, _, _, _, _], _, blk _ _ [_, _, _, _, _], _, blk _ _ [_, _, _, _, _], _, blk _ _ [_, _, _, _, _], _, blk _ _ [_, _, _, _, _], _] _ at F23
      refine Ops.step (One.val rfl rfl rfl (yld_assign rfl (ev_t rfl)) ?_)
      refine Ops.nil fun a hS => ?_
      refine hK14 _ _ ?_ a hS
      refine Cod.seq fun K15 hK15 => ?_
      refine Cod.region ?_
      refine Ops.step (One.val rfl rfl rfl (yld_loadN ag26 rfl (ev_t rfl) (fun _ => F23.range (m := 5) (cs' := [_, _, _, _, _]) 12 rfl rfl) rfl) ?_)
      refine Ops.step (One.val rfl rfl rfl (yld_loadN ag26 rfl (ev_t rfl) (fun _ => F23.range (m := 5) (cs' := [_, _, _, _, _]) 10 rfl rfl) rfl) ?_)
      refine Ops.step (One.call rfl rfl rfl (ent_f rfl (evl2 (ev_t rfl) (ev_t rfl)) (enters en31)) (partAdd_ct ta tp _ _ _ (rps_get (F23.get 13 rfl) 0 rfl) (rps_get (F23.get 11 rfl) 0 rfl) hda.fit hdp.fit (by omega) (by omega)) (fun e w24 hw24 => ?_))
      obtain ⟨R5, hR5⟩ : ∃ R, R = addR ta tp := ⟨_, rfl⟩
      have hO5 : okT (R5.getD zeroT) = true := by rw [hR5]; exact addR_ok ta tp
      rw [← hR5] at hw24
      obtain ⟨e6, E6, rfl, C24, hE6, hEb6⟩ := hw24
      obtain ⟨A3e6, c3e6, A4e6, c4e6, hxe6⟩ := rep_x hE6.rep
      subst hxe6
      have F24 := F23.new C24 (sep E6 (R5.getD zeroT) (x5 (R5.getD zeroT).kind (R5.getD zeroT).num (R5.getD zeroT).str (.slice A3e6 (R5.getD zeroT).keys.length c3e6) (.slice A4e6 (R5.getD zeroT).list.length c4e6)).val) hE6 hEb6
      refine ⟨_, rfl, ?_⟩
      refine Ops.step (One.val rfl rfl rfl (yld_move rfl (ev_t rfl)) ?_)
      refine Ops.step (One.val rfl rfl rfl (yld_extract rfl (ev_t rfl) rfl) ?_)
      refine Ops.step (One.val rfl rfl rfl (yld_extract rfl (ev_t rfl) rfl) ?_)
      refine Ops.step (One.alloc F24 zero26 rfl rfl rfl rfl ?_)
      intro b8 w25 hb8 F25
      change Fr _ _ [blk _ _ [_, _, _, _, _], _, blk _ _ [_, _, _, _, _], _, blk _ _ [_, _, _, _, _], _, blk _ _ [_, _, _, _, _], _, blk _ _ [_, _, _, _, _], _, blk _ _ [_, _, _, _, _], _, blk _ _ [_, _, _, _, _], _, blk _ _ [_, _, _, _, _], _] _ at F25
      refine Ops.step (One.storeN (vs := [_, _, _, _, _]) F25 0 rfl sz26 rfl rfl rfl (ev_t rfl) (ev_t rfl) rfl rfl (Sep.one (x := (x5 (R5.getD zeroT).kind (R5.getD zeroT).num (R5.getD zeroT).str (.slice A3e6 (R5.getD zeroT).keys.length c3e6) (.slice A4e6 (R5.getD zeroT).list.length c4e6))) (F25.get 1 rfl)) ?_)
      intro w26 F26
      change Fr _ _ [blk _ _ [_, _, _, _, _], _, blk _ _ [_, _, _, _, _], _, blk _ _ [_, _, _, _, _], _, blk _ _ [_, _, _, _, _], _, blk _ _ [_, _, _, _, _], _, blk _ _ [_, _, _, _, _], _, blk _ _ [_, _, _, _, _], _, blk _ _ [_, _, _, _, _], _] _ at F26
      refine Ops.step (One.val rfl rfl rfl (yld_assign rfl (ev_t rfl)) ?_)
      refine Ops.nil fun a hS => ?_
      refine hK15 _ _ ?_ a hS
      refine Cod.seq fun K16 hK16 => ?_
      refine Cod.region ?_
      refine Ops.step (One.val rfl rfl rfl (yld_move rfl (ev_t rfl)) ?_)
      refine Ops.step (One.val rfl rfl rfl (yld_not rfl (ev_t rfl)) ?_)
      refine Ops.step (One.val rfl rfl rfl (yld_move rfl (ev_t rfl)) ?_)
      refine Ops.step (One.val (gd_some rfl rfl) rfl rfl (yld_move rfl (ev_t rfl)) ?_)
      refine Ops.step (One.val (gd_some rfl rfl) rfl rfl (yld_not rfl (ev_g rfl)) ?_)
      refine Ops.step (One.val rfl rfl rfl (yld_or rfl (ev_t rfl) (ev_g rfl)) ?_)
      refine Ops.step (One.val rfl rfl rfl (yld_move rfl (ev_t rfl)) ?_)
      refine Ops.step (One.val (gd_some rfl rfl) rfl rfl (yld_move rfl (ev_t rfl)) ?_)
      refine Ops.step (One.val (gd_some rfl rfl) rfl rfl (yld_not rfl (ev_g rfl)) ?_)
      refine Ops.step (One.val rfl rfl rfl (yld_or rfl (ev_t rfl) (ev_g rfl)) ?_)
      refine Ops.step (One.val rfl rfl rfl (yld_move rfl (ev_t rfl)) ?_)
      refine Ops.step (One.val (gd_some rfl rfl) rfl rfl (yld_move rfl (ev_t rfl)) ?_)
      refine Ops.step (One.val (gd_some rfl rfl) rfl rfl (yld_not rfl (ev_g rfl)) ?_)
      refine Ops.step (One.val rfl rfl rfl (yld_or rfl (ev_t rfl) (ev_g rfl)) ?_)
      refine Ops.step (One.val rfl rfl rfl (yld_move rfl (ev_t rfl)) ?_)
      refine Ops.step (One.val (gd_some rfl rfl) rfl rfl (yld_loadN ag26 rfl (ev_t rfl) (fun _ => F26.range (m := 5) (cs' := [_, _, _, _, _]) 2 rfl rfl) rfl) ?_)
      refine Ops.step (One.val (gd_some rfl rfl) rfl rfl (yld_loadN ag26 rfl (ev_t rfl) (fun _ => F26.range (m := 5) (cs' := [_, _, _, _, _]) 0 rfl rfl) rfl) ?_)
      refine Ops.step (One.gcall (R := Chg No w26) (gd_some rfl rfl) rfl rfl (ent_f rfl (evl2 (ev_g rfl) (ev_g rfl)) (enters en17)) (Chg.refl _ _) (fun hg => valSame_ct (R4.getD zeroT) (R5.getD zeroT) _ _ _ (F26.get 3 rfl).rep (F26.get 1 rfl).rep) ?_)
      intro w27 C27
      have F27 := F26.call C27
      refine Ops.step (One.val rfl rfl rfl (yld_or rfl (ev_t rfl) (ev_g rfl)) ?_)
      refine Ops.step (One.val rfl rfl rfl (yld_assign rfl (ev_t rfl)) ?_)
      refine Ops.nil fun a hS => ?_
      refine hK16 _ _ ?_ a hS
      refine Cod.ret fun a hS => ?_
      try simp only [Exit.then, Exit.inBlock]
      exact ret1 (t := 4) rfl hS rfl ⟨ret_b (fin hR1 hsome hR2 hR3 hR4 hR5), F27.chg⟩


theorem ownKnob_none : ownKnob Try.prog.godebug = none := by kernel_rfl
theorem params_ok : ∀ t ∈ Try.f6.params.toList, Try.prog.readableRec t = true ∧ t < Try.prog.types.size := by
  rw [Try.params6]
  intro t ht
  simp only [List.mem_cons, List.not_mem_nil, or_false] at ht
  rcases ht with rfl | rfl <;> exact ⟨by kernel_rfl, of_decide_eq_true (by kernel_rfl)⟩
set_option maxRecDepth 100000 in
theorem lifted (os : Os) (started : os.Started) (H : Type) (enc : TypeId × Value → H) :
    ReturnsInHanded {} Try.checked os 6 .any (Rows.fnRowKeysAddSpec.pre6 enc Try.prog Try.f6 Rows.fnRowKeysAddRow.domain false) (Rows.fnRowKeysAddSpec.post enc Try.prog Try.f6 false true false false) := by
  refine returnsInHanded_of_change (C := Try.checked) ownKnob_none started (by kernel_rfl) Try.func6
    (ChangeSpec.witness6 (enc := enc) (C := Try.checked) false ⟨#[], #[.slice none 0 0, .slice none 0 0], []⟩ 8 (by kernel_rfl) (by kernel_rfl) (by kernel_rfl) (by kernel_rfl)) ?_
  intro W base args ds gs before hval0 hW hcnd _
  have hval : ∀ (j : Nat) t v, Try.f6.params[j]? = some t → args[j]? = some v → Value.okWide Try.prog W .any base t v := hval0
  have hW' := hW
  obtain ⟨p, q, hA0, hV, rfl, hfz, hnd⟩ := hW
  have hA : DataW.TrodAll enc Try.prog W 0 (fun _ => true) true Try.f6.params.toList args.toList ds p := hA0
  rw [Try.params6] at hA hval
  obtain ⟨v0, v1, d0, d1, p0, p1, rfl, rfl, rfl, h0, h1⟩ := trodAll_two hA
  obtain ⟨rfl, rfl⟩ := trodVars_none hV
  obtain ⟨code, hp⟩ := open_bytes (hval 0 _ v0 rfl rfl) h0
  obtain ⟨more, hq⟩ := open_bytes (hval 1 _ v1 rfl rfl) h1
  refine (walk code more v0 v1 W hp hq).mono fun e W' ⟨he, hc⟩ => ?_
  subst he
  exact ⟨_, rfl, post_chg laidOut rfl params_ok hW' (fun _ _ _ => (trodAll_cons_mk (shut_bool Try.underlying4 _) trodAll_mk0)) rfl rfl hc (ok_one (by kernel_rfl) rfl (okWide_bool_mk Try.underlying4 _))⟩

theorem over : Rows.fnRowKeysAddRow.holds Try.pinned (OpenSpec.ofChange Rows.fnRowKeysAddSpec) :=
  OpenClaim.holds_of_wide 6 Try.f6 rfl rfl rfl rfl rfl rfl rfl ⟨rfl, rfl, rfl, rfl, rfl⟩ rfl rfl rfl rfl rfl (by kernel_rfl) Try.func6 (by kernel_rfl)
    (of_decide_eq_true (by kernel_rfl)) (by unfold Func.isWrapper; first | (rw [if_pos (by decide +kernel)]; kernel_rfl) | (rw [if_neg (by decide +kernel)]; exact ⟨rfl, rfl⟩))
    (fun os started H enc _ => lifted os started H enc)

/-- The statement. -/
theorem proved : Rows.FnRowKeysAddSaid := over
#print axioms proved

end GRowKeysAdd
end Go.Proofs.Ytmmgobhoakaaaaa.Eng
