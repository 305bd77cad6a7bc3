/- FnRowFlat returns true for all bytes: a drawn row that is flattened has as many parts as its elements and its rows' elements, a row of that row alone is flattened to that row, and flattening adds no parts. No condition. -/
import Derived.Test.YtphchpbfhcniaaaLawC
import Derived.Test.YtphchpbfhcniaaaSame
import Derived.Test.YtphchpbfhcniaaaArgB
import Derived.Test.YtphchpbfhcniaaaRows
namespace Go.Proofs.Ytphchpbfhcniaaa.Eng
open Go.RowKit Go.ChangeShapes Go.WideShapes Go.ChangeAt
set_option linter.unusedVariables false
set_option linter.unusedSimpArgs false
set_option maxHeartbeats 1000000
set_option linter.constructorNameAsVariable false
namespace GRowFlat


theorem cnt_list (t : Tr) : t.cnt = 1 + sumN Tr.cnt t.list := by
  obtain ⟨k, n, s, ks, l⟩ := t
  exact Tr.cnt_mk k n s ks l
theorem flat_cnt : ∀ l : List Tr, sumN Tr.cnt (flatL l) ≤ sumN Tr.cnt l
  | [] => by simp [flatL, sumN]
  | x :: l => by
    have h1 := flat_cnt l
    unfold flatL at h1 ⊢
    rw [List.flatMap_cons, sumN_append, sumN_cons]
    split
    · have := cnt_list x
      omega
    · simp [sumN] at h1 ⊢; omega
theorem rowT_eta {t : Tr} (h : rowT t = true) : t = .mk 5 0 ⟨#[]⟩ [] t.list := by
  unfold rowT at h
  obtain ⟨k, n, s, ks, l⟩ := t
  have hk : k = 5 := by cases h1 : okT (.mk k n s ks l) <;> simp [h1] at h; exact h
  have hok : okT (.mk k n s ks l) = true := by cases h1 : okT (.mk k n s ks l) <;> simp [h1] at h; rfl
  have hp := (Form.iff.1 (okT_node hok).1).2.1
  have h3 := hp.z3 (by omega)
  have h4 := hp.z4 (by omega)
  have h6 := hp.z6 (by omega)
  subst hk
  simp only [Tr.list]
  rw [h3, h4, h6]
theorem flatR_some {t : Tr} {r : Option Tr} (hr : r = flatR t) (h : r.isSome = true) : rowT t = true ∧ r = some (.mk 5 0 ⟨#[]⟩ [] (flatL t.list)) ∧ okT (.mk 5 0 ⟨#[]⟩ [] (flatL t.list)) = true := by
  subst hr
  unfold flatR at h ⊢
  split at h
  · rename_i h1
    unfold toldR at h ⊢
    rw [if_pos h1]
    split at h
    · rename_i h2
      exact ⟨h1, if_pos h2, by simpa using h2⟩
    · cases h
  · cases h
theorem fin {t : Tr} {r q : Option Tr} {i : Nat} (hr : r = flatR t) (hq : q = flatR (.mk 5 0 ⟨#[]⟩ [] [t])) (h : r.isSome = true) (hi : i ≤ t.list.length) (hx : decide ((i : Int) < (t.list.length : Int)) = false) :
    (((((((flatL (t.list.take i)).length : Nat) : Int) == ((r.getD zeroT).list.length : Int)) && ((!(okT (.mk 5 0 ⟨#[]⟩ [] [t]))) || (q.isSome && decide (q.getD zeroT = t))))) && decide (manyOf (r.getD zeroT) ≤ manyOf t)) = true := by
  obtain ⟨h1, h2, h3⟩ := flatR_some hr h
  have hie : i = t.list.length := by simp at hx; omega
  have e1 := rowT_eta h1
  have hok : okT t = true := by unfold rowT at h1; cases h0 : okT t <;> simp [h0] at h1 ⊢
  have h5 : t.kind = 5 := by rw [e1]; rfl
  have hm : manyOf (r.getD zeroT) ≤ manyOf t := by
    rw [h2]
    show manyOf (.mk 5 0 ⟨#[]⟩ [] (flatL t.list)) ≤ _
    have h6 := flat_cnt t.list
    have h7 := cnt_list t
    have h8 : (Tr.mk 5 0 ⟨#[]⟩ [] (flatL t.list)).cnt = 1 + sumN Tr.cnt (flatL t.list) := cnt_list _
    rw [many_ok h3, many_ok hok]
    omega
  have hq2 : okT (.mk 5 0 ⟨#[]⟩ [] [t]) = true → q = some t := fun ho => by
    rw [hq]
    unfold flatR
    have : rowT (.mk 5 0 ⟨#[]⟩ [] [t]) = true := by unfold rowT; rw [ho]; rfl
    rw [if_pos this]
    have hf : flatL (Tr.mk 5 0 ⟨#[]⟩ [] [t]).list = t.list := by
      show flatL [t] = _
      unfold flatL
      simp [h5]
    rw [hf, ← e1]
    unfold toldR
    rw [if_pos (by simpa using hok)]
  have hl : (r.getD zeroT).list = flatL t.list := by rw [h2]; rfl
  rw [hie, List.take_length, decide_eq_true hm, hl]
  cases ho : okT (.mk 5 0 ⟨#[]⟩ [] [t])
  · simp
  · rw [hq2 ho]; simp
theorem yes40 {r : Option Tr} {a b : Tr} (h : (((r.isSome != r.isSome) || !(decide (a = b))) || !r.isSome) = false) : r.isSome = true := by
  cases h1 : r.isSome <;> simp [h1] at h ⊢
theorem fin7 {r : Option Tr} {a : Tr} : ((r.isSome == r.isSome) && decide (a = a)) = true := by simp

set_option maxHeartbeats 4000000 in
set_option maxRecDepth 100000 in
theorem walk (code : List UInt8) (v : Value) (w : World) (hp : RepE bCells 1 Any w code v) :
    Calls Try.prog 4 #[v] w fun e w' => e = .returned (.bool true) ∧ Chg No w w' := by
  obtain ⟨A, c, rfl, -⟩ := hp.open
  refine enter Try.func4 rfl rfl rfl ?_
  have F0 := Fr.start w
  refine Cod.seq fun K1 hK1 => ?_
  refine Cod.region ?_
  refine Ops.step (One.val rfl rfl rfl (yld_assign rfl ev_c) ?_)
  refine Ops.nil fun a hS => ?_
  refine hK1 _ _ ?_ a hS
  refine Cod.seq fun K2 hK2 => ?_
  refine Cod.seq fun K3 hK3 => ?_
  refine Cod.region ?_
  refine Ops.step (One.val rfl rfl rfl (yld_move rfl (ev_t rfl)) ?_)
  refine Ops.step (One.val rfl rfl rfl (yld_len sl22 rfl (ev_t rfl)) ?_)
  refine Ops.step (One.val rfl rfl rfl (yld_gtr rfl (ev_t rfl) ev_c) ?_)
  refine Ops.nil fun a hS => ?_
  refine hK3 _ _ ?_ a hS
  refine Cod.cond rfl (fun hc15 => ?_) (fun hc15 => ?_)
  · skip
    refine Cod.seq fun K4 hK4 => ?_
    refine Cod.region ?_
    refine Ops.step (One.val rfl rfl rfl (yld_assign rfl ev_c) ?_)
    refine Ops.nil fun a hS => ?_
    refine hK4 _ _ ?_ a hS
    refine Cod.ret fun a hS => ?_
    try simp only [Exit.then, Exit.inBlock]
    exact ret1 (t := 2) rfl hS rfl ⟨rfl, F0.chg⟩
  · skip
    refine Cod.skip fun a hS => ?_
    refine hK2 _ _ ?_ a hS
    refine Cod.seq fun K5 hK5 => ?_
    refine Cod.region ?_
    refine Ops.step (One.val rfl rfl rfl (yld_move rfl (ev_t rfl)) ?_)
    refine Ops.step (One.call rfl rfl rfl (ent_f rfl (evl1 (ev_t rfl)) (enters en17)) (drawFlat_ct code _ _ (hp.chg F0.chg)) (fun e w1 hw1 => ?_))
    obtain ⟨xa, ta, rfl, C1, hrsa, hda⟩ := hw1
    have hwa := hda.wt
    obtain ⟨Grsa, hGa⟩ : ∃ G, G = New w w1 := ⟨_, rfl⟩
    rw [← hGa] at hrsa
    obtain ⟨A3a, c3a, A4a, c4a, hxa⟩ := rep_x (rps_get hrsa 0 rfl)
    subst hxa
    have F1 := F0.new C1 (rps Grsa [(ta, (x5 ta.kind ta.num ta.str (.slice A3a ta.keys.length c3a) (.slice A4a ta.list.length c4a)).val)]) hrsa (by rw [hGa]; exact New.new)
    refine ⟨_, rfl, ?_⟩
    refine Ops.step (One.alloc F1 zero26 rfl rfl rfl rfl ?_)
    intro b1 w2 hb1 F2
    change Fr _ _ [blk _ _ [_, _, _, _, _], _] _ at F2
    refine Ops.step (One.storeN (vs := [_, _, _, _, _]) F2 0 rfl sz26 rfl rfl rfl (ev_t rfl) (ev_t rfl) rfl rfl (rps_oneC (F2.get 1 rfl) 0 rfl) ?_)
    intro w3 F3
    change Fr _ _ [blk _ _ [_, _, _, _, _], _] _ at F3
    refine Ops.nil fun a hS => ?_
    refine hK5 _ _ ?_ a hS
    refine Cod.seq fun K6 hK6 => ?_
    refine Cod.region ?_
    refine Ops.step (One.val rfl rfl rfl (yld_loadN ag26 rfl (ev_t rfl) (fun _ => F3.range (m := 5) (cs' := [_, _, _, _, _]) 0 rfl rfl) rfl) ?_)
    refine Ops.step (One.call rfl rfl rfl (ent_f rfl (evl1 (ev_t rfl)) (enters en18)) (flat_ct ta _ _ (rps_get (F3.get 1 rfl) 0 rfl) hda.fit (by omega)) (fun e w4 hw4 => ?_))
    obtain ⟨R1, hR1⟩ : ∃ R, R = flatR ta := ⟨_, rfl⟩
    have hO1 : okT (R1.getD zeroT) = true := by rw [hR1]; exact flatR_ok _ hda.fit
    rw [← hR1] at hw4
    obtain ⟨e1, E1, rfl, C4, hE1, hEb1⟩ := hw4
    obtain ⟨A3e1, c3e1, A4e1, c4e1, hxe1⟩ := rep_x hE1.rep
    subst hxe1
    have F4 := F3.new C4 (sep E1 (R1.getD zeroT) (x5 (R1.getD zeroT).kind (R1.getD zeroT).num (R1.getD zeroT).str (.slice A3e1 (R1.getD zeroT).keys.length c3e1) (.slice A4e1 (R1.getD zeroT).list.length c4e1)).val) hE1 hEb1
    refine ⟨_, rfl, ?_⟩
    refine Ops.step (One.val rfl rfl rfl (yld_move rfl (ev_t rfl)) ?_)
    refine Ops.step (One.val rfl rfl rfl (yld_extract rfl (ev_t rfl) rfl) ?_)
    refine Ops.step (One.val rfl rfl rfl (yld_extract rfl (ev_t rfl) rfl) ?_)
    refine Ops.step (One.alloc F4 zero26 rfl rfl rfl rfl ?_)
    intro b2 w5 hb2 F5
    change Fr _ _ [blk _ _ [_, _, _, _, _], _, blk _ _ [_, _, _, _, _], _] _ at F5
    refine Ops.step (One.storeN (vs := [_, _, _, _, _]) F5 0 rfl sz26 rfl rfl rfl (ev_t rfl) (ev_t rfl) rfl rfl (Sep.one (x := (x5 (R1.getD zeroT).kind (R1.getD zeroT).num (R1.getD zeroT).str (.slice A3e1 (R1.getD zeroT).keys.length c3e1) (.slice A4e1 (R1.getD zeroT).list.length c4e1))) (F5.get 1 rfl)) ?_)
    intro w6 F6
    change Fr _ _ [blk _ _ [_, _, _, _, _], _, blk _ _ [_, _, _, _, _], _] _ at F6
    refine Ops.step (One.val rfl rfl rfl (yld_assign rfl (ev_t rfl)) ?_)
    refine Ops.nil fun a hS => ?_
    refine hK6 _ _ ?_ a hS
    refine Cod.seq fun K7 hK7 => ?_
    refine Cod.region ?_
    refine Ops.step (One.val rfl rfl rfl (yld_loadN ag26 rfl (ev_t rfl) (fun _ => F6.range (m := 5) (cs' := [_, _, _, _, _]) 2 rfl rfl) rfl) ?_)
    refine Ops.step (One.call rfl rfl rfl (ent_f rfl (evl1 (ev_t rfl)) (enters en19)) (specFlat_ct ta _ _ (rps_get (F6.get 3 rfl) 0 rfl) hda.fit (by omega)) (fun e w7 hw7 => ?_))
    rw [← hR1] at hw7
    obtain ⟨e2, E2, rfl, C7, hE2, hEb2⟩ := hw7
    obtain ⟨A3e2, c3e2, A4e2, c4e2, hxe2⟩ := rep_x hE2.rep
    subst hxe2
    have F7 := F6.new C7 (sep E2 (R1.getD zeroT) (x5 (R1.getD zeroT).kind (R1.getD zeroT).num (R1.getD zeroT).str (.slice A3e2 (R1.getD zeroT).keys.length c3e2) (.slice A4e2 (R1.getD zeroT).list.length c4e2)).val) hE2 hEb2
    refine ⟨_, rfl, ?_⟩
    refine Ops.step (One.val rfl rfl rfl (yld_move rfl (ev_t rfl)) ?_)
    refine Ops.step (One.val rfl rfl rfl (yld_extract rfl (ev_t rfl) rfl) ?_)
    refine Ops.step (One.val rfl rfl rfl (yld_extract rfl (ev_t rfl) rfl) ?_)
    refine Ops.step (One.alloc F7 zero26 rfl rfl rfl rfl ?_)
    intro b3 w8 hb3 F8
    change Fr _ _ [blk _ _ [_, _, _, _, _], _, blk _ _ [_, _, _, _, _], _, blk _ _ [_, _, _, _, _], _] _ at F8
    refine Ops.step (One.storeN (vs := [_, _, _, _, _]) F8 0 rfl sz26 rfl rfl rfl (ev_t rfl) (ev_t rfl) rfl rfl (Sep.one (x := (x5 (R1.getD zeroT).kind (R1.getD zeroT).num (R1.getD zeroT).str (.slice A3e2 (R1.getD zeroT).keys.length c3e2) (.slice A4e2 (R1.getD zeroT).list.length c4e2))) (F8.get 1 rfl)) ?_)
    intro w9 F9
    change Fr _ _ [blk _ _ [_, _, _, _, _], _, blk _ _ [_, _, _, _, _], _, blk _ _ [_, _, _, _, _], _] _ at F9
    refine Ops.step (One.val rfl rfl rfl (yld_assign rfl (ev_t rfl)) ?_)
    refine Ops.nil fun a hS => ?_
    refine hK7 _ _ ?_ a hS
    refine Cod.seq fun K8 hK8 => ?_
    refine Cod.seq fun K9 hK9 => ?_
    refine Cod.region ?_
    refine Ops.step (One.val rfl rfl rfl (yld_move rfl (ev_t rfl)) ?_)
    refine Ops.step (One.val rfl rfl rfl (yld_move rfl (ev_t rfl)) ?_)
    refine Ops.step (One.val rfl rfl rfl (yld_bneq Try.underlying4 rfl (ev_t rfl) (ev_t rfl)) ?_)
    refine Ops.step (One.val rfl rfl rfl (yld_move rfl (ev_t rfl)) ?_)
    refine Ops.step (One.val (gd_some rfl rfl) rfl rfl (yld_loadN ag26 rfl (ev_t rfl) (fun _ => F9.range (m := 5) (cs' := [_, _, _, _, _]) 2 rfl rfl) rfl) ?_)
    refine Ops.step (One.val (gd_some rfl rfl) rfl rfl (yld_loadN ag26 rfl (ev_t rfl) (fun _ => F9.range (m := 5) (cs' := [_, _, _, _, _]) 0 rfl rfl) rfl) ?_)
    refine Ops.step (One.gcall (R := Chg No w9) (gd_some rfl rfl) rfl rfl (ent_f rfl (evl2 (ev_g rfl) (ev_g rfl)) (enters en20)) (Chg.refl _ _) (fun hg => valSame_ct (R1.getD zeroT) (R1.getD zeroT) _ _ _ (F9.get 3 rfl).rep (F9.get 1 rfl).rep) ?_)
    intro w10 C10
    have F10 := F9.call C10
    refine Ops.step (One.val (gd_some rfl rfl) rfl rfl (yld_not rfl (ev_g rfl)) ?_)
    refine Ops.step (One.val rfl rfl rfl (yld_or rfl (ev_t rfl) (ev_g rfl)) ?_)
    refine Ops.step (One.val rfl rfl rfl (yld_move rfl (ev_t rfl)) ?_)
    refine Ops.step (One.val (gd_some rfl rfl) rfl rfl (yld_move rfl (ev_t rfl)) ?_)
    refine Ops.step (One.val (gd_some rfl rfl) rfl rfl (yld_not rfl (ev_g rfl)) ?_)
    refine Ops.step (One.val rfl rfl rfl (yld_or rfl (ev_t rfl) (ev_g rfl)) ?_)
    refine Ops.nil fun a hS => ?_
    refine hK9 _ _ ?_ a hS
    refine Cod.cond rfl (fun hc40 => ?_) (fun hc40 => ?_)
    · skip
      skip
      refine Cod.seq fun K10 hK10 => ?_
      refine Cod.region ?_
      refine Ops.step (One.val rfl rfl rfl (yld_move rfl (ev_t rfl)) ?_)
      refine Ops.step (One.val rfl rfl rfl (yld_move rfl (ev_t rfl)) ?_)
      refine Ops.step (One.val rfl rfl rfl (yld_beql Try.underlying4 rfl (ev_t rfl) (ev_t rfl)) ?_)
      refine Ops.step (One.val rfl rfl rfl (yld_move rfl (ev_t rfl)) ?_)
      refine Ops.step (One.val (gd_some rfl rfl) rfl rfl (yld_loadN ag26 rfl (ev_t rfl) (fun _ => F10.range (m := 5) (cs' := [_, _, _, _, _]) 2 rfl rfl) rfl) ?_)
      refine Ops.step (One.val (gd_some rfl rfl) rfl rfl (yld_loadN ag26 rfl (ev_t rfl) (fun _ => F10.range (m := 5) (cs' := [_, _, _, _, _]) 0 rfl rfl) rfl) ?_)
      refine Ops.step (One.gcall (R := Chg No w10) (gd_some rfl rfl) rfl rfl (ent_f rfl (evl2 (ev_g rfl) (ev_g rfl)) (enters en20)) (Chg.refl _ _) (fun hg => valSame_ct (R1.getD zeroT) (R1.getD zeroT) _ _ _ (F10.get 3 rfl).rep (F10.get 1 rfl).rep) ?_)
      intro w11 C11
      have F11 := F10.call C11
      refine Ops.step (One.val rfl rfl rfl (yld_and rfl (ev_t rfl) (ev_g rfl)) ?_)
      refine Ops.step (One.val rfl rfl rfl (yld_assign rfl (ev_t rfl)) ?_)
      refine Ops.nil fun a hS => ?_
      refine hK10 _ _ ?_ a hS
      refine Cod.ret fun a hS => ?_
      try simp only [Exit.then, Exit.inBlock]
      exact ret1 (t := 2) rfl hS rfl ⟨ret_b fin7, F11.chg⟩
    · skip
      have hsome : R1.isSome = true := yes40 hc40
      refine Cod.skip fun a hS => ?_
      refine hK8 _ _ ?_ a hS
      refine Cod.seq fun K11 hK11 => ?_
      refine Cod.region ?_
      refine Ops.step (One.val rfl rfl rfl (yld_assign rfl ev_c) ?_)
      refine Ops.nil fun a hS => ?_
      refine hK11 _ _ ?_ a hS
      refine Cod.seq fun K12 hK12 => ?_
      refine Cod.seq fun K13 hK13 => ?_
      refine Cod.region ?_
      refine Ops.step (One.val rfl rfl rfl (yld_assign rfl ev_c) ?_)
      refine Ops.nil fun a hS => ?_
      refine hK13 _ _ ?_ a hS
      refine Cod.block ?_
      have F12 := F10.pull 5 rfl
      have F13 := F12.pull 5 rfl
      have F14 := F13.pull 5 rfl
      have F15 := F14.pull 5 rfl
      have F16 := F15.erase 4
      have F17 := F16.erase 4
      refine Cod.loop (fun i : Nat => [(3, true, .pointer (some ⟨b1, 0, none⟩)), (4, true, .pointer (some ⟨b2, 0, none⟩)), (8, true, .int .i64 (((flatL (ta.list.take i)).length : Nat) : Int)), (9, true, .int .i64 (i : Int))]) (fun i w' => i ≤ ta.list.length ∧ Fr No w [blk b2 26 (enc5 (x5 (R1.getD zeroT).kind (R1.getD zeroT).num (R1.getD zeroT).str (.slice A3e1 (R1.getD zeroT).keys.length c3e1) (.slice A4e1 (R1.getD zeroT).list.length c4e1))), sep E1 (R1.getD zeroT) (x5 (R1.getD zeroT).kind (R1.getD zeroT).num (R1.getD zeroT).str (.slice A3e1 (R1.getD zeroT).keys.length c3e1) (.slice A4e1 (R1.getD zeroT).list.length c4e1)).val, blk b1 26 (enc5 (x5 ta.kind ta.num ta.str (.slice A3a ta.keys.length c3a) (.slice A4a ta.list.length c4a))), rps Grsa [(ta, (x5 ta.kind ta.num ta.str (.slice A3a ta.keys.length c3a) (.slice A4a ta.list.length c4a)).val)]] w') (fun i => ta.list.length - i) 0 ⟨rfl, rfl, rfl, rfl, trivial⟩ ⟨Nat.zero_le _, F17⟩ ?_
      intro i w12 hW K14 hK14
      obtain ⟨hi0, F18⟩ := hW
      refine Cod.seq fun K15 hK15 => ?_
      refine Cod.seq fun K16 hK16 => ?_
      refine Cod.region ?_
      refine Ops.step (One.val rfl rfl rfl (yld_move rfl (ev_t rfl)) ?_)
      refine Ops.step (One.val rfl rfl rfl (yld_field fi26_4 rfl (ev_t rfl)) ?_)
      refine Ops.step (One.val rfl rfl rfl (yld_load1 on24 rfl (ev_t rfl) (fun _ => F18.cell 2 rfl rfl)) ?_)
      refine Ops.step (One.val rfl rfl rfl (yld_len sl24 rfl (ev_t rfl)) ?_)
      refine Ops.step (One.val rfl rfl rfl (yld_lss rfl (ev_t rfl) (ev_t rfl)) ?_)
      refine Ops.nil fun a hS => ?_
      refine hK16 _ _ ?_ a hS
      refine Cod.cond rfl (fun hc53 => ?_) (fun hc53 => ?_)
      · skip
        have hi : i < ta.list.length := by simpa using hc53
        obtain ⟨b, o, cs, rfl, -, hlc, hr, ht⟩ := (rep_l (rps_get (F18.get 3 rfl) 0 rfl)).at i hi
        obtain ⟨kk, nn, ss, kks, ll, hti⟩ := Tr.eta ta.list[i]
        rw [hti] at ht
        obtain ⟨u3, u4, ecs, h3', h4'⟩ := ht.open
        have ecs' : cs = [.int .i64 kk, .int .i64 nn, .string ss, u3, u4] := by simpa using ecs
        subst ecs'
        obtain ⟨B4, d4, rfl, hm4⟩ := h4'.open
        have hfs := congrArg List.length (flat_step ta.list i hi)
        rw [List.length_append, hti] at hfs
        have hfl := flat_le ta.list (i + 1)
        have hwl := ta.wt_list
        refine Cod.skip fun a hS => ?_
        refine hK15 _ _ ?_ a hS
        refine Cod.seq fun K17 hK17 => ?_
        refine Cod.block ?_
        refine Cod.seq fun K18 hK18 => ?_
        refine Cod.region ?_
        refine Ops.step (One.val rfl rfl rfl (yld_field fi26_4 rfl (ev_t rfl)) ?_)
        refine Ops.step (One.val rfl rfl rfl (yld_load1 on24 rfl (ev_t rfl) (fun _ => F18.cell 2 rfl rfl)) ?_)
        refine Ops.step (One.val rfl rfl rfl (yld_move rfl (ev_t rfl)) ?_)
        refine Ops.step (One.val rfl rfl rfl (yld_indexN sl24 rfl (ev_t rfl) (ev_t rfl) (fun _ => by omega)) ?_)
        refine Ops.step (One.val rfl rfl rfl (yld_field fi26_0 rfl (ev_t rfl)) ?_)
        refine Ops.step (One.val rfl rfl rfl (yld_load1 on3 rfl (ev_t rfl) (fun _ => rangeAt_cell hr (j := 0) rfl)) ?_)
        refine Ops.step (One.val rfl rfl rfl (yld_eql rfl (ev_t rfl) ev_c) ?_)
        refine Ops.nil fun a hS => ?_
        refine hK18 _ _ ?_ a hS
        refine Cod.cond rfl (fun hc62 => ?_) (fun hc62 => ?_)
        · skip
          have hk : kk = 5 := by simpa using hc62
          rw [show (Tr.mk kk nn ss kks ll).kind = 5 from hk, if_pos rfl] at hfs
          have hfs2 : (flatL (ta.list.take (i + 1))).length = (flatL (ta.list.take i)).length + ll.length := hfs
          have hsum : (((flatL (ta.list.take i)).length : Nat) : Int) + (ll.length : Int) = (((flatL (ta.list.take (i + 1))).length : Nat) : Int) := by rw [hfs2]; omega
          refine Cod.region ?_
          refine Ops.step (One.val rfl rfl rfl (yld_move rfl (ev_t rfl)) ?_)
          refine Ops.step (One.val rfl rfl rfl (yld_field fi26_4 rfl (ev_t rfl)) ?_)
          refine Ops.step (One.val rfl rfl rfl (yld_load1 on24 rfl (ev_t rfl) (fun _ => F18.cell 2 rfl rfl)) ?_)
          refine Ops.step (One.val rfl rfl rfl (yld_move rfl (ev_t rfl)) ?_)
          refine Ops.step (One.val rfl rfl rfl (yld_indexN sl24 rfl (ev_t rfl) (ev_t rfl) (fun _ => by omega)) ?_)
          refine Ops.step (One.val rfl rfl rfl (yld_field fi26_4 rfl (ev_t rfl)) ?_)
          refine Ops.step (One.val rfl rfl rfl (yld_load1 on24 rfl (ev_t rfl) (fun _ => rangeAt_cell hr (j := 4) rfl)) ?_)
          refine Ops.step (One.val rfl rfl rfl (yld_len sl24 rfl (ev_t rfl)) ?_)
          refine Ops.step (One.val rfl rfl rfl (yld_add rfl (ev_t rfl) (ev_t rfl) (fun _ => by omega)) ?_)
          refine Ops.step (One.val rfl rfl rfl (yld_assign rfl (ev_t rfl)) ?_)
          refine Ops.nil fun a hS => ?_
          refine hK17 _ _ ?_ a hS
          refine Cod.region ?_
          refine Ops.step (One.val rfl rfl rfl (yld_move rfl (ev_t rfl)) ?_)
          refine Ops.step (One.val rfl rfl rfl (yld_inc rfl (ev_t rfl) (fun _ => by omega)) ?_)
          refine Ops.step (One.val rfl rfl rfl (yld_assign rfl (ev_t rfl)) ?_)
          refine Ops.nil fun a hS => ?_
          have F19 := F18.pull 3 rfl
          have F20 := F19.pull 3 rfl
          have F21 := F20.pull 3 rfl
          have F22 := F21.pull 3 rfl
          rw [hsum] at hS
          exact hK14 (i + 1) _ a (hS.sub ⟨rfl, rfl, rfl, rfl, trivial⟩) ⟨by omega, F22⟩ (by omega)
        · skip
          have hk : ¬ kk = 5 := by simpa using hc62
          rw [if_neg (show ¬ (Tr.mk kk nn ss kks ll).kind = 5 from hk)] at hfs
          have hfs2 : (flatL (ta.list.take (i + 1))).length = (flatL (ta.list.take i)).length + 1 := hfs
          have hsum : (((flatL (ta.list.take i)).length : Nat) : Int) + 1 = (((flatL (ta.list.take (i + 1))).length : Nat) : Int) := by rw [hfs2]; omega
          refine Cod.region ?_
          refine Ops.step (One.val rfl rfl rfl (yld_move rfl (ev_t rfl)) ?_)
          refine Ops.step (One.val rfl rfl rfl (yld_add rfl (ev_t rfl) ev_c (fun _ => by omega)) ?_)
          refine Ops.step (One.val rfl rfl rfl (yld_assign rfl (ev_t rfl)) ?_)
          refine Ops.nil fun a hS => ?_
          refine hK17 _ _ ?_ a hS
          refine Cod.region ?_
          refine Ops.step (One.val rfl rfl rfl (yld_move rfl (ev_t rfl)) ?_)
          refine Ops.step (One.val rfl rfl rfl (yld_inc rfl (ev_t rfl) (fun _ => by omega)) ?_)
          refine Ops.step (One.val rfl rfl rfl (yld_assign rfl (ev_t rfl)) ?_)
          refine Ops.nil fun a hS => ?_
          have F23 := F18.pull 3 rfl
          have F24 := F23.pull 3 rfl
          have F25 := F24.pull 3 rfl
          have F26 := F25.pull 3 rfl
          rw [hsum] at hS
          exact hK14 (i + 1) _ a (hS.sub ⟨rfl, rfl, rfl, rfl, trivial⟩) ⟨by omega, F26⟩ (by omega)
      · skip
        skip
        refine Cod.exit fun a hS => ?_
        simp only [Exit.then, Exit.inBlock, ↓reduceIte]
        refine hK12 _ _ ?_ a hS
        refine Cod.seq fun K19 hK19 => ?_
        refine Cod.region ?_
        refine Ops.step (One.val rfl rfl rfl (yld_loadN ag26 rfl (ev_t rfl) (fun _ => F18.range (m := 5) (cs' := [_, _, _, _, _]) 2 rfl rfl) rfl) ?_)
        refine Ops.step (One.buildSlice (cells := ([(x5 ta.kind ta.num ta.str (.slice A3a ta.keys.length c3a) (.slice A4a ta.list.length c4a))].flatMap enc5)) F18 sl24 zero26 rfl rfl rfl rfl (evp1 (ev_t rfl)) rfl rfl (by kernel_rfl) ?_)
        intro b4 w13 hb4 F27
        refine Ops.step (One.val rfl rfl rfl (yld_build (cells := [.int .i64 5, .int .i64 0, .string ⟨#[]⟩, .slice none 0 0, .slice (some ⟨b4, 0, none⟩) 1 1]) rfl (evp2 ev_c (ev_t rfl)) (by kernel_rfl)) ?_)
        refine Ops.step (One.alloc F27 zero26 rfl rfl rfl rfl ?_)
        intro b5 w14 hb5 F28
        change Fr _ _ [blk _ _ [_, _, _, _, _], _, blk _ _ [_, _, _, _, _], _, blk _ _ [_, _, _, _, _], _] _ at F28
        refine Ops.step (One.storeN (vs := [_, _, _, _, _]) F28 0 rfl sz26 rfl rfl rfl (ev_t rfl) (ev_t rfl) rfl rfl rfl ?_)
        intro w15 F29
        change Fr _ _ [blk _ _ [_, _, _, _, _], _, blk _ _ [_, _, _, _, _], _, blk _ _ [_, _, _, _, _], _] _ at F29
        refine Ops.nil fun a hS => ?_
        refine hK19 _ _ ?_ a hS
        refine Cod.seq fun K20 hK20 => ?_
        refine Cod.region ?_
        refine Ops.step (One.val rfl rfl rfl (yld_loadN ag26 rfl (ev_t rfl) (fun _ => F29.range (m := 5) (cs' := [_, _, _, _, _]) 0 rfl rfl) rfl) ?_)
        refine Ops.step (One.call rfl rfl rfl (ent_f rfl (evl1 (ev_t rfl)) (enters en18)) (flat_ct (.mk 5 0 ⟨#[]⟩ [] [ta]) _ _ (repRow (xs := [(x5 ta.kind ta.num ta.str (.slice A3a ta.keys.length c3a) (.slice A4a ta.list.length c4a))]) (F29.get 1 rfl) (AL.one (rps_get (F29.get 5 rfl) 0 rfl)) (by simp)) (row1_fit hda.fit (by omega)).1 (row1_fit hda.fit (by omega)).2) (fun e w16 hw16 => ?_))
        obtain ⟨R2, hR2⟩ : ∃ R, R = flatR (.mk 5 0 ⟨#[]⟩ [] [ta]) := ⟨_, rfl⟩
        have hO2 : okT (R2.getD zeroT) = true := by rw [hR2]; exact flatR_ok _ (row1_fit hda.fit (by omega)).1
        rw [← hR2] at hw16
        obtain ⟨e3, E3, rfl, C16, hE3, hEb3⟩ := hw16
        obtain ⟨A3e3, c3e3, A4e3, c4e3, hxe3⟩ := rep_x hE3.rep
        subst hxe3
        have F30 := F29.new C16 (sep E3 (R2.getD zeroT) (x5 (R2.getD zeroT).kind (R2.getD zeroT).num (R2.getD zeroT).str (.slice A3e3 (R2.getD zeroT).keys.length c3e3) (.slice A4e3 (R2.getD zeroT).list.length c4e3)).val) hE3 hEb3
        refine ⟨_, rfl, ?_⟩
        refine Ops.step (One.val rfl rfl rfl (yld_move rfl (ev_t rfl)) ?_)
        refine Ops.step (One.val rfl rfl rfl (yld_extract rfl (ev_t rfl) rfl) ?_)
        refine Ops.step (One.val rfl rfl rfl (yld_extract rfl (ev_t rfl) rfl) ?_)
        refine Ops.step (One.alloc F30 zero26 rfl rfl rfl rfl ?_)
        intro b6 w17 hb6 F31
        change Fr _ _ [blk _ _ [_, _, _, _, _], _, blk _ _ [_, _, _, _, _], _, blk _ _ [_, _, _, _, _], _, blk _ _ [_, _, _, _, _], _] _ at F31
        refine Ops.step (One.storeN (vs := [_, _, _, _, _]) F31 0 rfl sz26 rfl rfl rfl (ev_t rfl) (ev_t rfl) rfl rfl (Sep.one (x := (x5 (R2.getD zeroT).kind (R2.getD zeroT).num (R2.getD zeroT).str (.slice A3e3 (R2.getD zeroT).keys.length c3e3) (.slice A4e3 (R2.getD zeroT).list.length c4e3))) (F31.get 1 rfl)) ?_)
        intro w18 F32
        change Fr _ _ [blk _ _ [_, _, _, _, _], _, blk _ _ [_, _, _, _, _], _, blk _ _ [_, _, _, _, _], _, blk _ _ [_, _, _, _, _], _] _ at F32
        refine Ops.step (One.val rfl rfl rfl (yld_assign rfl (ev_t rfl)) ?_)
        refine Ops.nil fun a hS => ?_
        refine hK20 _ _ ?_ a hS
        refine Cod.seq fun K21 hK21 => ?_
        have F33 := F32.drew
        refine Cod.draw (C_of F33) (by kernel_rfl) ?_
        refine Hops.take 0 rfl (by kernel_rfl) (fun _ _ _ h => h) rfl rfl rfl F33 (fun w F => (yld_move rfl (ev_t rfl))) ?_
        refine Hops.take 1 rfl (by kernel_rfl) (fun _ _ _ h => h) rfl rfl rfl F33 (fun w F => (yld_field fi26_4 rfl (ev_t rfl))) ?_
        refine Hops.take 2 rfl (by kernel_rfl) (fun _ _ _ h => h) rfl rfl rfl F33 (fun w F => (yld_load1 on24 rfl (ev_t rfl) (fun _ => F.cell 4 rfl rfl))) ?_
        refine Hops.take 3 rfl (by kernel_rfl) (fun _ _ _ h => h) rfl rfl rfl F33 (fun w F => (yld_len sl24 rfl (ev_t rfl))) ?_
        refine Hops.take 4 rfl (by kernel_rfl) (fun _ _ _ h => h) rfl rfl rfl F33 (fun w F => (yld_eql rfl (ev_t rfl) (ev_t rfl))) ?_
        refine Hops.take 5 rfl (by kernel_rfl) (fun _ _ _ h => h) rfl rfl rfl F33 (fun w F => (yld_move rfl (ev_t rfl))) ?_
        refine Hops.take 6 rfl (by kernel_rfl) (fun _ _ _ h => h) (gd_some rfl rfl) rfl rfl F33 (fun w F => (yld_loadN ag26 rfl (ev_t rfl) (fun _ => F.range (m := 5) (cs' := [_, _, _, _, _]) 2 rfl rfl) rfl)) ?_
        refine Hops.one 7 rfl (by kernel_rfl) (One.gcall (R := Chg No w18.drew) (gd_some rfl rfl) rfl rfl (ent_f rfl (evl1 (ev_g rfl)) (enters en16)) (Chg.refl _ _) (fun hg => valOk_ct (.mk 5 0 ⟨#[]⟩ [] [ta]) _ _ (repRow (xs := [(x5 ta.kind ta.num ta.str (.slice A3a ta.keys.length c3a) (.slice A4a ta.list.length c4a))]) (F33.get 3 rfl) (AL.one (rps_get (F33.get 7 rfl) 0 rfl)) (by simp)) (row1_fit hda.fit (by omega)).1) ?_)
        intro w19 C19
        have F34 := F33.call C19
        refine ⟨F34, ?_⟩
        refine Hops.take 8 rfl (by kernel_rfl) (fun _ _ _ h => h) (gd_some rfl rfl) rfl rfl F34 (fun w F => (yld_not rfl (ev_g rfl))) ?_
        refine Hops.take 9 rfl (by kernel_rfl) (fun _ _ _ h => h) (gd_some rfl rfl) rfl rfl F34 (fun w F => (yld_move rfl (ev_g rfl))) ?_
        refine Hops.take 10 rfl (by kernel_rfl) (fun _ _ _ h => h) (gd_some rfl rfl) rfl rfl F34 (fun w F => (yld_move rfl (ev_t rfl))) ?_
        refine Hops.take 11 rfl (by kernel_rfl) (fun _ _ _ h => h) (gd_some rfl rfl) rfl rfl F34 (fun w F => (yld_move rfl (ev_g rfl))) ?_
        refine Hops.take 12 rfl (by kernel_rfl) (fun _ _ _ h => h) (gd_some rfl rfl) rfl rfl F34 (fun w F => (yld_loadN ag26 rfl (ev_t rfl) (fun _ => F.range (m := 5) (cs' := [_, _, _, _, _]) 0 rfl rfl) rfl)) ?_
        refine Hops.take 13 rfl (by kernel_rfl) (fun _ _ _ h => h) (gd_some rfl rfl) rfl rfl F34 (fun w F => (yld_loadN ag26 rfl (ev_t rfl) (fun _ => F.range (m := 5) (cs' := [_, _, _, _, _]) 6 rfl rfl) rfl)) ?_
        refine Hops.one 14 rfl (by kernel_rfl) (One.gcall (R := Chg No w19) (gd_some rfl rfl) rfl rfl (ent_f rfl (evl2 (ev_g rfl) (ev_g rfl)) (enters en20)) (Chg.refl _ _) (fun hg => valSame_ct (R2.getD zeroT) ta _ _ _ (F34.get 1 rfl).rep (rps_get (F34.get 7 rfl) 0 rfl)) ?_)
        intro w20 C20
        have F35 := F34.call C20
        refine ⟨F35, ?_⟩
        refine Hops.take 15 rfl (by kernel_rfl) (fun _ _ _ h => h) (gd_some rfl rfl) rfl rfl F35 (fun w F => (yld_and rfl (ev_g rfl) (ev_g rfl))) ?_
        refine Hops.take 16 rfl (by kernel_rfl) (fun _ _ _ h => h) (gd_some rfl rfl) rfl rfl F35 (fun w F => (yld_or rfl (ev_g rfl) (ev_g rfl))) ?_
        refine Hops.take 17 rfl (by kernel_rfl) (fun _ _ _ h => h) rfl rfl rfl F35 (fun w F => (yld_and rfl (ev_t rfl) (ev_g rfl))) ?_
        refine Hops.take 18 rfl (by kernel_rfl) (fun _ _ _ h => h) rfl rfl rfl F35 (fun w F => (yld_move rfl (ev_t rfl))) ?_
        refine Hops.take 19 rfl (by kernel_rfl) (fun _ _ _ h => h) (gd_some rfl rfl) rfl rfl F35 (fun w F => (yld_loadN ag26 rfl (ev_t rfl) (fun _ => F.range (m := 5) (cs' := [_, _, _, _, _]) 4 rfl rfl) rfl)) ?_
        refine Hops.take 21 rfl (by kernel_rfl) (fun _ _ _ h => h) (gd_some rfl rfl) rfl rfl F35 (fun w F => (yld_loadN ag26 rfl (ev_t rfl) (fun _ => F.range (m := 5) (cs' := [_, _, _, _, _]) 6 rfl rfl) rfl)) ?_
        refine Hops.one 20 rfl (by kernel_rfl) (One.gcall (R := Chg No w20) (gd_some rfl rfl) rfl rfl (ent_f rfl (evl1 (ev_g rfl)) (enters en13)) (Chg.refl _ _) (fun hg => valMany_ct (R1.getD zeroT) _ _ (F35.get 5 rfl).rep (okT_fit hO1) (okT_w hO1)) ?_)
        intro w21 C21
        have F36 := F35.call C21
        refine ⟨F36, ?_⟩
        refine Hops.one 22 rfl (by kernel_rfl) (One.gcall (R := Chg No w21) (gd_some rfl rfl) rfl rfl (ent_f rfl (evl1 (ev_g rfl)) (enters en13)) (Chg.refl _ _) (fun hg => valMany_ct ta _ _ (rps_get (F36.get 7 rfl) 0 rfl) hda.fit (by omega)) ?_)
        intro w22 C22
        have F37 := F36.call C22
        refine ⟨F37, ?_⟩
        refine Hops.take 23 rfl (by kernel_rfl) (fun _ _ _ h => h) (gd_some rfl rfl) rfl rfl F37 (fun w F => (yld_leq rfl (ev_g rfl) (ev_g rfl))) ?_
        refine Hops.take 24 rfl (by kernel_rfl) (fun _ _ _ h => h) rfl rfl rfl F37 (fun w F => (yld_and rfl (ev_t rfl) (ev_g rfl))) ?_
        refine Hops.one 25 rfl (by kernel_rfl) (One.val rfl rfl rfl (yld_assign rfl (ev_t rfl)) ?_)
        refine ⟨F37, ?_⟩
        refine Hops.nil (by kernel_rfl) fun a hS => ?_
        refine hK21 _ _ ?_ a hS
        refine Cod.ret fun a hS => ?_
        try simp only [Exit.then, Exit.inBlock]
        exact ret1 (t := 2) rfl hS rfl ⟨ret_b (fin hR1 hR2 hsome hi0 hc53), F37.chg⟩


theorem ownKnob_none : ownKnob Try.prog.godebug = none := by kernel_rfl
theorem params_ok : ∀ t ∈ Try.f4.params.toList, Try.prog.readableRec t = true ∧ t < Try.prog.types.size := by
  rw [Try.params4]
  intro t ht
  simp only [List.mem_cons, List.not_mem_nil, or_false] at ht
  rcases ht with rfl <;> exact ⟨by kernel_rfl, of_decide_eq_true (by kernel_rfl)⟩
set_option maxRecDepth 100000 in
theorem lifted (os : Os) (started : os.Started) (H : Type) (enc : TypeId × Value → H) :
    ReturnsInHanded {} Try.checked os 4 .any (Rows.fnRowFlatSpec.pre6 enc Try.prog Try.f4 Rows.fnRowFlatRow.domain false) (Rows.fnRowFlatSpec.post enc Try.prog Try.f4 false true false false) := by
  refine returnsInHanded_of_change (C := Try.checked) ownKnob_none started (by kernel_rfl) Try.func4
    (ChangeSpec.witness6 (enc := enc) (C := Try.checked) false ⟨#[], #[.slice none 0 0], []⟩ 8 (by kernel_rfl) (by kernel_rfl) (by kernel_rfl) (by kernel_rfl)) ?_
  intro W base args ds gs before hval0 hW hcnd _
  have hval : ∀ (j : Nat) t v, Try.f4.params[j]? = some t → args[j]? = some v → Value.okWide Try.prog W .any base t v := hval0
  have hW' := hW
  obtain ⟨p, q, hA0, hV, rfl, hfz, hnd⟩ := hW
  have hA : DataW.TrodAll enc Try.prog W 0 (fun _ => true) true Try.f4.params.toList args.toList ds p := hA0
  rw [Try.params4] at hA hval
  obtain ⟨v0, d0, rfl, rfl, h0⟩ := trodAll_one hA
  obtain ⟨rfl, rfl⟩ := trodVars_none hV
  obtain ⟨code, hp⟩ := open_bytes (hval 0 _ v0 rfl rfl) h0
  refine (walk code v0 W hp).mono fun e W' ⟨he, hc⟩ => ?_
  subst he
  exact ⟨_, rfl, post_chg laidOut rfl params_ok hW' (fun _ _ _ => (trodAll_cons_mk (shut_bool Try.underlying4 _) trodAll_mk0)) rfl rfl hc (ok_one (by kernel_rfl) rfl (okWide_bool_mk Try.underlying4 _))⟩

theorem over : Rows.fnRowFlatRow.holds Try.pinned (OpenSpec.ofChange Rows.fnRowFlatSpec) :=
  OpenClaim.holds_of_wide 4 Try.f4 rfl rfl rfl rfl rfl rfl rfl ⟨rfl, rfl, rfl, rfl, rfl⟩ rfl rfl rfl rfl rfl (by kernel_rfl) Try.func4 (by kernel_rfl)
    (of_decide_eq_true (by kernel_rfl)) (by unfold Func.isWrapper; first | (rw [if_pos (by decide +kernel)]; kernel_rfl) | (rw [if_neg (by decide +kernel)]; exact ⟨rfl, rfl⟩))
    (fun os started H enc _ => lifted os started H enc)

/-- The statement. -/
theorem proved : Rows.FnRowFlatSaid := over
#print axioms proved

end GRowFlat
end Go.Proofs.Ytphchpbfhcniaaa.Eng
