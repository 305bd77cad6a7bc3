/- FnPartNone returns true for all bytes: a tree has keys just if it has parts; nothing takes a part at a key or a place and then has that part alone. No condition. -/
import Derived.Test.YtmmgobhoakaaaaaLawP
import Derived.Test.YtmmgobhoakaaaaaDraw4
import Derived.Test.YtmmgobhoakaaaaaArgB
import Derived.Test.YtmmgobhoakaaaaaRows
namespace Go.Proofs.Ytmmgobhoakaaaaa.Eng
open Go.RowKit Go.ChangeShapes Go.WideShapes Go.ChangeAt
set_option linter.unusedVariables false
set_option linter.unusedSimpArgs false
set_option maxHeartbeats 1000000
set_option linter.constructorNameAsVariable false
namespace GPartNone


theorem one_at {w : World} {t : Tr} {l : List Tr} {A : Option Addr} {c : Nat} {b : Bool} (h : RepL Any w l (.slice A l.length c)) (hb : b = true → l = [t]) : ∃ bb o, ∃ y : V5, b = true → A = some ⟨bb, o, none⟩ ∧ w.rangeAt bb (o + 0 * 5) (enc5 y) ∧ Rep Any w t y.val ∧ l.length = 1 := by
  cases b with
  | false => exact ⟨0, 0, z5, fun h => by cases h⟩
  | true =>
    obtain rfl := hb rfl
    obtain ⟨b, o, x, rfl, -, hr, ht⟩ := at5 h 0 (by simp)
    exact ⟨b, o, x, fun _ => ⟨rfl, hr, ht, rfl⟩⟩
theorem no105 {t : Tr} {r : Option Tr} (hr : r = keysR t) (hc : ((r.isSome != eachB t) || (r.isSome != (okT t && decide (5 ≤ t.kind)))) = true) : False := by
  have e : r.isSome = (okT t && decide (5 ≤ t.kind)) := by
    rw [hr]
    unfold keysR
    by_cases h : okT t = true ∧ 5 ≤ t.kind
    · rw [if_pos h, h.1, decide_eq_true h.2]; rfl
    · rw [if_neg h]
      cases h1 : okT t
      · rfl
      · have : ¬ 5 ≤ t.kind := fun h2 => h ⟨h1, h2⟩
        simp [this]
  have e2 : eachB t = (okT t && decide (5 ≤ t.kind)) := rfl
  rw [e2, ← e] at hc
  simp at hc
theorem put0 {t : Tr} {k : ByteArray} {r : Option Tr} (hr : r = putR (.mk 0 0 ⟨#[]⟩ [] []) k t) : r.isSome = true → (r.getD zeroT).list = [t] := fun h => by
  obtain ⟨-, e, -⟩ := putR_some hr h
  rw [e]
  show putL [] [] k t = [t]
  exact putL_nil k t
theorem set0 {t : Tr} {r : Option Tr} (hr : r = setR (.mk 0 0 ⟨#[]⟩ [] []) t 0) : r.isSome = true → (r.getD zeroT).list = [t] := fun h => by
  subst hr
  unfold setR at h ⊢
  split at h
  · rename_i h1
    rw [if_pos h1]
    unfold toldR at h ⊢
    split at h
    · rename_i h2
      rw [if_pos h2]
      rfl
    · cases h
  · cases h
theorem no147 {r4 r5 r6 : Option Tr} {t : Tr} (h4 : r4.isSome = true → (r4.getD zeroT).list = [t]) (h5 : r5.isSome = true → (r5.getD zeroT).list = [t]) (h6 : r6 = partGetR (.mk 0 0 ⟨#[]⟩ [] []) ⟨#[107]⟩)
    (hc : ((((!r6.isSome) || ((r6.getD zeroT).kind != 0)) || (r4.isSome && (((r4.getD zeroT).list.length : Int) != 1))) || (r5.isSome && (((r5.getD zeroT).list.length : Int) != 1))) = true) : False := by
  have e : r6 = some zeroT := by
    rw [h6]
    unfold partGetR
    rw [show okT (.mk 0 0 ⟨#[]⟩ [] []) = true from okT_zeroT, show okS ⟨#[107]⟩ = true by decide]
    rfl
  have e0 : zeroT.kind = 0 := rfl
  rw [e] at hc
  cases q4 : r4.isSome <;> cases q5 : r5.isSome <;> simp [q4, q5, e0] at hc
  · rw [h5 q5] at hc; simp at hc
  · rw [h4 q4] at hc; simp at hc
  · rw [h5 q5, h4 q4] at hc; simp at hc
theorem fin20 {b c : Bool} {t : Tr} : ((!b) || (decide (t = t) && ((!c) || decide (t = t)))) = true := by cases b <;> cases c <;> simp

set_option maxHeartbeats 4000000 in
set_option maxRecDepth 100000 in
theorem walk (code : List UInt8) (v : Value) (w : World) (hp : RepE bCells 1 Any w code v) :
    Calls Try.prog 12 #[v] w fun e w' => e = .returned (.bool true) ∧ Chg No w w' := by
  obtain ⟨A, c, rfl, -⟩ := hp.open
  refine enter Try.func12 rfl rfl rfl ?_
  have F0 := Fr.start w
  refine Cod.seq fun K1 hK1 => ?_
  refine Cod.region ?_
  refine Ops.step (One.val rfl rfl rfl (yld_assign rfl ev_c) ?_)
  refine Ops.nil fun a hS => ?_
  refine hK1 _ _ ?_ a hS
  refine Cod.seq fun K2 hK2 => ?_
  refine Cod.seq fun K3 hK3 => ?_
  refine Cod.region ?_
  refine Ops.step (One.val rfl rfl rfl (yld_move rfl (ev_t rfl)) ?_)
  refine Ops.step (One.val rfl rfl rfl (yld_len sl22 rfl (ev_t rfl)) ?_)
  refine Ops.step (One.val rfl rfl rfl (yld_gtr rfl (ev_t rfl) ev_c) ?_)
  refine Ops.nil fun a hS => ?_
  refine hK3 _ _ ?_ a hS
  refine Cod.cond rfl (fun hc27 => ?_) (fun hc27 => ?_)
  · skip
    refine Cod.seq fun K4 hK4 => ?_
    refine Cod.region ?_
    refine Ops.step (One.val rfl rfl rfl (yld_assign rfl ev_c) ?_)
    refine Ops.nil fun a hS => ?_
    refine hK4 _ _ ?_ a hS
    refine Cod.ret fun a hS => ?_
    try simp only [Exit.then, Exit.inBlock]
    exact ret1 (t := 2) rfl hS rfl ⟨rfl, F0.chg⟩
  · skip
    refine Cod.skip fun a hS => ?_
    refine hK2 _ _ ?_ a hS
    refine Cod.seq fun K5 hK5 => ?_
    refine Cod.region ?_
    refine Ops.step (One.val rfl rfl rfl (yld_move rfl (ev_t rfl)) ?_)
    refine Ops.step (One.call rfl rfl rfl (ent_f rfl (evl1 (ev_t rfl)) (enters en52)) (drawGet_ct code _ _ (hp.chg F0.chg)) (fun e w1 hw1 => ?_))
    obtain ⟨xa, ta, key, rfl, C1, hrsa, hda, hkey⟩ := hw1
    have hwa := hda.wt
    obtain ⟨Grsa, hGa⟩ : ∃ G, G = New w w1 := ⟨_, rfl⟩
    rw [← hGa] at hrsa
    obtain ⟨A3a, c3a, A4a, c4a, hxa⟩ := rep_x (rps_get hrsa 0 rfl)
    subst hxa
    have F1 := F0.new C1 (rps Grsa [(ta, (x5 ta.kind ta.num ta.str (.slice A3a ta.keys.length c3a) (.slice A4a ta.list.length c4a)).val)]) hrsa (by rw [hGa]; exact New.new)
    refine ⟨_, rfl, ?_⟩
    refine Ops.step (One.val rfl rfl rfl (yld_move rfl (ev_t rfl)) ?_)
    refine Ops.step (One.val rfl rfl rfl (yld_extract rfl (ev_t rfl) rfl) ?_)
    refine Ops.step (One.val rfl rfl rfl (yld_extract rfl (ev_t rfl) rfl) ?_)
    refine Ops.step (One.alloc F1 zero26 rfl rfl rfl rfl ?_)
    intro b1 w2 hb1 F2
    change Fr _ _ [blk _ _ [_, _, _, _, _], _] _ at F2
    refine Ops.step (One.storeN (vs := [_, _, _, _, _]) F2 0 rfl sz26 rfl rfl rfl (ev_t rfl) (ev_t rfl) rfl rfl (rps_oneC (F2.get 1 rfl) 0 rfl) ?_)
    intro w3 F3
    change Fr _ _ [blk _ _ [_, _, _, _, _], _] _ at F3
    refine Ops.step (One.val rfl rfl rfl (yld_assign rfl (ev_t rfl)) ?_)
    refine Ops.nil fun a hS => ?_
    refine hK5 _ _ ?_ a hS
    refine Cod.seq fun K6 hK6 => ?_
    refine Cod.region ?_
    refine Ops.step (One.val rfl rfl rfl (yld_move rfl (ev_t rfl)) ?_)
    refine Ops.step (One.call rfl rfl rfl (ent_f rfl (evl1 (ev_t rfl)) (enters en53)) (drawAt_ct code _ _ (hp.chg F3.chg)) (fun e w4 hw4 => ?_))
    obtain ⟨xp, tp, an, rfl, C4, hrsp, hdp, han⟩ := hw4
    have hwp := hdp.wt
    obtain ⟨Grsp, hGp⟩ : ∃ G, G = New w3 w4 := ⟨_, rfl⟩
    rw [← hGp] at hrsp
    obtain ⟨A3p, c3p, A4p, c4p, hxp⟩ := rep_x (rps_get hrsp 0 rfl)
    subst hxp
    have F4 := F3.new C4 (rps Grsp [(tp, (x5 tp.kind tp.num tp.str (.slice A3p tp.keys.length c3p) (.slice A4p tp.list.length c4p)).val)]) hrsp (by rw [hGp]; exact New.new)
    refine ⟨_, rfl, ?_⟩
    refine Ops.step (One.val rfl rfl rfl (yld_move rfl (ev_t rfl)) ?_)
    refine Ops.step (One.val rfl rfl rfl (yld_extract rfl (ev_t rfl) rfl) ?_)
    refine Ops.step (One.val rfl rfl rfl (yld_extract rfl (ev_t rfl) rfl) ?_)
    refine Ops.step (One.alloc F4 zero26 rfl rfl rfl rfl ?_)
    intro b2 w5 hb2 F5
    change Fr _ _ [blk _ _ [_, _, _, _, _], _, blk _ _ [_, _, _, _, _], _] _ at F5
    refine Ops.step (One.storeN (vs := [_, _, _, _, _]) F5 0 rfl sz26 rfl rfl rfl (ev_t rfl) (ev_t rfl) rfl rfl (rps_oneC (F5.get 1 rfl) 0 rfl) ?_)
    intro w6 F6
    change Fr _ _ [blk _ _ [_, _, _, _, _], _, blk _ _ [_, _, _, _, _], _] _ at F6
    refine Ops.step (One.val rfl rfl rfl (yld_assign rfl (ev_t rfl)) ?_)
    refine Ops.nil fun a hS => ?_
    refine hK6 _ _ ?_ a hS
    refine Cod.seq fun K7 hK7 => ?_
    refine Cod.region ?_
    refine Ops.step (One.val rfl rfl rfl (yld_loadN ag26 rfl (ev_t rfl) (fun _ => F6.range (m := 5) (cs' := [_, _, _, _, _]) 2 rfl rfl) rfl) ?_)
    refine Ops.step (One.val rfl rfl rfl (yld_move rfl (ev_t rfl)) ?_)
    refine Ops.step (One.call rfl rfl rfl (ent_f rfl (evl2 (ev_t rfl) (ev_t rfl)) (enters en27)) (partGet_ct ta key (by omega) _ _ (rps_get (F6.get 3 rfl) 0 rfl) hda.fit (by omega)) (fun e w7 hw7 => ?_))
    obtain ⟨R1, hR1⟩ : ∃ R, R = partGetR ta key := ⟨_, rfl⟩
    have hO1 : okT (R1.getD zeroT) = true := by rw [hR1]; exact partGetR_ok ta key
    rw [← hR1] at hw7
    obtain ⟨e1, E1, rfl, C7, hE1, hEb1⟩ := hw7
    obtain ⟨A3e1, c3e1, A4e1, c4e1, hxe1⟩ := rep_x hE1.rep
    subst hxe1
    have F7 := F6.new C7 (sep E1 (R1.getD zeroT) (x5 (R1.getD zeroT).kind (R1.getD zeroT).num (R1.getD zeroT).str (.slice A3e1 (R1.getD zeroT).keys.length c3e1) (.slice A4e1 (R1.getD zeroT).list.length c4e1)).val) hE1 hEb1
    refine ⟨_, rfl, ?_⟩
    refine Ops.step (One.val rfl rfl rfl (yld_move rfl (ev_t rfl)) ?_)
    refine Ops.step (One.val rfl rfl rfl (yld_extract rfl (ev_t rfl) rfl) ?_)
    refine Ops.step (One.val rfl rfl rfl (yld_extract rfl (ev_t rfl) rfl) ?_)
    refine Ops.step (One.alloc F7 zero26 rfl rfl rfl rfl ?_)
    intro b3 w8 hb3 F8
    change Fr _ _ [blk _ _ [_, _, _, _, _], _, blk _ _ [_, _, _, _, _], _, blk _ _ [_, _, _, _, _], _] _ at F8
    refine Ops.step (One.storeN (vs := [_, _, _, _, _]) F8 0 rfl sz26 rfl rfl rfl (ev_t rfl) (ev_t rfl) rfl rfl (Sep.one (x := (x5 (R1.getD zeroT).kind (R1.getD zeroT).num (R1.getD zeroT).str (.slice A3e1 (R1.getD zeroT).keys.length c3e1) (.slice A4e1 (R1.getD zeroT).list.length c4e1))) (F8.get 1 rfl)) ?_)
    intro w9 F9
    change Fr _ _ [blk _ _ [_, _, _, _, _], _, blk _ _ [_, _, _, _, _], _, blk _ _ [_, _, _, _, _], _] _ at F9
    refine Ops.step (One.val rfl rfl rfl (yld_assign rfl (ev_t rfl)) ?_)
    refine Ops.nil fun a hS => ?_
    refine hK7 _ _ ?_ a hS
    refine Cod.seq fun K8 hK8 => ?_
    refine Cod.region ?_
    refine Ops.step (One.val rfl rfl rfl (yld_loadN ag26 rfl (ev_t rfl) (fun _ => F9.range (m := 5) (cs' := [_, _, _, _, _]) 4 rfl rfl) rfl) ?_)
    refine Ops.step (One.val rfl rfl rfl (yld_move rfl (ev_t rfl)) ?_)
    refine Ops.step (One.call rfl rfl rfl (ent_f rfl (evl2 (ev_t rfl) (ev_t rfl)) (enters en54)) (specPartGet_ct ta key (by omega) _ _ (rps_get (F9.get 5 rfl) 0 rfl) hda.fit (by omega)) (fun e w10 hw10 => ?_))
    rw [← hR1] at hw10
    obtain ⟨e2, E2, rfl, C10, hE2, hEb2⟩ := hw10
    obtain ⟨A3e2, c3e2, A4e2, c4e2, hxe2⟩ := rep_x hE2.rep
    subst hxe2
    have F10 := F9.new C10 (sep E2 (R1.getD zeroT) (x5 (R1.getD zeroT).kind (R1.getD zeroT).num (R1.getD zeroT).str (.slice A3e2 (R1.getD zeroT).keys.length c3e2) (.slice A4e2 (R1.getD zeroT).list.length c4e2)).val) hE2 hEb2
    refine ⟨_, rfl, ?_⟩
    refine Ops.step (One.val rfl rfl rfl (yld_move rfl (ev_t rfl)) ?_)
    refine Ops.step (One.val rfl rfl rfl (yld_extract rfl (ev_t rfl) rfl) ?_)
    refine Ops.step (One.val rfl rfl rfl (yld_extract rfl (ev_t rfl) rfl) ?_)
    refine Ops.step (One.alloc F10 zero26 rfl rfl rfl rfl ?_)
    intro b4 w11 hb4 F11
    change Fr _ _ [blk _ _ [_, _, _, _, _], _, blk _ _ [_, _, _, _, _], _, blk _ _ [_, _, _, _, _], _, blk _ _ [_, _, _, _, _], _] _ at F11
    refine Ops.step (One.storeN (vs := [_, _, _, _, _]) F11 0 rfl sz26 rfl rfl rfl (ev_t rfl) (ev_t rfl) rfl rfl (Sep.one (x := (x5 (R1.getD zeroT).kind (R1.getD zeroT).num (R1.getD zeroT).str (.slice A3e2 (R1.getD zeroT).keys.length c3e2) (.slice A4e2 (R1.getD zeroT).list.length c4e2))) (F11.get 1 rfl)) ?_)
    intro w12 F12
    change Fr _ _ [blk _ _ [_, _, _, _, _], _, blk _ _ [_, _, _, _, _], _, blk _ _ [_, _, _, _, _], _, blk _ _ [_, _, _, _, _], _] _ at F12
    refine Ops.step (One.val rfl rfl rfl (yld_assign rfl (ev_t rfl)) ?_)
    refine Ops.nil fun a hS => ?_
    refine hK8 _ _ ?_ a hS
    refine Cod.seq fun K9 hK9 => ?_
    refine Cod.region ?_
    refine Ops.step (One.val rfl rfl rfl (yld_loadN ag26 rfl (ev_t rfl) (fun _ => F12.range (m := 5) (cs' := [_, _, _, _, _]) 4 rfl rfl) rfl) ?_)
    refine Ops.step (One.val rfl rfl rfl (yld_move rfl (ev_t rfl)) ?_)
    refine Ops.step (One.call rfl rfl rfl (ent_f rfl (evl2 (ev_t rfl) (ev_t rfl)) (enters en42)) (partAt_ct tp an han _ _ (rps_get (F12.get 5 rfl) 0 rfl) hdp.fit (by omega)) (fun e w13 hw13 => ?_))
    obtain ⟨R2, hR2⟩ : ∃ R, R = partAtR tp an := ⟨_, rfl⟩
    have hO2 : okT (R2.getD zeroT) = true := by rw [hR2]; exact partAtR_ok tp an
    rw [← hR2] at hw13
    obtain ⟨e3, E3, rfl, C13, hE3, hEb3⟩ := hw13
    obtain ⟨A3e3, c3e3, A4e3, c4e3, hxe3⟩ := rep_x hE3.rep
    subst hxe3
    have F13 := F12.new C13 (sep E3 (R2.getD zeroT) (x5 (R2.getD zeroT).kind (R2.getD zeroT).num (R2.getD zeroT).str (.slice A3e3 (R2.getD zeroT).keys.length c3e3) (.slice A4e3 (R2.getD zeroT).list.length c4e3)).val) hE3 hEb3
    refine ⟨_, rfl, ?_⟩
    refine Ops.step (One.val rfl rfl rfl (yld_move rfl (ev_t rfl)) ?_)
    refine Ops.step (One.val rfl rfl rfl (yld_extract rfl (ev_t rfl) rfl) ?_)
    refine Ops.step (One.val rfl rfl rfl (yld_extract rfl (ev_t rfl) rfl) ?_)
    refine Ops.step (One.alloc F13 zero26 rfl rfl rfl rfl ?_)
    intro b5 w14 hb5 F14
    change Fr _ _ [blk _ _ [_, _, _, _, _], _, blk _ _ [_, _, _, _, _], _, blk _ _ [_, _, _, _, _], _, blk _ _ [_, _, _, _, _], _, blk _ _ [_, _, _, _, _], _] _ at F14
    refine Ops.step (One.storeN (vs := [_, _, _, _, _]) F14 0 rfl sz26 rfl rfl rfl (ev_t rfl) (ev_t rfl) rfl rfl (Sep.one (x := (x5 (R2.getD zeroT).kind (R2.getD zeroT).num (R2.getD zeroT).str (.slice A3e3 (R2.getD zeroT).keys.length c3e3) (.slice A4e3 (R2.getD zeroT).list.length c4e3))) (F14.get 1 rfl)) ?_)
    intro w15 F15
    change Fr _ _ [blk _ _ [_, _, _, _, _], _, blk _ _ [_, _, _, _, _], _, blk _ _ [_, _, _, _, _], _, blk _ _ [_, _, _, _, _], _, blk _ _ [_, _, _, _, _], _] _ at F15
    refine Ops.step (One.val rfl rfl rfl (yld_assign rfl (ev_t rfl)) ?_)
    refine Ops.nil fun a hS => ?_
    refine hK9 _ _ ?_ a hS
    refine Cod.seq fun K10 hK10 => ?_
    refine Cod.region ?_
    refine Ops.step (One.val rfl rfl rfl (yld_loadN ag26 rfl (ev_t rfl) (fun _ => F15.range (m := 5) (cs' := [_, _, _, _, _]) 6 rfl rfl) rfl) ?_)
    refine Ops.step (One.val rfl rfl rfl (yld_move rfl (ev_t rfl)) ?_)
    refine Ops.step (One.call rfl rfl rfl (ent_f rfl (evl2 (ev_t rfl) (ev_t rfl)) (enters en55)) (specPartAt_ct tp an han _ _ (rps_get (F15.get 7 rfl) 0 rfl) hdp.fit (by omega)) (fun e w16 hw16 => ?_))
    rw [← hR2] at hw16
    obtain ⟨e4, E4, rfl, C16, hE4, hEb4⟩ := hw16
    obtain ⟨A3e4, c3e4, A4e4, c4e4, hxe4⟩ := rep_x hE4.rep
    subst hxe4
    have F16 := F15.new C16 (sep E4 (R2.getD zeroT) (x5 (R2.getD zeroT).kind (R2.getD zeroT).num (R2.getD zeroT).str (.slice A3e4 (R2.getD zeroT).keys.length c3e4) (.slice A4e4 (R2.getD zeroT).list.length c4e4)).val) hE4 hEb4
    refine ⟨_, rfl, ?_⟩
    refine Ops.step (One.val rfl rfl rfl (yld_move rfl (ev_t rfl)) ?_)
    refine Ops.step (One.val rfl rfl rfl (yld_extract rfl (ev_t rfl) rfl) ?_)
    refine Ops.step (One.val rfl rfl rfl (yld_extract rfl (ev_t rfl) rfl) ?_)
    refine Ops.step (One.alloc F16 zero26 rfl rfl rfl rfl ?_)
    intro b6 w17 hb6 F17
    change Fr _ _ [blk _ _ [_, _, _, _, _], _, blk _ _ [_, _, _, _, _], _, blk _ _ [_, _, _, _, _], _, blk _ _ [_, _, _, _, _], _, blk _ _ [_, _, _, _, _], _, blk _ _ [_, _, _, _, _], _] _ at F17
    refine Ops.step (One.storeN (vs := [_, _, _, _, _]) F17 0 rfl sz26 rfl rfl rfl (ev_t rfl) (ev_t rfl) rfl rfl (Sep.one (x := (x5 (R2.getD zeroT).kind (R2.getD zeroT).num (R2.getD zeroT).str (.slice A3e4 (R2.getD zeroT).keys.length c3e4) (.slice A4e4 (R2.getD zeroT).list.length c4e4))) (F17.get 1 rfl)) ?_)
    intro w18 F18
    change Fr _ _ [blk _ _ [_, _, _, _, _], _, blk _ _ [_, _, _, _, _], _, blk _ _ [_, _, _, _, _], _, blk _ _ [_, _, _, _, _], _, blk _ _ [_, _, _, _, _], _, blk _ _ [_, _, _, _, _], _] _ at F18
    refine Ops.step (One.val rfl rfl rfl (yld_assign rfl (ev_t rfl)) ?_)
    refine Ops.nil fun a hS => ?_
    refine hK10 _ _ ?_ a hS
    refine Cod.seq fun K11 hK11 => ?_
    refine Cod.seq fun K12 hK12 => ?_
    refine Cod.region ?_
    refine Ops.step (One.val rfl rfl rfl (yld_move rfl (ev_t rfl)) ?_)
    refine Ops.step (One.val rfl rfl rfl (yld_move rfl (ev_t rfl)) ?_)
    refine Ops.step (One.val rfl rfl rfl (yld_bneq Try.underlying4 rfl (ev_t rfl) (ev_t rfl)) ?_)
    refine Ops.step (One.val rfl rfl rfl (yld_move rfl (ev_t rfl)) ?_)
    refine Ops.step (One.val (gd_some rfl rfl) rfl rfl (yld_loadN ag26 rfl (ev_t rfl) (fun _ => F18.range (m := 5) (cs' := [_, _, _, _, _]) 6 rfl rfl) rfl) ?_)
    refine Ops.step (One.val (gd_some rfl rfl) rfl rfl (yld_loadN ag26 rfl (ev_t rfl) (fun _ => F18.range (m := 5) (cs' := [_, _, _, _, _]) 4 rfl rfl) rfl) ?_)
    refine Ops.step (One.gcall (R := Chg No w18) (gd_some rfl rfl) rfl rfl (ent_f rfl (evl2 (ev_g rfl) (ev_g rfl)) (enters en17)) (Chg.refl _ _) (fun hg => valSame_ct (R1.getD zeroT) (R1.getD zeroT) _ _ _ (F18.get 7 rfl).rep (F18.get 5 rfl).rep) ?_)
    intro w19 C19
    have F19 := F18.call C19
    refine Ops.step (One.val (gd_some rfl rfl) rfl rfl (yld_not rfl (ev_g rfl)) ?_)
    refine Ops.step (One.val rfl rfl rfl (yld_or rfl (ev_t rfl) (ev_g rfl)) ?_)
    refine Ops.step (One.val rfl rfl rfl (yld_move rfl (ev_t rfl)) ?_)
    refine Ops.step (One.val (gd_some rfl rfl) rfl rfl (yld_move rfl (ev_t rfl)) ?_)
    refine Ops.step (One.val (gd_some rfl rfl) rfl rfl (yld_move rfl (ev_t rfl)) ?_)
    refine Ops.step (One.val (gd_some rfl rfl) rfl rfl (yld_bneq Try.underlying4 rfl (ev_g rfl) (ev_g rfl)) ?_)
    refine Ops.step (One.val rfl rfl rfl (yld_or rfl (ev_t rfl) (ev_g rfl)) ?_)
    refine Ops.step (One.val rfl rfl rfl (yld_move rfl (ev_t rfl)) ?_)
    refine Ops.step (One.val (gd_some rfl rfl) rfl rfl (yld_loadN ag26 rfl (ev_t rfl) (fun _ => F19.range (m := 5) (cs' := [_, _, _, _, _]) 2 rfl rfl) rfl) ?_)
    refine Ops.step (One.val (gd_some rfl rfl) rfl rfl (yld_loadN ag26 rfl (ev_t rfl) (fun _ => F19.range (m := 5) (cs' := [_, _, _, _, _]) 0 rfl rfl) rfl) ?_)
    refine Ops.step (One.gcall (R := Chg No w19) (gd_some rfl rfl) rfl rfl (ent_f rfl (evl2 (ev_g rfl) (ev_g rfl)) (enters en17)) (Chg.refl _ _) (fun hg => valSame_ct (R2.getD zeroT) (R2.getD zeroT) _ _ _ (F19.get 3 rfl).rep (F19.get 1 rfl).rep) ?_)
    intro w20 C20
    have F20 := F19.call C20
    refine Ops.step (One.val (gd_some rfl rfl) rfl rfl (yld_not rfl (ev_g rfl)) ?_)
    refine Ops.step (One.val rfl rfl rfl (yld_or rfl (ev_t rfl) (ev_g rfl)) ?_)
    refine Ops.nil fun a hS => ?_
    refine hK12 _ _ ?_ a hS
    refine Cod.cond rfl (fun hc81 => ?_) (fun hc81 => ?_)
    · skip
      simp at hc81
    · skip
      skip
      refine Cod.skip fun a hS => ?_
      refine hK11 _ _ ?_ a hS
      refine Cod.seq fun K13 hK13 => ?_
      refine Cod.region ?_
      refine Ops.step (One.val rfl rfl rfl (yld_loadN ag26 rfl (ev_t rfl) (fun _ => F20.range (m := 5) (cs' := [_, _, _, _, _]) 10 rfl rfl) rfl) ?_)
      refine Ops.step (One.call rfl rfl rfl (ent_f rfl (evl1 (ev_t rfl)) (enters en56)) (keys_ct ta _ _ (rps_get (F20.get 11 rfl) 0 rfl) hda.fit (by omega)) (fun e w21 hw21 => ?_))
      obtain ⟨R3, hR3⟩ : ∃ R, R = keysR ta := ⟨_, rfl⟩
      have hO3 : okT (R3.getD zeroT) = true := by rw [hR3]; exact keysR_ok _ hda.fit
      rw [← hR3] at hw21
      obtain ⟨e5, E5, rfl, C21, hE5, hEb5⟩ := hw21
      obtain ⟨A3e5, c3e5, A4e5, c4e5, hxe5⟩ := rep_x hE5.rep
      subst hxe5
      have F21 := F20.new C21 (sep E5 (R3.getD zeroT) (x5 (R3.getD zeroT).kind (R3.getD zeroT).num (R3.getD zeroT).str (.slice A3e5 (R3.getD zeroT).keys.length c3e5) (.slice A4e5 (R3.getD zeroT).list.length c4e5)).val) hE5 hEb5
      refine ⟨_, rfl, ?_⟩
      refine Ops.step (One.val rfl rfl rfl (yld_move rfl (ev_t rfl)) ?_)
      refine Ops.step (One.val rfl rfl rfl (yld_extract rfl (ev_t rfl) rfl) ?_)
      refine Ops.step (One.val rfl rfl rfl (yld_extract rfl (ev_t rfl) rfl) ?_)
      refine Ops.step (One.alloc F21 zero26 rfl rfl rfl rfl ?_)
      intro b7 w22 hb7 F22
      change Fr _ _ [blk _ _ [_, _, _, _, _], _, blk _ _ [_, _, _, _, _], _, blk _ _ [_, _, _, _, _], _, blk _ _ [_, _, _, _, _], _, blk _ _ [_, _, _, _, _], _, blk _ _ [_, _, _, _, _], _, blk _ _ [_, _, _, _, _], _] _ at F22
      refine Ops.step (One.storeN (vs := [_, _, _, _, _]) F22 0 rfl sz26 rfl rfl rfl (ev_t rfl) (ev_t rfl) rfl rfl (Sep.one (x := (x5 (R3.getD zeroT).kind (R3.getD zeroT).num (R3.getD zeroT).str (.slice A3e5 (R3.getD zeroT).keys.length c3e5) (.slice A4e5 (R3.getD zeroT).list.length c4e5))) (F22.get 1 rfl)) ?_)
      intro w23 F23
      change Fr _ _ [blk _ _ [_, _, _, _, _], _, blk _ _ [_, _, _, _, _], _, blk _ _ [_, _, _, _, _], _, blk _ _ [_, _, _, _, _], _, blk _ _ [_, _, _, _, _], _, blk _ _ [_, _, _, _, _], _, blk _ _ [_, _, _, _, _], _] _ at F23
      refine Ops.step (One.val rfl rfl rfl (yld_assign rfl (ev_t rfl)) ?_)
      refine Ops.nil fun a hS => ?_
      refine hK13 _ _ ?_ a hS
      refine Cod.seq fun K14 hK14 => ?_
      refine Cod.region ?_
      refine Ops.step (One.val rfl rfl rfl (yld_loadN ag26 rfl (ev_t rfl) (fun _ => F23.range (m := 5) (cs' := [_, _, _, _, _]) 12 rfl rfl) rfl) ?_)
      refine Ops.step (One.call rfl rfl rfl (ent_f rfl (evl1 (ev_t rfl)) (enters en57)) (each_ct ta _ _ (rps_get (F23.get 13 rfl) 0 rfl) hda.fit (by omega)) (fun e w24 hw24 => ?_))
      obtain ⟨ea1, Ea1, rfl, C24, hEa1, hEab1⟩ := hw24
      have F24 := F23.new C24 (sepL Ea1 (eachL ta) ea1) hEa1 hEab1
      refine ⟨_, rfl, ?_⟩
      refine Ops.step (One.val rfl rfl rfl (yld_move rfl (ev_t rfl)) ?_)
      refine Ops.step (One.val rfl rfl rfl (yld_extract rfl (ev_t rfl) rfl) ?_)
      refine Ops.step (One.val rfl rfl rfl (yld_extract rfl (ev_t rfl) rfl) ?_)
      refine Ops.step (One.val rfl rfl rfl (yld_assign rfl (ev_t rfl)) ?_)
      refine Ops.step (One.val rfl rfl rfl (yld_assign rfl (ev_t rfl)) ?_)
      refine Ops.nil fun a hS => ?_
      refine hK14 _ _ ?_ a hS
      refine Cod.seq fun K15 hK15 => ?_
      refine Cod.seq fun K16 hK16 => ?_
      refine Cod.region ?_
      refine Ops.step (One.val rfl rfl rfl (yld_move rfl (ev_t rfl)) ?_)
      refine Ops.step (One.val rfl rfl rfl (yld_move rfl (ev_t rfl)) ?_)
      refine Ops.step (One.val rfl rfl rfl (yld_bneq Try.underlying4 rfl (ev_t rfl) (ev_t rfl)) ?_)
      refine Ops.step (One.val rfl rfl rfl (yld_move rfl (ev_t rfl)) ?_)
      refine Ops.step (One.val (gd_some rfl rfl) rfl rfl (yld_move rfl (ev_t rfl)) ?_)
      refine Ops.step (One.val (gd_some rfl rfl) rfl rfl (yld_loadN ag26 rfl (ev_t rfl) (fun _ => F24.range (m := 5) (cs' := [_, _, _, _, _]) 13 rfl rfl) rfl) ?_)
      refine Ops.step (One.gcall (R := Chg No w24) (gd_some rfl rfl) rfl rfl (ent_f rfl (evl1 (ev_g rfl)) (enters en35)) (Chg.refl _ _) (fun hg => specOk_ct ta _ _ (rps_get (F24.get 14 rfl) 0 rfl) hda.fit (by omega)) ?_)
      intro w25 C25
      have F25 := F24.call C25
      refine Ops.step (One.val (gd_some rfl rfl) rfl rfl (yld_move rfl (ev_g rfl)) ?_)
      refine Ops.step (One.val (gd_some rfl rfl) rfl rfl (yld_field fi26_0 rfl (ev_t rfl)) ?_)
      refine Ops.step (One.val (gd_some rfl rfl) rfl rfl (yld_load1 on3 rfl (ev_g rfl) (fun _ => F25.cell 13 rfl rfl)) ?_)
      refine Ops.step (One.val (gd_some rfl rfl) rfl rfl (yld_geq rfl (ev_g rfl) ev_c) ?_)
      refine Ops.step (One.val (gd_some rfl rfl) rfl rfl (yld_and rfl (ev_g rfl) (ev_g rfl)) ?_)
      refine Ops.step (One.val (gd_some rfl rfl) rfl rfl (yld_bneq Try.underlying4 rfl (ev_g rfl) (ev_g rfl)) ?_)
      refine Ops.step (One.val rfl rfl rfl (yld_or rfl (ev_t rfl) (ev_g rfl)) ?_)
      refine Ops.nil fun a hS => ?_
      refine hK16 _ _ ?_ a hS
      refine Cod.cond rfl (fun hc105 => ?_) (fun hc105 => ?_)
      · skip
        exact (no105 hR3 hc105).elim
      · skip
        skip
        refine Cod.skip fun a hS => ?_
        refine hK15 _ _ ?_ a hS
        refine Cod.seq fun K17 hK17 => ?_
        refine Cod.region ?_
        refine Ops.step (One.val rfl rfl rfl (yld_build (cells := [.int .i64 0, .int .i64 0, .string ⟨#[]⟩, .slice none 0 0, .slice none 0 0]) rfl (evp0) (by kernel_rfl)) ?_)
        refine Ops.step (One.val rfl rfl rfl (yld_loadN ag26 rfl (ev_t rfl) (fun _ => F25.range (m := 5) (cs' := [_, _, _, _, _]) 13 rfl rfl) rfl) ?_)
        refine Ops.step (One.call rfl rfl rfl (ent_f rfl (evl3 (ev_t rfl) ev_c (ev_t rfl)) (enters en25)) (partPut_ct (Tr.mk 0 0 ⟨#[]⟩ [] []) ta ⟨#[107]⟩ (by decide) _ _ _ (rep_leaf _ 0 0 ⟨#[]⟩) (rps_get (F25.get 14 rfl) 0 rfl) (leaf_fit 0 0 (by decide)) hda.fit (leaf_wt 0 0 (by decide)) (by omega)) (fun e w26 hw26 => ?_))
        obtain ⟨R4, hR4⟩ : ∃ R, R = putR (Tr.mk 0 0 ⟨#[]⟩ [] []) ⟨#[107]⟩ ta := ⟨_, rfl⟩
        have hO4 : okT (R4.getD zeroT) = true := by rw [hR4]; exact putR_ok (Tr.mk 0 0 ⟨#[]⟩ [] []) ⟨#[107]⟩ ta
        rw [← hR4] at hw26
        obtain ⟨e6, E6, rfl, C26, hE6, hEb6⟩ := hw26
        obtain ⟨A3e6, c3e6, A4e6, c4e6, hxe6⟩ := rep_x hE6.rep
        subst hxe6
        have F26 := F25.new C26 (sep E6 (R4.getD zeroT) (x5 (R4.getD zeroT).kind (R4.getD zeroT).num (R4.getD zeroT).str (.slice A3e6 (R4.getD zeroT).keys.length c3e6) (.slice A4e6 (R4.getD zeroT).list.length c4e6)).val) hE6 hEb6
        refine ⟨_, rfl, ?_⟩
        refine Ops.step (One.val rfl rfl rfl (yld_move rfl (ev_t rfl)) ?_)
        refine Ops.step (One.val rfl rfl rfl (yld_extract rfl (ev_t rfl) rfl) ?_)
        refine Ops.step (One.val rfl rfl rfl (yld_extract rfl (ev_t rfl) rfl) ?_)
        refine Ops.step (One.alloc F26 zero26 rfl rfl rfl rfl ?_)
        intro b8 w27 hb8 F27
        change Fr _ _ [blk _ _ [_, _, _, _, _], _, _, blk _ _ [_, _, _, _, _], _, blk _ _ [_, _, _, _, _], _, blk _ _ [_, _, _, _, _], _, blk _ _ [_, _, _, _, _], _, blk _ _ [_, _, _, _, _], _, blk _ _ [_, _, _, _, _], _, blk _ _ [_, _, _, _, _], _] _ at F27
        refine Ops.step (One.storeN (vs := [_, _, _, _, _]) F27 0 rfl sz26 rfl rfl rfl (ev_t rfl) (ev_t rfl) rfl rfl (Sep.one (x := (x5 (R4.getD zeroT).kind (R4.getD zeroT).num (R4.getD zeroT).str (.slice A3e6 (R4.getD zeroT).keys.length c3e6) (.slice A4e6 (R4.getD zeroT).list.length c4e6))) (F27.get 1 rfl)) ?_)
        intro w28 F28
        change Fr _ _ [blk _ _ [_, _, _, _, _], _, _, blk _ _ [_, _, _, _, _], _, blk _ _ [_, _, _, _, _], _, blk _ _ [_, _, _, _, _], _, blk _ _ [_, _, _, _, _], _, blk _ _ [_, _, _, _, _], _, blk _ _ [_, _, _, _, _], _, blk _ _ [_, _, _, _, _], _] _ at F28
        refine Ops.step (One.val rfl rfl rfl (yld_assign rfl (ev_t rfl)) ?_)
        refine Ops.nil fun a hS => ?_
        refine hK17 _ _ ?_ a hS
        refine Cod.seq fun K18 hK18 => ?_
        refine Cod.region ?_
        refine Ops.step (One.val rfl rfl rfl (yld_build (cells := [.int .i64 0, .int .i64 0, .string ⟨#[]⟩, .slice none 0 0, .slice none 0 0]) rfl (evp0) (by kernel_rfl)) ?_)
        refine Ops.step (One.val rfl rfl rfl (yld_loadN ag26 rfl (ev_t rfl) (fun _ => F28.range (m := 5) (cs' := [_, _, _, _, _]) 15 rfl rfl) rfl) ?_)
        refine Ops.step (One.call rfl rfl rfl (ent_f rfl (evl3 (ev_t rfl) ev_c (ev_t rfl)) (enters en40)) (set_ct (Tr.mk 0 0 ⟨#[]⟩ [] []) ta 0 (by omega) _ _ _ (rep_leaf _ 0 0 ⟨#[]⟩) (rps_get (F28.get 16 rfl) 0 rfl) (leaf_fit 0 0 (by decide)) hda.fit (leaf_wt 0 0 (by decide)) (by omega)) (fun e w29 hw29 => ?_))
        obtain ⟨R5, hR5⟩ : ∃ R, R = setR (Tr.mk 0 0 ⟨#[]⟩ [] []) ta 0 := ⟨_, rfl⟩
        have hO5 : okT (R5.getD zeroT) = true := by rw [hR5]; exact setR_ok (Tr.mk 0 0 ⟨#[]⟩ [] []) ta 0
        rw [← hR5] at hw29
        obtain ⟨e7, E7, rfl, C29, hE7, hEb7⟩ := hw29
        obtain ⟨A3e7, c3e7, A4e7, c4e7, hxe7⟩ := rep_x hE7.rep
        subst hxe7
        have F29 := F28.new C29 (sep E7 (R5.getD zeroT) (x5 (R5.getD zeroT).kind (R5.getD zeroT).num (R5.getD zeroT).str (.slice A3e7 (R5.getD zeroT).keys.length c3e7) (.slice A4e7 (R5.getD zeroT).list.length c4e7)).val) hE7 hEb7
        refine ⟨_, rfl, ?_⟩
        refine Ops.step (One.val rfl rfl rfl (yld_move rfl (ev_t rfl)) ?_)
        refine Ops.step (One.val rfl rfl rfl (yld_extract rfl (ev_t rfl) rfl) ?_)
        refine Ops.step (One.val rfl rfl rfl (yld_extract rfl (ev_t rfl) rfl) ?_)
        refine Ops.step (One.alloc F29 zero26 rfl rfl rfl rfl ?_)
        intro b9 w30 hb9 F30
        change Fr _ _ [blk _ _ [_, _, _, _, _], _, blk _ _ [_, _, _, _, _], _, _, blk _ _ [_, _, _, _, _], _, blk _ _ [_, _, _, _, _], _, blk _ _ [_, _, _, _, _], _, blk _ _ [_, _, _, _, _], _, blk _ _ [_, _, _, _, _], _, blk _ _ [_, _, _, _, _], _, blk _ _ [_, _, _, _, _], _] _ at F30
        refine Ops.step (One.storeN (vs := [_, _, _, _, _]) F30 0 rfl sz26 rfl rfl rfl (ev_t rfl) (ev_t rfl) rfl rfl (Sep.one (x := (x5 (R5.getD zeroT).kind (R5.getD zeroT).num (R5.getD zeroT).str (.slice A3e7 (R5.getD zeroT).keys.length c3e7) (.slice A4e7 (R5.getD zeroT).list.length c4e7))) (F30.get 1 rfl)) ?_)
        intro w31 F31
        change Fr _ _ [blk _ _ [_, _, _, _, _], _, blk _ _ [_, _, _, _, _], _, _, blk _ _ [_, _, _, _, _], _, blk _ _ [_, _, _, _, _], _, blk _ _ [_, _, _, _, _], _, blk _ _ [_, _, _, _, _], _, blk _ _ [_, _, _, _, _], _, blk _ _ [_, _, _, _, _], _, blk _ _ [_, _, _, _, _], _] _ at F31
        refine Ops.step (One.val rfl rfl rfl (yld_assign rfl (ev_t rfl)) ?_)
        refine Ops.nil fun a hS => ?_
        refine hK18 _ _ ?_ a hS
        refine Cod.seq fun K19 hK19 => ?_
        refine Cod.region ?_
        refine Ops.step (One.val rfl rfl rfl (yld_build (cells := [.int .i64 0, .int .i64 0, .string ⟨#[]⟩, .slice none 0 0, .slice none 0 0]) rfl (evp0) (by kernel_rfl)) ?_)
        refine Ops.step (One.call rfl rfl rfl (ent_f rfl (evl2 (ev_t rfl) ev_c) (enters en27)) (partGet_ct (Tr.mk 0 0 ⟨#[]⟩ [] []) ⟨#[107]⟩ (by decide) _ _ (rep_leaf _ 0 0 ⟨#[]⟩) (leaf_fit 0 0 (by decide)) (leaf_wt 0 0 (by decide))) (fun e w32 hw32 => ?_))
        obtain ⟨R6, hR6⟩ : ∃ R, R = partGetR (Tr.mk 0 0 ⟨#[]⟩ [] []) ⟨#[107]⟩ := ⟨_, rfl⟩
        have hO6 : okT (R6.getD zeroT) = true := by rw [hR6]; exact partGetR_ok (Tr.mk 0 0 ⟨#[]⟩ [] []) ⟨#[107]⟩
        rw [← hR6] at hw32
        obtain ⟨e8, E8, rfl, C32, hE8, hEb8⟩ := hw32
        obtain ⟨A3e8, c3e8, A4e8, c4e8, hxe8⟩ := rep_x hE8.rep
        subst hxe8
        have F32 := F31.new C32 (sep E8 (R6.getD zeroT) (x5 (R6.getD zeroT).kind (R6.getD zeroT).num (R6.getD zeroT).str (.slice A3e8 (R6.getD zeroT).keys.length c3e8) (.slice A4e8 (R6.getD zeroT).list.length c4e8)).val) hE8 hEb8
        refine ⟨_, rfl, ?_⟩
        refine Ops.step (One.val rfl rfl rfl (yld_move rfl (ev_t rfl)) ?_)
        refine Ops.step (One.val rfl rfl rfl (yld_extract rfl (ev_t rfl) rfl) ?_)
        refine Ops.step (One.val rfl rfl rfl (yld_extract rfl (ev_t rfl) rfl) ?_)
        refine Ops.step (One.alloc F32 zero26 rfl rfl rfl rfl ?_)
        intro b10 w33 hb10 F33
        change Fr _ _ [blk _ _ [_, _, _, _, _], _, blk _ _ [_, _, _, _, _], _, blk _ _ [_, _, _, _, _], _, _, blk _ _ [_, _, _, _, _], _, blk _ _ [_, _, _, _, _], _, blk _ _ [_, _, _, _, _], _, blk _ _ [_, _, _, _, _], _, blk _ _ [_, _, _, _, _], _, blk _ _ [_, _, _, _, _], _, blk _ _ [_, _, _, _, _], _] _ at F33
        refine Ops.step (One.storeN (vs := [_, _, _, _, _]) F33 0 rfl sz26 rfl rfl rfl (ev_t rfl) (ev_t rfl) rfl rfl (Sep.one (x := (x5 (R6.getD zeroT).kind (R6.getD zeroT).num (R6.getD zeroT).str (.slice A3e8 (R6.getD zeroT).keys.length c3e8) (.slice A4e8 (R6.getD zeroT).list.length c4e8))) (F33.get 1 rfl)) ?_)
        intro w34 F34
        change Fr _ _ [blk _ _ [_, _, _, _, _], _, blk _ _ [_, _, _, _, _], _, blk _ _ [_, _, _, _, _], _, _, blk _ _ [_, _, _, _, _], _, blk _ _ [_, _, _, _, _], _, blk _ _ [_, _, _, _, _], _, blk _ _ [_, _, _, _, _], _, blk _ _ [_, _, _, _, _], _, blk _ _ [_, _, _, _, _], _, blk _ _ [_, _, _, _, _], _] _ at F34
        refine Ops.step (One.val rfl rfl rfl (yld_assign rfl (ev_t rfl)) ?_)
        refine Ops.nil fun a hS => ?_
        refine hK19 _ _ ?_ a hS
        refine Cod.seq fun K20 hK20 => ?_
        refine Cod.seq fun K21 hK21 => ?_
        refine Cod.region ?_
        refine Ops.step (One.val rfl rfl rfl (yld_move rfl (ev_t rfl)) ?_)
        refine Ops.step (One.val rfl rfl rfl (yld_not rfl (ev_t rfl)) ?_)
        refine Ops.step (One.val rfl rfl rfl (yld_move rfl (ev_t rfl)) ?_)
        refine Ops.step (One.val (gd_some rfl rfl) rfl rfl (yld_field fi26_0 rfl (ev_t rfl)) ?_)
        refine Ops.step (One.val (gd_some rfl rfl) rfl rfl (yld_load1 on3 rfl (ev_g rfl) (fun _ => F34.cell 0 rfl rfl)) ?_)
        refine Ops.step (One.val (gd_some rfl rfl) rfl rfl (yld_neq rfl (ev_g rfl) ev_c) ?_)
        refine Ops.step (One.val rfl rfl rfl (yld_or rfl (ev_t rfl) (ev_g rfl)) ?_)
        refine Ops.step (One.val rfl rfl rfl (yld_move rfl (ev_t rfl)) ?_)
        refine Ops.step (One.val (gd_some rfl rfl) rfl rfl (yld_move rfl (ev_t rfl)) ?_)
        refine Ops.step (One.val (gd_some rfl rfl) rfl rfl (yld_move rfl (ev_g rfl)) ?_)
        refine Ops.step (One.val (gd_some rfl rfl) rfl rfl (yld_field fi26_4 rfl (ev_t rfl)) ?_)
        refine Ops.step (One.val (gd_some rfl rfl) rfl rfl (yld_load1 on24 rfl (ev_g rfl) (fun _ => F34.cell 4 rfl rfl)) ?_)
        refine Ops.step (One.val (gd_some rfl rfl) rfl rfl (yld_len sl24 rfl (ev_g rfl)) ?_)
        refine Ops.step (One.val (gd_some rfl rfl) rfl rfl (yld_neq rfl (ev_g rfl) ev_c) ?_)
        refine Ops.step (One.val (gd_some rfl rfl) rfl rfl (yld_and rfl (ev_g rfl) (ev_g rfl)) ?_)
        refine Ops.step (One.val rfl rfl rfl (yld_or rfl (ev_t rfl) (ev_g rfl)) ?_)
        refine Ops.step (One.val rfl rfl rfl (yld_move rfl (ev_t rfl)) ?_)
        refine Ops.step (One.val (gd_some rfl rfl) rfl rfl (yld_move rfl (ev_t rfl)) ?_)
        refine Ops.step (One.val (gd_some rfl rfl) rfl rfl (yld_move rfl (ev_g rfl)) ?_)
        refine Ops.step (One.val (gd_some rfl rfl) rfl rfl (yld_field fi26_4 rfl (ev_t rfl)) ?_)
        refine Ops.step (One.val (gd_some rfl rfl) rfl rfl (yld_load1 on24 rfl (ev_g rfl) (fun _ => F34.cell 2 rfl rfl)) ?_)
        refine Ops.step (One.val (gd_some rfl rfl) rfl rfl (yld_len sl24 rfl (ev_g rfl)) ?_)
        refine Ops.step (One.val (gd_some rfl rfl) rfl rfl (yld_neq rfl (ev_g rfl) ev_c) ?_)
        refine Ops.step (One.val (gd_some rfl rfl) rfl rfl (yld_and rfl (ev_g rfl) (ev_g rfl)) ?_)
        refine Ops.step (One.val rfl rfl rfl (yld_or rfl (ev_t rfl) (ev_g rfl)) ?_)
        refine Ops.nil fun a hS => ?_
        refine hK21 _ _ ?_ a hS
        refine Cod.cond rfl (fun hc147 => ?_) (fun hc147 => ?_)
        · skip
          exact (no147 (put0 hR4) (set0 hR5) hR6 hc147).elim
        · skip
          skip
          refine Cod.skip fun a hS => ?_
          refine hK20 _ _ ?_ a hS
          refine Cod.seq fun K22 hK22 => ?_
          have F35 := F34.drew
          have hl4 := put0 hR4
          have hl5 := set0 hR5
          obtain ⟨b_4, o_4, y_4, one_4⟩ := one_at (rep_l (F35.get 5 rfl).rep) hl4
          obtain ⟨b_5, o_5, y_5, one_5⟩ := one_at (rep_l (F35.get 3 rfl).rep) hl5
          refine Cod.draw (C_of F35) (by kernel_rfl) ?_
          refine Hops.take 0 rfl (by kernel_rfl) (fun _ _ _ h => h) rfl rfl rfl F35 (fun w F => (yld_move rfl (ev_t rfl))) ?_
          refine Hops.take 1 rfl (by kernel_rfl) (fun _ _ _ h => h) rfl rfl rfl F35 (fun w F => (yld_not rfl (ev_t rfl))) ?_
          refine Hops.take 2 rfl (by kernel_rfl) (fun _ _ _ h => h) rfl rfl rfl F35 (fun w F => (yld_move rfl (ev_t rfl))) ?_
          refine Hops.take 3 rfl (by kernel_rfl) (fun _ _ _ h => h) (gd_some rfl rfl) rfl rfl F35 (fun w F => (yld_field fi26_4 rfl (ev_t rfl))) ?_
          refine Hops.take 4 rfl (by kernel_rfl) (fun _ _ _ h => h) (gd_some rfl rfl) rfl rfl F35 (fun w F => (yld_load1 on24 rfl (ev_g rfl) (fun _ => F.cell 4 rfl rfl))) ?_
          refine Hops.take 5 rfl (by kernel_rfl) (fun _ _ _ h => h) (gd_some rfl rfl) rfl rfl F35 (fun w F => (yld_indexG (b := b_4) (q := o_4) (i := 0) sl24 rfl (ev_g rfl) ev_c (fun hg => (one_4 (by cases hq : R4.isSome <;> simp [gof, hq] at hg ⊢)).1) (fun hg => by rw [(one_4 (by cases hq : R4.isSome <;> simp [gof, hq] at hg ⊢)).2.2.2]; omega))) ?_
          refine Hops.take 7 rfl (by kernel_rfl) (fun _ _ _ h => h) (gd_some rfl rfl) rfl rfl F35 (fun w F => (yld_loadN ag26 rfl (ev_t rfl) (fun _ => F.range (m := 5) (cs' := [_, _, _, _, _]) 19 rfl rfl) rfl)) ?_
          refine Hops.one 6 rfl (by kernel_rfl) (One.val (gd_some rfl rfl) rfl rfl (yld_loadN (cs := [y_4.a, y_4.b, y_4.c, y_4.d, y_4.e]) ag26 rfl (ev_g rfl) (fun hg => (one_4 (by cases hq : R4.isSome <;> simp [gof, hq] at hg ⊢)).2.1) rfl) ?_)
          refine ⟨F35, ?_⟩
          have hvs : R4.isSome = true → Calls Try.prog 17 #[y_4.val, ((x5 ta.kind ta.num ta.str (.slice A3a ta.keys.length c3a) (.slice A4a ta.list.length c4a))).val] w34.drew (fun e w' => e = .returned (.bool (decide (ta = ta))) ∧ Chg No w34.drew w') := fun h => valSame_ct ta ta _ _ w34.drew (one_4 h).2.2.1 (rps_get (F35.get 20 rfl) 0 rfl)
          refine Hops.one 8 rfl (by kernel_rfl) (One.gcall (R := Chg No w34.drew) (gd_some rfl rfl) rfl rfl (ent_f rfl (evl2 (ev_g rfl) (ev_g rfl)) (enters en17)) (Chg.refl _ _) (fun hg => hvs (by cases hq : R4.isSome <;> simp [gof, hq] at hg ⊢)) ?_)
          intro w35 C35
          have F36 := F35.call C35
          refine ⟨F36, ?_⟩
          have hC1 := C35
          refine Hops.take 9 rfl (by kernel_rfl) (fun _ _ _ h => h) (gd_some rfl rfl) rfl rfl F36 (fun w F => (yld_move rfl (ev_g rfl))) ?_
          refine Hops.take 10 rfl (by kernel_rfl) (fun _ _ _ h => h) (gd_some rfl rfl) rfl rfl F36 (fun w F => (yld_move rfl (ev_t rfl))) ?_
          refine Hops.take 11 rfl (by kernel_rfl) (fun _ _ _ h => h) (gd_some rfl rfl) rfl rfl F36 (fun w F => (yld_not rfl (ev_g rfl))) ?_
          refine Hops.take 12 rfl (by kernel_rfl) (fun _ _ _ h => h) (gd_some rfl rfl) rfl rfl F36 (fun w F => (yld_move rfl (ev_g rfl))) ?_
          refine Hops.take 13 rfl (by kernel_rfl) (fun _ _ _ h => h) (gd_some rfl rfl) rfl rfl F36 (fun w F => (yld_field fi26_4 rfl (ev_t rfl))) ?_
          refine Hops.take 14 rfl (by kernel_rfl) (fun _ _ _ h => h) (gd_some rfl rfl) rfl rfl F36 (fun w F => (yld_load1 on24 rfl (ev_g rfl) (fun _ => F.cell 2 rfl rfl))) ?_
          refine Hops.take 15 rfl (by kernel_rfl) (fun _ _ _ h => h) (gd_some rfl rfl) rfl rfl F36 (fun w F => (yld_indexG (b := b_5) (q := o_5) (i := 0) sl24 rfl (ev_g rfl) ev_c (fun hg => (one_5 (by cases hq : R5.isSome <;> simp [gof, hq] at hg ⊢)).1) (fun hg => by rw [(one_5 (by cases hq : R5.isSome <;> simp [gof, hq] at hg ⊢)).2.2.2]; omega))) ?_
          refine Hops.take 17 rfl (by kernel_rfl) (fun _ _ _ h => h) (gd_some rfl rfl) rfl rfl F36 (fun w F => (yld_loadN ag26 rfl (ev_t rfl) (fun _ => F.range (m := 5) (cs' := [_, _, _, _, _]) 19 rfl rfl) rfl)) ?_
          refine Hops.one 16 rfl (by kernel_rfl) (One.val (gd_some rfl rfl) rfl rfl (yld_loadN (cs := [y_5.a, y_5.b, y_5.c, y_5.d, y_5.e]) ag26 rfl (ev_g rfl) (fun hg => rng (one_5 (by cases hq : R5.isSome <;> simp [gof, hq] at hg ⊢)).2.1 hC1) rfl) ?_)
          refine ⟨F36, ?_⟩
          have hvs2 : R5.isSome = true → Calls Try.prog 17 #[y_5.val, ((x5 ta.kind ta.num ta.str (.slice A3a ta.keys.length c3a) (.slice A4a ta.list.length c4a))).val] w35 (fun e w' => e = .returned (.bool (decide (ta = ta))) ∧ Chg No w35 w') := fun h => valSame_ct ta ta _ _ w35 ((one_5 h).2.2.1.chg hC1) (rps_get (F36.get 20 rfl) 0 rfl)
          refine Hops.one 18 rfl (by kernel_rfl) (One.gcall (R := Chg No w35) (gd_some rfl rfl) rfl rfl (ent_f rfl (evl2 (ev_g rfl) (ev_g rfl)) (enters en17)) (Chg.refl _ _) (fun hg => hvs2 (by cases hq : R5.isSome <;> simp [gof, hq] at hg ⊢)) ?_)
          intro w36 C36
          have F37 := F36.call C36
          refine ⟨F37, ?_⟩
          refine Hops.take 19 rfl (by kernel_rfl) (fun _ _ _ h => h) (gd_some rfl rfl) rfl rfl F37 (fun w F => (yld_or rfl (ev_g rfl) (ev_g rfl))) ?_
          refine Hops.take 20 rfl (by kernel_rfl) (fun _ _ _ h => h) (gd_some rfl rfl) rfl rfl F37 (fun w F => (yld_and rfl (ev_g rfl) (ev_g rfl))) ?_
          refine Hops.take 21 rfl (by kernel_rfl) (fun _ _ _ h => h) rfl rfl rfl F37 (fun w F => (yld_or rfl (ev_t rfl) (ev_g rfl))) ?_
          refine Hops.one 22 rfl (by kernel_rfl) (One.val rfl rfl rfl (yld_assign rfl (ev_t rfl)) ?_)
          refine ⟨F37, ?_⟩
          refine Hops.nil (by kernel_rfl) fun a hS => ?_
          refine hK22 _ _ ?_ a hS
          refine Cod.ret fun a hS => ?_
          try simp only [Exit.then, Exit.inBlock]
          exact ret1 (t := 2) rfl hS rfl ⟨ret_b fin20, F37.chg⟩


theorem ownKnob_none : ownKnob Try.prog.godebug = none := by kernel_rfl
theorem params_ok : ∀ t ∈ Try.f12.params.toList, Try.prog.readableRec t = true ∧ t < Try.prog.types.size := by
  rw [Try.params12]
  intro t ht
  simp only [List.mem_cons, List.not_mem_nil, or_false] at ht
  rcases ht with rfl <;> exact ⟨by kernel_rfl, of_decide_eq_true (by kernel_rfl)⟩
set_option maxRecDepth 100000 in
theorem lifted (os : Os) (started : os.Started) (H : Type) (enc : TypeId × Value → H) :
    ReturnsInHanded {} Try.checked os 12 .any (Rows.fnPartNoneSpec.pre6 enc Try.prog Try.f12 Rows.fnPartNoneRow.domain false) (Rows.fnPartNoneSpec.post enc Try.prog Try.f12 false true false false) := by
  refine returnsInHanded_of_change (C := Try.checked) ownKnob_none started (by kernel_rfl) Try.func12
    (ChangeSpec.witness6 (enc := enc) (C := Try.checked) false ⟨#[], #[.slice none 0 0], []⟩ 8 (by kernel_rfl) (by kernel_rfl) (by kernel_rfl) (by kernel_rfl)) ?_
  intro W base args ds gs before hval0 hW hcnd _
  have hval : ∀ (j : Nat) t v, Try.f12.params[j]? = some t → args[j]? = some v → Value.okWide Try.prog W .any base t v := hval0
  have hW' := hW
  obtain ⟨p, q, hA0, hV, rfl, hfz, hnd⟩ := hW
  have hA : DataW.TrodAll enc Try.prog W 0 (fun _ => true) true Try.f12.params.toList args.toList ds p := hA0
  rw [Try.params12] at hA hval
  obtain ⟨v0, d0, rfl, rfl, h0⟩ := trodAll_one hA
  obtain ⟨rfl, rfl⟩ := trodVars_none hV
  obtain ⟨code, hp⟩ := open_bytes (hval 0 _ v0 rfl rfl) h0
  refine (walk code v0 W hp).mono fun e W' ⟨he, hc⟩ => ?_
  subst he
  exact ⟨_, rfl, post_chg laidOut rfl params_ok hW' (fun _ _ _ => (trodAll_cons_mk (shut_bool Try.underlying4 _) trodAll_mk0)) rfl rfl hc (ok_one (by kernel_rfl) rfl (okWide_bool_mk Try.underlying4 _))⟩

theorem over : Rows.fnPartNoneRow.holds Try.pinned (OpenSpec.ofChange Rows.fnPartNoneSpec) :=
  OpenClaim.holds_of_wide 12 Try.f12 rfl rfl rfl rfl rfl rfl rfl ⟨rfl, rfl, rfl, rfl, rfl⟩ rfl rfl rfl rfl rfl (by kernel_rfl) Try.func12 (by kernel_rfl)
    (of_decide_eq_true (by kernel_rfl)) (by unfold Func.isWrapper; first | (rw [if_pos (by decide +kernel)]; kernel_rfl) | (rw [if_neg (by decide +kernel)]; exact ⟨rfl, rfl⟩))
    (fun os started H enc _ => lifted os started H enc)

/-- The statement. -/
theorem proved : Rows.FnPartNoneSaid := over
#print axioms proved

end GPartNone
end Go.Proofs.Ytmmgobhoakaaaaa.Eng
