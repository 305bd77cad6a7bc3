/- FnRowCut returns true for all bytes: the two pieces of a row or text at a place add up to it; a row that is turned twice is that row; no piece is longer than the whole. No condition. -/
import Derived.Test.YtmmgobhoakaaaaaCutT
import Derived.Test.YtmmgobhoakaaaaaAdd
import Derived.Test.YtmmgobhoakaaaaaDraw4
import Derived.Test.YtmmgobhoakaaaaaArgB
import Derived.Test.YtmmgobhoakaaaaaRows
namespace Go.Proofs.Ytmmgobhoakaaaaa.Eng
open Go.RowKit Go.ChangeShapes Go.WideShapes Go.ChangeAt
set_option linter.unusedVariables false
set_option linter.unusedSimpArgs false
set_option maxHeartbeats 1000000
set_option linter.constructorNameAsVariable false
namespace GRowCut


theorem wt_parts (t : Tr) : t.list.length + t.str.size ≤ t.wt := by
  obtain ⟨k, n, s, ks, l⟩ := t
  rw [Tr.wt_mk]
  show l.length + s.size ≤ _
  omega
theorem pc_both {α : Type} (l : List α) (g : Int) : pc l 0 g ++ pc l g (l.length : Int) = l := by
  have h0 := edge_nat 0 l.length
  have hn := edge_nat l.length l.length
  have he := edgeZ_le g l.length
  have h00 : ((0 : Nat) : Int) = 0 := rfl
  rw [h00] at h0
  unfold pc
  rw [h0, hn, Nat.zero_min, Nat.min_self, List.drop_zero, Nat.sub_zero, Nat.zero_max, Nat.max_eq_right (by omega), List.take_of_length_le (l := l.drop _) (by rw [List.length_drop]; omega), List.take_append_drop]
theorem pc_le {α : Type} (l : List α) (f g : Int) : (pc l f g).length ≤ l.length := by
  unfold pc
  rw [List.length_take, List.length_drop]
  omega
theorem txt_both (t : Tr) (g : Int) : cutS t 0 g ++ cutS t g (t.str.size : Int) = t.str := by
  apply ba_eq
  rw [ByteArray.data_append, Array.toList_append, cutS_pc, cutS_pc, show (t.str.size : Int) = (t.str.data.toList.length : Int) by simp, pc_both]
theorem join {t : Tr} {f g h : Int} {r r2 r3 r4 : Option Tr} (hr : r = cutR t f h) (hs : r.isSome = true) (hr2 : r2 = cutR t 0 g) (hr3 : r3 = cutR t g ((t.list.length : Int) + (t.str.size : Int))) (hr4 : r4 = addR (r2.getD zeroT) (r3.getD zeroT)) : r2.isSome = true ∧ r3.isSome = true ∧ r4 = some t := by
  obtain ⟨hok, hk⟩ := cut_some hr hs
  rcases hk with h4 | h5
  · have e := txt_eta hok h4
    have hl : t.list.length = 0 := by rw [e]; rfl
    obtain ⟨c2, o2⟩ := cut_txt hok h4 0 g
    obtain ⟨c3, o3⟩ := cut_txt hok h4 g ((t.list.length : Int) + (t.str.size : Int))
    refine ⟨by rw [hr2, c2]; rfl, by rw [hr3, c3]; rfl, ?_⟩
    have e2 : r2.getD zeroT = strT' (cutS t 0 g) := by rw [hr2, c2]; rfl
    have e3 : r3.getD zeroT = strT' (cutS t g ((t.list.length : Int) + (t.str.size : Int))) := by rw [hr3, c3]; rfl
    rw [hr4, e2, e3]
    unfold addR
    rw [if_neg (by rw [o2, o3]; simp), if_neg (by show ¬ (4 : Int) = 0; omega), if_neg (by show ¬ (4 : Int) = 0; omega), if_neg (by show ¬ (4 : Int) ≠ 4; omega), if_neg (by show ¬ (4 : Int) = 3; omega), if_pos (by rfl)]
    have e4 : (strT' (cutS t 0 g)).str ++ (strT' (cutS t g ((t.list.length : Int) + (t.str.size : Int)))).str = t.str := by
      show cutS t 0 g ++ cutS t g ((t.list.length : Int) + (t.str.size : Int)) = t.str
      rw [hl, show ((0 : Nat) : Int) + (t.str.size : Int) = (t.str.size : Int) by omega, txt_both]
    rw [e4, ← e]
    exact toldR_true hok
  · have e := rowT_eta hok h5
    have hs0 : t.str.size = 0 := by rw [e]; rfl
    obtain ⟨c2, o2⟩ := cut_row hok h5 0 g
    obtain ⟨c3, o3⟩ := cut_row hok h5 g ((t.list.length : Int) + (t.str.size : Int))
    refine ⟨by rw [hr2, c2]; rfl, by rw [hr3, c3]; rfl, ?_⟩
    have e2 : r2.getD zeroT = .mk 5 0 ⟨#[]⟩ [] (pc t.list 0 g) := by rw [hr2, c2]; rfl
    have e3 : r3.getD zeroT = .mk 5 0 ⟨#[]⟩ [] (pc t.list g ((t.list.length : Int) + (t.str.size : Int))) := by rw [hr3, c3]; rfl
    rw [hr4, e2, e3]
    unfold addR
    rw [if_neg (by rw [o2, o3]; simp), if_neg (by show ¬ (5 : Int) = 0; omega), if_neg (by show ¬ (5 : Int) = 0; omega), if_neg (by show ¬ (5 : Int) ≠ 5; omega), if_neg (by show ¬ (5 : Int) = 3; omega), if_neg (by show ¬ (5 : Int) = 4; omega), if_pos (by rfl)]
    show toldR true (.mk 5 0 ⟨#[]⟩ [] (pc t.list 0 g ++ pc t.list g ((t.list.length : Int) + (t.str.size : Int)))) = _
    rw [hs0, show (t.list.length : Int) + ((0 : Nat) : Int) = (t.list.length : Int) by omega, pc_both, ← e]
    exact toldR_true hok
theorem no103 {t : Tr} {g : Int} {r2 r3 r4 : Option Tr} (h : r2.isSome = true ∧ r3.isSome = true ∧ r4 = some t) (hc : (((!r2.isSome) || (!r3.isSome)) || ((g != -9223372036854775808) && ((!r4.isSome) || !(decide (r4.getD zeroT = t))))) = true) : False := by
  obtain ⟨h1, h2, h3⟩ := h
  rw [h1, h2, h3] at hc
  simp at hc
theorem short_txt {t : Tr} {f g : Int} {r : Option Tr} (hr : r = cutR t f g) (hs : r.isSome = true) (h5 : t.kind ≠ 5) : ((r.getD zeroT).str.size : Int) ≤ (t.list.length : Int) + (t.str.size : Int) := by
  obtain ⟨hok, hk⟩ := cut_some hr hs
  have h4 : t.kind = 4 := by omega
  obtain ⟨c1, -⟩ := cut_txt hok h4 f g
  have e1 : r.getD zeroT = strT' (cutS t f g) := by rw [hr, c1]; rfl
  rw [e1]
  show ((cutS t f g).size : Int) ≤ _
  have h1 : (cutS t f g).size = (pc t.str.data.toList f g).length := by rw [← cutS_pc]; simp
  have h2 := pc_le t.str.data.toList f g
  have h3 : t.str.data.toList.length = t.str.size := by simp
  omega
theorem sumN_rev {α : Type} (F : α → Nat) : ∀ l : List α, sumN F l.reverse = sumN F l
  | [] => rfl
  | x :: l => by rw [List.reverse_cons, sumN_append, sumN_rev F l, sumN_cons]; simp [sumN]; omega
theorem back_row {t : Tr} (h : okT t = true) (h5 : t.kind = 5) : backR t = some (.mk 5 0 ⟨#[]⟩ [] t.list.reverse) ∧ okT (.mk 5 0 ⟨#[]⟩ [] t.list.reverse) = true := by
  have h0 : okT (.mk 5 0 ⟨#[]⟩ [] t.list.reverse) = true := by
    have h1 := h
    rw [rowT_eta h h5, okT_row] at h1
    rw [okT_row]
    exact ⟨fun x hx => h1.1 x (by simpa using hx), by rw [sumN_rev]; exact h1.2⟩
  refine ⟨?_, h0⟩
  have hr : rowT t = true := by unfold rowT; rw [h, h5]; rfl
  unfold backR
  rw [if_pos hr]
  exact toldR_true h0
theorem turned {t : Tr} {f g : Int} {r r5 r6 : Option Tr} (hr : r = cutR t f g) (hs : r.isSome = true) (h5 : t.kind = 5) (hr5 : r5 = backR t) (hr6 : r6 = backR (r5.getD zeroT)) : r5.isSome = true ∧ r6 = some t ∧ ((r.getD zeroT).list.length : Int) ≤ (t.list.length : Int) + (t.str.size : Int) := by
  obtain ⟨hok, -⟩ := cut_some hr hs
  obtain ⟨b1, o1⟩ := back_row hok h5
  obtain ⟨b2, o2⟩ := back_row (t := .mk 5 0 ⟨#[]⟩ [] t.list.reverse) o1 rfl
  obtain ⟨c1, -⟩ := cut_row hok h5 f g
  refine ⟨by rw [hr5, b1]; rfl, ?_, ?_⟩
  · rw [hr6, hr5, b1]
    show backR (.mk 5 0 ⟨#[]⟩ [] t.list.reverse) = _
    rw [b2]
    show some (Tr.mk 5 0 ⟨#[]⟩ [] t.list.reverse.reverse) = _
    rw [List.reverse_reverse, ← rowT_eta hok h5]
  · rw [hr, c1]
    show ((pc t.list f g).length : Int) ≤ _
    have := pc_le t.list f g
    omega

set_option maxHeartbeats 4000000 in
set_option maxRecDepth 100000 in
theorem walk (code : List UInt8) (v : Value) (w : World) (hp : RepE bCells 1 Any w code v) :
    Calls Try.prog 11 #[v] w fun e w' => e = .returned (.bool true) ∧ Chg No w w' := by
  obtain ⟨A, c, rfl, -⟩ := hp.open
  refine enter Try.func11 rfl rfl rfl ?_
  have F0 := Fr.start w
  refine Cod.seq fun K1 hK1 => ?_
  refine Cod.region ?_
  refine Ops.step (One.val rfl rfl rfl (yld_assign rfl ev_c) ?_)
  refine Ops.nil fun a hS => ?_
  refine hK1 _ _ ?_ a hS
  refine Cod.seq fun K2 hK2 => ?_
  refine Cod.seq fun K3 hK3 => ?_
  refine Cod.region ?_
  refine Ops.step (One.val rfl rfl rfl (yld_move rfl (ev_t rfl)) ?_)
  refine Ops.step (One.val rfl rfl rfl (yld_len sl22 rfl (ev_t rfl)) ?_)
  refine Ops.step (One.val rfl rfl rfl (yld_gtr rfl (ev_t rfl) ev_c) ?_)
  refine Ops.nil fun a hS => ?_
  refine hK3 _ _ ?_ a hS
  refine Cod.cond rfl (fun hc23 => ?_) (fun hc23 => ?_)
  · skip
    refine Cod.seq fun K4 hK4 => ?_
    refine Cod.region ?_
    refine Ops.step (One.val rfl rfl rfl (yld_assign rfl ev_c) ?_)
    refine Ops.nil fun a hS => ?_
    refine hK4 _ _ ?_ a hS
    refine Cod.ret fun a hS => ?_
    try simp only [Exit.then, Exit.inBlock]
    exact ret1 (t := 2) rfl hS rfl ⟨rfl, F0.chg⟩
  · skip
    refine Cod.skip fun a hS => ?_
    refine hK2 _ _ ?_ a hS
    refine Cod.seq fun K5 hK5 => ?_
    refine Cod.region ?_
    refine Ops.step (One.val rfl rfl rfl (yld_move rfl (ev_t rfl)) ?_)
    refine Ops.step (One.call rfl rfl rfl (ent_f rfl (evl1 (ev_t rfl)) (enters en49)) (drawCut_ct code _ _ (hp.chg F0.chg)) (fun e w1 hw1 => ?_))
    obtain ⟨xa, ta, ga, gb, rfl, C1, hrsa, hda, hga, hgb⟩ := hw1
    have hwa := hda.wt
    obtain ⟨Grsa, hGa⟩ : ∃ G, G = New w w1 := ⟨_, rfl⟩
    rw [← hGa] at hrsa
    obtain ⟨A3a, c3a, A4a, c4a, hxa⟩ := rep_x (rps_get hrsa 0 rfl)
    subst hxa
    have F1 := F0.new C1 (rps Grsa [(ta, (x5 ta.kind ta.num ta.str (.slice A3a ta.keys.length c3a) (.slice A4a ta.list.length c4a)).val)]) hrsa (by rw [hGa]; exact New.new)
    refine ⟨_, rfl, ?_⟩
    refine Ops.step (One.val rfl rfl rfl (yld_move rfl (ev_t rfl)) ?_)
    refine Ops.step (One.val rfl rfl rfl (yld_extract rfl (ev_t rfl) rfl) ?_)
    refine Ops.step (One.val rfl rfl rfl (yld_extract rfl (ev_t rfl) rfl) ?_)
    refine Ops.step (One.val rfl rfl rfl (yld_extract rfl (ev_t rfl) rfl) ?_)
    refine Ops.step (One.alloc F1 zero26 rfl rfl rfl rfl ?_)
    intro b1 w2 hb1 F2
    change Fr _ _ [blk _ _ [_, _, _, _, _], _] _ at F2
    refine Ops.step (One.storeN (vs := [_, _, _, _, _]) F2 0 rfl sz26 rfl rfl rfl (ev_t rfl) (ev_t rfl) rfl rfl (rps_oneC (F2.get 1 rfl) 0 rfl) ?_)
    intro w3 F3
    change Fr _ _ [blk _ _ [_, _, _, _, _], _] _ at F3
    refine Ops.step (One.val rfl rfl rfl (yld_assign rfl (ev_t rfl)) ?_)
    refine Ops.step (One.val rfl rfl rfl (yld_assign rfl (ev_t rfl)) ?_)
    refine Ops.nil fun a hS => ?_
    refine hK5 _ _ ?_ a hS
    refine Cod.seq fun K6 hK6 => ?_
    refine Cod.region ?_
    refine Ops.step (One.val rfl rfl rfl (yld_loadN ag26 rfl (ev_t rfl) (fun _ => F3.range (m := 5) (cs' := [_, _, _, _, _]) 0 rfl rfl) rfl) ?_)
    refine Ops.step (One.val rfl rfl rfl (yld_move rfl (ev_t rfl)) ?_)
    refine Ops.step (One.val rfl rfl rfl (yld_move rfl (ev_t rfl)) ?_)
    refine Ops.step (One.call rfl rfl rfl (ent_f rfl (evl3 (ev_t rfl) (ev_t rfl) (ev_t rfl)) (enters en50)) (cut_ct ta ga gb hga hgb _ _ (rps_get (F3.get 1 rfl) 0 rfl) hda.fit (by omega)) (fun e w4 hw4 => ?_))
    obtain ⟨R1, hR1⟩ : ∃ R, R = cutR ta ga gb := ⟨_, rfl⟩
    have hO1 : okT (R1.getD zeroT) = true := by rw [hR1]; exact cutR_ok ta ga gb
    rw [← hR1] at hw4
    obtain ⟨e1, E1, rfl, C4, hE1, hEb1⟩ := hw4
    obtain ⟨A3e1, c3e1, A4e1, c4e1, hxe1⟩ := rep_x hE1.rep
    subst hxe1
    have F4 := F3.new C4 (sep E1 (R1.getD zeroT) (x5 (R1.getD zeroT).kind (R1.getD zeroT).num (R1.getD zeroT).str (.slice A3e1 (R1.getD zeroT).keys.length c3e1) (.slice A4e1 (R1.getD zeroT).list.length c4e1)).val) hE1 hEb1
    refine ⟨_, rfl, ?_⟩
    refine Ops.step (One.val rfl rfl rfl (yld_move rfl (ev_t rfl)) ?_)
    refine Ops.step (One.val rfl rfl rfl (yld_extract rfl (ev_t rfl) rfl) ?_)
    refine Ops.step (One.val rfl rfl rfl (yld_extract rfl (ev_t rfl) rfl) ?_)
    refine Ops.step (One.alloc F4 zero26 rfl rfl rfl rfl ?_)
    intro b2 w5 hb2 F5
    change Fr _ _ [blk _ _ [_, _, _, _, _], _, blk _ _ [_, _, _, _, _], _] _ at F5
    refine Ops.step (One.storeN (vs := [_, _, _, _, _]) F5 0 rfl sz26 rfl rfl rfl (ev_t rfl) (ev_t rfl) rfl rfl (Sep.one (x := (x5 (R1.getD zeroT).kind (R1.getD zeroT).num (R1.getD zeroT).str (.slice A3e1 (R1.getD zeroT).keys.length c3e1) (.slice A4e1 (R1.getD zeroT).list.length c4e1))) (F5.get 1 rfl)) ?_)
    intro w6 F6
    change Fr _ _ [blk _ _ [_, _, _, _, _], _, blk _ _ [_, _, _, _, _], _] _ at F6
    refine Ops.step (One.val rfl rfl rfl (yld_assign rfl (ev_t rfl)) ?_)
    refine Ops.nil fun a hS => ?_
    refine hK6 _ _ ?_ a hS
    refine Cod.seq fun K7 hK7 => ?_
    refine Cod.region ?_
    refine Ops.step (One.val rfl rfl rfl (yld_loadN ag26 rfl (ev_t rfl) (fun _ => F6.range (m := 5) (cs' := [_, _, _, _, _]) 2 rfl rfl) rfl) ?_)
    refine Ops.step (One.val rfl rfl rfl (yld_move rfl (ev_t rfl)) ?_)
    refine Ops.step (One.val rfl rfl rfl (yld_move rfl (ev_t rfl)) ?_)
    refine Ops.step (One.call rfl rfl rfl (ent_f rfl (evl3 (ev_t rfl) (ev_t rfl) (ev_t rfl)) (enters en51)) (specCut_ct ta ga gb hga hgb _ _ (rps_get (F6.get 3 rfl) 0 rfl) hda.fit (by omega)) (fun e w7 hw7 => ?_))
    rw [← hR1] at hw7
    obtain ⟨e2, E2, rfl, C7, hE2, hEb2⟩ := hw7
    obtain ⟨A3e2, c3e2, A4e2, c4e2, hxe2⟩ := rep_x hE2.rep
    subst hxe2
    have F7 := F6.new C7 (sep E2 (R1.getD zeroT) (x5 (R1.getD zeroT).kind (R1.getD zeroT).num (R1.getD zeroT).str (.slice A3e2 (R1.getD zeroT).keys.length c3e2) (.slice A4e2 (R1.getD zeroT).list.length c4e2)).val) hE2 hEb2
    refine ⟨_, rfl, ?_⟩
    refine Ops.step (One.val rfl rfl rfl (yld_move rfl (ev_t rfl)) ?_)
    refine Ops.step (One.val rfl rfl rfl (yld_extract rfl (ev_t rfl) rfl) ?_)
    refine Ops.step (One.val rfl rfl rfl (yld_extract rfl (ev_t rfl) rfl) ?_)
    refine Ops.step (One.alloc F7 zero26 rfl rfl rfl rfl ?_)
    intro b3 w8 hb3 F8
    change Fr _ _ [blk _ _ [_, _, _, _, _], _, blk _ _ [_, _, _, _, _], _, blk _ _ [_, _, _, _, _], _] _ at F8
    refine Ops.step (One.storeN (vs := [_, _, _, _, _]) F8 0 rfl sz26 rfl rfl rfl (ev_t rfl) (ev_t rfl) rfl rfl (Sep.one (x := (x5 (R1.getD zeroT).kind (R1.getD zeroT).num (R1.getD zeroT).str (.slice A3e2 (R1.getD zeroT).keys.length c3e2) (.slice A4e2 (R1.getD zeroT).list.length c4e2))) (F8.get 1 rfl)) ?_)
    intro w9 F9
    change Fr _ _ [blk _ _ [_, _, _, _, _], _, blk _ _ [_, _, _, _, _], _, blk _ _ [_, _, _, _, _], _] _ at F9
    refine Ops.step (One.val rfl rfl rfl (yld_assign rfl (ev_t rfl)) ?_)
    refine Ops.nil fun a hS => ?_
    refine hK7 _ _ ?_ a hS
    refine Cod.seq fun K8 hK8 => ?_
    refine Cod.seq fun K9 hK9 => ?_
    refine Cod.region ?_
    refine Ops.step (One.val rfl rfl rfl (yld_move rfl (ev_t rfl)) ?_)
    refine Ops.step (One.val rfl rfl rfl (yld_move rfl (ev_t rfl)) ?_)
    refine Ops.step (One.val rfl rfl rfl (yld_bneq Try.underlying4 rfl (ev_t rfl) (ev_t rfl)) ?_)
    refine Ops.step (One.val rfl rfl rfl (yld_move rfl (ev_t rfl)) ?_)
    refine Ops.step (One.val (gd_some rfl rfl) rfl rfl (yld_loadN ag26 rfl (ev_t rfl) (fun _ => F9.range (m := 5) (cs' := [_, _, _, _, _]) 2 rfl rfl) rfl) ?_)
    refine Ops.step (One.val (gd_some rfl rfl) rfl rfl (yld_loadN ag26 rfl (ev_t rfl) (fun _ => F9.range (m := 5) (cs' := [_, _, _, _, _]) 0 rfl rfl) rfl) ?_)
    refine Ops.step (One.gcall (R := Chg No w9) (gd_some rfl rfl) rfl rfl (ent_f rfl (evl2 (ev_g rfl) (ev_g rfl)) (enters en17)) (Chg.refl _ _) (fun hg => valSame_ct (R1.getD zeroT) (R1.getD zeroT) _ _ _ (F9.get 3 rfl).rep (F9.get 1 rfl).rep) ?_)
    intro w10 C10
    have F10 := F9.call C10
    refine Ops.step (One.val (gd_some rfl rfl) rfl rfl (yld_not rfl (ev_g rfl)) ?_)
    refine Ops.step (One.val rfl rfl rfl (yld_or rfl (ev_t rfl) (ev_g rfl)) ?_)
    refine Ops.nil fun a hS => ?_
    refine hK9 _ _ ?_ a hS
    refine Cod.cond rfl (fun hc52 => ?_) (fun hc52 => ?_)
    · skip
      simp at hc52
    · skip
      skip
      refine Cod.skip fun a hS => ?_
      refine hK8 _ _ ?_ a hS
      refine Cod.seq fun K10 hK10 => ?_
      refine Cod.seq fun K11 hK11 => ?_
      refine Cod.region ?_
      refine Ops.step (One.val rfl rfl rfl (yld_move rfl (ev_t rfl)) ?_)
      refine Ops.step (One.val rfl rfl rfl (yld_not rfl (ev_t rfl)) ?_)
      refine Ops.nil fun a hS => ?_
      refine hK11 _ _ ?_ a hS
      refine Cod.cond rfl (fun hc54 => ?_) (fun hc54 => ?_)
      · skip
        have hno : R1 = none := by cases h : R1 <;> simp [h] at hc54 ⊢
        refine Cod.seq fun K12 hK12 => ?_
        refine Cod.region ?_
        refine Ops.step (One.val rfl rfl rfl (yld_field fi26_0 rfl (ev_t rfl)) ?_)
        refine Ops.step (One.val rfl rfl rfl (yld_load1 on3 rfl (ev_t rfl) (fun _ => F10.cell 2 rfl rfl)) ?_)
        refine Ops.step (One.val rfl rfl rfl (yld_eql rfl (ev_t rfl) ev_c) ?_)
        refine Ops.step (One.val rfl rfl rfl (yld_assign rfl (ev_t rfl)) ?_)
        refine Ops.nil fun a hS => ?_
        refine hK12 _ _ ?_ a hS
        refine Cod.ret fun a hS => ?_
        try simp only [Exit.then, Exit.inBlock]
        exact ret1 (t := 2) rfl hS rfl ⟨ret_b (by rw [hno]; rfl), F10.chg⟩
      · skip
        have hsome : R1.isSome = true := by simpa using hc54
        have hwp := wt_parts ta
        refine Cod.skip fun a hS => ?_
        refine hK10 _ _ ?_ a hS
        refine Cod.seq fun K13 hK13 => ?_
        refine Cod.region ?_
        refine Ops.step (One.val rfl rfl rfl (yld_field fi26_4 rfl (ev_t rfl)) ?_)
        refine Ops.step (One.val rfl rfl rfl (yld_load1 on24 rfl (ev_t rfl) (fun _ => F10.cell 4 rfl rfl)) ?_)
        refine Ops.step (One.val rfl rfl rfl (yld_len sl24 rfl (ev_t rfl)) ?_)
        refine Ops.step (One.val rfl rfl rfl (yld_field fi26_2 rfl (ev_t rfl)) ?_)
        refine Ops.step (One.val rfl rfl rfl (yld_load1 on9 rfl (ev_t rfl) (fun _ => F10.cell 4 rfl rfl)) ?_)
        refine Ops.step (One.val rfl rfl rfl (yld_slen st9 rfl (ev_t rfl)) ?_)
        refine Ops.step (One.val rfl rfl rfl (yld_add rfl (ev_t rfl) (ev_t rfl) (fun _ => by omega)) ?_)
        refine Ops.step (One.val rfl rfl rfl (yld_assign rfl (ev_t rfl)) ?_)
        refine Ops.nil fun a hS => ?_
        refine hK13 _ _ ?_ a hS
        refine Cod.seq fun K14 hK14 => ?_
        refine Cod.region ?_
        refine Ops.step (One.val rfl rfl rfl (yld_loadN ag26 rfl (ev_t rfl) (fun _ => F10.range (m := 5) (cs' := [_, _, _, _, _]) 4 rfl rfl) rfl) ?_)
        refine Ops.step (One.val rfl rfl rfl (yld_move rfl (ev_t rfl)) ?_)
        refine Ops.step (One.call rfl rfl rfl (ent_f rfl (evl3 (ev_t rfl) ev_c (ev_t rfl)) (enters en50)) (cut_ct ta 0 ga (by omega) hga _ _ (rps_get (F10.get 5 rfl) 0 rfl) hda.fit (by omega)) (fun e w11 hw11 => ?_))
        obtain ⟨R2, hR2⟩ : ∃ R, R = cutR ta 0 ga := ⟨_, rfl⟩
        have hO2 : okT (R2.getD zeroT) = true := by rw [hR2]; exact cutR_ok ta 0 ga
        rw [← hR2] at hw11
        obtain ⟨e3, E3, rfl, C11, hE3, hEb3⟩ := hw11
        obtain ⟨A3e3, c3e3, A4e3, c4e3, hxe3⟩ := rep_x hE3.rep
        subst hxe3
        have F11 := F10.new C11 (sep E3 (R2.getD zeroT) (x5 (R2.getD zeroT).kind (R2.getD zeroT).num (R2.getD zeroT).str (.slice A3e3 (R2.getD zeroT).keys.length c3e3) (.slice A4e3 (R2.getD zeroT).list.length c4e3)).val) hE3 hEb3
        refine ⟨_, rfl, ?_⟩
        refine Ops.step (One.val rfl rfl rfl (yld_move rfl (ev_t rfl)) ?_)
        refine Ops.step (One.val rfl rfl rfl (yld_extract rfl (ev_t rfl) rfl) ?_)
        refine Ops.step (One.val rfl rfl rfl (yld_extract rfl (ev_t rfl) rfl) ?_)
        refine Ops.step (One.alloc F11 zero26 rfl rfl rfl rfl ?_)
        intro b4 w12 hb4 F12
        change Fr _ _ [blk _ _ [_, _, _, _, _], _, blk _ _ [_, _, _, _, _], _, blk _ _ [_, _, _, _, _], _, blk _ _ [_, _, _, _, _], _] _ at F12
        refine Ops.step (One.storeN (vs := [_, _, _, _, _]) F12 0 rfl sz26 rfl rfl rfl (ev_t rfl) (ev_t rfl) rfl rfl (Sep.one (x := (x5 (R2.getD zeroT).kind (R2.getD zeroT).num (R2.getD zeroT).str (.slice A3e3 (R2.getD zeroT).keys.length c3e3) (.slice A4e3 (R2.getD zeroT).list.length c4e3))) (F12.get 1 rfl)) ?_)
        intro w13 F13
        change Fr _ _ [blk _ _ [_, _, _, _, _], _, blk _ _ [_, _, _, _, _], _, blk _ _ [_, _, _, _, _], _, blk _ _ [_, _, _, _, _], _] _ at F13
        refine Ops.step (One.val rfl rfl rfl (yld_assign rfl (ev_t rfl)) ?_)
        refine Ops.nil fun a hS => ?_
        refine hK14 _ _ ?_ a hS
        refine Cod.seq fun K15 hK15 => ?_
        refine Cod.region ?_
        refine Ops.step (One.val rfl rfl rfl (yld_loadN ag26 rfl (ev_t rfl) (fun _ => F13.range (m := 5) (cs' := [_, _, _, _, _]) 6 rfl rfl) rfl) ?_)
        refine Ops.step (One.val rfl rfl rfl (yld_move rfl (ev_t rfl)) ?_)
        refine Ops.step (One.val rfl rfl rfl (yld_move rfl (ev_t rfl)) ?_)
        refine Ops.step (One.call rfl rfl rfl (ent_f rfl (evl3 (ev_t rfl) (ev_t rfl) (ev_t rfl)) (enters en50)) (cut_ct ta ga ((ta.list.length : Int) + (ta.str.size : Int)) hga (by omega) _ _ (rps_get (F13.get 7 rfl) 0 rfl) hda.fit (by omega)) (fun e w14 hw14 => ?_))
        obtain ⟨R3, hR3⟩ : ∃ R, R = cutR ta ga ((ta.list.length : Int) + (ta.str.size : Int)) := ⟨_, rfl⟩
        have hO3 : okT (R3.getD zeroT) = true := by rw [hR3]; exact cutR_ok ta ga ((ta.list.length : Int) + (ta.str.size : Int))
        rw [← hR3] at hw14
        obtain ⟨e4, E4, rfl, C14, hE4, hEb4⟩ := hw14
        obtain ⟨A3e4, c3e4, A4e4, c4e4, hxe4⟩ := rep_x hE4.rep
        subst hxe4
        have F14 := F13.new C14 (sep E4 (R3.getD zeroT) (x5 (R3.getD zeroT).kind (R3.getD zeroT).num (R3.getD zeroT).str (.slice A3e4 (R3.getD zeroT).keys.length c3e4) (.slice A4e4 (R3.getD zeroT).list.length c4e4)).val) hE4 hEb4
        refine ⟨_, rfl, ?_⟩
        refine Ops.step (One.val rfl rfl rfl (yld_move rfl (ev_t rfl)) ?_)
        refine Ops.step (One.val rfl rfl rfl (yld_extract rfl (ev_t rfl) rfl) ?_)
        refine Ops.step (One.val rfl rfl rfl (yld_extract rfl (ev_t rfl) rfl) ?_)
        refine Ops.step (One.alloc F14 zero26 rfl rfl rfl rfl ?_)
        intro b5 w15 hb5 F15
        change Fr _ _ [blk _ _ [_, _, _, _, _], _, blk _ _ [_, _, _, _, _], _, blk _ _ [_, _, _, _, _], _, blk _ _ [_, _, _, _, _], _, blk _ _ [_, _, _, _, _], _] _ at F15
        refine Ops.step (One.storeN (vs := [_, _, _, _, _]) F15 0 rfl sz26 rfl rfl rfl (ev_t rfl) (ev_t rfl) rfl rfl (Sep.one (x := (x5 (R3.getD zeroT).kind (R3.getD zeroT).num (R3.getD zeroT).str (.slice A3e4 (R3.getD zeroT).keys.length c3e4) (.slice A4e4 (R3.getD zeroT).list.length c4e4))) (F15.get 1 rfl)) ?_)
        intro w16 F16
        change Fr _ _ [blk _ _ [_, _, _, _, _], _, blk _ _ [_, _, _, _, _], _, blk _ _ [_, _, _, _, _], _, blk _ _ [_, _, _, _, _], _, blk _ _ [_, _, _, _, _], _] _ at F16
        refine Ops.step (One.val rfl rfl rfl (yld_assign rfl (ev_t rfl)) ?_)
        refine Ops.nil fun a hS => ?_
        refine hK15 _ _ ?_ a hS
        refine Cod.seq fun K16 hK16 => ?_
        refine Cod.region ?_
        refine Ops.step (One.val rfl rfl rfl (yld_loadN ag26 rfl (ev_t rfl) (fun _ => F16.range (m := 5) (cs' := [_, _, _, _, _]) 2 rfl rfl) rfl) ?_)
        refine Ops.step (One.val rfl rfl rfl (yld_loadN ag26 rfl (ev_t rfl) (fun _ => F16.range (m := 5) (cs' := [_, _, _, _, _]) 0 rfl rfl) rfl) ?_)
        refine Ops.step (One.call rfl rfl rfl (ent_f rfl (evl2 (ev_t rfl) (ev_t rfl)) (enters en31)) (partAdd_ct (R2.getD zeroT) (R3.getD zeroT) _ _ _ (F16.get 3 rfl).rep (F16.get 1 rfl).rep (okT_fit hO2) (okT_fit hO3) (okT_w hO2) (okT_w hO3)) (fun e w17 hw17 => ?_))
        obtain ⟨R4, hR4⟩ : ∃ R, R = addR (R2.getD zeroT) (R3.getD zeroT) := ⟨_, rfl⟩
        have hO4 : okT (R4.getD zeroT) = true := by rw [hR4]; exact addR_ok (R2.getD zeroT) (R3.getD zeroT)
        rw [← hR4] at hw17
        obtain ⟨e5, E5, rfl, C17, hE5, hEb5⟩ := hw17
        obtain ⟨A3e5, c3e5, A4e5, c4e5, hxe5⟩ := rep_x hE5.rep
        subst hxe5
        have F17 := F16.new C17 (sep E5 (R4.getD zeroT) (x5 (R4.getD zeroT).kind (R4.getD zeroT).num (R4.getD zeroT).str (.slice A3e5 (R4.getD zeroT).keys.length c3e5) (.slice A4e5 (R4.getD zeroT).list.length c4e5)).val) hE5 hEb5
        refine ⟨_, rfl, ?_⟩
        refine Ops.step (One.val rfl rfl rfl (yld_move rfl (ev_t rfl)) ?_)
        refine Ops.step (One.val rfl rfl rfl (yld_extract rfl (ev_t rfl) rfl) ?_)
        refine Ops.step (One.val rfl rfl rfl (yld_extract rfl (ev_t rfl) rfl) ?_)
        refine Ops.step (One.alloc F17 zero26 rfl rfl rfl rfl ?_)
        intro b6 w18 hb6 F18
        change Fr _ _ [blk _ _ [_, _, _, _, _], _, blk _ _ [_, _, _, _, _], _, blk _ _ [_, _, _, _, _], _, blk _ _ [_, _, _, _, _], _, blk _ _ [_, _, _, _, _], _, blk _ _ [_, _, _, _, _], _] _ at F18
        refine Ops.step (One.storeN (vs := [_, _, _, _, _]) F18 0 rfl sz26 rfl rfl rfl (ev_t rfl) (ev_t rfl) rfl rfl (Sep.one (x := (x5 (R4.getD zeroT).kind (R4.getD zeroT).num (R4.getD zeroT).str (.slice A3e5 (R4.getD zeroT).keys.length c3e5) (.slice A4e5 (R4.getD zeroT).list.length c4e5))) (F18.get 1 rfl)) ?_)
        intro w19 F19
        change Fr _ _ [blk _ _ [_, _, _, _, _], _, blk _ _ [_, _, _, _, _], _, blk _ _ [_, _, _, _, _], _, blk _ _ [_, _, _, _, _], _, blk _ _ [_, _, _, _, _], _, blk _ _ [_, _, _, _, _], _] _ at F19
        refine Ops.step (One.val rfl rfl rfl (yld_assign rfl (ev_t rfl)) ?_)
        refine Ops.nil fun a hS => ?_
        refine hK16 _ _ ?_ a hS
        refine Cod.seq fun K17 hK17 => ?_
        refine Cod.seq fun K18 hK18 => ?_
        refine Cod.region ?_
        refine Ops.step (One.val rfl rfl rfl (yld_move rfl (ev_t rfl)) ?_)
        refine Ops.step (One.val rfl rfl rfl (yld_not rfl (ev_t rfl)) ?_)
        refine Ops.step (One.val rfl rfl rfl (yld_move rfl (ev_t rfl)) ?_)
        refine Ops.step (One.val (gd_some rfl rfl) rfl rfl (yld_move rfl (ev_t rfl)) ?_)
        refine Ops.step (One.val (gd_some rfl rfl) rfl rfl (yld_not rfl (ev_g rfl)) ?_)
        refine Ops.step (One.val rfl rfl rfl (yld_or rfl (ev_t rfl) (ev_g rfl)) ?_)
        refine Ops.step (One.val rfl rfl rfl (yld_move rfl (ev_t rfl)) ?_)
        refine Ops.step (One.val (gd_some rfl rfl) rfl rfl (yld_move rfl (ev_t rfl)) ?_)
        refine Ops.step (One.val (gd_some rfl rfl) rfl rfl (yld_neq rfl (ev_g rfl) ev_c) ?_)
        refine Ops.step (One.val (gd_some rfl rfl) rfl rfl (yld_move rfl (ev_g rfl)) ?_)
        refine Ops.step (One.val (gd_some rfl rfl) rfl rfl (yld_move rfl (ev_t rfl)) ?_)
        refine Ops.step (One.val (gd_some rfl rfl) rfl rfl (yld_not rfl (ev_g rfl)) ?_)
        refine Ops.step (One.val (gd_some rfl rfl) rfl rfl (yld_move rfl (ev_g rfl)) ?_)
        refine Ops.step (One.val (gd_some rfl rfl) rfl rfl (yld_loadN ag26 rfl (ev_t rfl) (fun _ => F19.range (m := 5) (cs' := [_, _, _, _, _]) 0 rfl rfl) rfl) ?_)
        refine Ops.step (One.val (gd_some rfl rfl) rfl rfl (yld_loadN ag26 rfl (ev_t rfl) (fun _ => F19.range (m := 5) (cs' := [_, _, _, _, _]) 10 rfl rfl) rfl) ?_)
        refine Ops.step (One.gcall (R := Chg No w19) (gd_some rfl rfl) rfl rfl (ent_f rfl (evl2 (ev_g rfl) (ev_g rfl)) (enters en17)) (Chg.refl _ _) (fun hg => valSame_ct (R4.getD zeroT) ta _ _ _ (F19.get 1 rfl).rep (rps_get (F19.get 11 rfl) 0 rfl)) ?_)
        intro w20 C20
        have F20 := F19.call C20
        refine Ops.step (One.val (gd_some rfl rfl) rfl rfl (yld_not rfl (ev_g rfl)) ?_)
        refine Ops.step (One.val (gd_some rfl rfl) rfl rfl (yld_or rfl (ev_g rfl) (ev_g rfl)) ?_)
        refine Ops.step (One.val (gd_some rfl rfl) rfl rfl (yld_and rfl (ev_g rfl) (ev_g rfl)) ?_)
        refine Ops.step (One.val rfl rfl rfl (yld_or rfl (ev_t rfl) (ev_g rfl)) ?_)
        refine Ops.nil fun a hS => ?_
        refine hK18 _ _ ?_ a hS
        refine Cod.cond rfl (fun hc103 => ?_) (fun hc103 => ?_)
        · skip
          exact (no103 (join hR1 hsome hR2 hR3 hR4) hc103).elim
        · skip
          skip
          refine Cod.skip fun a hS => ?_
          refine hK17 _ _ ?_ a hS
          refine Cod.seq fun K19 hK19 => ?_
          refine Cod.seq fun K20 hK20 => ?_
          refine Cod.region ?_
          refine Ops.step (One.val rfl rfl rfl (yld_field fi26_0 rfl (ev_t rfl)) ?_)
          refine Ops.step (One.val rfl rfl rfl (yld_load1 on3 rfl (ev_t rfl) (fun _ => F20.cell 10 rfl rfl)) ?_)
          refine Ops.step (One.val rfl rfl rfl (yld_neq rfl (ev_t rfl) ev_c) ?_)
          refine Ops.nil fun a hS => ?_
          refine hK20 _ _ ?_ a hS
          refine Cod.cond rfl (fun hc106 => ?_) (fun hc106 => ?_)
          · skip
            have h5 : ta.kind ≠ 5 := by simpa using hc106
            refine Cod.seq fun K21 hK21 => ?_
            refine Cod.region ?_
            refine Ops.step (One.val rfl rfl rfl (yld_field fi26_2 rfl (ev_t rfl)) ?_)
            refine Ops.step (One.val rfl rfl rfl (yld_load1 on9 rfl (ev_t rfl) (fun _ => F20.cell 8 rfl rfl)) ?_)
            refine Ops.step (One.val rfl rfl rfl (yld_slen st9 rfl (ev_t rfl)) ?_)
            refine Ops.step (One.val rfl rfl rfl (yld_move rfl (ev_t rfl)) ?_)
            refine Ops.step (One.val rfl rfl rfl (yld_leq rfl (ev_t rfl) (ev_t rfl)) ?_)
            refine Ops.step (One.val rfl rfl rfl (yld_assign rfl (ev_t rfl)) ?_)
            refine Ops.nil fun a hS => ?_
            refine hK21 _ _ ?_ a hS
            refine Cod.ret fun a hS => ?_
            try simp only [Exit.then, Exit.inBlock]
            exact ret1 (t := 2) rfl hS rfl ⟨ret_b (decide_eq_true (short_txt hR1 hsome h5)), F20.chg⟩
          · skip
            have h5 : ta.kind = 5 := by simpa using hc106
            refine Cod.skip fun a hS => ?_
            refine hK19 _ _ ?_ a hS
            refine Cod.seq fun K22 hK22 => ?_
            refine Cod.region ?_
            refine Ops.step (One.val rfl rfl rfl (yld_loadN ag26 rfl (ev_t rfl) (fun _ => F20.range (m := 5) (cs' := [_, _, _, _, _]) 10 rfl rfl) rfl) ?_)
            refine Ops.step (One.call rfl rfl rfl (ent_f rfl (evl1 (ev_t rfl)) (enters en18)) (back_ct ta _ _ (rps_get (F20.get 11 rfl) 0 rfl) hda.fit (by omega)) (fun e w21 hw21 => ?_))
            obtain ⟨R5, hR5⟩ : ∃ R, R = backR ta := ⟨_, rfl⟩
            have hO5 : okT (R5.getD zeroT) = true := by rw [hR5]; exact backR_ok _ hda.fit
            rw [← hR5] at hw21
            obtain ⟨e6, E6, rfl, C21, hE6, hEb6⟩ := hw21
            obtain ⟨A3e6, c3e6, A4e6, c4e6, hxe6⟩ := rep_x hE6.rep
            subst hxe6
            have F21 := F20.new C21 (sep E6 (R5.getD zeroT) (x5 (R5.getD zeroT).kind (R5.getD zeroT).num (R5.getD zeroT).str (.slice A3e6 (R5.getD zeroT).keys.length c3e6) (.slice A4e6 (R5.getD zeroT).list.length c4e6)).val) hE6 hEb6
            refine ⟨_, rfl, ?_⟩
            refine Ops.step (One.val rfl rfl rfl (yld_move rfl (ev_t rfl)) ?_)
            refine Ops.step (One.val rfl rfl rfl (yld_extract rfl (ev_t rfl) rfl) ?_)
            refine Ops.step (One.val rfl rfl rfl (yld_extract rfl (ev_t rfl) rfl) ?_)
            refine Ops.step (One.alloc F21 zero26 rfl rfl rfl rfl ?_)
            intro b7 w22 hb7 F22
            change Fr _ _ [blk _ _ [_, _, _, _, _], _, blk _ _ [_, _, _, _, _], _, blk _ _ [_, _, _, _, _], _, blk _ _ [_, _, _, _, _], _, blk _ _ [_, _, _, _, _], _, blk _ _ [_, _, _, _, _], _, blk _ _ [_, _, _, _, _], _] _ at F22
            refine Ops.step (One.storeN (vs := [_, _, _, _, _]) F22 0 rfl sz26 rfl rfl rfl (ev_t rfl) (ev_t rfl) rfl rfl (Sep.one (x := (x5 (R5.getD zeroT).kind (R5.getD zeroT).num (R5.getD zeroT).str (.slice A3e6 (R5.getD zeroT).keys.length c3e6) (.slice A4e6 (R5.getD zeroT).list.length c4e6))) (F22.get 1 rfl)) ?_)
            intro w23 F23
            change Fr _ _ [blk _ _ [_, _, _, _, _], _, blk _ _ [_, _, _, _, _], _, blk _ _ [_, _, _, _, _], _, blk _ _ [_, _, _, _, _], _, blk _ _ [_, _, _, _, _], _, blk _ _ [_, _, _, _, _], _, blk _ _ [_, _, _, _, _], _] _ at F23
            refine Ops.step (One.val rfl rfl rfl (yld_assign rfl (ev_t rfl)) ?_)
            refine Ops.nil fun a hS => ?_
            refine hK22 _ _ ?_ a hS
            refine Cod.seq fun K23 hK23 => ?_
            refine Cod.region ?_
            refine Ops.step (One.val rfl rfl rfl (yld_loadN ag26 rfl (ev_t rfl) (fun _ => F23.range (m := 5) (cs' := [_, _, _, _, _]) 0 rfl rfl) rfl) ?_)
            refine Ops.step (One.call rfl rfl rfl (ent_f rfl (evl1 (ev_t rfl)) (enters en18)) (back_ct (R5.getD zeroT) _ _ (F23.get 1 rfl).rep (okT_fit hO5) (okT_w hO5)) (fun e w24 hw24 => ?_))
            obtain ⟨R6, hR6⟩ : ∃ R, R = backR (R5.getD zeroT) := ⟨_, rfl⟩
            have hO6 : okT (R6.getD zeroT) = true := by rw [hR6]; exact backR_ok _ (okT_fit hO5)
            rw [← hR6] at hw24
            obtain ⟨e7, E7, rfl, C24, hE7, hEb7⟩ := hw24
            obtain ⟨A3e7, c3e7, A4e7, c4e7, hxe7⟩ := rep_x hE7.rep
            subst hxe7
            have F24 := F23.new C24 (sep E7 (R6.getD zeroT) (x5 (R6.getD zeroT).kind (R6.getD zeroT).num (R6.getD zeroT).str (.slice A3e7 (R6.getD zeroT).keys.length c3e7) (.slice A4e7 (R6.getD zeroT).list.length c4e7)).val) hE7 hEb7
            refine ⟨_, rfl, ?_⟩
            refine Ops.step (One.val rfl rfl rfl (yld_move rfl (ev_t rfl)) ?_)
            refine Ops.step (One.val rfl rfl rfl (yld_extract rfl (ev_t rfl) rfl) ?_)
            refine Ops.step (One.val rfl rfl rfl (yld_extract rfl (ev_t rfl) rfl) ?_)
            refine Ops.step (One.alloc F24 zero26 rfl rfl rfl rfl ?_)
            intro b8 w25 hb8 F25
            change Fr _ _ [blk _ _ [_, _, _, _, _], _, blk _ _ [_, _, _, _, _], _, blk _ _ [_, _, _, _, _], _, blk _ _ [_, _, _, _, _], _, blk _ _ [_, _, _, _, _], _, blk _ _ [_, _, _, _, _], _, blk _ _ [_, _, _, _, _], _, blk _ _ [_, _, _, _, _], _] _ at F25
            refine Ops.step (One.storeN (vs := [_, _, _, _, _]) F25 0 rfl sz26 rfl rfl rfl (ev_t rfl) (ev_t rfl) rfl rfl (Sep.one (x := (x5 (R6.getD zeroT).kind (R6.getD zeroT).num (R6.getD zeroT).str (.slice A3e7 (R6.getD zeroT).keys.length c3e7) (.slice A4e7 (R6.getD zeroT).list.length c4e7))) (F25.get 1 rfl)) ?_)
            intro w26 F26
            change Fr _ _ [blk _ _ [_, _, _, _, _], _, blk _ _ [_, _, _, _, _], _, blk _ _ [_, _, _, _, _], _, blk _ _ [_, _, _, _, _], _, blk _ _ [_, _, _, _, _], _, blk _ _ [_, _, _, _, _], _, blk _ _ [_, _, _, _, _], _, blk _ _ [_, _, _, _, _], _] _ at F26
            refine Ops.step (One.val rfl rfl rfl (yld_assign rfl (ev_t rfl)) ?_)
            refine Ops.nil fun a hS => ?_
            refine hK23 _ _ ?_ a hS
            refine Cod.seq fun K24 hK24 => ?_
            refine Cod.region ?_
            refine Ops.step (One.val rfl rfl rfl (yld_move rfl (ev_t rfl)) ?_)
            refine Ops.step (One.val rfl rfl rfl (yld_move rfl (ev_t rfl)) ?_)
            refine Ops.step (One.val (gd_some rfl rfl) rfl rfl (yld_move rfl (ev_t rfl)) ?_)
            refine Ops.step (One.val rfl rfl rfl (yld_and rfl (ev_t rfl) (ev_g rfl)) ?_)
            refine Ops.step (One.val rfl rfl rfl (yld_move rfl (ev_t rfl)) ?_)
            refine Ops.step (One.val (gd_some rfl rfl) rfl rfl (yld_loadN ag26 rfl (ev_t rfl) (fun _ => F26.range (m := 5) (cs' := [_, _, _, _, _]) 0 rfl rfl) rfl) ?_)
            refine Ops.step (One.val (gd_some rfl rfl) rfl rfl (yld_loadN ag26 rfl (ev_t rfl) (fun _ => F26.range (m := 5) (cs' := [_, _, _, _, _]) 14 rfl rfl) rfl) ?_)
            refine Ops.step (One.gcall (R := Chg No w26) (gd_some rfl rfl) rfl rfl (ent_f rfl (evl2 (ev_g rfl) (ev_g rfl)) (enters en17)) (Chg.refl _ _) (fun hg => valSame_ct (R6.getD zeroT) ta _ _ _ (F26.get 1 rfl).rep (rps_get (F26.get 15 rfl) 0 rfl)) ?_)
            intro w27 C27
            have F27 := F26.call C27
            refine Ops.step (One.val rfl rfl rfl (yld_and rfl (ev_t rfl) (ev_g rfl)) ?_)
            refine Ops.step (One.val rfl rfl rfl (yld_move rfl (ev_t rfl)) ?_)
            refine Ops.step (One.val (gd_some rfl rfl) rfl rfl (yld_field fi26_4 rfl (ev_t rfl)) ?_)
            refine Ops.step (One.val (gd_some rfl rfl) rfl rfl (yld_load1 on24 rfl (ev_g rfl) (fun _ => F27.cell 12 rfl rfl)) ?_)
            refine Ops.step (One.val (gd_some rfl rfl) rfl rfl (yld_len sl24 rfl (ev_g rfl)) ?_)
            refine Ops.step (One.val (gd_some rfl rfl) rfl rfl (yld_move rfl (ev_t rfl)) ?_)
            refine Ops.step (One.val (gd_some rfl rfl) rfl rfl (yld_leq rfl (ev_g rfl) (ev_g rfl)) ?_)
            refine Ops.step (One.val rfl rfl rfl (yld_and rfl (ev_t rfl) (ev_g rfl)) ?_)
            refine Ops.step (One.val rfl rfl rfl (yld_assign rfl (ev_t rfl)) ?_)
            refine Ops.nil fun a hS => ?_
            refine hK24 _ _ ?_ a hS
            refine Cod.ret fun a hS => ?_
            try simp only [Exit.then, Exit.inBlock]
            obtain ⟨q1, q2, q3⟩ := turned hR1 hsome h5 hR5 hR6
            exact ret1 (t := 2) rfl hS rfl ⟨ret_b (by rw [q1, q2, decide_eq_true q3]; simp), F27.chg⟩


theorem ownKnob_none : ownKnob Try.prog.godebug = none := by kernel_rfl
theorem params_ok : ∀ t ∈ Try.f11.params.toList, Try.prog.readableRec t = true ∧ t < Try.prog.types.size := by
  rw [Try.params11]
  intro t ht
  simp only [List.mem_cons, List.not_mem_nil, or_false] at ht
  rcases ht with rfl <;> exact ⟨by kernel_rfl, of_decide_eq_true (by kernel_rfl)⟩
set_option maxRecDepth 100000 in
theorem lifted (os : Os) (started : os.Started) (H : Type) (enc : TypeId × Value → H) :
    ReturnsInHanded {} Try.checked os 11 .any (Rows.fnRowCutSpec.pre6 enc Try.prog Try.f11 Rows.fnRowCutRow.domain false) (Rows.fnRowCutSpec.post enc Try.prog Try.f11 false true false false) := by
  refine returnsInHanded_of_change (C := Try.checked) ownKnob_none started (by kernel_rfl) Try.func11
    (ChangeSpec.witness6 (enc := enc) (C := Try.checked) false ⟨#[], #[.slice none 0 0], []⟩ 8 (by kernel_rfl) (by kernel_rfl) (by kernel_rfl) (by kernel_rfl)) ?_
  intro W base args ds gs before hval0 hW hcnd _
  have hval : ∀ (j : Nat) t v, Try.f11.params[j]? = some t → args[j]? = some v → Value.okWide Try.prog W .any base t v := hval0
  have hW' := hW
  obtain ⟨p, q, hA0, hV, rfl, hfz, hnd⟩ := hW
  have hA : DataW.TrodAll enc Try.prog W 0 (fun _ => true) true Try.f11.params.toList args.toList ds p := hA0
  rw [Try.params11] at hA hval
  obtain ⟨v0, d0, rfl, rfl, h0⟩ := trodAll_one hA
  obtain ⟨rfl, rfl⟩ := trodVars_none hV
  obtain ⟨code, hp⟩ := open_bytes (hval 0 _ v0 rfl rfl) h0
  refine (walk code v0 W hp).mono fun e W' ⟨he, hc⟩ => ?_
  subst he
  exact ⟨_, rfl, post_chg laidOut rfl params_ok hW' (fun _ _ _ => (trodAll_cons_mk (shut_bool Try.underlying4 _) trodAll_mk0)) rfl rfl hc (ok_one (by kernel_rfl) rfl (okWide_bool_mk Try.underlying4 _))⟩

theorem over : Rows.fnRowCutRow.holds Try.pinned (OpenSpec.ofChange Rows.fnRowCutSpec) :=
  OpenClaim.holds_of_wide 11 Try.f11 rfl rfl rfl rfl rfl rfl rfl ⟨rfl, rfl, rfl, rfl, rfl⟩ rfl rfl rfl rfl rfl (by kernel_rfl) Try.func11 (by kernel_rfl)
    (of_decide_eq_true (by kernel_rfl)) (by unfold Func.isWrapper; first | (rw [if_pos (by decide +kernel)]; kernel_rfl) | (rw [if_neg (by decide +kernel)]; exact ⟨rfl, rfl⟩))
    (fun os started H enc _ => lifted os started H enc)

/-- The statement. -/
theorem proved : Rows.FnRowCutSaid := over
#print axioms proved

end GRowCut
end Go.Proofs.Ytmmgobhoakaaaaa.Eng
