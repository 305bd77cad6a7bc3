/- FnPartAt returns true for all bytes: a place that counts from the end is the place that counts from the front: what lies there, and what is set there. No condition. -/
import Derived.Test.YtphchpbfhcniaaaLawT
import Derived.Test.YtphchpbfhcniaaaDraw4
import Derived.Test.YtphchpbfhcniaaaArgB
import Derived.Test.YtphchpbfhcniaaaRows
namespace Go.Proofs.Ytphchpbfhcniaaa.Eng
open Go.RowKit Go.ChangeShapes Go.WideShapes Go.ChangeAt
set_option linter.unusedVariables false
set_option linter.unusedSimpArgs false
set_option maxHeartbeats 1000000
set_option linter.constructorNameAsVariable false
namespace GPartAt


def lf2 : Tr := .mk 2 0 ⟨#[]⟩ [] []
theorem lf2_form : Form 5 lf2 := leaf_form (by omega) (fun _ => rfl) (fun _ => rfl) (fun _ => rfl) (fun _ => rfl) (by omega)
theorem lf2_ok : okT lf2 = true := okT_of (leaf_form (by omega) (fun _ => rfl) (fun _ => rfl) (fun _ => rfl) (fun _ => rfl) (by omega)) (by rw [cnt_list]; show 1 + 0 ≤ 60; omega)
theorem setL_in {l : List Tr} {i : Nat} {x : Tr} (h : i < l.length) : setL l i x = l.set i x := by
  unfold setL
  rw [show i + 1 - l.length = 0 by omega]
  simp
theorem set_in {t x : Tr} {g : Int} {i : Nat} (h : okT t = true) (h5 : t.kind = 5) (hx : okT x = true) (hg : g < t.list.length) (hg2 : -(t.list.length : Int) ≤ g) (hi : setZ t g = i) (hil : i < t.list.length) (ho : okT (.mk 5 0 ⟨#[]⟩ [] (t.list.set i x)) = true) : setR t x g = some (.mk 5 0 ⟨#[]⟩ [] (t.list.set i x)) := by
  have hl := okT_len60 h
  have hB : setB t x g = true := by
    unfold setB
    rw [h, hx, h5]
    simp
    omega
  unfold setR setT
  rw [if_pos hB, hi, setL_in hil, toldR_true ho]
theorem set_lf {t : Tr} {i : Nat} (h : okT t = true) (h5 : t.kind = 5) (hil : i < t.list.length) : okT (.mk 5 0 ⟨#[]⟩ [] (t.list.set i lf2)) = true := by
  rw [okT_row]
  refine ⟨fun x hx => ?_, ?_⟩
  · rcases List.mem_or_eq_of_mem_set hx with hx | rfl
    · exact form_child h hx
    · exact lf2_form
  · have h1 := okT_cnt h
    rw [cnt_list] at h1
    have h2 := sumN_set (f := Tr.cnt) (x := lf2) hil
    have h3 : lf2.cnt = 1 := by rw [cnt_list]; rfl
    have h4 := cnt_list t.list[i]
    omega
theorem partAt_some {t : Tr} {a : Int} (h : okT t = true) (h5 : t.kind = 5) : partAtR t a = some (if h : 0 ≤ placeZ a t.list.length ∧ (placeZ a t.list.length).toNat < t.list.length then t.list[(placeZ a t.list.length).toNat] else zeroT) := by
  unfold partAtR atT
  rw [if_pos h, if_neg (by omega), if_neg (by omega)]
  split
  · rfl
  · rfl
theorem ok_of {t : Tr} {a : Int} {r : Option Tr} (hr : r = partAtR t a) (h : r.isSome = true) : okT t = true := by
  subst hr
  unfold partAtR at h
  split at h
  · assumption
  · cases h
theorem out {t : Tr} {a : Int} {r : Option Tr} (hr : r = partAtR t a) (h : r.isSome = true) (h5 : t.kind = 5) (ha : (t.list.length : Int) ≤ a ∨ a < -(t.list.length : Int)) : ((r.getD zeroT).kind == 0) = true := by
  rw [hr, partAt_some (ok_of hr h) h5, dif_neg]
  · rfl
  · unfold placeZ
    rw [if_pos (by omega)]
    omega
theorem fin {t : Tr} {n m : Int} {r r2 s1 s2 s3 : Option Tr} (hr : r = partAtR t n) (h : r.isSome = true) (h5 : t.kind = 5) (hn : n < t.list.length ∧ -(t.list.length : Int) ≤ n) (hm : m = if n < 0 then n + t.list.length else n - t.list.length)
    (hr2 : r2 = partAtR t m) (hs1 : s1 = setR t lf2 n) (hs2 : s2 = setR t lf2 m) (hs3 : s3 = setR (s1.getD zeroT) (r.getD zeroT) n) :
    r2 = r ∧ s1.isSome = true ∧ r.isSome = true ∧ s2 = s1 ∧ s3 = some t := by
  have hok := ok_of hr h
  obtain ⟨i, hi, hil⟩ : ∃ i : Nat, (i : Int) = (if n < 0 then n + t.list.length else n) ∧ i < t.list.length := ⟨(if n < 0 then n + t.list.length else n).toNat, by split <;> omega, by split <;> omega⟩
  have hp1 : placeZ n t.list.length = i := by
    unfold placeZ
    rw [if_neg (by omega)]
    split <;> simp_all
  have hp2 : placeZ m t.list.length = i := by
    unfold placeZ
    split at hi <;> rw [hm] <;> simp_all <;> omega
  have hz1 : setZ t n = i := by unfold setZ; split at hi <;> simp_all <;> omega
  have hz2 : setZ t m = i := by unfold setZ; split at hi <;> rw [hm] <;> simp_all <;> omega
  have hm1 : m < t.list.length ∧ -(t.list.length : Int) ≤ m := by split at hm <;> omega
  have e1 : r = some t.list[i] := by
    rw [hr, partAt_some hok h5]
    have : (placeZ n t.list.length).toNat = i := by omega
    simp [hp1, hil]
  have e2 : r2 = some t.list[i] := by
    rw [hr2, partAt_some hok h5]
    simp [hp2, hil]
  have ho := set_lf hok h5 hil
  have f1 : s1 = some (.mk 5 0 ⟨#[]⟩ [] (t.list.set i lf2)) := by rw [hs1]; exact set_in hok h5 lf2_ok hn.1 hn.2 hz1 hil ho
  have f2 : s2 = some (.mk 5 0 ⟨#[]⟩ [] (t.list.set i lf2)) := by rw [hs2]; exact set_in hok h5 lf2_ok hm1.1 hm1.2 hz2 hil ho
  have e3 := rowT_eta hok h5
  have hss : (t.list.set i lf2).set i t.list[i] = t.list := by simp
  have f3 : s3 = some t := by
    rw [hs3, f1, e1]
    show setR (.mk 5 0 ⟨#[]⟩ [] (t.list.set i lf2)) t.list[i] n = _
    rw [set_in (i := i) ho rfl (okT_child hok (List.getElem_mem _)) (by show n < ((t.list.set i lf2).length : Int); rw [List.length_set]; omega) (by show -((t.list.set i lf2).length : Int) ≤ n; rw [List.length_set]; omega) (by unfold setZ; show (if n < 0 then n + ((t.list.set i lf2).length : Int) else n).toNat = i; rw [List.length_set]; exact hz1) (by show i < (t.list.set i lf2).length; rw [List.length_set]; exact hil) (by show okT (.mk 5 0 ⟨#[]⟩ [] ((t.list.set i lf2).set i t.list[i])) = true; rw [hss, ← e3]; exact hok)]
    show some (Tr.mk 5 0 ⟨#[]⟩ [] ((t.list.set i lf2).set i t.list[i])) = _
    rw [hss, ← e3]
  exact ⟨by rw [e2, e1], by rw [f1]; rfl, by rw [e1]; rfl, by rw [f2, f1], f3⟩
theorem yes56 {r : Option Tr} {a b : Tr} {k : Int} (h : ((((r.isSome != r.isSome) || !(decide (a = b))) || !r.isSome) || (k != 5)) = false) : r.isSome = true ∧ k = 5 := by
  cases h1 : r.isSome <;> simp [h1] at h ⊢
  exact h.2
theorem fin7 {r : Option Tr} {a : Tr} : ((r.isSome == r.isSome) && decide (a = a)) = true := by simp

set_option maxHeartbeats 4000000 in
set_option maxRecDepth 100000 in
theorem walk (code : List UInt8) (v : Value) (w : World) (hp : RepE bCells 1 Any w code v) :
    Calls Try.prog 5 #[v] w fun e w' => e = .returned (.bool true) ∧ Chg No w w' := by
  obtain ⟨A, c, rfl, -⟩ := hp.open
  refine enter Try.func5 rfl rfl rfl ?_
  have F0 := Fr.start w
  refine Cod.seq fun K1 hK1 => ?_
  refine Cod.region ?_
  refine Ops.step (One.val rfl rfl rfl (yld_assign rfl ev_c) ?_)
  refine Ops.nil fun a hS => ?_
  refine hK1 _ _ ?_ a hS
  refine Cod.seq fun K2 hK2 => ?_
  refine Cod.seq fun K3 hK3 => ?_
  refine Cod.region ?_
  refine Ops.step (One.val rfl rfl rfl (yld_move rfl (ev_t rfl)) ?_)
  refine Ops.step (One.val rfl rfl rfl (yld_len sl22 rfl (ev_t rfl)) ?_)
  refine Ops.step (One.val rfl rfl rfl (yld_gtr rfl (ev_t rfl) ev_c) ?_)
  refine Ops.nil fun a hS => ?_
  refine hK3 _ _ ?_ a hS
  refine Cod.cond rfl (fun hc21 => ?_) (fun hc21 => ?_)
  · skip
    refine Cod.seq fun K4 hK4 => ?_
    refine Cod.region ?_
    refine Ops.step (One.val rfl rfl rfl (yld_assign rfl ev_c) ?_)
    refine Ops.nil fun a hS => ?_
    refine hK4 _ _ ?_ a hS
    refine Cod.ret fun a hS => ?_
    try simp only [Exit.then, Exit.inBlock]
    exact ret1 (t := 2) rfl hS rfl ⟨rfl, F0.chg⟩
  · skip
    refine Cod.skip fun a hS => ?_
    refine hK2 _ _ ?_ a hS
    refine Cod.seq fun K5 hK5 => ?_
    refine Cod.region ?_
    refine Ops.step (One.val rfl rfl rfl (yld_move rfl (ev_t rfl)) ?_)
    refine Ops.step (One.call rfl rfl rfl (ent_f rfl (evl1 (ev_t rfl)) (enters en21)) (drawAt_ct code _ _ (hp.chg F0.chg)) (fun e w1 hw1 => ?_))
    obtain ⟨xa, ta, an, rfl, C1, hrsa, hda, han⟩ := hw1
    have hwa := hda.wt
    obtain ⟨Grsa, hGa⟩ : ∃ G, G = New w w1 := ⟨_, rfl⟩
    rw [← hGa] at hrsa
    obtain ⟨A3a, c3a, A4a, c4a, hxa⟩ := rep_x (rps_get hrsa 0 rfl)
    subst hxa
    have F1 := F0.new C1 (rps Grsa [(ta, (x5 ta.kind ta.num ta.str (.slice A3a ta.keys.length c3a) (.slice A4a ta.list.length c4a)).val)]) hrsa (by rw [hGa]; exact New.new)
    refine ⟨_, rfl, ?_⟩
    refine Ops.step (One.val rfl rfl rfl (yld_move rfl (ev_t rfl)) ?_)
    refine Ops.step (One.val rfl rfl rfl (yld_extract rfl (ev_t rfl) rfl) ?_)
    refine Ops.step (One.val rfl rfl rfl (yld_extract rfl (ev_t rfl) rfl) ?_)
    refine Ops.step (One.alloc F1 zero26 rfl rfl rfl rfl ?_)
    intro b1 w2 hb1 F2
    change Fr _ _ [blk _ _ [_, _, _, _, _], _] _ at F2
    refine Ops.step (One.storeN (vs := [_, _, _, _, _]) F2 0 rfl sz26 rfl rfl rfl (ev_t rfl) (ev_t rfl) rfl rfl (rps_oneC (F2.get 1 rfl) 0 rfl) ?_)
    intro w3 F3
    change Fr _ _ [blk _ _ [_, _, _, _, _], _] _ at F3
    refine Ops.step (One.val rfl rfl rfl (yld_assign rfl (ev_t rfl)) ?_)
    refine Ops.nil fun a hS => ?_
    refine hK5 _ _ ?_ a hS
    refine Cod.seq fun K6 hK6 => ?_
    refine Cod.region ?_
    refine Ops.step (One.val rfl rfl rfl (yld_loadN ag26 rfl (ev_t rfl) (fun _ => F3.range (m := 5) (cs' := [_, _, _, _, _]) 0 rfl rfl) rfl) ?_)
    refine Ops.step (One.val rfl rfl rfl (yld_move rfl (ev_t rfl)) ?_)
    refine Ops.step (One.call rfl rfl rfl (ent_f rfl (evl2 (ev_t rfl) (ev_t rfl)) (enters en22)) (partAt_ct ta an han _ _ (rps_get (F3.get 1 rfl) 0 rfl) hda.fit (by omega)) (fun e w4 hw4 => ?_))
    obtain ⟨R1, hR1⟩ : ∃ R, R = partAtR ta an := ⟨_, rfl⟩
    have hO1 : okT (R1.getD zeroT) = true := by rw [hR1]; exact partAtR_ok ta an
    rw [← hR1] at hw4
    obtain ⟨e1, E1, rfl, C4, hE1, hEb1⟩ := hw4
    obtain ⟨A3e1, c3e1, A4e1, c4e1, hxe1⟩ := rep_x hE1.rep
    subst hxe1
    have F4 := F3.new C4 (sep E1 (R1.getD zeroT) (x5 (R1.getD zeroT).kind (R1.getD zeroT).num (R1.getD zeroT).str (.slice A3e1 (R1.getD zeroT).keys.length c3e1) (.slice A4e1 (R1.getD zeroT).list.length c4e1)).val) hE1 hEb1
    refine ⟨_, rfl, ?_⟩
    refine Ops.step (One.val rfl rfl rfl (yld_move rfl (ev_t rfl)) ?_)
    refine Ops.step (One.val rfl rfl rfl (yld_extract rfl (ev_t rfl) rfl) ?_)
    refine Ops.step (One.val rfl rfl rfl (yld_extract rfl (ev_t rfl) rfl) ?_)
    refine Ops.step (One.alloc F4 zero26 rfl rfl rfl rfl ?_)
    intro b2 w5 hb2 F5
    change Fr _ _ [blk _ _ [_, _, _, _, _], _, blk _ _ [_, _, _, _, _], _] _ at F5
    refine Ops.step (One.storeN (vs := [_, _, _, _, _]) F5 0 rfl sz26 rfl rfl rfl (ev_t rfl) (ev_t rfl) rfl rfl (Sep.one (x := (x5 (R1.getD zeroT).kind (R1.getD zeroT).num (R1.getD zeroT).str (.slice A3e1 (R1.getD zeroT).keys.length c3e1) (.slice A4e1 (R1.getD zeroT).list.length c4e1))) (F5.get 1 rfl)) ?_)
    intro w6 F6
    change Fr _ _ [blk _ _ [_, _, _, _, _], _, blk _ _ [_, _, _, _, _], _] _ at F6
    refine Ops.step (One.val rfl rfl rfl (yld_assign rfl (ev_t rfl)) ?_)
    refine Ops.nil fun a hS => ?_
    refine hK6 _ _ ?_ a hS
    refine Cod.seq fun K7 hK7 => ?_
    refine Cod.region ?_
    refine Ops.step (One.val rfl rfl rfl (yld_loadN ag26 rfl (ev_t rfl) (fun _ => F6.range (m := 5) (cs' := [_, _, _, _, _]) 2 rfl rfl) rfl) ?_)
    refine Ops.step (One.val rfl rfl rfl (yld_move rfl (ev_t rfl)) ?_)
    refine Ops.step (One.call rfl rfl rfl (ent_f rfl (evl2 (ev_t rfl) (ev_t rfl)) (enters en23)) (specPartAt_ct ta an han _ _ (rps_get (F6.get 3 rfl) 0 rfl) hda.fit (by omega)) (fun e w7 hw7 => ?_))
    rw [← hR1] at hw7
    obtain ⟨e2, E2, rfl, C7, hE2, hEb2⟩ := hw7
    obtain ⟨A3e2, c3e2, A4e2, c4e2, hxe2⟩ := rep_x hE2.rep
    subst hxe2
    have F7 := F6.new C7 (sep E2 (R1.getD zeroT) (x5 (R1.getD zeroT).kind (R1.getD zeroT).num (R1.getD zeroT).str (.slice A3e2 (R1.getD zeroT).keys.length c3e2) (.slice A4e2 (R1.getD zeroT).list.length c4e2)).val) hE2 hEb2
    refine ⟨_, rfl, ?_⟩
    refine Ops.step (One.val rfl rfl rfl (yld_move rfl (ev_t rfl)) ?_)
    refine Ops.step (One.val rfl rfl rfl (yld_extract rfl (ev_t rfl) rfl) ?_)
    refine Ops.step (One.val rfl rfl rfl (yld_extract rfl (ev_t rfl) rfl) ?_)
    refine Ops.step (One.alloc F7 zero26 rfl rfl rfl rfl ?_)
    intro b3 w8 hb3 F8
    change Fr _ _ [blk _ _ [_, _, _, _, _], _, blk _ _ [_, _, _, _, _], _, blk _ _ [_, _, _, _, _], _] _ at F8
    refine Ops.step (One.storeN (vs := [_, _, _, _, _]) F8 0 rfl sz26 rfl rfl rfl (ev_t rfl) (ev_t rfl) rfl rfl (Sep.one (x := (x5 (R1.getD zeroT).kind (R1.getD zeroT).num (R1.getD zeroT).str (.slice A3e2 (R1.getD zeroT).keys.length c3e2) (.slice A4e2 (R1.getD zeroT).list.length c4e2))) (F8.get 1 rfl)) ?_)
    intro w9 F9
    change Fr _ _ [blk _ _ [_, _, _, _, _], _, blk _ _ [_, _, _, _, _], _, blk _ _ [_, _, _, _, _], _] _ at F9
    refine Ops.step (One.val rfl rfl rfl (yld_assign rfl (ev_t rfl)) ?_)
    refine Ops.nil fun a hS => ?_
    refine hK7 _ _ ?_ a hS
    refine Cod.seq fun K8 hK8 => ?_
    refine Cod.seq fun K9 hK9 => ?_
    refine Cod.region ?_
    refine Ops.step (One.val rfl rfl rfl (yld_move rfl (ev_t rfl)) ?_)
    refine Ops.step (One.val rfl rfl rfl (yld_move rfl (ev_t rfl)) ?_)
    refine Ops.step (One.val rfl rfl rfl (yld_bneq Try.underlying4 rfl (ev_t rfl) (ev_t rfl)) ?_)
    refine Ops.step (One.val rfl rfl rfl (yld_move rfl (ev_t rfl)) ?_)
    refine Ops.step (One.val (gd_some rfl rfl) rfl rfl (yld_loadN ag26 rfl (ev_t rfl) (fun _ => F9.range (m := 5) (cs' := [_, _, _, _, _]) 2 rfl rfl) rfl) ?_)
    refine Ops.step (One.val (gd_some rfl rfl) rfl rfl (yld_loadN ag26 rfl (ev_t rfl) (fun _ => F9.range (m := 5) (cs' := [_, _, _, _, _]) 0 rfl rfl) rfl) ?_)
    refine Ops.step (One.gcall (R := Chg No w9) (gd_some rfl rfl) rfl rfl (ent_f rfl (evl2 (ev_g rfl) (ev_g rfl)) (enters en20)) (Chg.refl _ _) (fun hg => valSame_ct (R1.getD zeroT) (R1.getD zeroT) _ _ _ (F9.get 3 rfl).rep (F9.get 1 rfl).rep) ?_)
    intro w10 C10
    have F10 := F9.call C10
    refine Ops.step (One.val (gd_some rfl rfl) rfl rfl (yld_not rfl (ev_g rfl)) ?_)
    refine Ops.step (One.val rfl rfl rfl (yld_or rfl (ev_t rfl) (ev_g rfl)) ?_)
    refine Ops.step (One.val rfl rfl rfl (yld_move rfl (ev_t rfl)) ?_)
    refine Ops.step (One.val (gd_some rfl rfl) rfl rfl (yld_move rfl (ev_t rfl)) ?_)
    refine Ops.step (One.val (gd_some rfl rfl) rfl rfl (yld_not rfl (ev_g rfl)) ?_)
    refine Ops.step (One.val rfl rfl rfl (yld_or rfl (ev_t rfl) (ev_g rfl)) ?_)
    refine Ops.step (One.val rfl rfl rfl (yld_move rfl (ev_t rfl)) ?_)
    refine Ops.step (One.val (gd_some rfl rfl) rfl rfl (yld_field fi26_0 rfl (ev_t rfl)) ?_)
    refine Ops.step (One.val (gd_some rfl rfl) rfl rfl (yld_load1 on3 rfl (ev_g rfl) (fun _ => F10.cell 4 rfl rfl)) ?_)
    refine Ops.step (One.val (gd_some rfl rfl) rfl rfl (yld_neq rfl (ev_g rfl) ev_c) ?_)
    refine Ops.step (One.val rfl rfl rfl (yld_or rfl (ev_t rfl) (ev_g rfl)) ?_)
    refine Ops.nil fun a hS => ?_
    refine hK9 _ _ ?_ a hS
    refine Cod.cond rfl (fun hc56 => ?_) (fun hc56 => ?_)
    · skip
      skip
      refine Cod.seq fun K10 hK10 => ?_
      refine Cod.region ?_
      refine Ops.step (One.val rfl rfl rfl (yld_move rfl (ev_t rfl)) ?_)
      refine Ops.step (One.val rfl rfl rfl (yld_move rfl (ev_t rfl)) ?_)
      refine Ops.step (One.val rfl rfl rfl (yld_beql Try.underlying4 rfl (ev_t rfl) (ev_t rfl)) ?_)
      refine Ops.step (One.val rfl rfl rfl (yld_move rfl (ev_t rfl)) ?_)
      refine Ops.step (One.val (gd_some rfl rfl) rfl rfl (yld_loadN ag26 rfl (ev_t rfl) (fun _ => F10.range (m := 5) (cs' := [_, _, _, _, _]) 2 rfl rfl) rfl) ?_)
      refine Ops.step (One.val (gd_some rfl rfl) rfl rfl (yld_loadN ag26 rfl (ev_t rfl) (fun _ => F10.range (m := 5) (cs' := [_, _, _, _, _]) 0 rfl rfl) rfl) ?_)
      refine Ops.step (One.gcall (R := Chg No w10) (gd_some rfl rfl) rfl rfl (ent_f rfl (evl2 (ev_g rfl) (ev_g rfl)) (enters en20)) (Chg.refl _ _) (fun hg => valSame_ct (R1.getD zeroT) (R1.getD zeroT) _ _ _ (F10.get 3 rfl).rep (F10.get 1 rfl).rep) ?_)
      intro w11 C11
      have F11 := F10.call C11
      refine Ops.step (One.val rfl rfl rfl (yld_and rfl (ev_t rfl) (ev_g rfl)) ?_)
      refine Ops.step (One.val rfl rfl rfl (yld_assign rfl (ev_t rfl)) ?_)
      refine Ops.nil fun a hS => ?_
      refine hK10 _ _ ?_ a hS
      refine Cod.ret fun a hS => ?_
      try simp only [Exit.then, Exit.inBlock]
      exact ret1 (t := 2) rfl hS rfl ⟨ret_b fin7, F11.chg⟩
    · skip
      obtain ⟨hsome, h5⟩ := yes56 hc56
      have hok := ok_of hR1 hsome
      have hl60 := okT_len60 hok
      refine Cod.skip fun a hS => ?_
      refine hK8 _ _ ?_ a hS
      refine Cod.seq fun K11 hK11 => ?_
      refine Cod.region ?_
      refine Ops.step (One.val rfl rfl rfl (yld_field fi26_4 rfl (ev_t rfl)) ?_)
      refine Ops.step (One.val rfl rfl rfl (yld_load1 on24 rfl (ev_t rfl) (fun _ => F10.cell 4 rfl rfl)) ?_)
      refine Ops.step (One.val rfl rfl rfl (yld_len sl24 rfl (ev_t rfl)) ?_)
      refine Ops.step (One.val rfl rfl rfl (yld_assign rfl (ev_t rfl)) ?_)
      refine Ops.nil fun a hS => ?_
      refine hK11 _ _ ?_ a hS
      refine Cod.seq fun K12 hK12 => ?_
      refine Cod.seq fun K13 hK13 => ?_
      refine Cod.region ?_
      refine Ops.step (One.val rfl rfl rfl (yld_move rfl (ev_t rfl)) ?_)
      refine Ops.step (One.val rfl rfl rfl (yld_move rfl (ev_t rfl)) ?_)
      refine Ops.step (One.val rfl rfl rfl (yld_geq rfl (ev_t rfl) (ev_t rfl)) ?_)
      refine Ops.step (One.val rfl rfl rfl (yld_move rfl (ev_t rfl)) ?_)
      refine Ops.step (One.val (gd_some rfl rfl) rfl rfl (yld_move rfl (ev_t rfl)) ?_)
      refine Ops.step (One.val (gd_some rfl rfl) rfl rfl (yld_move rfl (ev_t rfl)) ?_)
      refine Ops.step (One.val (gd_some rfl rfl) rfl rfl (yld_neg rfl (ev_g rfl) (fun _ => by omega)) ?_)
      refine Ops.step (One.val (gd_some rfl rfl) rfl rfl (yld_lss rfl (ev_g rfl) (ev_g rfl)) ?_)
      refine Ops.step (One.val rfl rfl rfl (yld_or rfl (ev_t rfl) (ev_g rfl)) ?_)
      refine Ops.nil fun a hS => ?_
      refine hK13 _ _ ?_ a hS
      refine Cod.cond rfl (fun hc76 => ?_) (fun hc76 => ?_)
      · skip
        have hout : (ta.list.length : Int) ≤ an ∨ an < -(ta.list.length : Int) := by
          have h := hc76
          simp at h
          omega
        refine Cod.seq fun K14 hK14 => ?_
        refine Cod.region ?_
        refine Ops.step (One.val rfl rfl rfl (yld_field fi26_0 rfl (ev_t rfl)) ?_)
        refine Ops.step (One.val rfl rfl rfl (yld_load1 on3 rfl (ev_t rfl) (fun _ => F10.cell 2 rfl rfl)) ?_)
        refine Ops.step (One.val rfl rfl rfl (yld_eql rfl (ev_t rfl) ev_c) ?_)
        refine Ops.step (One.val rfl rfl rfl (yld_assign rfl (ev_t rfl)) ?_)
        refine Ops.nil fun a hS => ?_
        refine hK14 _ _ ?_ a hS
        refine Cod.ret fun a hS => ?_
        try simp only [Exit.then, Exit.inBlock]
        exact ret1 (t := 2) rfl hS rfl ⟨ret_b (out hR1 hsome h5 hout), F10.chg⟩
      · skip
        have hin : an < ta.list.length ∧ -(ta.list.length : Int) ≤ an := by
          have h := hc76
          simp at h
          omega
        refine Cod.skip fun a hS => ?_
        refine hK12 _ _ ?_ a hS
        refine Cod.seq fun K15 hK15 => ?_
        refine Cod.region ?_
        refine Ops.step (One.val rfl rfl rfl (yld_move rfl (ev_t rfl)) ?_)
        refine Ops.step (One.val rfl rfl rfl (yld_move rfl (ev_t rfl)) ?_)
        refine Ops.step (One.val rfl rfl rfl (yld_sub rfl (ev_t rfl) (ev_t rfl) (fun _ => by omega)) ?_)
        refine Ops.step (One.val rfl rfl rfl (yld_assign rfl (ev_t rfl)) ?_)
        refine Ops.nil fun a hS => ?_
        refine hK15 _ _ ?_ a hS
        refine Cod.cut (fun i : Int × Unit => [(3, true, .pointer (some ⟨b1, 0, none⟩)), (4, true, .int .i64 an), (5, true, .pointer (some ⟨b2, 0, none⟩)), (10, true, .int .i64 i.1)]) (fun i w' => (i.1 = if an < 0 then an + (ta.list.length : Int) else an - (ta.list.length : Int)) ∧ Fr No w [blk b2 26 (enc5 (x5 (R1.getD zeroT).kind (R1.getD zeroT).num (R1.getD zeroT).str (.slice A3e1 (R1.getD zeroT).keys.length c3e1) (.slice A4e1 (R1.getD zeroT).list.length c4e1))), sep E1 (R1.getD zeroT) (x5 (R1.getD zeroT).kind (R1.getD zeroT).num (R1.getD zeroT).str (.slice A3e1 (R1.getD zeroT).keys.length c3e1) (.slice A4e1 (R1.getD zeroT).list.length c4e1)).val, blk b1 26 (enc5 (x5 ta.kind ta.num ta.str (.slice A3a ta.keys.length c3a) (.slice A4a ta.list.length c4a))), rps Grsa [(ta, (x5 ta.kind ta.num ta.str (.slice A3a ta.keys.length c3a) (.slice A4a ta.list.length c4a)).val)]] w') (fun K16 hK16 => ?_) ?_
        · skip
          refine Cod.seq fun K17 hK17 => ?_
          refine Cod.region ?_
          refine Ops.step (One.val rfl rfl rfl (yld_move rfl (ev_t rfl)) ?_)
          refine Ops.step (One.val rfl rfl rfl (yld_lss rfl (ev_t rfl) ev_c) ?_)
          refine Ops.nil fun a hS => ?_
          refine hK17 _ _ ?_ a hS
          refine Cod.cond rfl (fun hc84 => ?_) (fun hc84 => ?_)
          · skip
            refine Cod.region ?_
            refine Ops.step (One.val rfl rfl rfl (yld_move rfl (ev_t rfl)) ?_)
            refine Ops.step (One.val rfl rfl rfl (yld_move rfl (ev_t rfl)) ?_)
            refine Ops.step (One.val rfl rfl rfl (yld_add rfl (ev_t rfl) (ev_t rfl) (fun _ => by omega)) ?_)
            refine Ops.step (One.val rfl rfl rfl (yld_assign rfl (ev_t rfl)) ?_)
            refine Ops.nil fun a hS => ?_
            have F12 := F10.pull 5 rfl
            have F13 := F12.pull 5 rfl
            have F14 := F13.pull 5 rfl
            have F15 := F14.pull 5 rfl
            have F16 := F15.erase 4
            have F17 := F16.erase 4
            first
              | exact hK16 (an + (ta.list.length : Int), ()) _ a (hS.sub ⟨rfl, rfl, rfl, rfl, trivial⟩) ⟨(if_pos (of_decide_eq_true hc84)).symm, F17⟩
              | exact hK16 (an - (ta.list.length : Int), ()) _ a (hS.sub ⟨rfl, rfl, rfl, rfl, trivial⟩) ⟨(if_neg (of_decide_eq_false hc84)).symm, F17⟩
          · skip
            refine Cod.skip fun a hS => ?_
            have F18 := F10.pull 5 rfl
            have F19 := F18.pull 5 rfl
            have F20 := F19.pull 5 rfl
            have F21 := F20.pull 5 rfl
            have F22 := F21.erase 4
            have F23 := F22.erase 4
            first
              | exact hK16 (an + (ta.list.length : Int), ()) _ a (hS.sub ⟨rfl, rfl, rfl, rfl, trivial⟩) ⟨(if_pos (of_decide_eq_true hc84)).symm, F23⟩
              | exact hK16 (an - (ta.list.length : Int), ()) _ a (hS.sub ⟨rfl, rfl, rfl, rfl, trivial⟩) ⟨(if_neg (of_decide_eq_false hc84)).symm, F23⟩
        · skip
          intro i w12 hW
          obtain ⟨m, u0⟩ := i
          obtain ⟨hm, F24⟩ := hW
          dsimp only at *
          have hmr : -9223372036854775808 ≤ m ∧ m ≤ 9223372036854775807 := by split at hm <;> omega
          refine Cod.seq fun K18 hK18 => ?_
          refine Cod.region ?_
          refine Ops.step (One.val rfl rfl rfl (yld_loadN ag26 rfl (ev_t rfl) (fun _ => F24.range (m := 5) (cs' := [_, _, _, _, _]) 2 rfl rfl) rfl) ?_)
          refine Ops.step (One.val rfl rfl rfl (yld_move rfl (ev_t rfl)) ?_)
          refine Ops.step (One.call rfl rfl rfl (ent_f rfl (evl2 (ev_t rfl) (ev_t rfl)) (enters en22)) (partAt_ct ta m hmr _ _ (rps_get (F24.get 3 rfl) 0 rfl) hda.fit (by omega)) (fun e w13 hw13 => ?_))
          obtain ⟨R2, hR2⟩ : ∃ R, R = partAtR ta m := ⟨_, rfl⟩
          have hO2 : okT (R2.getD zeroT) = true := by rw [hR2]; exact partAtR_ok ta m
          rw [← hR2] at hw13
          obtain ⟨e3, E3, rfl, C13, hE3, hEb3⟩ := hw13
          obtain ⟨A3e3, c3e3, A4e3, c4e3, hxe3⟩ := rep_x hE3.rep
          subst hxe3
          have F25 := F24.new C13 (sep E3 (R2.getD zeroT) (x5 (R2.getD zeroT).kind (R2.getD zeroT).num (R2.getD zeroT).str (.slice A3e3 (R2.getD zeroT).keys.length c3e3) (.slice A4e3 (R2.getD zeroT).list.length c4e3)).val) hE3 hEb3
          refine ⟨_, rfl, ?_⟩
          refine Ops.step (One.val rfl rfl rfl (yld_move rfl (ev_t rfl)) ?_)
          refine Ops.step (One.val rfl rfl rfl (yld_extract rfl (ev_t rfl) rfl) ?_)
          refine Ops.step (One.val rfl rfl rfl (yld_extract rfl (ev_t rfl) rfl) ?_)
          refine Ops.step (One.alloc F25 zero26 rfl rfl rfl rfl ?_)
          intro b4 w14 hb4 F26
          change Fr _ _ [blk _ _ [_, _, _, _, _], _, blk _ _ [_, _, _, _, _], _, blk _ _ [_, _, _, _, _], _] _ at F26
          refine Ops.step (One.storeN (vs := [_, _, _, _, _]) F26 0 rfl sz26 rfl rfl rfl (ev_t rfl) (ev_t rfl) rfl rfl (Sep.one (x := (x5 (R2.getD zeroT).kind (R2.getD zeroT).num (R2.getD zeroT).str (.slice A3e3 (R2.getD zeroT).keys.length c3e3) (.slice A4e3 (R2.getD zeroT).list.length c4e3))) (F26.get 1 rfl)) ?_)
          intro w15 F27
          change Fr _ _ [blk _ _ [_, _, _, _, _], _, blk _ _ [_, _, _, _, _], _, blk _ _ [_, _, _, _, _], _] _ at F27
          refine Ops.step (One.val rfl rfl rfl (yld_assign rfl (ev_t rfl)) ?_)
          refine Ops.nil fun a hS => ?_
          refine hK18 _ _ ?_ a hS
          refine Cod.seq fun K19 hK19 => ?_
          refine Cod.region ?_
          refine Ops.step (One.val rfl rfl rfl (yld_loadN ag26 rfl (ev_t rfl) (fun _ => F27.range (m := 5) (cs' := [_, _, _, _, _]) 4 rfl rfl) rfl) ?_)
          refine Ops.step (One.val rfl rfl rfl (yld_move rfl (ev_t rfl)) ?_)
          refine Ops.step (One.val rfl rfl rfl (yld_build (cells := [.int .i64 2, .int .i64 0, .string ⟨#[]⟩, .slice none 0 0, .slice none 0 0]) rfl (evp1 ev_c) (by kernel_rfl)) ?_)
          refine Ops.step (One.call rfl rfl rfl (ent_f rfl (evl3 (ev_t rfl) (ev_t rfl) (ev_t rfl)) (enters en24)) (set_ct ta (Tr.mk 2 0 ⟨#[]⟩ [] []) an han _ _ _ (rps_get (F27.get 5 rfl) 0 rfl) (rep_leaf _ 2 0 ⟨#[]⟩) hda.fit (leaf_fit 2 0 (by decide)) (by omega) (leaf_wt 2 0 (by decide))) (fun e w16 hw16 => ?_))
          obtain ⟨R3, hR3⟩ : ∃ R, R = setR ta (Tr.mk 2 0 ⟨#[]⟩ [] []) an := ⟨_, rfl⟩
          have hO3 : okT (R3.getD zeroT) = true := by rw [hR3]; exact setR_ok ta (Tr.mk 2 0 ⟨#[]⟩ [] []) an
          rw [← hR3] at hw16
          obtain ⟨e4, E4, rfl, C16, hE4, hEb4⟩ := hw16
          obtain ⟨A3e4, c3e4, A4e4, c4e4, hxe4⟩ := rep_x hE4.rep
          subst hxe4
          have F28 := F27.new C16 (sep E4 (R3.getD zeroT) (x5 (R3.getD zeroT).kind (R3.getD zeroT).num (R3.getD zeroT).str (.slice A3e4 (R3.getD zeroT).keys.length c3e4) (.slice A4e4 (R3.getD zeroT).list.length c4e4)).val) hE4 hEb4
          refine ⟨_, rfl, ?_⟩
          refine Ops.step (One.val rfl rfl rfl (yld_move rfl (ev_t rfl)) ?_)
          refine Ops.step (One.val rfl rfl rfl (yld_extract rfl (ev_t rfl) rfl) ?_)
          refine Ops.step (One.val rfl rfl rfl (yld_extract rfl (ev_t rfl) rfl) ?_)
          refine Ops.step (One.alloc F28 zero26 rfl rfl rfl rfl ?_)
          intro b5 w17 hb5 F29
          change Fr _ _ [blk _ _ [_, _, _, _, _], _, blk _ _ [_, _, _, _, _], _, blk _ _ [_, _, _, _, _], _, blk _ _ [_, _, _, _, _], _] _ at F29
          refine Ops.step (One.storeN (vs := [_, _, _, _, _]) F29 0 rfl sz26 rfl rfl rfl (ev_t rfl) (ev_t rfl) rfl rfl (Sep.one (x := (x5 (R3.getD zeroT).kind (R3.getD zeroT).num (R3.getD zeroT).str (.slice A3e4 (R3.getD zeroT).keys.length c3e4) (.slice A4e4 (R3.getD zeroT).list.length c4e4))) (F29.get 1 rfl)) ?_)
          intro w18 F30
          change Fr _ _ [blk _ _ [_, _, _, _, _], _, blk _ _ [_, _, _, _, _], _, blk _ _ [_, _, _, _, _], _, blk _ _ [_, _, _, _, _], _] _ at F30
          refine Ops.step (One.val rfl rfl rfl (yld_assign rfl (ev_t rfl)) ?_)
          refine Ops.nil fun a hS => ?_
          refine hK19 _ _ ?_ a hS
          refine Cod.seq fun K20 hK20 => ?_
          refine Cod.region ?_
          refine Ops.step (One.val rfl rfl rfl (yld_loadN ag26 rfl (ev_t rfl) (fun _ => F30.range (m := 5) (cs' := [_, _, _, _, _]) 6 rfl rfl) rfl) ?_)
          refine Ops.step (One.val rfl rfl rfl (yld_move rfl (ev_t rfl)) ?_)
          refine Ops.step (One.val rfl rfl rfl (yld_build (cells := [.int .i64 2, .int .i64 0, .string ⟨#[]⟩, .slice none 0 0, .slice none 0 0]) rfl (evp1 ev_c) (by kernel_rfl)) ?_)
          refine Ops.step (One.call rfl rfl rfl (ent_f rfl (evl3 (ev_t rfl) (ev_t rfl) (ev_t rfl)) (enters en24)) (set_ct ta (Tr.mk 2 0 ⟨#[]⟩ [] []) m hmr _ _ _ (rps_get (F30.get 7 rfl) 0 rfl) (rep_leaf _ 2 0 ⟨#[]⟩) hda.fit (leaf_fit 2 0 (by decide)) (by omega) (leaf_wt 2 0 (by decide))) (fun e w19 hw19 => ?_))
          obtain ⟨R4, hR4⟩ : ∃ R, R = setR ta (Tr.mk 2 0 ⟨#[]⟩ [] []) m := ⟨_, rfl⟩
          have hO4 : okT (R4.getD zeroT) = true := by rw [hR4]; exact setR_ok ta (Tr.mk 2 0 ⟨#[]⟩ [] []) m
          rw [← hR4] at hw19
          obtain ⟨e5, E5, rfl, C19, hE5, hEb5⟩ := hw19
          obtain ⟨A3e5, c3e5, A4e5, c4e5, hxe5⟩ := rep_x hE5.rep
          subst hxe5
          have F31 := F30.new C19 (sep E5 (R4.getD zeroT) (x5 (R4.getD zeroT).kind (R4.getD zeroT).num (R4.getD zeroT).str (.slice A3e5 (R4.getD zeroT).keys.length c3e5) (.slice A4e5 (R4.getD zeroT).list.length c4e5)).val) hE5 hEb5
          refine ⟨_, rfl, ?_⟩
          refine Ops.step (One.val rfl rfl rfl (yld_move rfl (ev_t rfl)) ?_)
          refine Ops.step (One.val rfl rfl rfl (yld_extract rfl (ev_t rfl) rfl) ?_)
          refine Ops.step (One.val rfl rfl rfl (yld_extract rfl (ev_t rfl) rfl) ?_)
          refine Ops.step (One.alloc F31 zero26 rfl rfl rfl rfl ?_)
          intro b6 w20 hb6 F32
          change Fr _ _ [blk _ _ [_, _, _, _, _], _, blk _ _ [_, _, _, _, _], _, blk _ _ [_, _, _, _, _], _, blk _ _ [_, _, _, _, _], _, blk _ _ [_, _, _, _, _], _] _ at F32
          refine Ops.step (One.storeN (vs := [_, _, _, _, _]) F32 0 rfl sz26 rfl rfl rfl (ev_t rfl) (ev_t rfl) rfl rfl (Sep.one (x := (x5 (R4.getD zeroT).kind (R4.getD zeroT).num (R4.getD zeroT).str (.slice A3e5 (R4.getD zeroT).keys.length c3e5) (.slice A4e5 (R4.getD zeroT).list.length c4e5))) (F32.get 1 rfl)) ?_)
          intro w21 F33
          change Fr _ _ [blk _ _ [_, _, _, _, _], _, blk _ _ [_, _, _, _, _], _, blk _ _ [_, _, _, _, _], _, blk _ _ [_, _, _, _, _], _, blk _ _ [_, _, _, _, _], _] _ at F33
          refine Ops.step (One.val rfl rfl rfl (yld_assign rfl (ev_t rfl)) ?_)
          refine Ops.nil fun a hS => ?_
          refine hK20 _ _ ?_ a hS
          refine Cod.seq fun K21 hK21 => ?_
          refine Cod.region ?_
          refine Ops.step (One.val rfl rfl rfl (yld_loadN ag26 rfl (ev_t rfl) (fun _ => F33.range (m := 5) (cs' := [_, _, _, _, _]) 2 rfl rfl) rfl) ?_)
          refine Ops.step (One.val rfl rfl rfl (yld_move rfl (ev_t rfl)) ?_)
          refine Ops.step (One.val rfl rfl rfl (yld_loadN ag26 rfl (ev_t rfl) (fun _ => F33.range (m := 5) (cs' := [_, _, _, _, _]) 6 rfl rfl) rfl) ?_)
          refine Ops.step (One.call rfl rfl rfl (ent_f rfl (evl3 (ev_t rfl) (ev_t rfl) (ev_t rfl)) (enters en24)) (set_ct (R3.getD zeroT) (R1.getD zeroT) an han _ _ _ (F33.get 3 rfl).rep (F33.get 7 rfl).rep (okT_fit hO3) (okT_fit hO1) (okT_w hO3) (okT_w hO1)) (fun e w22 hw22 => ?_))
          obtain ⟨R5, hR5⟩ : ∃ R, R = setR (R3.getD zeroT) (R1.getD zeroT) an := ⟨_, rfl⟩
          have hO5 : okT (R5.getD zeroT) = true := by rw [hR5]; exact setR_ok (R3.getD zeroT) (R1.getD zeroT) an
          rw [← hR5] at hw22
          obtain ⟨e6, E6, rfl, C22, hE6, hEb6⟩ := hw22
          obtain ⟨A3e6, c3e6, A4e6, c4e6, hxe6⟩ := rep_x hE6.rep
          subst hxe6
          have F34 := F33.new C22 (sep E6 (R5.getD zeroT) (x5 (R5.getD zeroT).kind (R5.getD zeroT).num (R5.getD zeroT).str (.slice A3e6 (R5.getD zeroT).keys.length c3e6) (.slice A4e6 (R5.getD zeroT).list.length c4e6)).val) hE6 hEb6
          refine ⟨_, rfl, ?_⟩
          refine Ops.step (One.val rfl rfl rfl (yld_move rfl (ev_t rfl)) ?_)
          refine Ops.step (One.val rfl rfl rfl (yld_extract rfl (ev_t rfl) rfl) ?_)
          refine Ops.step (One.val rfl rfl rfl (yld_extract rfl (ev_t rfl) rfl) ?_)
          refine Ops.step (One.alloc F34 zero26 rfl rfl rfl rfl ?_)
          intro b7 w23 hb7 F35
          change Fr _ _ [blk _ _ [_, _, _, _, _], _, blk _ _ [_, _, _, _, _], _, blk _ _ [_, _, _, _, _], _, blk _ _ [_, _, _, _, _], _, blk _ _ [_, _, _, _, _], _, blk _ _ [_, _, _, _, _], _] _ at F35
          refine Ops.step (One.storeN (vs := [_, _, _, _, _]) F35 0 rfl sz26 rfl rfl rfl (ev_t rfl) (ev_t rfl) rfl rfl (Sep.one (x := (x5 (R5.getD zeroT).kind (R5.getD zeroT).num (R5.getD zeroT).str (.slice A3e6 (R5.getD zeroT).keys.length c3e6) (.slice A4e6 (R5.getD zeroT).list.length c4e6))) (F35.get 1 rfl)) ?_)
          intro w24 F36
          change Fr _ _ [blk _ _ [_, _, _, _, _], _, blk _ _ [_, _, _, _, _], _, blk _ _ [_, _, _, _, _], _, blk _ _ [_, _, _, _, _], _, blk _ _ [_, _, _, _, _], _, blk _ _ [_, _, _, _, _], _] _ at F36
          refine Ops.step (One.val rfl rfl rfl (yld_assign rfl (ev_t rfl)) ?_)
          refine Ops.nil fun a hS => ?_
          refine hK21 _ _ ?_ a hS
          refine Cod.seq fun K22 hK22 => ?_
          refine Cod.region ?_
          refine Ops.step (One.val rfl rfl rfl (yld_move rfl (ev_t rfl)) ?_)
          refine Ops.step (One.val rfl rfl rfl (yld_move rfl (ev_t rfl)) ?_)
          refine Ops.step (One.val (gd_some rfl rfl) rfl rfl (yld_loadN ag26 rfl (ev_t rfl) (fun _ => F36.range (m := 5) (cs' := [_, _, _, _, _]) 6 rfl rfl) rfl) ?_)
          refine Ops.step (One.val (gd_some rfl rfl) rfl rfl (yld_loadN ag26 rfl (ev_t rfl) (fun _ => F36.range (m := 5) (cs' := [_, _, _, _, _]) 8 rfl rfl) rfl) ?_)
          refine Ops.step (One.gcall (R := Chg No w24) (gd_some rfl rfl) rfl rfl (ent_f rfl (evl2 (ev_g rfl) (ev_g rfl)) (enters en20)) (Chg.refl _ _) (fun hg => valSame_ct (R2.getD zeroT) (R1.getD zeroT) _ _ _ (F36.get 7 rfl).rep (F36.get 9 rfl).rep) ?_)
          intro w25 C25
          have F37 := F36.call C25
          refine Ops.step (One.val rfl rfl rfl (yld_and rfl (ev_t rfl) (ev_g rfl)) ?_)
          refine Ops.step (One.val rfl rfl rfl (yld_move rfl (ev_t rfl)) ?_)
          refine Ops.step (One.val (gd_some rfl rfl) rfl rfl (yld_move rfl (ev_t rfl)) ?_)
          refine Ops.step (One.val rfl rfl rfl (yld_and rfl (ev_t rfl) (ev_g rfl)) ?_)
          refine Ops.step (One.val rfl rfl rfl (yld_move rfl (ev_t rfl)) ?_)
          refine Ops.step (One.val (gd_some rfl rfl) rfl rfl (yld_move rfl (ev_t rfl)) ?_)
          refine Ops.step (One.val rfl rfl rfl (yld_and rfl (ev_t rfl) (ev_g rfl)) ?_)
          refine Ops.step (One.val rfl rfl rfl (yld_move rfl (ev_t rfl)) ?_)
          refine Ops.step (One.val (gd_some rfl rfl) rfl rfl (yld_loadN ag26 rfl (ev_t rfl) (fun _ => F37.range (m := 5) (cs' := [_, _, _, _, _]) 4 rfl rfl) rfl) ?_)
          refine Ops.step (One.val (gd_some rfl rfl) rfl rfl (yld_loadN ag26 rfl (ev_t rfl) (fun _ => F37.range (m := 5) (cs' := [_, _, _, _, _]) 2 rfl rfl) rfl) ?_)
          refine Ops.step (One.gcall (R := Chg No w25) (gd_some rfl rfl) rfl rfl (ent_f rfl (evl2 (ev_g rfl) (ev_g rfl)) (enters en20)) (Chg.refl _ _) (fun hg => valSame_ct (R3.getD zeroT) (R4.getD zeroT) _ _ _ (F37.get 5 rfl).rep (F37.get 3 rfl).rep) ?_)
          intro w26 C26
          have F38 := F37.call C26
          refine Ops.step (One.val rfl rfl rfl (yld_and rfl (ev_t rfl) (ev_g rfl)) ?_)
          refine Ops.step (One.val rfl rfl rfl (yld_move rfl (ev_t rfl)) ?_)
          refine Ops.step (One.val (gd_some rfl rfl) rfl rfl (yld_move rfl (ev_t rfl)) ?_)
          refine Ops.step (One.val rfl rfl rfl (yld_and rfl (ev_t rfl) (ev_g rfl)) ?_)
          refine Ops.step (One.val rfl rfl rfl (yld_move rfl (ev_t rfl)) ?_)
          refine Ops.step (One.val (gd_some rfl rfl) rfl rfl (yld_loadN ag26 rfl (ev_t rfl) (fun _ => F38.range (m := 5) (cs' := [_, _, _, _, _]) 0 rfl rfl) rfl) ?_)
          refine Ops.step (One.val (gd_some rfl rfl) rfl rfl (yld_loadN ag26 rfl (ev_t rfl) (fun _ => F38.range (m := 5) (cs' := [_, _, _, _, _]) 10 rfl rfl) rfl) ?_)
          refine Ops.step (One.gcall (R := Chg No w26) (gd_some rfl rfl) rfl rfl (ent_f rfl (evl2 (ev_g rfl) (ev_g rfl)) (enters en20)) (Chg.refl _ _) (fun hg => valSame_ct (R5.getD zeroT) ta _ _ _ (F38.get 1 rfl).rep (rps_get (F38.get 11 rfl) 0 rfl)) ?_)
          intro w27 C27
          have F39 := F38.call C27
          refine Ops.step (One.val rfl rfl rfl (yld_and rfl (ev_t rfl) (ev_g rfl)) ?_)
          refine Ops.step (One.val rfl rfl rfl (yld_assign rfl (ev_t rfl)) ?_)
          refine Ops.nil fun a hS => ?_
          refine hK22 _ _ ?_ a hS
          refine Cod.ret fun a hS => ?_
          try simp only [Exit.then, Exit.inBlock]
          obtain ⟨q1, q2, q3, q4, q5⟩ := fin hR1 hsome h5 hin hm hR2 hR3 hR4 hR5
          exact ret1 (t := 2) rfl hS rfl ⟨ret_b (by rw [q1, q4, q5, q2, q3]; simp), F39.chg⟩


theorem ownKnob_none : ownKnob Try.prog.godebug = none := by kernel_rfl
theorem params_ok : ∀ t ∈ Try.f5.params.toList, Try.prog.readableRec t = true ∧ t < Try.prog.types.size := by
  rw [Try.params5]
  intro t ht
  simp only [List.mem_cons, List.not_mem_nil, or_false] at ht
  rcases ht with rfl <;> exact ⟨by kernel_rfl, of_decide_eq_true (by kernel_rfl)⟩
set_option maxRecDepth 100000 in
theorem lifted (os : Os) (started : os.Started) (H : Type) (enc : TypeId × Value → H) :
    ReturnsInHanded {} Try.checked os 5 .any (Rows.fnPartAtSpec.pre6 enc Try.prog Try.f5 Rows.fnPartAtRow.domain false) (Rows.fnPartAtSpec.post enc Try.prog Try.f5 false true false false) := by
  refine returnsInHanded_of_change (C := Try.checked) ownKnob_none started (by kernel_rfl) Try.func5
    (ChangeSpec.witness6 (enc := enc) (C := Try.checked) false ⟨#[], #[.slice none 0 0], []⟩ 8 (by kernel_rfl) (by kernel_rfl) (by kernel_rfl) (by kernel_rfl)) ?_
  intro W base args ds gs before hval0 hW hcnd _
  have hval : ∀ (j : Nat) t v, Try.f5.params[j]? = some t → args[j]? = some v → Value.okWide Try.prog W .any base t v := hval0
  have hW' := hW
  obtain ⟨p, q, hA0, hV, rfl, hfz, hnd⟩ := hW
  have hA : DataW.TrodAll enc Try.prog W 0 (fun _ => true) true Try.f5.params.toList args.toList ds p := hA0
  rw [Try.params5] at hA hval
  obtain ⟨v0, d0, rfl, rfl, h0⟩ := trodAll_one hA
  obtain ⟨rfl, rfl⟩ := trodVars_none hV
  obtain ⟨code, hp⟩ := open_bytes (hval 0 _ v0 rfl rfl) h0
  refine (walk code v0 W hp).mono fun e W' ⟨he, hc⟩ => ?_
  subst he
  exact ⟨_, rfl, post_chg laidOut rfl params_ok hW' (fun _ _ _ => (trodAll_cons_mk (shut_bool Try.underlying4 _) trodAll_mk0)) rfl rfl hc (ok_one (by kernel_rfl) rfl (okWide_bool_mk Try.underlying4 _))⟩

theorem over : Rows.fnPartAtRow.holds Try.pinned (OpenSpec.ofChange Rows.fnPartAtSpec) :=
  OpenClaim.holds_of_wide 5 Try.f5 rfl rfl rfl rfl rfl rfl rfl ⟨rfl, rfl, rfl, rfl, rfl⟩ rfl rfl rfl rfl rfl (by kernel_rfl) Try.func5 (by kernel_rfl)
    (of_decide_eq_true (by kernel_rfl)) (by unfold Func.isWrapper; first | (rw [if_pos (by decide +kernel)]; kernel_rfl) | (rw [if_neg (by decide +kernel)]; exact ⟨rfl, rfl⟩))
    (fun os started H enc _ => lifted os started H enc)

/-- The statement. -/
theorem proved : Rows.FnPartAtSaid := over
#print axioms proved

end GPartAt
end Go.Proofs.Ytphchpbfhcniaaa.Eng
