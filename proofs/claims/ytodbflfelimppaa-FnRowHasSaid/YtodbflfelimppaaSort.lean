/- Walks of both RowSort and what they call: a row in order. -/
import Derived.Test.YtodbflfelimppaaSortP
import Derived.Test.YtodbflfelimppaaBack
namespace Go.Proofs.Ytodbflfelimppaa.Eng
open Go.RowKit
set_option linter.unusedVariables false
set_option linter.unusedSimpArgs false
set_option maxHeartbeats 1000000


theorem map_at {zs : List (Tr × V5)} {j : Nat} {z : Tr × V5} (h : zs[j]? = some z) : (List.map Prod.snd zs)[j]? = some z.2 := by rw [List.getElem?_map, h]; rfl
theorem map_swap {l l' : List (Tr × V5)} {j : Nat} {a b : Tr × V5} (h : (l.set (j + 1) a).set j b = l') : ((List.map Prod.snd l).set (j + 1) a.2).set j b.2 = List.map Prod.snd l' := by
  rw [← h, List.map_set, List.map_set]

set_option maxHeartbeats 4000000 in
set_option maxRecDepth 100000 in
theorem insS_ct (zs : List (Tr × V5)) (v : Value) (w : World) (h : (own 31 5 v zs.length ((List.map Prod.snd zs).flatMap enc5)).is w) (hz : ∀ z ∈ zs, Rep (fun k => ¬ v.ownBlock = some k) w z.1 z.2.val) (hn : zs.length ≤ 1000) :
    Calls Try.prog 154 #[v, .int .i64 0, .int .i64 (zs.length : Int), .func (.func 38) #[] #[]] w fun e w' => e = .returned (.tuple #[]) ∧ Chg (fun b => v.ownBlock = some b) w w' ∧ (own 31 5 v zs.length ((List.map Prod.snd (sortL ordZ zs)).flatMap enc5)).is w' := by
  obtain ⟨A, m0, c0, hv⟩ := own_form h
  have hm0 : m0 = zs.length := own_len h hv
  subst hv
  subst hm0
  refine enter Try.func154 rfl rfl rfl ?_
  have F0 := Fr.lend _ h
  refine Cod.seq fun K1 hK1 => ?_
  refine Cod.region ?_
  refine Ops.step (One.val rfl rfl rfl (yld_move rfl (ev_t rfl)) ?_)
  refine Ops.step (One.val rfl rfl rfl (yld_add rfl (ev_t rfl) ev_c (fun _ => by omega)) ?_)
  refine Ops.step (One.val rfl rfl rfl (yld_assign rfl (ev_t rfl)) ?_)
  refine Ops.nil fun a hS => ?_
  refine hK1 _ _ ?_ a hS
  refine Cod.block ?_
  refine Cod.loop (fun i : Nat => [(0, true, .slice A zs.length c0), (1, true, .int .i64 0), (2, true, .int .i64 (zs.length : Int)), (3, true, .func (.func 38) #[] #[]), (8, true, .int .i64 ((i + 1 : Nat) : Int))]) (fun i w' => i ≤ zs.length ∧ Fr (fun b => (Value.slice A zs.length c0).ownBlock = some b) w [own 31 5 (.slice A zs.length c0) zs.length ((List.map Prod.snd (srtZ zs i)).flatMap enc5)] w') (fun i => zs.length - i) 0 ⟨rfl, rfl, rfl, rfl, rfl, trivial⟩ ⟨Nat.zero_le _, by rw [srtZ_zero]; exact F0⟩ ?_
  intro i w1 hW K2 hK2
  obtain ⟨ix, hix⟩ : ∃ ix, ix = i := ⟨i, rfl⟩
  subst hix
  obtain ⟨hi, F1⟩ := hW
  refine Cod.seq fun K3 hK3 => ?_
  refine Cod.seq fun K4 hK4 => ?_
  refine Cod.region ?_
  refine Ops.step (One.val rfl rfl rfl (yld_move rfl (ev_t rfl)) ?_)
  refine Ops.step (One.val rfl rfl rfl (yld_move rfl (ev_t rfl)) ?_)
  refine Ops.step (One.val rfl rfl rfl (yld_lss rfl (ev_t rfl) (ev_t rfl)) ?_)
  refine Ops.nil fun a hS => ?_
  refine hK4 _ _ ?_ a hS
  refine Cod.cond rfl (fun hc14 => ?_) (fun hc14 => ?_)
  · skip
    have hi1 : ix + 1 < zs.length := by simp at hc14; omega
    have hPl : (sortL ordZ (zs.take (ix + 1))).length = ix + 1 := by rw [sortL_len]; simp; omega
    obtain ⟨bb, cap, hv, -, -⟩ := World.ownsRow.form (F1.get 0 rfl) (by omega)
    obtain ⟨rfl, -⟩ : A = some ⟨bb, 0, none⟩ ∧ c0 = cap := by simpa using hv
    rw [← srtZ_is zs ix hi1] at F1
    have hzE : ∀ z ∈ (sortL ordZ (zs.take (ix + 1))) ++ zs[ix + 1] :: zs.drop (ix + 2), z ∈ zs := fun z hz0 => by
      rw [← List.drop_eq_getElem_cons hi1] at hz0
      exact (srtZ_perm zs ix).mem_iff.1 hz0
    have hPs : Srt ordZ (sortL ordZ (zs.take (ix + 1))) := sortL_srt ordZ_pre _
    obtain ⟨e, he⟩ : ∃ e, e = zs[ix + 1] := ⟨_, rfl⟩
    have hre := hz _ (List.getElem_mem hi1)
    have hnx := srtZ_next zs ix hi1
    rw [← he] at F1 hzE hre hnx
    refine Cod.skip fun a hS => ?_
    refine hK3 _ _ ?_ a hS
    refine Cod.seq fun K5 hK5 => ?_
    refine Cod.block ?_
    refine Cod.seq fun K6 hK6 => ?_
    refine Cod.region ?_
    refine Ops.step (One.val rfl rfl rfl (yld_move rfl (ev_t rfl)) ?_)
    refine Ops.step (One.val rfl rfl rfl (yld_assign rfl (ev_t rfl)) ?_)
    refine Ops.nil fun a hS => ?_
    refine hK6 _ _ ?_ a hS
    refine Cod.block ?_
    refine Cod.loop (fun i : Nat => [(0, true, .slice (some ⟨bb, 0, none⟩) zs.length c0), (1, true, .int .i64 0), (2, true, .int .i64 (zs.length : Int)), (3, true, .func (.func 38) #[] #[]), (8, true, .int .i64 ((ix + 1 : Nat) : Int)), (9, true, .int .i64 (i : Int))]) (fun i w' => i ≤ ix + 1 ∧ Way ordZ (sortL ordZ (zs.take (ix + 1))) e i ∧ Fr (fun b => (Value.slice (some ⟨bb, 0, none⟩) zs.length c0).ownBlock = some b) w [own 31 5 (.slice (some ⟨bb, 0, none⟩) zs.length c0) zs.length ((List.map Prod.snd (IS (sortL ordZ (zs.take (ix + 1))) e (zs.drop (ix + 2)) i)).flatMap enc5)] w') (fun i => i) (ix + 1) ⟨rfl, rfl, rfl, rfl, rfl, rfl, trivial⟩ ⟨Nat.le_refl _, by have h := Way.full (f := ordZ) (sortL ordZ (zs.take (ix + 1))) e; rw [hPl] at h; exact h, F1⟩ ?_
    intro i w2 hW K7 hK7
    obtain ⟨jx, hjx⟩ : ∃ jx, jx = i := ⟨i, rfl⟩
    subst hjx
    obtain ⟨hj, hway, F2⟩ := hW
    obtain ⟨y, hy⟩ : ∃ y : Tr × V5, ∀ q, jx = q + 1 → y ∈ zs ∧ (sortL ordZ (zs.take (ix + 1)))[q]? = some y := by
      cases jx with
      | zero => exact ⟨e, fun q h => by omega⟩
      | succ q =>
        refine ⟨(sortL ordZ (zs.take (ix + 1)))[q]'(by omega), fun r h => ?_⟩
        obtain rfl : q = r := by omega
        exact ⟨hzE _ (List.mem_append.2 (.inl (List.getElem_mem _))), List.getElem?_eq_getElem (by omega)⟩
    have hIl : (List.map Prod.snd (IS (sortL ordZ (zs.take (ix + 1))) e (zs.drop (ix + 2)) jx)).length = zs.length := by rw [List.length_map, IS_len, hPl, List.length_drop]; omega
    refine Cod.seq fun K8 hK8 => ?_
    refine Cod.seq fun K9 hK9 => ?_
    have F3 := F2.drew
    refine Cod.draw (C_of F3) (by kernel_rfl) ?_
    refine Hops.take 0 rfl (by kernel_rfl) (fun _ _ _ h => h) rfl rfl rfl F3 (fun w F => (yld_move rfl (ev_t rfl))) ?_
    refine Hops.take 1 rfl (by kernel_rfl) (fun _ _ _ h => h) rfl rfl rfl F3 (fun w F => (yld_move rfl (ev_t rfl))) ?_
    refine Hops.take 2 rfl (by kernel_rfl) (fun _ _ _ h => h) rfl rfl rfl F3 (fun w F => (yld_gtr rfl (ev_t rfl) (ev_t rfl))) ?_
    refine Hops.take 3 rfl (by kernel_rfl) (fun _ _ _ h => h) rfl rfl rfl F3 (fun w F => (yld_move rfl (ev_t rfl))) ?_
    refine Hops.take 4 rfl (by kernel_rfl) (fun _ _ _ h => h) (gd_some rfl rfl) rfl rfl F3 (fun w F => (yld_move rfl (ev_t rfl))) ?_
    refine Hops.take 5 rfl (by kernel_rfl) (fun _ _ _ h => h) (gd_some rfl rfl) rfl rfl F3 (fun w F => (yld_move rfl (ev_t rfl))) ?_
    refine Hops.take 6 rfl (by kernel_rfl) (fun _ _ _ h => h) (gd_some rfl rfl) rfl rfl F3 (fun w F => (yld_move rfl (ev_t rfl))) ?_
    refine Hops.take 7 rfl (by kernel_rfl) (fun _ _ _ h => h) (gd_some rfl rfl) rfl rfl F3 (fun w F => (yld_indexN sl29 rfl (ev_g rfl) (ev_g rfl) (fun _ => by omega))) ?_
    refine Hops.take 8 rfl (by kernel_rfl) (fun _ _ _ h => h) (gd_some rfl rfl) rfl rfl F3 (fun w F => (yld_loadN (cs := enc5 e.2) ag31 rfl (ev_g rfl) (fun _ => own_at (enc := enc5) (fun _ => rfl) (F.get 0 rfl) hIl jx (map_at (IS_at _ _ _ jx (by omega)))) rfl)) ?_
    refine Hops.take 9 rfl (by kernel_rfl) (fun _ _ _ h => h) (gd_some rfl rfl) rfl rfl F3 (fun w F => (yld_move rfl (ev_t rfl))) ?_
    refine Hops.take 10 rfl (by kernel_rfl) (fun _ _ _ h => h) (gd_some rfl rfl) rfl rfl F3 (fun w F => (yld_move rfl (ev_t rfl))) ?_
    refine Hops.take 11 rfl (by kernel_rfl) (fun _ _ _ h => h) (gd_some rfl rfl) rfl rfl F3 (fun w F => (Yld.castE (v' := .int .i64 ((jx - 1 : Nat) : Int)) (yld_sub rfl (ev_g rfl) ev_c (fun _ => by omega)) (fun hg => by
      have h0 : 0 < jx := by simp [gof] at hg; omega
      rw [show ((jx - 1 : Nat) : Int) = (jx : Int) - 1 by omega]))) ?_
    refine Hops.take 12 rfl (by kernel_rfl) (fun _ _ _ h => h) (gd_some rfl rfl) rfl rfl F3 (fun w F => (yld_indexN sl29 rfl (ev_g rfl) (ev_g rfl) (fun hg => by omega))) ?_
    refine Hops.take 13 rfl (by kernel_rfl) (fun _ _ _ h => h) (gd_some rfl rfl) rfl rfl F3 (fun w F => (yld_loadN (cs := enc5 y.2) ag31 rfl (ev_g rfl) (fun hg => by
      have h0 : 0 < jx := by simp [gof] at hg; omega
      obtain ⟨q, rfl⟩ : ∃ q, jx = q + 1 := ⟨jx - 1, by omega⟩
      obtain ⟨-, hq2⟩ := hy q rfl
      obtain ⟨hq3, hq4⟩ := List.getElem?_eq_some_iff.1 hq2
      exact own_at (enc := enc5) (fun _ => rfl) (F.get 0 rfl) hIl q (map_at (by rw [IS_pre _ _ _ _ hq3, hq4]))) rfl)) ?_
    refine Hops.one 14 rfl (by kernel_rfl) (One.gcall (R := Chg No w2.drew) (gd_some rfl rfl) rfl rfl (ent_c0 rfl (ev_g rfl) (evl2 (ev_g rfl) (ev_g rfl)) (enters en38)) (Chg.refl _ _) (fun hg => valOrd_ct e.1 y.1 _ _ _ ((hre.keep fun k hk hF => F3.chg.block k hk hF).weak fun _ _ => trivial) (by
      have h0 : 0 < jx := by simp [gof] at hg; omega
      obtain ⟨q, rfl⟩ : ∃ q, jx = q + 1 := ⟨jx - 1, by omega⟩
      exact ((hz _ (hy q rfl).1).keep fun k hk hF => F3.chg.block k hk hF).weak fun _ _ => trivial)) ?_)
    intro w3 C3
    have F4 := F3.call C3
    refine ⟨F4, ?_⟩
    refine Hops.take 15 rfl (by kernel_rfl) (fun _ _ _ h => h) (gd_some rfl rfl) rfl rfl F4 (fun w F => (yld_lss rfl (ev_g rfl) ev_c)) ?_
    refine Hops.take 16 rfl (by kernel_rfl) (fun _ _ _ h => h) rfl rfl rfl F4 (fun w F => (yld_and rfl (ev_t rfl) (ev_g rfl))) ?_
    refine Hops.nil (by kernel_rfl) fun a hS => ?_
    refine hK9 _ _ ?_ a hS
    refine Cod.cond rfl (fun hc34 => ?_) (fun hc34 => ?_)
    · skip
      have hc := hc34
      rw [Bool.and_eq_true, decide_eq_true_eq, decide_eq_true_eq] at hc
      obtain ⟨q, rfl⟩ : ∃ q, jx = q + 1 := ⟨jx - 1, by omega⟩
      obtain ⟨hyz, hyq⟩ := hy q rfl
      obtain ⟨hqP, hyq2⟩ := List.getElem?_eq_some_iff.1 hyq
      have hlt := hc.2
      have hoe := V5.one (hre.weak fun _ _ => trivial)
      have hoy := V5.one ((hz _ hyz).weak fun _ _ => trivial)
      refine Cod.skip fun a hS => ?_
      refine hK8 _ _ ?_ a hS
      refine Cod.seq fun K10 hK10 => ?_
      refine Cod.block ?_
      have F5 := F4.drew
      refine Cod.draw (C_of F5.drop1) (by kernel_rfl) ?_
      refine Hops.take 0 rfl (by kernel_rfl) (fun _ _ _ h => h) rfl rfl rfl F5.drop1 (fun w F => (yld_move rfl (ev_t rfl))) ?_
      refine Hops.take 1 rfl (by kernel_rfl) (fun _ _ _ h => h) rfl rfl rfl F5.drop1 (fun w F => (yld_move rfl (ev_t rfl))) ?_
      refine Hops.take 2 rfl (by kernel_rfl) (fun _ _ _ h => h) rfl rfl rfl F5.drop1 (fun w F => (yld_move rfl (ev_t rfl))) ?_
      refine Hops.take 3 rfl (by kernel_rfl) (fun _ _ _ h => h) rfl rfl rfl F5.drop1 (fun w F => (yld_move rfl (ev_t rfl))) ?_
      refine Hops.take 4 rfl (by kernel_rfl) (fun _ _ _ h => h) rfl rfl rfl F5.drop1 (fun w F => (Yld.castE (v' := .int .i64 (q : Int)) (yld_sub rfl (ev_t rfl) ev_c (fun _ => by omega)) (fun _ => by rw [show ((q + 1 : Nat) : Int) - 1 = (q : Int) by omega]))) ?_
      refine Hops.take 5 rfl (by kernel_rfl) (fun _ _ _ h => h) rfl rfl rfl F5.drop1 (fun w F => (yld_move rfl (ev_t rfl))) ?_
      refine Hops.take 6 rfl (by kernel_rfl) (fun _ _ _ h => h) rfl rfl rfl F5.drop1 (fun w F => (yld_move rfl (ev_t rfl))) ?_
      refine Hops.take 7 rfl (by kernel_rfl) (fun _ _ _ h => h) rfl rfl rfl F5.drop1 (fun w F => (Yld.castE (v' := .int .i64 (q : Int)) (yld_sub rfl (ev_t rfl) ev_c (fun _ => by omega)) (fun _ => by rw [show ((q + 1 : Nat) : Int) - 1 = (q : Int) by omega]))) ?_
      refine Hops.take 8 rfl (by kernel_rfl) (fun _ _ _ h => h) rfl rfl rfl F5.drop1 (fun w F => (yld_indexN sl29 rfl (ev_t rfl) (ev_t rfl) (fun _ => by omega))) ?_
      refine Hops.take 10 rfl (by kernel_rfl) (fun _ _ _ h => h) rfl rfl rfl F5.drop1 (fun w F => (yld_move rfl (ev_t rfl))) ?_
      refine Hops.take 11 rfl (by kernel_rfl) (fun _ _ _ h => h) rfl rfl rfl F5.drop1 (fun w F => (yld_move rfl (ev_t rfl))) ?_
      refine Hops.take 12 rfl (by kernel_rfl) (fun _ _ _ h => h) rfl rfl rfl F5.drop1 (fun w F => (yld_indexN sl29 rfl (ev_t rfl) (ev_t rfl) (fun _ => by omega))) ?_
      refine Hops.two 9 13 rfl rfl (by kernel_rfl) ?_ ?_
      · skip
        refine (One.val rfl rfl rfl (yld_loadN (cs := enc5 y.2) ag31 rfl (ev_t rfl) (fun _ => own_at (enc := enc5) (fun _ => rfl) (F5.get 0 rfl) hIl q (map_at (by rw [IS_pre _ _ _ _ hqP, hyq2]))) rfl) ?_)
        refine ⟨F5.drop1, ?_⟩
        refine Hops.one 13 rfl (by kernel_rfl) (One.val rfl rfl rfl (yld_loadN (cs := enc5 e.2) ag31 rfl (ev_t rfl) (fun _ => own_at (enc := enc5) (fun _ => rfl) (F5.get 0 rfl) hIl (q + 1) (map_at (IS_at _ _ _ (q + 1) (by omega)))) rfl) ?_)
        refine ⟨F5.drop1, ?_⟩
        refine Hops.take 14 rfl (by kernel_rfl) (fun _ _ _ h => h) rfl rfl rfl F5.drop1 (fun w F => (yld_indexN sl29 rfl (ev_t rfl) (ev_t rfl) (fun _ => by omega))) ?_
        refine Hops.one 15 rfl (by kernel_rfl) (One.storeRow (enc := enc5) y.2 (fun _ => rfl) F5 0 rfl hIl (by omega) sz31 rfl rfl rfl rfl (ev_t rfl) (ev_t rfl) hoy ?_)
        intro w4 F6
        refine ⟨F6.drop1, ?_⟩
        change Fr _ _ [_] _ at F6
        refine Hops.take 16 rfl (by kernel_rfl) (fun _ _ _ h => h) rfl rfl rfl F6.drop1 (fun w F => (yld_indexN sl29 rfl (ev_t rfl) (ev_t rfl) (fun _ => by omega))) ?_
        refine Hops.one 17 rfl (by kernel_rfl) (One.storeRow (enc := enc5) e.2 (fun _ => rfl) F6 0 rfl (by rw [List.length_set]; exact hIl) (by omega) sz31 rfl rfl rfl rfl (ev_t rfl) (ev_t rfl) hoe ?_)
        intro w5 F7
        refine ⟨F7.drop1, ?_⟩
        change Fr _ _ [_] _ at F7
        refine Hops.nil (by kernel_rfl) fun a hS => ?_
        refine hK10 _ _ ?_ a hS
        refine Cod.region ?_
        refine Ops.step (One.val rfl rfl rfl (yld_move rfl (ev_t rfl)) ?_)
        refine Ops.step (One.val rfl rfl rfl (Yld.castE (v' := .int .i64 (q : Int)) (yld_sub rfl (ev_t rfl) ev_c (fun _ => by omega)) (fun _ => by rw [show ((q + 1 : Nat) : Int) - 1 = (q : Int) by omega])) ?_)
        refine Ops.step (One.val rfl rfl rfl (yld_assign rfl (ev_t rfl)) ?_)
        refine Ops.nil fun a hS => ?_
        have hsw := IS_swap (sortL ordZ (zs.take (ix + 1))) e (zs.drop (ix + 2)) q hqP
        rw [hyq2] at hsw
        rw [map_swap hsw] at F7
        exact hK7 q _ a (hS.sub ⟨rfl, rfl, rfl, rfl, rfl, rfl, trivial⟩) ⟨by omega, hway.down hqP (by rw [hyq2]; have h1 := ordZ_pre.neg e y; have h2 : ordZ e y = Tr.ord e.1 y.1 := rfl; omega), F7⟩ (by omega)
      · skip
        refine (One.val rfl rfl rfl (yld_loadN (cs := enc5 e.2) ag31 rfl (ev_t rfl) (fun _ => own_at (enc := enc5) (fun _ => rfl) (F5.get 0 rfl) hIl (q + 1) (map_at (IS_at _ _ _ (q + 1) (by omega)))) rfl) ?_)
        refine ⟨F5.drop1, ?_⟩
        refine Hops.one 9 rfl (by kernel_rfl) (One.val rfl rfl rfl (yld_loadN (cs := enc5 y.2) ag31 rfl (ev_t rfl) (fun _ => own_at (enc := enc5) (fun _ => rfl) (F5.get 0 rfl) hIl q (map_at (by rw [IS_pre _ _ _ _ hqP, hyq2]))) rfl) ?_)
        refine ⟨F5.drop1, ?_⟩
        refine Hops.take 14 rfl (by kernel_rfl) (fun _ _ _ h => h) rfl rfl rfl F5.drop1 (fun w F => (yld_indexN sl29 rfl (ev_t rfl) (ev_t rfl) (fun _ => by omega))) ?_
        refine Hops.one 15 rfl (by kernel_rfl) (One.storeRow (enc := enc5) y.2 (fun _ => rfl) F5 0 rfl hIl (by omega) sz31 rfl rfl rfl rfl (ev_t rfl) (ev_t rfl) hoy ?_)
        intro w6 F8
        refine ⟨F8.drop1, ?_⟩
        change Fr _ _ [_] _ at F8
        refine Hops.take 16 rfl (by kernel_rfl) (fun _ _ _ h => h) rfl rfl rfl F8.drop1 (fun w F => (yld_indexN sl29 rfl (ev_t rfl) (ev_t rfl) (fun _ => by omega))) ?_
        refine Hops.one 17 rfl (by kernel_rfl) (One.storeRow (enc := enc5) e.2 (fun _ => rfl) F8 0 rfl (by rw [List.length_set]; exact hIl) (by omega) sz31 rfl rfl rfl rfl (ev_t rfl) (ev_t rfl) hoe ?_)
        intro w7 F9
        refine ⟨F9.drop1, ?_⟩
        change Fr _ _ [_] _ at F9
        refine Hops.nil (by kernel_rfl) fun a hS => ?_
        refine hK10 _ _ ?_ a hS
        refine Cod.region ?_
        refine Ops.step (One.val rfl rfl rfl (yld_move rfl (ev_t rfl)) ?_)
        refine Ops.step (One.val rfl rfl rfl (Yld.castE (v' := .int .i64 (q : Int)) (yld_sub rfl (ev_t rfl) ev_c (fun _ => by omega)) (fun _ => by rw [show ((q + 1 : Nat) : Int) - 1 = (q : Int) by omega])) ?_)
        refine Ops.step (One.val rfl rfl rfl (yld_assign rfl (ev_t rfl)) ?_)
        refine Ops.nil fun a hS => ?_
        have hsw := IS_swap (sortL ordZ (zs.take (ix + 1))) e (zs.drop (ix + 2)) q hqP
        rw [hyq2] at hsw
        rw [map_swap hsw] at F9
        exact hK7 q _ a (hS.sub ⟨rfl, rfl, rfl, rfl, rfl, rfl, trivial⟩) ⟨by omega, hway.down hqP (by rw [hyq2]; have h1 := ordZ_pre.neg e y; have h2 : ordZ e y = Tr.ord e.1 y.1 := rfl; omega), F9⟩ (by omega)
    · skip
      have hfin : (IS (sortL ordZ (zs.take (ix + 1))) e (zs.drop (ix + 2)) jx) = srtZ zs (ix + 1) := by
        rw [hnx]
        cases jx with
        | zero => exact hway.zero
        | succ q =>
          obtain ⟨hyz, hyq⟩ := hy q rfl
          obtain ⟨hqP, hyq2⟩ := List.getElem?_eq_some_iff.1 hyq
          refine hway.stop ordZ_pre hqP hPs ?_
          rw [hyq2]
          have h1 := ordZ_pre.neg e y
          have h2 : ordZ e y = Tr.ord e.1 y.1 := rfl
          have hc := hc34
          rw [Bool.and_eq_false_iff, decide_eq_false_iff_not, decide_eq_false_iff_not] at hc
          omega
      rw [hfin] at F4
      refine Cod.exit fun a hS => ?_
      simp only [Exit.then, Exit.inBlock, ↓reduceIte]
      refine hK5 _ _ ?_ a hS
      refine Cod.region ?_
      refine Ops.step (One.val rfl rfl rfl (yld_move rfl (ev_t rfl)) ?_)
      refine Ops.step (One.val rfl rfl rfl (yld_inc rfl (ev_t rfl) (fun _ => by omega)) ?_)
      refine Ops.step (One.val rfl rfl rfl (yld_assign rfl (ev_t rfl)) ?_)
      refine Ops.nil fun a hS => ?_
      exact hK2 (ix + 1) _ a (hS.sub ⟨rfl, rfl, rfl, rfl, rfl, trivial⟩) ⟨by omega, F4⟩ (by omega)
  · skip
    have hend : zs.length ≤ ix + 1 := by simp at hc14; omega
    rw [srtZ_end zs ix hend] at F1
    refine Cod.exit fun a hS => ?_
    simp only [Exit.then, Exit.inBlock, ↓reduceIte]
    exact ret0 rfl hS ⟨rfl, F1.chg, F1.get 0 rfl⟩


noncomputable def sortR (t : Tr) : Option Tr := if rowT t = true then toldR true (.mk 5 0 ⟨#[]⟩ [] (sortL Tr.ord t.list)) else none
theorem sumN_perm {α : Type} (f : α → Nat) {l m : List α} (h : l.Perm m) : sumN f l = sumN f m := by
  induction h with
  | nil => rfl
  | cons x _ ih => rw [sumN_cons, sumN_cons, ih]
  | swap x y l => simp only [sumN_cons]; omega
  | trans _ _ h1 h2 => rw [h1, h2]
theorem sort_bd {t : Tr} (hf : t.Fit) (hw : t.wt ≤ 1048576) : (Tr.mk 5 0 ⟨#[]⟩ [] (sortL Tr.ord t.list)).Fit ∧ (Tr.mk 5 0 ⟨#[]⟩ [] (sortL Tr.ord t.list)).wt ≤ 1048576 := by
  refine ⟨.mk (Nat.zero_le _) (by simp) fun x hx => hf.list x ((sortL_perm _).mem_iff.1 hx), ?_⟩
  have := t.wt_list
  rw [row_wt, sortL_len, sumN_perm Tr.wt (sortL_perm t.list)]
  omega
theorem zip_fst {l : List Tr} {ys : List V5} (h : ys.length = l.length) : List.map Prod.fst (l.zip ys) = l := List.map_fst_zip (by omega)
theorem zip_snd {l : List Tr} {ys : List V5} (h : ys.length = l.length) : List.map Prod.snd (l.zip ys) = ys := List.map_snd_zip (by omega)
theorem AL.ofZ {w : World} {zs : List (Tr × V5)} (h : ∀ z ∈ zs, Rep Any w z.1 z.2.val) : AL w (List.map Prod.fst zs) (List.map Prod.snd zs) := ⟨by simp, fun j h1 h2 => by
  have h3 : j < zs.length := by simpa using h1
  simpa using h zs[j] (List.getElem_mem h3)⟩
theorem AL.zip {w : World} {l : List Tr} {ys : List V5} (h : AL w l ys) : ∀ z ∈ l.zip ys, Rep Any w z.1 z.2.val := fun z hz => by
  obtain ⟨j, hj, rfl⟩ := List.getElem_of_mem hz
  have h1 : j < l.length := by simp at hj; omega
  have h2 : j < ys.length := by simp at hj; omega
  simpa using h.2 j h1 h2

set_option maxRecDepth 100000 in
theorem stable_ct (zs : List (Tr × V5)) (v : Value) (w : World) (h : (own 31 5 v zs.length ((List.map Prod.snd zs).flatMap enc5)).is w) (hz : ∀ z ∈ zs, Rep (fun k => ¬ v.ownBlock = some k) w z.1 z.2.val) (hn : zs.length ≤ 19) :
    Calls Try.prog 144 #[v, .int .i64 (zs.length : Int), .func (.func 38) #[] #[]] w fun e w' => e = .returned (.tuple #[]) ∧ Chg (fun b => v.ownBlock = some b) w w' ∧ (own 31 5 v zs.length ((List.map Prod.snd (sortL ordZ zs)).flatMap enc5)).is w' := by
  obtain ⟨A, m0, c0, hv⟩ := own_form h
  have hm0 : m0 = zs.length := own_len h hv
  subst hv
  subst hm0
  refine enter Try.func144 rfl rfl rfl ?_
  have F0 := Fr.lend _ h
  refine Cod.seq fun K1 hK1 => ?_
  refine Cod.region ?_
  refine Ops.step (One.val rfl rfl rfl (yld_assign rfl ev_c) ?_)
  refine Ops.nil fun a hS => ?_
  refine hK1 _ _ ?_ a hS
  refine Cod.seq fun K2 hK2 => ?_
  refine Cod.region ?_
  refine Ops.step (One.val rfl rfl rfl (yld_move rfl (ev_t rfl)) ?_)
  refine Ops.step (One.val rfl rfl rfl (yld_assign rfl ev_c) ?_)
  refine Ops.step (One.val rfl rfl rfl (yld_assign rfl (ev_t rfl)) ?_)
  refine Ops.nil fun a hS => ?_
  refine hK2 _ _ ?_ a hS
  refine Cod.seq fun K3 hK3 => ?_
  refine Cod.block ?_
  refine Cod.loop (fun i : Unit => [(0, true, .slice A zs.length c0), (1, true, .int .i64 (zs.length : Int)), (2, true, .func (.func 38) #[] #[]), (6, true, .int .i64 20), (7, true, .int .i64 0), (8, true, .int .i64 20)]) (fun i w' => Fr (fun b => (Value.slice A zs.length c0).ownBlock = some b) w [own 31 5 (.slice A zs.length c0) zs.length ((List.map Prod.snd zs).flatMap enc5)] w') (fun i => 0) () ⟨rfl, rfl, rfl, rfl, rfl, rfl, trivial⟩ F0 ?_
  intro i w1 hW K4 hK4
  have F1 := hW
  refine Cod.seq fun K5 hK5 => ?_
  refine Cod.seq fun K6 hK6 => ?_
  refine Cod.region ?_
  refine Ops.step (One.val rfl rfl rfl (yld_move rfl (ev_t rfl)) ?_)
  refine Ops.step (One.val rfl rfl rfl (yld_move rfl (ev_t rfl)) ?_)
  refine Ops.step (One.val rfl rfl rfl (yld_leq rfl (ev_t rfl) (ev_t rfl)) ?_)
  refine Ops.nil fun a hS => ?_
  refine hK6 _ _ ?_ a hS
  refine Cod.cond rfl (fun hc13 => ?_) (fun hc13 => ?_)
  · skip
    (simp at hc13; omega)
  · skip
    refine Cod.exit fun a hS => ?_
    simp only [Exit.then, Exit.inBlock, ↓reduceIte]
    refine hK3 _ _ ?_ a hS
    refine Cod.seq fun K7 hK7 => ?_
    refine Cod.region ?_
    refine Ops.step (One.val rfl rfl rfl (yld_move rfl (ev_t rfl)) ?_)
    refine Ops.step (One.val rfl rfl rfl (yld_move rfl (ev_t rfl)) ?_)
    refine Ops.step (One.val rfl rfl rfl (yld_move rfl (ev_t rfl)) ?_)
    refine Ops.step (One.val rfl rfl rfl (yld_move rfl (ev_t rfl)) ?_)
    refine Ops.step (One.call rfl rfl rfl (ent_f rfl (evl4 (ev_t rfl) (ev_t rfl) (ev_t rfl) (ev_t rfl)) (enters en154)) (insS_ct zs _ _ (F1.get 0 rfl) (fun z hz0 => (hz z hz0).keep fun k hk hF => F1.chg.block k hk hF) (by omega)) (fun e w2 hw2 => ?_))
    obtain ⟨rfl, C2, ho2⟩ := hw2
    have F2 := F1.upd 0 rfl C2 (fun _ hk => .inl hk) (own 31 5 (.slice A zs.length c0) zs.length ((List.map Prod.snd (sortL ordZ zs)).flatMap enc5)) ho2 (fun _ hk => .inl hk)
    change Fr _ _ [_] _ at F2
    refine ⟨_, rfl, ?_⟩
    refine Ops.nil fun a hS => ?_
    refine hK7 _ _ ?_ a hS
    refine Cod.block ?_
    refine Cod.loop (fun i : Unit => [(6, true, .int .i64 20), (1, true, .int .i64 (zs.length : Int))]) (fun i w' => Fr (fun b => (Value.slice A zs.length c0).ownBlock = some b) w [own 31 5 (.slice A zs.length c0) zs.length ((List.map Prod.snd (sortL ordZ zs)).flatMap enc5)] w') (fun i => 0) () ⟨rfl, rfl, trivial⟩ F2 ?_
    intro i w3 hW K8 hK8
    have F3 := hW
    refine Cod.seq fun K9 hK9 => ?_
    refine Cod.seq fun K10 hK10 => ?_
    refine Cod.region ?_
    refine Ops.step (One.val rfl rfl rfl (yld_move rfl (ev_t rfl)) ?_)
    refine Ops.step (One.val rfl rfl rfl (yld_move rfl (ev_t rfl)) ?_)
    refine Ops.step (One.val rfl rfl rfl (yld_lss rfl (ev_t rfl) (ev_t rfl)) ?_)
    refine Ops.nil fun a hS => ?_
    refine hK10 _ _ ?_ a hS
    refine Cod.cond rfl (fun hc30 => ?_) (fun hc30 => ?_)
    · skip
      (simp at hc30; omega)
    · skip
      refine Cod.exit fun a hS => ?_
      simp only [Exit.then, Exit.inBlock, ↓reduceIte]
      exact ret0 rfl hS ⟨rfl, F3.chg, F3.get 0 rfl⟩

set_option maxRecDepth 100000 in
theorem sortStable_ct (zs : List (Tr × V5)) (v : Value) (w : World) (h : (own 31 5 v zs.length ((List.map Prod.snd zs).flatMap enc5)).is w) (hz : ∀ z ∈ zs, Rep (fun k => ¬ v.ownBlock = some k) w z.1 z.2.val) (hn : zs.length ≤ 19) :
    Calls Try.prog 126 #[v, .func (.func 38) #[] #[]] w fun e w' => e = .returned (.tuple #[]) ∧ Chg (fun b => v.ownBlock = some b) w w' ∧ (own 31 5 v zs.length ((List.map Prod.snd (sortL ordZ zs)).flatMap enc5)).is w' := by
  obtain ⟨A, m0, c0, hv⟩ := own_form h
  have hm0 : m0 = zs.length := own_len h hv
  subst hv
  subst hm0
  refine enter Try.func126 rfl rfl rfl ?_
  have F0 := Fr.lend _ h
  refine Cod.region ?_
  refine Ops.step (One.val rfl rfl rfl (yld_move rfl (ev_t rfl)) ?_)
  refine Ops.step (One.val rfl rfl rfl (yld_move rfl (ev_t rfl)) ?_)
  refine Ops.step (One.val rfl rfl rfl (yld_len sl29 rfl (ev_t rfl)) ?_)
  refine Ops.step (One.val rfl rfl rfl (yld_move rfl (ev_t rfl)) ?_)
  refine Ops.step (One.call rfl rfl rfl (ent_f rfl (evl3 (ev_t rfl) (ev_t rfl) (ev_t rfl)) (enters en144)) (stable_ct zs _ _ (F0.get 0 rfl) (fun z hz0 => (hz z hz0).keep fun k hk hF => F0.chg.block k hk hF) hn) (fun e w1 hw1 => ?_))
  obtain ⟨rfl, C1, ho2⟩ := hw1
  have F1 := F0.upd 0 rfl C1 (fun _ hk => .inl hk) (own 31 5 (.slice A zs.length c0) zs.length ((List.map Prod.snd (sortL ordZ zs)).flatMap enc5)) ho2 (fun _ hk => .inl hk)
  change Fr _ _ [_] _ at F1
  refine ⟨_, rfl, ?_⟩
  refine Ops.nil fun a hS => ?_
  exact ret0 rfl hS ⟨rfl, F1.chg, F1.get 0 rfl⟩

set_option maxRecDepth 100000 in
theorem ordered_ct (l : List Tr) (v : Value) (w0 w : World) (hp : RepL Any w0 l v) (hc0 : Chg No w0 w) (hn : l.length ≤ 19) : Calls Try.prog 89 #[v] w fun e w' => ∃ v' ys, e = .returned v' ∧ Chg No w w' ∧ (own 31 5 v' ys.length (ys.flatMap enc5)).is w' ∧ AL w0 (sortL Tr.ord l) ys ∧ ∀ k, v'.ownBlock = some k → w.heap.size ≤ k := by
  obtain ⟨A, c, rfl, -⟩ := hp.open
  refine enter Try.func89 rfl rfl rfl ?_
  have F0 := Fr.start w
  refine Cod.seq fun K1 hK1 => ?_
  refine Cod.region ?_
  refine Ops.step (One.val rfl rfl rfl (yld_assign rfl ev_c) ?_)
  refine Ops.nil fun a hS => ?_
  refine hK1 _ _ ?_ a hS
  refine Cod.seq fun K2 hK2 => ?_
  refine Cod.region ?_
  refine Ops.step (One.val rfl rfl rfl (yld_move rfl (ev_t rfl)) ?_)
  refine Ops.step (One.call rfl rfl rfl (ent_f rfl (evl1 (ev_t rfl)) (enters en86)) (cloneS_ct l _ w0 _ hp (hc0.trans F0.chg) (by omega)) (fun e w1 hw1 => ?_))
  obtain ⟨u, ys, rfl, C1, ho, hal, hob⟩ := hw1
  have hyl := hal.1
  have F1 := F0.new C1 (own _ 5 u ys.length (ys.flatMap enc5)) ho hob
  obtain ⟨zs, hzs⟩ : ∃ zs, zs = l.zip ys := ⟨_, rfl⟩
  have hz1 : List.map Prod.snd zs = ys := by rw [hzs]; exact zip_snd hyl
  have hz2 : List.map Prod.fst zs = l := by rw [hzs]; exact zip_fst hyl
  have hzl : zs.length = ys.length := by rw [← hz1, List.length_map]
  have hzr := hal.zip
  rw [← hzs] at hzr
  rw [← hz1, List.length_map] at F1
  obtain ⟨A, m0, c0, hue⟩ := own_form (F1.get 0 rfl)
  have hm0 := own_len (F1.get 0 rfl) hue
  subst hue
  subst hm0
  have hsz0 := hc0.size
  have hszw := F0.chg.size
  refine ⟨_, rfl, ?_⟩
  refine Ops.step (One.val rfl rfl rfl (yld_assign rfl (ev_t rfl)) ?_)
  refine Ops.nil fun a hS => ?_
  refine hK2 _ _ ?_ a hS
  refine Cod.seq fun K3 hK3 => ?_
  refine Cod.region ?_
  refine Ops.step (One.val rfl rfl rfl (yld_move rfl (ev_t rfl)) ?_)
  refine Ops.step (One.call rfl rfl rfl (ent_f rfl (evl2 (ev_t rfl) ev_f) (enters en126)) (sortStable_ct zs _ _ (F1.get 0 rfl) (fun z hz0 => ((hzr z hz0).old.chg (hc0.trans F1.chg)).weak fun k hk hk2 => by have h1 := hob k hk2; omega) (by omega)) (fun e w2 hw2 => ?_))
  obtain ⟨rfl, C2, ho2⟩ := hw2
  have F2 := F1.upd 0 rfl C2 (fun _ hk => .inl hk) (own 31 5 (.slice A zs.length c0) zs.length ((List.map Prod.snd (sortL ordZ zs)).flatMap enc5)) ho2 (fun _ hk => .inl hk)
  change Fr _ _ [_] _ at F2
  refine ⟨_, rfl, ?_⟩
  refine Ops.nil fun a hS => ?_
  refine hK3 _ _ ?_ a hS
  refine Cod.seq fun K4 hK4 => ?_
  refine Cod.region ?_
  refine Ops.step (One.val rfl rfl rfl (yld_move rfl (ev_t rfl)) ?_)
  refine Ops.step (One.val rfl rfl rfl (yld_assign rfl (ev_t rfl)) ?_)
  refine Ops.nil fun a hS => ?_
  refine hK4 _ _ ?_ a hS
  refine Cod.ret fun a hS => ?_
  try simp only [Exit.then, Exit.inBlock]
  exact ret1 (t := 2) rfl hS rfl ⟨.slice A zs.length c0, List.map Prod.snd (sortL ordZ zs), rfl, F2.chg, by rw [List.length_map, sortL_len]; exact F2.get 0 rfl, by rw [← hz2, ← sort_map]; exact AL.ofZ fun z hz0 => hzr z ((sortL_perm zs).mem_iff.1 hz0), fun b hb => (F2.dom _ (List.mem_of_getElem? (i := 0) rfl) b hb).resolve_left id⟩

set_option maxRecDepth 100000 in
theorem sort_ct (t : Tr) (v : Value) (w : World) (hr : Rep Any w t v) (hf : t.Fit) (hw : t.wt ≤ 1048576) (hn : t.list.length ≤ 19) : Calls Try.prog 34 #[v] w (Gives w (sortR t)) := by
  obtain ⟨v3, v4, ev, h3, h4⟩ := hr.form
  subst ev
  obtain ⟨A4, c4, rfl, hn4⟩ := h4.open
  obtain ⟨hTf, hTw⟩ := sort_bd hf hw
  refine enter Try.func34 rfl rfl rfl ?_
  have F0 := Fr.start w
  refine Cod.seq fun K1 hK1 => ?_
  refine Cod.region ?_
  refine Ops.step (One.box F0 rfl rfl rfl rfl (ev_t rfl) ?_)
  intro b1 w1 hb1 F1
  change Fr _ _ [blk _ _ [_, _, _, _, _]] _ at F1
  refine Ops.step (One.alloc F1 zero31 rfl rfl rfl rfl ?_)
  intro b2 w2 hb2 F2
  change Fr _ _ [blk _ _ [_, _, _, _, _], blk _ _ [_, _, _, _, _]] _ at F2
  refine Ops.step (One.val rfl rfl rfl (yld_assign rfl ev_c) ?_)
  refine Ops.nil fun a hS => ?_
  refine hK1 _ _ ?_ a hS
  refine Cod.seq fun K2 hK2 => ?_
  refine Cod.seq fun K3 hK3 => ?_
  refine Cod.region ?_
  refine Ops.step (One.val rfl rfl rfl (yld_loadN ag31 rfl (ev_t rfl) (fun _ => F2.range (m := 5) (cs' := [_, _, _, _, _]) 1 rfl rfl) rfl) ?_)
  refine Ops.step (One.call rfl rfl rfl (ent_f rfl (evl1 (ev_t rfl)) (enters en81)) (isRow_ct t _ _ (hr.chg F2.chg) hf) (fun e w3 hw3 => ?_))
  obtain ⟨rfl, C3⟩ := hw3
  have F3 := F2.call C3
  refine ⟨_, rfl, ?_⟩
  refine Ops.step (One.val rfl rfl rfl (yld_not rfl (ev_t rfl)) ?_)
  refine Ops.nil fun a hS => ?_
  refine hK3 _ _ ?_ a hS
  refine Cod.cond rfl (fun hc6 => ?_) (fun hc6 => ?_)
  · skip
    have hno : sortR t = none := by
      have hc : (!(rowT t)) = true := hc6
      unfold sortR
      cases h1 : rowT t <;> simp [h1] at hc ⊢
    refine Cod.seq fun K4 hK4 => ?_
    refine Cod.region ?_
    refine Ops.step (One.val rfl rfl rfl (yld_build (cells := [.int .i64 0, .int .i64 0, .string ⟨#[]⟩, .slice none 0 0, .slice none 0 0]) rfl (evp0) (by kernel_rfl)) ?_)
    refine Ops.step (One.storeN (vs := [_, _, _, _, _]) F3 0 rfl sz31 rfl rfl rfl (ev_t rfl) (ev_t rfl) rfl rfl rfl ?_)
    intro w4 F4
    change Fr _ _ [blk _ _ [_, _, _, _, _], blk _ _ [_, _, _, _, _]] _ at F4
    refine Ops.step (One.val rfl rfl rfl (yld_assign rfl ev_c) ?_)
    refine Ops.nil fun a hS => ?_
    refine hK4 _ _ ?_ a hS
    refine Cod.ret fun a hS => ?_
    try simp only [Exit.then, Exit.inBlock]
    exact retct (t := 2) (u := 3) (ty := 31) rfl hS ag31 rfl rfl (F4.range (m := 5) (cs' := [_, _, _, _, _]) 0 rfl rfl) rfl ⟨z5, No, by rw [hno]; rfl, F4.chg, by rw [hno]; exact sep_leaf _ 0 0 ⟨#[]⟩, fun k hk => hk.elim⟩
  · skip
    have hyes : sortR t = toldR true (.mk 5 0 ⟨#[]⟩ [] ((sortL Tr.ord t.list))) := by
      have hc : (!(rowT t)) = false := hc6
      unfold sortR
      cases h1 : rowT t <;> simp [h1] at hc ⊢
    refine Cod.skip fun a hS => ?_
    refine hK2 _ _ ?_ a hS
    refine Cod.seq fun K5 hK5 => ?_
    refine Cod.region ?_
    refine Ops.step (One.val rfl rfl rfl (yld_field fi31_4 rfl (ev_t rfl)) ?_)
    refine Ops.step (One.val rfl rfl rfl (yld_load1 on29 rfl (ev_t rfl) (fun _ => F3.cell 1 rfl rfl)) ?_)
    refine Ops.step (One.call rfl rfl rfl (ent_f rfl (evl1 (ev_t rfl)) (enters en89)) (ordered_ct t.list _ w _ h4 F3.chg hn) (fun e w5 hw5 => ?_))
    obtain ⟨u, ys, rfl, C5, ho, hal, hob⟩ := hw5
    have F5 := F3.new C5 (own _ 5 u ys.length _) ho hob
    refine ⟨_, rfl, ?_⟩
    refine Ops.step (One.call rfl rfl rfl (ent_f rfl (evl1 (ev_t rfl)) (enters en88)) (row_ct u _ (own_form (F5.get 0 rfl))) (fun e w6 hw6 => ?_))
    obtain ⟨rfl, C6⟩ := hw6
    have F6 := F5.call C6
    refine ⟨_, rfl, ?_⟩
    refine Ops.step (One.call rfl rfl rfl (ent_f rfl (evl2 (ev_t rfl) ev_c) (enters en70)) (told_ct (.mk 5 0 ⟨#[]⟩ [] (sortL Tr.ord t.list)) true _ _ (Rep.close (RepE.nil _ _) ((hal.chg F6.chg).repL (F6.get 0 rfl))) hTf hTw) (fun e w7 hw7 => ?_))
    obtain ⟨x1, G1, rfl, C7, hs1, hb1⟩ := hw7
    have F7 := F6.new C7 (sep G1 _ x1.val) hs1 hb1
    refine ⟨_, rfl, ?_⟩
    refine Ops.step (One.val rfl rfl rfl (yld_extract rfl (ev_t rfl) rfl) ?_)
    refine Ops.step (One.val rfl rfl rfl (yld_extract rfl (ev_t rfl) rfl) ?_)
    refine Ops.step (One.storeN (vs := [_, _, _, _, _]) F7 2 rfl sz31 rfl rfl rfl (ev_t rfl) (ev_t rfl) rfl rfl hs1.one ?_)
    intro w8 F8
    change Fr _ _ [_, _, blk _ _ [_, _, _, _, _], blk _ _ [_, _, _, _, _]] _ at F8
    refine Ops.step (One.val rfl rfl rfl (yld_assign rfl (ev_t rfl)) ?_)
    refine Ops.nil fun a hS => ?_
    refine hK5 _ _ ?_ a hS
    refine Cod.ret fun a hS => ?_
    try simp only [Exit.then, Exit.inBlock]
    exact retct (t := 2) (u := 3) (ty := 31) rfl hS ag31 rfl rfl (F8.range (m := 5) (cs' := [_, _, _, _, _]) 2 rfl rfl) rfl ⟨x1, G1, by rw [hyes]; rfl, F8.chg, by rw [hyes]; exact F8.get 0 rfl, fun b hb => (F8.dom _ (List.mem_of_getElem? (i := 0) rfl) b hb).resolve_left id⟩


theorem ins_at {α : Type} {f : α → α → Int} {z : α} : ∀ {zs : List α} {k : Nat}, k ≤ zs.length → (∀ j y, j < k → zs[j]? = some y → f y z ≤ 0) → (∀ y, zs[k]? = some y → ¬ f y z ≤ 0) → ins f z zs = zs.take k ++ z :: zs.drop k
  | [], k, hk, _, _ => by obtain rfl : k = 0 := by simpa using hk
                          rfl
  | x :: l, 0, _, _, h => by unfold ins; rw [if_neg (h x rfl)]; rfl
  | x :: l, k + 1, hk, h1, h2 => by
    unfold ins
    rw [if_pos (h1 0 x (by omega) rfl), ins_at (zs := l) (k := k) (by simpa using hk) (fun j y hj hy => h1 (j + 1) y (by omega) (by simpa using hy)) (fun y hy => h2 y (by simpa using hy))]
    rfl
theorem flat_take {α : Type} {enc : α → List Value} {sz : Nat} (he : ∀ x, (enc x).length = sz) : ∀ (xs : List α) (k : Nat), (xs.flatMap enc).take (k * sz) = (xs.take k).flatMap enc
  | [], k => by simp
  | x :: xs, 0 => by simp
  | x :: xs, k + 1 => by
    rw [List.flatMap_cons, List.take_succ_cons, List.flatMap_cons, Nat.add_mul, Nat.one_mul, Nat.add_comm, List.take_append, he, Nat.add_sub_cancel_left, flat_take he xs k, List.take_of_length_le (by rw [he]; omega)]
theorem sliced0 {b c k sz : Nat} : sliced (some ⟨b, 0, none⟩) 0 k c sz = .slice (some ⟨b, 0, none⟩) k c := by
  unfold sliced
  split
  · simp
  · simp [Addr.add_mid]
theorem own_cutk {α : Type} {enc : α → List Value} {sz : Nat} (he : ∀ x, (enc x).length = sz) {w : World} {e n c k : Nat} {A : Option Addr} {xs : List α} (h : (own e sz (.slice A n c) n (xs.flatMap enc)).is w) (hn : n = xs.length) (hk : k ≤ n) : (own e sz (sliced A 0 k c sz) k ((xs.take k).flatMap enc)).is w ∧ (sliced A 0 k c sz).ownBlock = (Value.slice A n c).ownBlock ∧ k ≤ c := by
  obtain ⟨hl, h⟩ := h
  rcases h with ⟨h', h2⟩ | ⟨g, cap, cur, h', hb, hg, hnc, hcm, hcs, htake⟩
  · obtain ⟨rfl, rfl, rfl⟩ : A = none ∧ n = 0 ∧ c = 0 := by simpa using h'
    obtain rfl : k = 0 := by omega
    exact ⟨World.ownsRow_nil w 0 e sz, rfl, Nat.le_refl _⟩
  · obtain ⟨rfl, rfl⟩ : A = some ⟨g, 0, none⟩ ∧ c = cap := by simpa using h'
    rw [sliced0]
    refine ⟨⟨?_, .inr ⟨g, c, cur, rfl, hb, hg, by omega, hcm, hcs, ?_⟩⟩, rfl, by omega⟩
    · rw [flat_length he, List.length_take]
      congr 1
      omega
    · rw [← flat_take he, ← htake, List.take_take, Nat.min_eq_left (Nat.mul_le_mul_right _ hk)]
theorem RepE.dropS {α : Type} {enc : α → List Value} {sz : Nat} {F : Nat → Prop} {w : World} {xs : List α} {A : Option Addr} {n c : Nat} (h : RepE enc sz F w xs (.slice A n c)) (k : Nat) (hk : k ≤ xs.length) : RepE enc sz F w (xs.drop k) (sliced A k n c sz) := by
  obtain ⟨A', c', h1, h2, h3, h4⟩ := h
  obtain ⟨rfl, rfl, rfl⟩ : A = A' ∧ n = xs.length ∧ c = c' := by simpa using h1
  refine ⟨_, c - k, by unfold sliced; rw [List.length_drop], by rw [List.length_drop]; omega, by omega, fun hne => ?_⟩
  have hlt : k < xs.length := by
    rcases Nat.lt_or_ge k xs.length with h | h
    · exact h
    · exact absurd (List.drop_eq_nil_of_le h) hne
  obtain ⟨b, o, rfl, hF, hr⟩ := h4 (by intro e; rw [e] at hlt; simp at hlt)
  refine ⟨b, o + k * sz, by rw [if_neg (by omega)]; simp [Addr.add_mid], hF, fun i hi => ?_⟩
  rw [List.length_drop] at hi
  have := hr (k + i) (by omega)
  rw [Nat.add_mul, ← Nat.add_assoc] at this
  simpa using this

set_option maxRecDepth 100000 in
theorem l4Put_ct (zs : List (Tr × V5)) (z : Tr × V5) (v : Value) (w : World) (h : (own 31 5 v zs.length ((List.map Prod.snd zs).flatMap enc5)).is w) (hz : ∀ y ∈ zs, Rep (fun k => ¬ v.ownBlock = some k) w y.1 y.2.val) (hzv : Rep (fun k => ¬ v.ownBlock = some k) w z.1 z.2.val) (hn : zs.length ≤ 1000) :
    Calls Try.prog 127 #[v, z.2.val] w fun e w' => ∃ v', e = .returned v' ∧ Chg (fun b => v.ownBlock = some b) w w' ∧ (own 31 5 v' (ins ordZ z zs).length ((List.map Prod.snd (ins ordZ z zs)).flatMap enc5)).is w' ∧ ∀ k, v'.ownBlock = some k → v.ownBlock = some k ∨ w.heap.size ≤ k := by
  obtain ⟨A, m0, c0, hv⟩ := own_form h
  have hm0 : m0 = zs.length := own_len h hv
  subst hv
  subst hm0
  obtain ⟨tz, xz⟩ := z
  have hoz : (enc5 xz).all (·.oneCell') = true := V5.one (hzv.weak fun _ _ => trivial)
  have hoy : ∀ y ∈ List.map Prod.snd zs, (enc5 y).all (·.oneCell') = true := fun y hy => by
    obtain ⟨q, hq, rfl⟩ := List.mem_map.1 hy
    exact V5.one ((hz q hq).weak fun _ _ => trivial)
  obtain ⟨bb, hbb⟩ : ∃ bb, 0 < zs.length → A = some ⟨bb, 0, none⟩ := by
    by_cases h0 : 0 < zs.length
    · obtain ⟨bb, cap, hv, -, -⟩ := World.ownsRow.form h h0
      exact ⟨bb, fun _ => by obtain ⟨rfl, -⟩ : A = some ⟨bb, 0, none⟩ ∧ c0 = cap := by simpa using hv
                             rfl⟩
    · exact ⟨0, fun h => absurd h h0⟩
  refine enter Try.func127 rfl rfl rfl ?_
  have F0 := Fr.lend _ h
  refine Cod.seq fun K1 hK1 => ?_
  refine Cod.region ?_
  refine Ops.step (One.box F0 rfl rfl rfl rfl (ev_t rfl) ?_)
  intro b1 w1 hb1 F1
  change Fr _ _ [blk _ _ [_, _, _, _, _], _] _ at F1
  refine Ops.step (One.val rfl rfl rfl (yld_assign rfl ev_c) ?_)
  refine Ops.nil fun a hS => ?_
  refine hK1 _ _ ?_ a hS
  refine Cod.seq fun K2 hK2 => ?_
  refine Cod.region ?_
  refine Ops.step (One.val rfl rfl rfl (yld_assign rfl ev_c) ?_)
  refine Ops.nil fun a hS => ?_
  refine hK2 _ _ ?_ a hS
  refine Cod.seq fun K3 hK3 => ?_
  refine Cod.block ?_
  refine Cod.loop (fun i : Nat => [(0, true, .slice A zs.length c0), (3, true, .pointer (some ⟨b1, 0, none⟩)), (5, true, .int .i64 (i : Int))]) (fun i w' => i ≤ zs.length ∧ (∀ j y, j < i → zs[j]? = some y → ordZ y (tz, xz) ≤ 0) ∧ Fr (fun b => (Value.slice A zs.length c0).ownBlock = some b) w [blk b1 31 [xz.a, xz.b, xz.c, xz.d, xz.e], own 31 5 (.slice A zs.length c0) zs.length ((List.map Prod.snd zs).flatMap enc5)] w') (fun i => zs.length - i) 0 ⟨rfl, rfl, rfl, trivial⟩ ⟨Nat.zero_le _, fun j y h => by omega, F1⟩ ?_
  intro i w2 hW K4 hK4
  obtain ⟨k, hkk⟩ : ∃ k, k = i := ⟨i, rfl⟩
  subst hkk
  obtain ⟨hk, hle, F2⟩ := hW
  obtain ⟨y, hy⟩ : ∃ y : Tr × V5, k < zs.length → zs[k]? = some y := by
    by_cases hkl : k < zs.length
    · exact ⟨zs[k], fun _ => List.getElem?_eq_getElem hkl⟩
    · exact ⟨(tz, xz), fun h => absurd h hkl⟩
  refine Cod.seq fun K5 hK5 => ?_
  refine Cod.seq fun K6 hK6 => ?_
  have F3 := F2.drew
  refine Cod.draw (C_of F3) (by kernel_rfl) ?_
  refine Hops.take 0 rfl (by kernel_rfl) (fun _ _ _ h => h) rfl rfl rfl F3 (fun w F => (yld_move rfl (ev_t rfl))) ?_
  refine Hops.take 1 rfl (by kernel_rfl) (fun _ _ _ h => h) rfl rfl rfl F3 (fun w F => (yld_move rfl (ev_t rfl))) ?_
  refine Hops.take 2 rfl (by kernel_rfl) (fun _ _ _ h => h) rfl rfl rfl F3 (fun w F => (yld_len sl29 rfl (ev_t rfl))) ?_
  refine Hops.take 3 rfl (by kernel_rfl) (fun _ _ _ h => h) rfl rfl rfl F3 (fun w F => (yld_lss rfl (ev_t rfl) (ev_t rfl))) ?_
  refine Hops.take 4 rfl (by kernel_rfl) (fun _ _ _ h => h) rfl rfl rfl F3 (fun w F => (yld_move rfl (ev_t rfl))) ?_
  refine Hops.take 5 rfl (by kernel_rfl) (fun _ _ _ h => h) (gd_some rfl rfl) rfl rfl F3 (fun w F => (yld_move rfl (ev_t rfl))) ?_
  refine Hops.take 6 rfl (by kernel_rfl) (fun _ _ _ h => h) (gd_some rfl rfl) rfl rfl F3 (fun w F => (yld_move rfl (ev_t rfl))) ?_
  refine Hops.take 7 rfl (by kernel_rfl) (fun _ _ _ h => h) (gd_some rfl rfl) rfl rfl F3 (fun w F => (yld_indexG (b := bb) (q := 0) (i := k) sl29 rfl (ev_g rfl) (ev_g rfl) (fun hg => hbb (by simp [gof] at hg; omega)) (fun hg => by simp [gof] at hg; omega))) ?_
  refine Hops.take 8 rfl (by kernel_rfl) (fun _ _ _ h => h) (gd_some rfl rfl) rfl rfl F3 (fun w F => (yld_loadN (cs := enc5 y.2) ag31 rfl (ev_g rfl) (fun hg => by
      have hkl : k < zs.length := by simp [gof] at hg; omega
      have hF := F.get 1 rfl
      rw [hbb (by omega)] at hF
      exact own_at (enc := enc5) (fun _ => rfl) hF (by simp) k (map_at (hy hkl))) rfl)) ?_
  refine Hops.take 9 rfl (by kernel_rfl) (fun _ _ _ h => h) (gd_some rfl rfl) rfl rfl F3 (fun w F => (yld_loadN ag31 rfl (ev_t rfl) (fun _ => F.range (m := 5) (cs' := [_, _, _, _, _]) 0 rfl rfl) rfl)) ?_
  refine Hops.one 10 rfl (by kernel_rfl) (One.gcall (R := Chg No w2.drew) (gd_some rfl rfl) rfl rfl (ent_f rfl (evl2 (ev_g rfl) (ev_g rfl)) (enters en145)) (Chg.refl _ _) (fun hg => specOrd_ct y.1 tz _ _ _ (by
      have hkl : k < zs.length := by simp [gof] at hg; omega
      exact ((hz y (List.mem_of_getElem? (hy hkl))).keep fun q hq hF => F3.chg.block q hq hF).weak fun _ _ => trivial) ((hzv.keep fun q hq hF => F3.chg.block q hq hF).weak fun _ _ => trivial)) ?_)
  intro w3 C3
  have F4 := F3.call C3
  refine ⟨F4, ?_⟩
  refine Hops.take 11 rfl (by kernel_rfl) (fun _ _ _ h => h) (gd_some rfl rfl) rfl rfl F4 (fun w F => (yld_leq rfl (ev_g rfl) ev_c)) ?_
  refine Hops.take 12 rfl (by kernel_rfl) (fun _ _ _ h => h) rfl rfl rfl F4 (fun w F => (yld_and rfl (ev_t rfl) (ev_g rfl))) ?_
  refine Hops.nil (by kernel_rfl) fun a hS => ?_
  refine hK6 _ _ ?_ a hS
  refine Cod.cond rfl (fun hc19 => ?_) (fun hc19 => ?_)
  · skip
    have hc := hc19
    rw [Bool.and_eq_true, decide_eq_true_eq, decide_eq_true_eq] at hc
    have hkl : k < zs.length := by omega
    have hord : ordZ y (tz, xz) ≤ 0 := hc.2
    refine Cod.skip fun a hS => ?_
    refine hK5 _ _ ?_ a hS
    refine Cod.block ?_
    refine Cod.region ?_
    refine Ops.step (One.val rfl rfl rfl (yld_move rfl (ev_t rfl)) ?_)
    refine Ops.step (One.val rfl rfl rfl (yld_inc rfl (ev_t rfl) (fun _ => by omega)) ?_)
    refine Ops.step (One.val rfl rfl rfl (yld_assign rfl (ev_t rfl)) ?_)
    refine Ops.nil fun a hS => ?_
    exact hK4 (k + 1) _ a (hS.sub ⟨rfl, rfl, rfl, trivial⟩) ⟨by omega, fun j q hj hq => by
      by_cases hjk : j = k
      · subst hjk
        rw [hy hkl] at hq
        obtain rfl := Option.some.inj hq
        exact hord
      · exact hle j q (by omega) hq, F4⟩ (by omega)
  · skip
    have hins := ins_at (f := ordZ) (z := (tz, xz)) hk hle (fun q hq => by
      have hkl : k < zs.length := (List.getElem?_eq_some_iff.1 hq).1
      rw [hy hkl] at hq
      obtain rfl := Option.some.inj hq
      have hc := hc19
      rw [Bool.and_eq_false_iff, decide_eq_false_iff_not, decide_eq_false_iff_not] at hc
      have h2 : ordZ y (tz, xz) = Tr.ord y.1 tz := rfl
      omega)
    have hmap : List.map Prod.snd (ins ordZ (tz, xz) zs) = ((List.map Prod.snd zs).take k ++ [xz]) ++ (List.map Prod.snd zs).drop k := by rw [hins]; simp [List.map_take, List.map_drop]
    refine Cod.exit fun a hS => ?_
    simp only [Exit.then, Exit.inBlock, ↓reduceIte]
    refine hK3 _ _ ?_ a hS
    refine Cod.seq fun K7 hK7 => ?_
    refine Cod.region ?_
    refine Ops.step (One.buildNil enc5 F4 sl29 rfl rfl rfl rfl ?_)
    intro b2 w4 hb2 F5
    refine Ops.step (One.val rfl rfl rfl (yld_move rfl (ev_t rfl)) ?_)
    refine Ops.step (One.val rfl rfl rfl (yld_move rfl (ev_t rfl)) ?_)
    refine Ops.step (One.val rfl rfl rfl (yld_slcL k sl29 rfl (ev_t rfl) (ev_t rfl) rfl (by omega)) ?_)
    refine Ops.step (One.append (enc := enc5) ((List.map Prod.snd zs).drop k) F5 0 rfl sl29 zero31 rfl rfl (fun _ => rfl) rfl rfl rfl rfl (ev_t rfl) (ev_t rfl) (RepE.dropS (n := zs.length) (((own_rep (e := 31) (enc := enc5) (sz := 5) (fun _ => rfl) (by rw [List.length_map]; exact F5.get 2 rfl)).weak fun _ _ => trivial)) k (by simp; omega)) (fun x hx => hoy x (List.mem_of_mem_drop hx)) (by simp; omega) (by simp; omega) ?_)
    intro u4 w5 hu4 F6
    change Fr _ _ [_, blk _ _ [_, _, _, _, _], _] _ at F6
    refine Ops.step (One.val rfl rfl rfl (yld_assign rfl (ev_t rfl)) ?_)
    refine Ops.nil fun a hS => ?_
    refine hK7 _ _ ?_ a hS
    refine Cod.seq fun K8 hK8 => ?_
    obtain ⟨hcu1, hcu2, hcu3⟩ := own_cutk (enc := enc5) (sz := 5) (fun _ => rfl) (k := k) (F6.get 2 rfl) (by simp) (by omega)
    have F7 := F6.upd 2 rfl (Chg.refl No _) (fun _ h => h.elim) (own 31 5 (sliced A 0 k c0 5) ((List.map Prod.snd zs).take k).length (((List.map Prod.snd zs).take k).flatMap enc5)) (by rw [List.length_take, List.length_map, Nat.min_eq_left (by omega)]; exact hcu1) (fun q hq => .inl (by have h2 : (sliced A 0 k c0 5).ownBlock = some q := hq; rw [hcu2] at h2; exact h2))
    change Fr _ _ [_, blk _ _ [_, _, _, _, _], _] _ at F7
    have F8 := F7.drew
    refine Cod.draw (C_of (F8.erase 2).drop1) (by kernel_rfl) ?_
    refine Hops.take 0 rfl (by kernel_rfl) (fun _ _ _ h => h) rfl rfl rfl (F8.erase 2).drop1 (fun w F => (yld_move rfl (ev_t rfl))) ?_
    refine Hops.take 1 rfl (by kernel_rfl) (fun _ _ _ h => h) rfl rfl rfl (F8.erase 2).drop1 (fun w F => (yld_move rfl (ev_t rfl))) ?_
    refine Hops.take 2 rfl (by kernel_rfl) (fun _ _ _ h => h) rfl rfl rfl (F8.erase 2).drop1 (fun w F => (yld_slcH k sl29 rfl (ev_t rfl) (ev_t rfl) rfl hcu3)) ?_
    refine Hops.take 3 rfl (by kernel_rfl) (fun _ _ _ h => h) rfl rfl rfl (F8.erase 2).drop1 (fun w F => (yld_loadN ag31 rfl (ev_t rfl) (fun _ => F.range (m := 5) (cs' := [_, _, _, _, _]) 0 rfl rfl) rfl)) ?_
    refine Hops.take 6 rfl (by kernel_rfl) (fun _ _ _ h => h) rfl rfl rfl (F8.erase 2).drop1 (fun w F => (yld_move rfl (ev_t rfl))) ?_
    refine Hops.one 4 rfl (by kernel_rfl) (One.buildSlice (cells := (enc5 xz)) F8 sl29 zero31 rfl rfl rfl rfl (evp1 (ev_t rfl)) rfl rfl (by kernel_rfl) ?_)
    intro b3 w6 hb3 F9
    refine ⟨((F9.erase 3).erase 1).drop1, ?_⟩
    refine Hops.one 5 rfl (by kernel_rfl) (One.append (enc := enc5) [xz] F9 3 rfl sl29 zero31 rfl rfl (fun _ => rfl) rfl rfl rfl rfl (ev_t rfl) (ev_t rfl) ((blk_rep (enc := enc5) (sz := 5) (xs := [xz]) (fun _ => rfl) (by simpa using F9.get 0 rfl) (by simp) (by simp)).weak fun _ _ => trivial) (one_all hoz) (by simp; omega) (by simp; omega) ?_)
    intro u5 w7 hu5 F10
    refine ⟨((F10.erase 3).erase 1).drop1, ?_⟩
    change Fr _ _ [_, _, blk _ _ [_, _, _, _, _], _] _ at F10
    obtain ⟨A4, m4, c4, hu4e⟩ := own_form (F10.get 1 rfl)
    subst hu4e
    refine Hops.one 7 rfl (by kernel_rfl) (One.append (enc := enc5) ([] ++ (List.map Prod.snd zs).drop k) F10 3 rfl sl29 zero31 rfl rfl (fun _ => rfl) rfl rfl rfl rfl (ev_t rfl) (ev_t rfl) ((own_rep (e := 31) (enc := enc5) (sz := 5) (fun _ => rfl) (F10.get 1 rfl)).weak fun _ _ => trivial) (fun x hx => hoy x (List.mem_of_mem_drop (by simpa using hx))) (by simp; omega) (by simp; omega) ?_)
    intro u6 w8 hu6 F11
    refine ⟨((F11.erase 3).erase 1).drop1, ?_⟩
    change Fr _ _ [_, _, blk _ _ [_, _, _, _, _], _] _ at F11
    refine Hops.one 8 rfl (by kernel_rfl) (One.val rfl rfl rfl (yld_assign rfl (ev_t rfl)) ?_)
    refine ⟨((F11.erase 3).erase 1).drop1, ?_⟩
    refine Hops.nil (by kernel_rfl) fun a hS => ?_
    refine hK8 _ _ ?_ a hS
    refine Cod.ret fun a hS => ?_
    try simp only [Exit.then, Exit.inBlock]
    exact ret1 (t := 4) rfl hS rfl ⟨u6, rfl, F11.chg, by rw [show (ins ordZ (tz, xz) zs).length = (List.map Prod.snd (ins ordZ (tz, xz) zs)).length by simp, hmap]; exact F11.get 3 rfl, fun q hq => F11.dom _ (List.mem_of_getElem? (i := 3) rfl) q hq⟩

set_option maxRecDepth 100000 in
theorem l4Sort_ct (l : List Tr) (v : Value) (w0 w : World) (hp : RepL Any w0 l v) (hc0 : Chg No w0 w) (hn : l.length ≤ 900) : Calls Try.prog 93 #[v] w fun e w' => ∃ v' ys, e = .returned v' ∧ Chg No w w' ∧ (own 31 5 v' ys.length (ys.flatMap enc5)).is w' ∧ AL w0 (sortL Tr.ord l) ys ∧ ∀ k, v'.ownBlock = some k → w.heap.size ≤ k := by
  obtain ⟨ys0, hre, hal⟩ := hp.v5
  have hyl := hal.1
  obtain ⟨A, c, rfl, -⟩ := hp.open
  obtain ⟨zs, hzs⟩ : ∃ zs, zs = l.zip ys0 := ⟨_, rfl⟩
  have hz1 : List.map Prod.snd zs = ys0 := by rw [hzs]; exact zip_snd hyl
  have hz2 : List.map Prod.fst zs = l := by rw [hzs]; exact zip_fst hyl
  have hzl : zs.length = l.length := by rw [← hz2, List.length_map]
  have hzr := hal.zip
  rw [← hzs] at hzr
  have hsz0 := hc0.size
  rw [← hz1] at hre
  refine enter Try.func93 rfl rfl rfl ?_
  have F0 := Fr.start w
  refine Cod.seq fun K1 hK1 => ?_
  refine Cod.region ?_
  refine Ops.step (One.val rfl rfl rfl (yld_assign rfl ev_c) ?_)
  refine Ops.nil fun a hS => ?_
  refine hK1 _ _ ?_ a hS
  refine Cod.seq fun K2 hK2 => ?_
  refine Cod.region ?_
  refine Ops.step (One.buildNil enc5 F0 sl29 rfl rfl rfl rfl ?_)
  intro b1 w1 hb1 F1
  refine Ops.step (One.val rfl rfl rfl (yld_assign rfl (ev_t rfl)) ?_)
  refine Ops.nil fun a hS => ?_
  refine hK2 _ _ ?_ a hS
  refine Cod.seq fun K3 hK3 => ?_
  refine Cod.seq fun K4 hK4 => ?_
  refine Cod.region ?_
  refine Ops.step (One.val rfl rfl rfl (yld_assign rfl ev_c) ?_)
  refine Ops.nil fun a hS => ?_
  refine hK4 _ _ ?_ a hS
  refine Cod.block ?_
  refine Cod.loop (fun i : Nat × Value => [(0, true, .slice A l.length c), (3, true, i.2), (4, true, .int .i64 (i.1 : Int))]) (fun i w' => i.1 ≤ l.length ∧ Fr No w [own 31 5 i.2 (sortL ordZ (zs.take i.1)).length ((List.map Prod.snd (sortL ordZ (zs.take i.1))).flatMap enc5)] w') (fun i => l.length - i.1) (0, .slice (some ⟨b1, 0, none⟩) 0 0) ⟨rfl, rfl, rfl, trivial⟩ ⟨Nat.zero_le _, F1⟩ ?_
  intro i w2 hW K5 hK5
  obtain ⟨ix, u⟩ := i
  obtain ⟨hi0, F2⟩ := hW
  dsimp only at *
  refine Cod.seq fun K6 hK6 => ?_
  refine Cod.seq fun K7 hK7 => ?_
  refine Cod.region ?_
  refine Ops.step (One.val rfl rfl rfl (yld_move rfl (ev_t rfl)) ?_)
  refine Ops.step (One.val rfl rfl rfl (yld_move rfl (ev_t rfl)) ?_)
  refine Ops.step (One.val rfl rfl rfl (yld_len sl29 rfl (ev_t rfl)) ?_)
  refine Ops.step (One.val rfl rfl rfl (yld_lss rfl (ev_t rfl) (ev_t rfl)) ?_)
  refine Ops.nil fun a hS => ?_
  refine hK7 _ _ ?_ a hS
  refine Cod.cond rfl (fun hc9 => ?_) (fun hc9 => ?_)
  · skip
    have hi : ix < l.length := by simpa using hc9
    obtain ⟨b, o, rfl, -, hr⟩ := hre.at ix (by simp; omega)
    have hsl : (sortL ordZ (zs.take ix)).length = ix := by rw [sortL_len]; simp; omega
    refine Cod.skip fun a hS => ?_
    refine hK6 _ _ ?_ a hS
    refine Cod.seq fun K8 hK8 => ?_
    refine Cod.block ?_
    refine Cod.region ?_
    refine Ops.step (One.val rfl rfl rfl (yld_move rfl (ev_t rfl)) ?_)
    refine Ops.step (One.val rfl rfl rfl (yld_move rfl (ev_t rfl)) ?_)
    refine Ops.step (One.val rfl rfl rfl (yld_move rfl (ev_t rfl)) ?_)
    refine Ops.step (One.val rfl rfl rfl (yld_indexN sl29 rfl (ev_t rfl) (ev_t rfl) (fun _ => by omega)) ?_)
    refine Ops.step (One.val rfl rfl rfl (yld_loadN (cs := enc5 (zs[ix]'(by omega)).2) ag31 rfl (ev_t rfl) (fun _ => by have h2 := rng hr (hc0.trans F2.chg); simpa using h2) rfl) ?_)
    refine Ops.step (One.call rfl rfl rfl (ent_f rfl (evl2 (ev_t rfl) (ev_t rfl)) (enters en127)) (l4Put_ct (sortL ordZ (zs.take ix)) (zs[ix]'(by omega)) u _ (F2.get 0 rfl) (fun y hy => ((hzr y (List.mem_of_mem_take ((sortL_perm _).mem_iff.1 hy))).old.chg (hc0.trans F2.chg)).weak fun k hk hk2 => by have h1 := (F2.dom _ (List.mem_of_getElem? (i := 0) rfl) k hk2).resolve_left id; omega) (((hzr _ (List.getElem_mem (by omega))).old.chg (hc0.trans F2.chg)).weak fun k hk hk2 => by have h1 := (F2.dom _ (List.mem_of_getElem? (i := 0) rfl) k hk2).resolve_left id; omega) (by omega)) (fun e w3 hw3 => ?_))
    obtain ⟨u2, rfl, C3, ho2, hob2⟩ := hw3
    have F3 := F2.upd 0 rfl C3 (fun _ hk => .inl hk) (own 31 5 u2 _ _) ho2 hob2
    change Fr _ _ [_] _ at F3
    refine ⟨_, rfl, ?_⟩
    refine Ops.step (One.val rfl rfl rfl (yld_assign rfl (ev_t rfl)) ?_)
    refine Ops.nil fun a hS => ?_
    refine hK8 _ _ ?_ a hS
    refine Cod.region ?_
    refine Ops.step (One.val rfl rfl rfl (yld_move rfl (ev_t rfl)) ?_)
    refine Ops.step (One.val rfl rfl rfl (yld_inc rfl (ev_t rfl) (fun _ => by omega)) ?_)
    refine Ops.step (One.val rfl rfl rfl (yld_assign rfl (ev_t rfl)) ?_)
    refine Ops.nil fun a hS => ?_
    exact hK5 (ix + 1, u2) _ a (hS.sub ⟨rfl, rfl, rfl, trivial⟩) ⟨by show ix + 1 ≤ _; omega, by rw [sortL_take zs ix (by omega)]; exact F3⟩ (by show l.length - (ix + 1) < l.length - ix; omega)
  · skip
    obtain rfl : ix = l.length := by simp at hc9; omega
    rw [List.take_of_length_le (by omega)] at F2
    refine Cod.exit fun a hS => ?_
    simp only [Exit.then, Exit.inBlock, ↓reduceIte]
    refine hK3 _ _ ?_ a hS
    refine Cod.seq fun K9 hK9 => ?_
    refine Cod.region ?_
    refine Ops.step (One.val rfl rfl rfl (yld_move rfl (ev_t rfl)) ?_)
    refine Ops.step (One.val rfl rfl rfl (yld_assign rfl (ev_t rfl)) ?_)
    refine Ops.nil fun a hS => ?_
    refine hK9 _ _ ?_ a hS
    refine Cod.ret fun a hS => ?_
    try simp only [Exit.then, Exit.inBlock]
    exact ret1 (t := 2) rfl hS rfl ⟨u, List.map Prod.snd (sortL ordZ zs), rfl, F2.chg, by rw [List.length_map]; exact F2.get 0 rfl, by rw [← hz2, ← sort_map]; exact AL.ofZ fun z hz0 => hzr z ((sortL_perm zs).mem_iff.1 hz0), fun b hb => (F2.dom _ (List.mem_of_getElem? (i := 0) rfl) b hb).resolve_left id⟩

set_option maxRecDepth 100000 in
theorem specSort_ct (t : Tr) (v : Value) (w : World) (hr : Rep Any w t v) (hf : t.Fit) (hw : t.wt ≤ 1048576) (hn : t.list.length ≤ 19) : Calls Try.prog 37 #[v] w (Gives w (sortR t)) := by
  obtain ⟨v3, v4, ev, h3, h4⟩ := hr.form
  subst ev
  obtain ⟨A4, c4, rfl, hn4⟩ := h4.open
  obtain ⟨hTf, hTw⟩ := sort_bd hf hw
  refine enter Try.func37 rfl rfl rfl ?_
  have F0 := Fr.start w
  refine Cod.seq fun K1 hK1 => ?_
  refine Cod.region ?_
  refine Ops.step (One.box F0 rfl rfl rfl rfl (ev_t rfl) ?_)
  intro b1 w1 hb1 F1
  change Fr _ _ [blk _ _ [_, _, _, _, _]] _ at F1
  refine Ops.step (One.alloc F1 zero31 rfl rfl rfl rfl ?_)
  intro b2 w2 hb2 F2
  change Fr _ _ [blk _ _ [_, _, _, _, _], blk _ _ [_, _, _, _, _]] _ at F2
  refine Ops.step (One.val rfl rfl rfl (yld_assign rfl ev_c) ?_)
  refine Ops.nil fun a hS => ?_
  refine hK1 _ _ ?_ a hS
  refine Cod.seq fun K2 hK2 => ?_
  refine Cod.seq fun K3 hK3 => ?_
  refine Cod.region ?_
  refine Ops.step (One.val rfl rfl rfl (yld_loadN ag31 rfl (ev_t rfl) (fun _ => F2.range (m := 5) (cs' := [_, _, _, _, _]) 1 rfl rfl) rfl) ?_)
  refine Ops.step (One.call rfl rfl rfl (ent_f rfl (evl1 (ev_t rfl)) (enters en84)) (l4Row_ct t _ _ (hr.chg F2.chg) hf hw) (fun e w3 hw3 => ?_))
  obtain ⟨rfl, C3⟩ := hw3
  have F3 := F2.call C3
  refine ⟨_, rfl, ?_⟩
  refine Ops.step (One.val rfl rfl rfl (yld_not rfl (ev_t rfl)) ?_)
  refine Ops.nil fun a hS => ?_
  refine hK3 _ _ ?_ a hS
  refine Cod.cond rfl (fun hc6 => ?_) (fun hc6 => ?_)
  · skip
    have hno : sortR t = none := by
      have hc : (!(rowT t)) = true := hc6
      unfold sortR
      cases h1 : rowT t <;> simp [h1] at hc ⊢
    refine Cod.seq fun K4 hK4 => ?_
    refine Cod.region ?_
    refine Ops.step (One.val rfl rfl rfl (yld_build (cells := [.int .i64 0, .int .i64 0, .string ⟨#[]⟩, .slice none 0 0, .slice none 0 0]) rfl (evp0) (by kernel_rfl)) ?_)
    refine Ops.step (One.storeN (vs := [_, _, _, _, _]) F3 0 rfl sz31 rfl rfl rfl (ev_t rfl) (ev_t rfl) rfl rfl rfl ?_)
    intro w4 F4
    change Fr _ _ [blk _ _ [_, _, _, _, _], blk _ _ [_, _, _, _, _]] _ at F4
    refine Ops.step (One.val rfl rfl rfl (yld_assign rfl ev_c) ?_)
    refine Ops.nil fun a hS => ?_
    refine hK4 _ _ ?_ a hS
    refine Cod.ret fun a hS => ?_
    try simp only [Exit.then, Exit.inBlock]
    exact retct (t := 2) (u := 3) (ty := 31) rfl hS ag31 rfl rfl (F4.range (m := 5) (cs' := [_, _, _, _, _]) 0 rfl rfl) rfl ⟨z5, No, by rw [hno]; rfl, F4.chg, by rw [hno]; exact sep_leaf _ 0 0 ⟨#[]⟩, fun k hk => hk.elim⟩
  · skip
    have hyes : sortR t = toldR true (.mk 5 0 ⟨#[]⟩ [] ((sortL Tr.ord t.list))) := by
      have hc : (!(rowT t)) = false := hc6
      unfold sortR
      cases h1 : rowT t <;> simp [h1] at hc ⊢
    refine Cod.skip fun a hS => ?_
    refine hK2 _ _ ?_ a hS
    refine Cod.seq fun K5 hK5 => ?_
    refine Cod.region ?_
    refine Ops.step (One.val rfl rfl rfl (yld_field fi31_4 rfl (ev_t rfl)) ?_)
    refine Ops.step (One.val rfl rfl rfl (yld_load1 on29 rfl (ev_t rfl) (fun _ => F3.cell 1 rfl rfl)) ?_)
    refine Ops.step (One.call rfl rfl rfl (ent_f rfl (evl1 (ev_t rfl)) (enters en93)) (l4Sort_ct t.list _ w _ h4 F3.chg (by omega)) (fun e w5 hw5 => ?_))
    obtain ⟨u, ys, rfl, C5, ho, hal, hob⟩ := hw5
    have F5 := F3.new C5 (own _ 5 u ys.length _) ho hob
    refine ⟨_, rfl, ?_⟩
    refine Ops.step (One.call rfl rfl rfl (ent_f rfl (evl1 (ev_t rfl)) (enters en92)) (l4Of_ct u _ (own_form (F5.get 0 rfl))) (fun e w6 hw6 => ?_))
    obtain ⟨rfl, C6⟩ := hw6
    have F6 := F5.call C6
    refine ⟨_, rfl, ?_⟩
    refine Ops.step (One.call rfl rfl rfl (ent_f rfl (evl1 (ev_t rfl)) (enters en91)) (l2Told_ct (.mk 5 0 ⟨#[]⟩ [] (sortL Tr.ord t.list)) _ _ (Rep.close (RepE.nil _ _) ((hal.chg F6.chg).repL (F6.get 0 rfl))) hTf hTw) (fun e w7 hw7 => ?_))
    obtain ⟨x1, G1, rfl, C7, hs1, hb1⟩ := hw7
    have F7 := F6.new C7 (sep G1 _ x1.val) hs1 hb1
    refine ⟨_, rfl, ?_⟩
    refine Ops.step (One.val rfl rfl rfl (yld_extract rfl (ev_t rfl) rfl) ?_)
    refine Ops.step (One.val rfl rfl rfl (yld_extract rfl (ev_t rfl) rfl) ?_)
    refine Ops.step (One.storeN (vs := [_, _, _, _, _]) F7 2 rfl sz31 rfl rfl rfl (ev_t rfl) (ev_t rfl) rfl rfl hs1.one ?_)
    intro w8 F8
    change Fr _ _ [_, _, blk _ _ [_, _, _, _, _], blk _ _ [_, _, _, _, _]] _ at F8
    refine Ops.step (One.val rfl rfl rfl (yld_assign rfl (ev_t rfl)) ?_)
    refine Ops.nil fun a hS => ?_
    refine hK5 _ _ ?_ a hS
    refine Cod.ret fun a hS => ?_
    try simp only [Exit.then, Exit.inBlock]
    exact retct (t := 2) (u := 3) (ty := 31) rfl hS ag31 rfl rfl (F8.range (m := 5) (cs' := [_, _, _, _, _]) 2 rfl rfl) rfl ⟨x1, G1, by rw [hyes]; rfl, F8.chg, by rw [hyes]; exact F8.get 0 rfl, fun b hb => (F8.dom _ (List.mem_of_getElem? (i := 0) rfl) b hb).resolve_left id⟩

end Go.Proofs.Ytodbflfelimppaa.Eng
