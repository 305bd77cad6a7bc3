/- Walks of both PartSet: a part of a row is set, the row grows to it. -/
import Derived.Test.YtodbflfelimppaaPairs
import Derived.Test.YtodbflfelimppaaClS
namespace Go.Proofs.Ytodbflfelimppaa.Eng
open Go.RowKit
set_option linter.unusedVariables false
set_option linter.unusedSimpArgs false
set_option maxHeartbeats 1000000


def setZ (t : Tr) (g : Int) : Nat := (if g < 0 then g + t.list.length else g).toNat
def setL (l : List Tr) (i : Nat) (x : Tr) : List Tr := (l ++ List.replicate (i + 1 - l.length) zeroT).set i x
noncomputable def setB (t x : Tr) (g : Int) : Bool := okT t && okT x && (decide (t.kind = 0) || decide (t.kind = 5)) && decide (g < 60) && decide (-(t.list.length : Int) ≤ g)
def setT (t x : Tr) (g : Int) : Tr := .mk 5 0 ⟨#[]⟩ [] (setL t.list (setZ t g) x)
noncomputable def setR (t x : Tr) (g : Int) : Option Tr := if setB t x g = true then toldR true (setT t x g) else none
theorem setB_facts {t x : Tr} {g : Int} (h : setB t x g = true) : okT t = true ∧ okT x = true ∧ (t.kind = 0 ∨ t.kind = 5) ∧ g < 60 ∧ -(t.list.length : Int) ≤ g := by
  unfold setB at h
  simp only [Bool.and_eq_true, Bool.or_eq_true, decide_eq_true_eq] at h
  obtain ⟨⟨⟨⟨h1, h2⟩, h3⟩, h4⟩, h5⟩ := h
  exact ⟨h1, h2, h3, h4, h5⟩
theorem setL_mem {l : List Tr} {i : Nat} {x y : Tr} (h : y ∈ setL l i x) : y ∈ l ∨ y = zeroT ∨ y = x := by
  unfold setL at h
  rcases List.mem_or_eq_of_mem_set h with h | h
  · rcases List.mem_append.1 h with h | h
    · exact .inl h
    · exact .inr (.inl (List.eq_of_mem_replicate h))
  · exact .inr (.inr h)
theorem setT_bd {t x : Tr} {g : Int} (hf : t.Fit) (hfx : x.Fit) (h : setB t x g = true) : (setT t x g).Fit ∧ (setT t x g).wt ≤ 1048576 := by
  obtain ⟨h1, h2, h3, h4, h5⟩ := setB_facts h
  have hl := okT_len60 h1
  have hlen : (setL t.list (setZ t g) x).length ≤ 60 := by
    unfold setL setZ
    simp
    split <;> omega
  refine ⟨.mk (Nat.zero_le _) (by simp) fun y hy => ?_, ?_⟩
  · rcases setL_mem hy with hy | rfl | rfl
    · exact hf.list y hy
    · exact .mk (Nat.zero_le _) (by simp) (by simp)
    · exact hfx
  · have hb := sumNb (f := Tr.wt) (b := 1560) (l := setL t.list (setZ t g) x) fun y hy => by
      rcases setL_mem hy with hy | rfl | rfl
      · exact okT_wt (okT_child h1 hy)
      · exact okT_wt okT_zeroT
      · exact okT_wt h2
    unfold setT
    rw [Tr.wt_mk]
    show 0 + (0 + 0) + _ ≤ _
    omega
theorem setR_mkn {t x : Tr} {g : Int} (hf : t.Fit) (hfx : x.Fit) : ((setR t x g).getD zeroT).keys.length + sumN Tr.mkn ((setR t x g).getD zeroT).list ≤ 3 * 1048576 + 3 := by
  unfold setR
  split
  · rename_i h
    have h1 := (setT_bd hf hfx h).2
    unfold toldR
    split
    · exact wt_mkn _ _ h1
    · show 0 + 0 ≤ _
      omega
  · show 0 + 0 ≤ _
    omega

set_option maxRecDepth 100000 in
theorem set_ct (t x : Tr) (g : Int) (hgi : -9223372036854775808 ≤ g ∧ g ≤ 9223372036854775807) (v vx : Value) (w : World) (hr : Rep Any w t v) (hx : Rep Any w x vx) (hf : t.Fit) (hfx : x.Fit) (hw : t.wt ≤ 1048576) (hwx : x.wt ≤ 1048576) : Calls Try.prog 139 #[v, .int .i64 g, vx] w (Gives w (setR t x g)) := by
  obtain ⟨v3, v4, ev, h3, h4⟩ := hr.form
  subst ev
  obtain ⟨A4, c4, rfl, hn4⟩ := h4.open
  obtain ⟨x3, x4, ex, -, -⟩ := hx.form
  subst ex
  refine enter Try.func139 rfl rfl rfl ?_
  have F0 := Fr.start w
  refine Cod.seq fun K1 hK1 => ?_
  refine Cod.region ?_
  refine Ops.step (One.box F0 rfl rfl rfl rfl (ev_t rfl) ?_)
  intro b1 w1 hb1 F1
  change Fr _ _ [blk _ _ [_, _, _, _, _]] _ at F1
  refine Ops.step (One.box F1 rfl rfl rfl rfl (ev_t rfl) ?_)
  intro b2 w2 hb2 F2
  change Fr _ _ [blk _ _ [_, _, _, _, _], blk _ _ [_, _, _, _, _]] _ at F2
  refine Ops.step (One.alloc F2 zero31 rfl rfl rfl rfl ?_)
  intro b3 w3 hb3 F3
  change Fr _ _ [blk _ _ [_, _, _, _, _], blk _ _ [_, _, _, _, _], blk _ _ [_, _, _, _, _]] _ at F3
  refine Ops.step (One.val rfl rfl rfl (yld_assign rfl ev_c) ?_)
  refine Ops.nil fun a hS => ?_
  refine hK1 _ _ ?_ a hS
  refine Cod.seq fun K2 hK2 => ?_
  refine Cod.seq fun K3 hK3 => ?_
  refine Cod.region ?_
  refine Ops.step (One.val rfl rfl rfl (yld_loadN ag31 rfl (ev_t rfl) (fun _ => F3.range (m := 5) (cs' := [_, _, _, _, _]) 2 rfl rfl) rfl) ?_)
  refine Ops.step (One.call rfl rfl rfl (ent_f rfl (evl1 (ev_t rfl)) (enters en43)) (valOk_ct t _ _ (hr.chg F3.chg) hf) (fun e w4 hw4 => ?_))
  obtain ⟨rfl, C4⟩ := hw4
  have F4 := F3.call C4
  refine ⟨_, rfl, ?_⟩
  refine Ops.step (One.val rfl rfl rfl (yld_not rfl (ev_t rfl)) ?_)
  refine Ops.step (One.val rfl rfl rfl (yld_move rfl (ev_t rfl)) ?_)
  refine Ops.step (One.val (gd_some rfl rfl) rfl rfl (yld_loadN ag31 rfl (ev_t rfl) (fun _ => F4.range (m := 5) (cs' := [_, _, _, _, _]) 1 rfl rfl) rfl) ?_)
  refine Ops.step (One.gcall (R := Chg No w4) (gd_some rfl rfl) rfl rfl (ent_f rfl (evl1 (ev_g rfl)) (enters en43)) (Chg.refl _ _) (fun hg => valOk_ct x _ _ (hx.chg F4.chg) hfx) ?_)
  intro w5 C5
  have F5 := F4.call C5
  refine Ops.step (One.val (gd_some rfl rfl) rfl rfl (yld_not rfl (ev_g rfl)) ?_)
  refine Ops.step (One.val rfl rfl rfl (yld_or rfl (ev_t rfl) (ev_g rfl)) ?_)
  refine Ops.step (One.val rfl rfl rfl (yld_move rfl (ev_t rfl)) ?_)
  refine Ops.step (One.val (gd_some rfl rfl) rfl rfl (yld_field fi31_0 rfl (ev_t rfl)) ?_)
  refine Ops.step (One.val (gd_some rfl rfl) rfl rfl (yld_load1 on3 rfl (ev_g rfl) (fun _ => F5.cell 2 rfl rfl)) ?_)
  refine Ops.step (One.val (gd_some rfl rfl) rfl rfl (yld_neq rfl (ev_g rfl) ev_c) ?_)
  refine Ops.step (One.val (gd_some rfl rfl) rfl rfl (yld_move rfl (ev_g rfl)) ?_)
  refine Ops.step (One.val (gd_some rfl rfl) rfl rfl (yld_field fi31_0 rfl (ev_t rfl)) ?_)
  refine Ops.step (One.val (gd_some rfl rfl) rfl rfl (yld_load1 on3 rfl (ev_g rfl) (fun _ => F5.cell 2 rfl rfl)) ?_)
  refine Ops.step (One.val (gd_some rfl rfl) rfl rfl (yld_neq rfl (ev_g rfl) ev_c) ?_)
  refine Ops.step (One.val (gd_some rfl rfl) rfl rfl (yld_and rfl (ev_g rfl) (ev_g rfl)) ?_)
  refine Ops.step (One.val rfl rfl rfl (yld_or rfl (ev_t rfl) (ev_g rfl)) ?_)
  refine Ops.step (One.val rfl rfl rfl (yld_move rfl (ev_t rfl)) ?_)
  refine Ops.step (One.val (gd_some rfl rfl) rfl rfl (yld_move rfl (ev_t rfl)) ?_)
  refine Ops.step (One.val (gd_some rfl rfl) rfl rfl (yld_field fi31_4 rfl (ev_t rfl)) ?_)
  refine Ops.step (One.val (gd_some rfl rfl) rfl rfl (yld_load1 on29 rfl (ev_g rfl) (fun _ => F5.cell 2 rfl rfl)) ?_)
  refine Ops.step (One.val (gd_some rfl rfl) rfl rfl (yld_len sl29 rfl (ev_g rfl)) ?_)
  refine Ops.step (One.val (gd_some rfl rfl) rfl rfl (yld_neg rfl (ev_g rfl) (fun _ => by omega)) ?_)
  refine Ops.step (One.gcall (R := Chg No w5) (gd_some rfl rfl) rfl rfl (ent_f rfl (evl3 (ev_g rfl) (ev_g rfl) ev_c) (enters en115)) (Chg.refl _ _) (fun hg => within_ct g _ 59 _) ?_)
  intro w6 C6
  have F6 := F5.call C6
  refine Ops.step (One.val (gd_some rfl rfl) rfl rfl (yld_not rfl (ev_g rfl)) ?_)
  refine Ops.step (One.val rfl rfl rfl (yld_or rfl (ev_t rfl) (ev_g rfl)) ?_)
  refine Ops.nil fun a hS => ?_
  refine hK3 _ _ ?_ a hS
  refine Cod.cond rfl (fun hc35 => ?_) (fun hc35 => ?_)
  · skip
    have hno : setR t x g = none := by
      have hc : (((!(okT t) || !(okT x)) || ((t.kind != 5) && (t.kind != 0))) || !(decide (-(t.list.length : Int) ≤ g) && decide (g ≤ 59))) = true := hc35
      unfold setR
      rw [if_neg]
      intro hb
      obtain ⟨h1, h2, h3, h4, h5⟩ := setB_facts hb
      rw [h1, h2] at hc
      simp at hc
      omega
    refine Cod.seq fun K4 hK4 => ?_
    refine Cod.region ?_
    refine Ops.step (One.val rfl rfl rfl (yld_build (cells := [.int .i64 0, .int .i64 0, .string ⟨#[]⟩, .slice none 0 0, .slice none 0 0]) rfl (evp0) (by kernel_rfl)) ?_)
    refine Ops.step (One.storeN (vs := [_, _, _, _, _]) F6 0 rfl sz31 rfl rfl rfl (ev_t rfl) (ev_t rfl) rfl rfl rfl ?_)
    intro w7 F7
    change Fr _ _ [blk _ _ [_, _, _, _, _], blk _ _ [_, _, _, _, _], blk _ _ [_, _, _, _, _]] _ at F7
    refine Ops.step (One.val rfl rfl rfl (yld_assign rfl ev_c) ?_)
    refine Ops.nil fun a hS => ?_
    refine hK4 _ _ ?_ a hS
    refine Cod.ret fun a hS => ?_
    try simp only [Exit.then, Exit.inBlock]
    exact retct (t := 6) (u := 7) (ty := 31) rfl hS ag31 rfl rfl (F7.range (m := 5) (cs' := [_, _, _, _, _]) 0 rfl rfl) rfl ⟨z5, No, by rw [hno]; rfl, F7.chg, by rw [hno]; exact sep_leaf _ 0 0 ⟨#[]⟩, fun k hk => hk.elim⟩
  · skip
    have hc : (((!(okT t) || !(okT x)) || ((t.kind != 5) && (t.kind != 0))) || !(decide (-(t.list.length : Int) ≤ g) && decide (g ≤ 59))) = false := hc35
    have hB : setB t x g = true := by
      unfold setB
      cases h1 : okT t <;> cases h2 : okT x <;> rw [h1, h2] at hc <;> simp at hc ⊢
      omega
    have hyes : setR t x g = toldR true (setT t x g) := by
      unfold setR
      rw [if_pos hB]
    obtain ⟨hok, hokx, hkind, hg60, hglo⟩ := setB_facts hB
    have hl60 := okT_len60 hok
    obtain ⟨hTf, hTw⟩ := setT_bd hf hfx hB
    obtain ⟨TT, hTT⟩ : ∃ TT, TT = setT t x g := ⟨_, rfl⟩
    obtain ⟨S, hS0⟩ : ∃ S : Nat, S = setZ t g := ⟨_, rfl⟩
    have hTd : TT = .mk 5 0 ⟨#[]⟩ [] (setL t.list S x) := by rw [hTT, hS0]; rfl
    have hS60 : S ≤ 59 := by rw [hS0]; unfold setZ; split <;> omega
    rw [← hTT] at hyes hTf hTw
    generalize setR t x g = RR at *
    refine Cod.skip fun a hS => ?_
    refine hK2 _ _ ?_ a hS
    refine Cod.seq fun K5 hK5 => ?_
    refine Cod.seq fun K6 hK6 => ?_
    refine Cod.region ?_
    refine Ops.step (One.val rfl rfl rfl (yld_move rfl (ev_t rfl)) ?_)
    refine Ops.step (One.val rfl rfl rfl (yld_lss rfl (ev_t rfl) ev_c) ?_)
    refine Ops.nil fun a hS => ?_
    refine hK6 _ _ ?_ a hS
    refine Cod.cond rfl (fun hc38 => ?_) (fun hc38 => ?_)
    · skip
      have hq : g < 0 := by simpa using hc38
      obtain ⟨az, haz⟩ : ∃ az : Int, az = g + (t.list.length : Int) := ⟨_, rfl⟩
      have hz : az = (S : Int) := by rw [haz, hS0]; unfold setZ; rw [if_pos hq]; omega
      have hrw : g + (t.list.length : Int) = az := haz.symm
      refine Cod.region ?_
      refine Ops.step (One.val rfl rfl rfl (yld_move rfl (ev_t rfl)) ?_)
      refine Ops.step (One.val rfl rfl rfl (yld_field fi31_4 rfl (ev_t rfl)) ?_)
      refine Ops.step (One.val rfl rfl rfl (yld_load1 on29 rfl (ev_t rfl) (fun _ => F6.cell 2 rfl rfl)) ?_)
      refine Ops.step (One.val rfl rfl rfl (yld_len sl29 rfl (ev_t rfl)) ?_)
      refine Ops.step (One.val rfl rfl rfl (yld_add rfl (ev_t rfl) (ev_t rfl) (fun _ => by omega)) ?_)
      refine Ops.step (One.val rfl rfl rfl (yld_assign rfl (ev_t rfl)) ?_)
      refine Ops.nil fun a hS => ?_
      refine hK5 _ _ ?_ a hS
      refine Cod.seq fun K7 hK7 => ?_
      try rw [hrw]
      refine Cod.region ?_
      refine Ops.step (One.val rfl rfl rfl (yld_field fi31_4 rfl (ev_t rfl)) ?_)
      refine Ops.step (One.val rfl rfl rfl (yld_load1 on29 rfl (ev_t rfl) (fun _ => F6.cell 2 rfl rfl)) ?_)
      refine Ops.step (One.call rfl rfl rfl (ent_f rfl (evl1 (ev_t rfl)) (enters en86)) (cloneS_ct t.list _ w _ h4 F6.chg (by omega)) (fun e w8 hw8 => ?_))
      obtain ⟨u, ys, rfl, C8, ho, hal0, hob⟩ := hw8
      have F8 := F6.new C8 (own _ 5 u ys.length _) ho hob
      obtain ⟨A2, m2, c2, hu2⟩ := own_form (F8.get 0 rfl)
      have hm2 := own_len (F8.get 0 rfl) hu2
      subst hu2
      subst hm2
      refine ⟨_, rfl, ?_⟩
      refine Ops.step (One.val rfl rfl rfl (yld_assign rfl (ev_t rfl)) ?_)
      refine Ops.nil fun a hS => ?_
      refine hK7 _ _ ?_ a hS
      refine Cod.seq fun K8 hK8 => ?_
      refine Cod.block ?_
      refine Cod.loop (fun i : Nat × List V5 × Option Addr × Nat => [(1, true, .int .i64 az), (3, true, .pointer (some ⟨b1, 0, none⟩)), (5, true, .pointer (some ⟨b2, 0, none⟩)), (6, true, .pointer (some ⟨b3, 0, none⟩)), (8, true, .slice i.2.2.1 i.2.1.length i.2.2.2)]) (fun i w' => AL w (t.list ++ List.replicate i.1 zeroT) i.2.1 ∧ i.1 ≤ S + 1 - t.list.length ∧ Fr No w [own 31 5 (.slice i.2.2.1 i.2.1.length i.2.2.2) i.2.1.length (i.2.1.flatMap enc5), blk b3 31 [.int .i64 0, .int .i64 0, .string ⟨#[]⟩, .slice none 0 0, .slice none 0 0], blk b2 31 [.int .i64 x.kind, .int .i64 x.num, .string x.str, x3, x4], blk b1 31 [.int .i64 t.kind, .int .i64 t.num, .string t.str, v3, .slice A4 t.list.length c4]] w') (fun i => S + 1 - t.list.length - i.1) (0, ys, A2, c2) ⟨rfl, rfl, rfl, rfl, rfl, trivial⟩ ⟨by simpa using hal0, Nat.zero_le _, F8⟩ ?_
      intro i w9 hW K9 hK9
      obtain ⟨k, xs, A, c0⟩ := i
      obtain ⟨hal, hk, F9⟩ := hW
      dsimp only at *
      refine Cod.seq fun K10 hK10 => ?_
      refine Cod.seq fun K11 hK11 => ?_
      refine Cod.region ?_
      refine Ops.step (One.val rfl rfl rfl (yld_move rfl (ev_t rfl)) ?_)
      refine Ops.step (One.val rfl rfl rfl (yld_len sl29 rfl (ev_t rfl)) ?_)
      refine Ops.step (One.val rfl rfl rfl (yld_move rfl (ev_t rfl)) ?_)
      refine Ops.step (One.val rfl rfl rfl (yld_leq rfl (ev_t rfl) (ev_t rfl)) ?_)
      refine Ops.nil fun a hS => ?_
      refine hK11 _ _ ?_ a hS
      refine Cod.cond rfl (fun hc50 => ?_) (fun hc50 => ?_)
      · skip
        have hle : (xs.length : Int) ≤ az := by simpa using hc50
        have hxl := hal.1
        simp at hxl
        refine Cod.skip fun a hS => ?_
        refine hK10 _ _ ?_ a hS
        refine Cod.block ?_
        refine Cod.region ?_
        refine Ops.step (One.val rfl rfl rfl (yld_move rfl (ev_t rfl)) ?_)
        refine Ops.step (One.val rfl rfl rfl (yld_build (cells := [.int .i64 0, .int .i64 0, .string ⟨#[]⟩, .slice none 0 0, .slice none 0 0]) rfl (evp0) (by kernel_rfl)) ?_)
        refine Ops.step (One.buildSlice (cells := (enc5 z5)) F9 sl29 zero31 rfl rfl rfl rfl (evp1 (ev_t rfl)) rfl rfl (by kernel_rfl) ?_)
        intro b4 w10 hb4 F10
        refine Ops.step (One.append (enc := enc5) [z5] F10 1 rfl sl29 zero31 rfl rfl (fun _ => rfl) rfl rfl rfl rfl (ev_t rfl) (ev_t rfl) ((blk_rep (enc := enc5) (sz := 5) (xs := [z5]) (fun _ => rfl) (F10.get 0 rfl) (by simp) (by simp)).weak fun _ _ => trivial) (one_all rfl) (by have := hal.1; simp at this ⊢; omega) (by have := hal.1; simp at this ⊢; omega) ?_)
        intro u2 w11 hu2 F11
        change Fr _ _ [_, _, blk _ _ [_, _, _, _, _], blk _ _ [_, _, _, _, _], blk _ _ [_, _, _, _, _]] _ at F11
        refine Ops.step (One.val rfl rfl rfl (yld_assign rfl (ev_t rfl)) ?_)
        refine Ops.nil fun a hS => ?_
        obtain ⟨A3, m3, c3, hu3⟩ := own_form (F11.get 1 rfl)
        have hm3 := own_len (F11.get 1 rfl) hu3
        subst hu3
        subst hm3
        refine hK9 (k + 1, xs ++ [z5], A3, c3) _ a (hS.sub ⟨rfl, rfl, rfl, rfl, rfl, trivial⟩) ⟨hal.snocz, by omega, F11.drop1⟩ (by show S + 1 - t.list.length - (k + 1) < S + 1 - t.list.length - k; omega)
      · skip
        have hlt : az < (xs.length : Int) := by simp at hc50; omega
        have hxl := hal.1
        simp at hxl
        have hkk : k = S + 1 - t.list.length := by omega
        subst hkk
        obtain ⟨bb, cap, hv, -, -⟩ := World.ownsRow.form (F9.get 0 rfl) (by omega)
        obtain ⟨rfl, -⟩ : A = some ⟨bb, 0, none⟩ ∧ c0 = cap := by simpa using hv
        have hal2 : AL w (setL t.list S x) (xs.set az.toNat (x5 x.kind x.num x.str x3 x4)) := by
          rw [show az.toNat = S by omega]
          exact hal.set S hx
        refine Cod.exit fun a hS => ?_
        simp only [Exit.then, Exit.inBlock, ↓reduceIte]
        refine hK8 _ _ ?_ a hS
        refine Cod.seq fun K12 hK12 => ?_
        refine Cod.region ?_
        refine Ops.step (One.val rfl rfl rfl (yld_move rfl (ev_t rfl)) ?_)
        refine Ops.step (One.val rfl rfl rfl (yld_move rfl (ev_t rfl)) ?_)
        refine Ops.step (One.val rfl rfl rfl (yld_loadN ag31 rfl (ev_t rfl) (fun _ => F9.range (m := 5) (cs' := [_, _, _, _, _]) 2 rfl rfl) rfl) ?_)
        refine Ops.step (One.val rfl rfl rfl (yld_index sl29 rfl (ev_t rfl) (ev_t rfl) (fun _ => by omega)) ?_)
        refine Ops.step (One.storeRow (enc := enc5) (x5 x.kind x.num x.str x3 x4) (fun _ => rfl) F9 0 rfl rfl (by omega) sz31 rfl rfl rfl rfl (ev_t rfl) (ev_t rfl) (V5.one (x := x5 x.kind x.num x.str x3 x4) hx) ?_)
        intro w12 F12
        change Fr _ _ [_, blk _ _ [_, _, _, _, _], blk _ _ [_, _, _, _, _], blk _ _ [_, _, _, _, _]] _ at F12
        refine Ops.nil fun a hS => ?_
        refine hK12 _ _ ?_ a hS
        refine Cod.seq fun K13 hK13 => ?_
        refine Cod.region ?_
        refine Ops.step (One.val rfl rfl rfl (yld_move rfl (ev_t rfl)) ?_)
        refine Ops.step (One.call rfl rfl rfl (ent_f rfl (evl1 (ev_t rfl)) (enters en88)) (row_ct _ _ ⟨_, _, _, rfl⟩) (fun e w13 hw13 => ?_))
        obtain ⟨rfl, C13⟩ := hw13
        have F13 := F12.call C13
        refine ⟨_, rfl, ?_⟩
        refine Ops.step (One.call rfl rfl rfl (ent_f rfl (evl2 (ev_t rfl) ev_c) (enters en70)) (told_ct TT true _ _ (by rw [hTd]; exact Rep.close (RepE.nil _ _) ((hal2.chg F13.chg).repL (by rw [List.length_set]; exact F13.get 0 rfl))) hTf hTw) (fun e w14 hw14 => ?_))
        obtain ⟨x1, G1, rfl, C14, hs1, hb1⟩ := hw14
        have F14 := F13.new C14 (sep G1 _ x1.val) hs1 hb1
        refine ⟨_, rfl, ?_⟩
        refine Ops.step (One.val rfl rfl rfl (yld_extract rfl (ev_t rfl) rfl) ?_)
        refine Ops.step (One.val rfl rfl rfl (yld_extract rfl (ev_t rfl) rfl) ?_)
        refine Ops.step (One.storeN (vs := [_, _, _, _, _]) F14 2 rfl sz31 rfl rfl rfl (ev_t rfl) (ev_t rfl) rfl rfl hs1.one ?_)
        intro w15 F15
        change Fr _ _ [_, _, blk _ _ [_, _, _, _, _], blk _ _ [_, _, _, _, _], blk _ _ [_, _, _, _, _]] _ at F15
        refine Ops.step (One.val rfl rfl rfl (yld_assign rfl (ev_t rfl)) ?_)
        refine Ops.nil fun a hS => ?_
        refine hK13 _ _ ?_ a hS
        refine Cod.ret fun a hS => ?_
        try simp only [Exit.then, Exit.inBlock]
        exact retct (t := 6) (u := 7) (ty := 31) rfl hS ag31 rfl rfl (F15.range (m := 5) (cs' := [_, _, _, _, _]) 2 rfl rfl) rfl ⟨x1, G1, by rw [hyes]; rfl, F15.chg, by rw [hyes]; exact F15.get 0 rfl, fun b hb => (F15.dom _ (List.mem_of_getElem? (i := 0) rfl) b hb).resolve_left id⟩
    · skip
      have hq : ¬ g < 0 := by simpa using hc38
      obtain ⟨az, haz⟩ : ∃ az : Int, az = g := ⟨_, rfl⟩
      have hz : az = (S : Int) := by rw [haz, hS0]; unfold setZ; rw [if_neg hq]; omega
      subst haz
      have hrw : az = az := rfl
      refine Cod.skip fun a hS => ?_
      refine hK5 _ _ ?_ a hS
      refine Cod.seq fun K14 hK14 => ?_
      try rw [hrw]
      refine Cod.region ?_
      refine Ops.step (One.val rfl rfl rfl (yld_field fi31_4 rfl (ev_t rfl)) ?_)
      refine Ops.step (One.val rfl rfl rfl (yld_load1 on29 rfl (ev_t rfl) (fun _ => F6.cell 2 rfl rfl)) ?_)
      refine Ops.step (One.call rfl rfl rfl (ent_f rfl (evl1 (ev_t rfl)) (enters en86)) (cloneS_ct t.list _ w _ h4 F6.chg (by omega)) (fun e w16 hw16 => ?_))
      obtain ⟨u, ys, rfl, C16, ho, hal0, hob⟩ := hw16
      have F16 := F6.new C16 (own _ 5 u ys.length _) ho hob
      obtain ⟨A2, m2, c2, hu2⟩ := own_form (F16.get 0 rfl)
      have hm2 := own_len (F16.get 0 rfl) hu2
      subst hu2
      subst hm2
      refine ⟨_, rfl, ?_⟩
      refine Ops.step (One.val rfl rfl rfl (yld_assign rfl (ev_t rfl)) ?_)
      refine Ops.nil fun a hS => ?_
      refine hK14 _ _ ?_ a hS
      refine Cod.seq fun K15 hK15 => ?_
      refine Cod.block ?_
      refine Cod.loop (fun i : Nat × List V5 × Option Addr × Nat => [(1, true, .int .i64 az), (3, true, .pointer (some ⟨b1, 0, none⟩)), (5, true, .pointer (some ⟨b2, 0, none⟩)), (6, true, .pointer (some ⟨b3, 0, none⟩)), (8, true, .slice i.2.2.1 i.2.1.length i.2.2.2)]) (fun i w' => AL w (t.list ++ List.replicate i.1 zeroT) i.2.1 ∧ i.1 ≤ S + 1 - t.list.length ∧ Fr No w [own 31 5 (.slice i.2.2.1 i.2.1.length i.2.2.2) i.2.1.length (i.2.1.flatMap enc5), blk b3 31 [.int .i64 0, .int .i64 0, .string ⟨#[]⟩, .slice none 0 0, .slice none 0 0], blk b2 31 [.int .i64 x.kind, .int .i64 x.num, .string x.str, x3, x4], blk b1 31 [.int .i64 t.kind, .int .i64 t.num, .string t.str, v3, .slice A4 t.list.length c4]] w') (fun i => S + 1 - t.list.length - i.1) (0, ys, A2, c2) ⟨rfl, rfl, rfl, rfl, rfl, trivial⟩ ⟨by simpa using hal0, Nat.zero_le _, F16⟩ ?_
      intro i w17 hW K16 hK16
      obtain ⟨k, xs, A, c0⟩ := i
      obtain ⟨hal, hk, F17⟩ := hW
      dsimp only at *
      refine Cod.seq fun K17 hK17 => ?_
      refine Cod.seq fun K18 hK18 => ?_
      refine Cod.region ?_
      refine Ops.step (One.val rfl rfl rfl (yld_move rfl (ev_t rfl)) ?_)
      refine Ops.step (One.val rfl rfl rfl (yld_len sl29 rfl (ev_t rfl)) ?_)
      refine Ops.step (One.val rfl rfl rfl (yld_move rfl (ev_t rfl)) ?_)
      refine Ops.step (One.val rfl rfl rfl (yld_leq rfl (ev_t rfl) (ev_t rfl)) ?_)
      refine Ops.nil fun a hS => ?_
      refine hK18 _ _ ?_ a hS
      refine Cod.cond rfl (fun hc50 => ?_) (fun hc50 => ?_)
      · skip
        have hle : (xs.length : Int) ≤ az := by simpa using hc50
        have hxl := hal.1
        simp at hxl
        refine Cod.skip fun a hS => ?_
        refine hK17 _ _ ?_ a hS
        refine Cod.block ?_
        refine Cod.region ?_
        refine Ops.step (One.val rfl rfl rfl (yld_move rfl (ev_t rfl)) ?_)
        refine Ops.step (One.val rfl rfl rfl (yld_build (cells := [.int .i64 0, .int .i64 0, .string ⟨#[]⟩, .slice none 0 0, .slice none 0 0]) rfl (evp0) (by kernel_rfl)) ?_)
        refine Ops.step (One.buildSlice (cells := (enc5 z5)) F17 sl29 zero31 rfl rfl rfl rfl (evp1 (ev_t rfl)) rfl rfl (by kernel_rfl) ?_)
        intro b5 w18 hb5 F18
        refine Ops.step (One.append (enc := enc5) [z5] F18 1 rfl sl29 zero31 rfl rfl (fun _ => rfl) rfl rfl rfl rfl (ev_t rfl) (ev_t rfl) ((blk_rep (enc := enc5) (sz := 5) (xs := [z5]) (fun _ => rfl) (F18.get 0 rfl) (by simp) (by simp)).weak fun _ _ => trivial) (one_all rfl) (by have := hal.1; simp at this ⊢; omega) (by have := hal.1; simp at this ⊢; omega) ?_)
        intro u2 w19 hu2 F19
        change Fr _ _ [_, _, blk _ _ [_, _, _, _, _], blk _ _ [_, _, _, _, _], blk _ _ [_, _, _, _, _]] _ at F19
        refine Ops.step (One.val rfl rfl rfl (yld_assign rfl (ev_t rfl)) ?_)
        refine Ops.nil fun a hS => ?_
        obtain ⟨A3, m3, c3, hu3⟩ := own_form (F19.get 1 rfl)
        have hm3 := own_len (F19.get 1 rfl) hu3
        subst hu3
        subst hm3
        refine hK16 (k + 1, xs ++ [z5], A3, c3) _ a (hS.sub ⟨rfl, rfl, rfl, rfl, rfl, trivial⟩) ⟨hal.snocz, by omega, F19.drop1⟩ (by show S + 1 - t.list.length - (k + 1) < S + 1 - t.list.length - k; omega)
      · skip
        have hlt : az < (xs.length : Int) := by simp at hc50; omega
        have hxl := hal.1
        simp at hxl
        have hkk : k = S + 1 - t.list.length := by omega
        subst hkk
        obtain ⟨bb, cap, hv, -, -⟩ := World.ownsRow.form (F17.get 0 rfl) (by omega)
        obtain ⟨rfl, -⟩ : A = some ⟨bb, 0, none⟩ ∧ c0 = cap := by simpa using hv
        have hal2 : AL w (setL t.list S x) (xs.set az.toNat (x5 x.kind x.num x.str x3 x4)) := by
          rw [show az.toNat = S by omega]
          exact hal.set S hx
        refine Cod.exit fun a hS => ?_
        simp only [Exit.then, Exit.inBlock, ↓reduceIte]
        refine hK15 _ _ ?_ a hS
        refine Cod.seq fun K19 hK19 => ?_
        refine Cod.region ?_
        refine Ops.step (One.val rfl rfl rfl (yld_move rfl (ev_t rfl)) ?_)
        refine Ops.step (One.val rfl rfl rfl (yld_move rfl (ev_t rfl)) ?_)
        refine Ops.step (One.val rfl rfl rfl (yld_loadN ag31 rfl (ev_t rfl) (fun _ => F17.range (m := 5) (cs' := [_, _, _, _, _]) 2 rfl rfl) rfl) ?_)
        refine Ops.step (One.val rfl rfl rfl (yld_index sl29 rfl (ev_t rfl) (ev_t rfl) (fun _ => by omega)) ?_)
        refine Ops.step (One.storeRow (enc := enc5) (x5 x.kind x.num x.str x3 x4) (fun _ => rfl) F17 0 rfl rfl (by omega) sz31 rfl rfl rfl rfl (ev_t rfl) (ev_t rfl) (V5.one (x := x5 x.kind x.num x.str x3 x4) hx) ?_)
        intro w20 F20
        change Fr _ _ [_, blk _ _ [_, _, _, _, _], blk _ _ [_, _, _, _, _], blk _ _ [_, _, _, _, _]] _ at F20
        refine Ops.nil fun a hS => ?_
        refine hK19 _ _ ?_ a hS
        refine Cod.seq fun K20 hK20 => ?_
        refine Cod.region ?_
        refine Ops.step (One.val rfl rfl rfl (yld_move rfl (ev_t rfl)) ?_)
        refine Ops.step (One.call rfl rfl rfl (ent_f rfl (evl1 (ev_t rfl)) (enters en88)) (row_ct _ _ ⟨_, _, _, rfl⟩) (fun e w21 hw21 => ?_))
        obtain ⟨rfl, C21⟩ := hw21
        have F21 := F20.call C21
        refine ⟨_, rfl, ?_⟩
        refine Ops.step (One.call rfl rfl rfl (ent_f rfl (evl2 (ev_t rfl) ev_c) (enters en70)) (told_ct TT true _ _ (by rw [hTd]; exact Rep.close (RepE.nil _ _) ((hal2.chg F21.chg).repL (by rw [List.length_set]; exact F21.get 0 rfl))) hTf hTw) (fun e w22 hw22 => ?_))
        obtain ⟨x1, G1, rfl, C22, hs1, hb1⟩ := hw22
        have F22 := F21.new C22 (sep G1 _ x1.val) hs1 hb1
        refine ⟨_, rfl, ?_⟩
        refine Ops.step (One.val rfl rfl rfl (yld_extract rfl (ev_t rfl) rfl) ?_)
        refine Ops.step (One.val rfl rfl rfl (yld_extract rfl (ev_t rfl) rfl) ?_)
        refine Ops.step (One.storeN (vs := [_, _, _, _, _]) F22 2 rfl sz31 rfl rfl rfl (ev_t rfl) (ev_t rfl) rfl rfl hs1.one ?_)
        intro w23 F23
        change Fr _ _ [_, _, blk _ _ [_, _, _, _, _], blk _ _ [_, _, _, _, _], blk _ _ [_, _, _, _, _]] _ at F23
        refine Ops.step (One.val rfl rfl rfl (yld_assign rfl (ev_t rfl)) ?_)
        refine Ops.nil fun a hS => ?_
        refine hK20 _ _ ?_ a hS
        refine Cod.ret fun a hS => ?_
        try simp only [Exit.then, Exit.inBlock]
        exact retct (t := 6) (u := 7) (ty := 31) rfl hS ag31 rfl rfl (F23.range (m := 5) (cs' := [_, _, _, _, _]) 2 rfl rfl) rfl ⟨x1, G1, by rw [hyes]; rfl, F23.chg, by rw [hyes]; exact F23.get 0 rfl, fun b hb => (F23.dom _ (List.mem_of_getElem? (i := 0) rfl) b hb).resolve_left id⟩

end Go.Proofs.Ytodbflfelimppaa.Eng
