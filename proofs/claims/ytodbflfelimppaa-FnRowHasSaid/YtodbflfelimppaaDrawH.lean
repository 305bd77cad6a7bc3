/- The walk of the function that draws a row and a tree. -/
import Derived.Test.YtodbflfelimppaaDraw3
import Derived.Test.YtodbflfelimppaaLawT
namespace Go.Proofs.Ytodbflfelimppaa.Eng
open Go.RowKit
set_option linter.unusedVariables false
set_option linter.unusedSimpArgs false
set_option maxHeartbeats 1000000


structure Dw (t : Tr) : Prop where
  fit : t.Fit
  wt : t.wt ≤ 20000
def DrawH (w : World) (e : Ending) (w' : World) : Prop := ∃ (x y : V5) (t u : Tr), e = .returned (.tuple #[x.val, y.val]) ∧ Chg No w w' ∧ (rps (New w w') [(t, x.val), (u, y.val)]).is w' ∧ Dr t ∧ Dw u

set_option maxRecDepth 100000 in
theorem drawHas_ct (code : List UInt8) (v : Value) (w : World) (hp : RepE bCells 1 Any w code v) : Calls Try.prog 30 #[v] w (DrawH w) := by
  refine enter Try.func30 rfl rfl rfl ?_
  have F0 := Fr.start w
  refine Cod.seq fun K1 hK1 => ?_
  refine Cod.region ?_
  refine Ops.step (One.alloc F0 zero31 rfl rfl rfl rfl ?_)
  intro b1 w1 hb1 F1
  change Fr _ _ [blk _ _ [_, _, _, _, _]] _ at F1
  refine Ops.step (One.alloc F1 zero31 rfl rfl rfl rfl ?_)
  intro b2 w2 hb2 F2
  change Fr _ _ [blk _ _ [_, _, _, _, _], blk _ _ [_, _, _, _, _]] _ at F2
  refine Ops.nil fun a hS => ?_
  refine hK1 _ _ ?_ a hS
  refine Cod.seq fun K2 hK2 => ?_
  refine Cod.region ?_
  refine Ops.step (One.val rfl rfl rfl (yld_move rfl (ev_t rfl)) ?_)
  refine Ops.step (One.call rfl rfl rfl (ent_f rfl (evl1 (ev_t rfl)) (enters en66)) (open_ct code v _ (hp.chg F2.chg)) (fun e w3 hw3 => ?_))
  obtain ⟨bb, rfl, C3, hrd0, hbb⟩ := hw3
  obtain ⟨cv, hcv⟩ : ∃ cv, cv = cutv v := ⟨_, rfl⟩
  rw [← hcv] at hrd0
  have hcode : Code bb w cv := by rw [hcv]; exact code_of hp (by have := F2.chg.size; omega)
  have F3 := F2.new C3 (rd bb cv 0) hrd0 (fun k hk => by have h1 : k = bb := hk; subst h1; exact hbb)
  refine ⟨_, rfl, ?_⟩
  refine Ops.step (One.val rfl rfl rfl (yld_assign rfl (ev_t rfl)) ?_)
  refine Ops.nil fun a hS => ?_
  refine hK2 _ _ ?_ a hS
  refine Cod.seq fun K3 hK3 => ?_
  refine Cod.region ?_
  refine Ops.step (One.val rfl rfl rfl (yld_move rfl (ev_t rfl)) ?_)
  refine Ops.step (One.call rfl rfl rfl (ent_f rfl (evl1 (ev_t rfl)) (enters en79)) (rowDraw_ct bb cv _ _ (hcode.chg F3.chg) (F3.get 0 rfl) (by omega)) (fun e w4 hw4 => ?_))
  obtain ⟨x1, Gx1, tx1, rfl, C4, hrdx1, hsx1, hbx1, hpx1⟩ := hw4
  have F4 := F3.updNew 0 rfl C4 (fun _ hk => hk) (rd bb cv _) hrdx1 (fun _ hk => hk) (sep Gx1 tx1 x1.val) hsx1 hbx1
  change Fr _ _ (_ :: [_, _, _]) _ at F4
  obtain ⟨A3x, c3x, A4x, c4x, hx1e⟩ := rep_x hsx1.rep
  subst hx1e
  have hwx := hpx1.wt
  have hlx := hpx1.len
  refine ⟨_, rfl, ?_⟩
  refine Ops.step (One.alloc F4 zero31 rfl rfl rfl rfl ?_)
  intro b3 w5 hb3 F5
  change Fr _ _ [blk _ _ [_, _, _, _, _], _, _, blk _ _ [_, _, _, _, _], blk _ _ [_, _, _, _, _]] _ at F5
  refine Ops.step (One.storeN (vs := [_, _, _, _, _]) F5 0 rfl sz31 rfl rfl rfl (ev_t rfl) (ev_t rfl) rfl rfl hsx1.one ?_)
  intro w6 F6
  change Fr _ _ [blk _ _ [_, _, _, _, _], _, _, blk _ _ [_, _, _, _, _], blk _ _ [_, _, _, _, _]] _ at F6
  refine Ops.nil fun a hS => ?_
  refine hK3 _ _ ?_ a hS
  refine Cod.seq fun K4 hK4 => ?_
  refine Cod.seq fun K5 hK5 => ?_
  refine Cod.region ?_
  refine Ops.step (One.val rfl rfl rfl (yld_field fi31_4 rfl (ev_t rfl)) ?_)
  refine Ops.step (One.val rfl rfl rfl (yld_load1 on29 rfl (ev_t rfl) (fun _ => F6.cell 0 rfl rfl)) ?_)
  refine Ops.step (One.val rfl rfl rfl (yld_len sl29 rfl (ev_t rfl)) ?_)
  refine Ops.step (One.val rfl rfl rfl (yld_gtr rfl (ev_t rfl) ev_c) ?_)
  refine Ops.step (One.val rfl rfl rfl (yld_move rfl (ev_t rfl)) ?_)
  refine Ops.step (One.val (gd_some rfl rfl) rfl rfl (yld_move rfl (ev_t rfl)) ?_)
  refine Ops.gsplit (gd_some rfl rfl) ?_ ?_
  · intro hgt
    skip
    refine Ops.step (One.gsure (gd_some rfl rfl) hgt rfl rfl (ent_f rfl (evl2 (ev_g rfl) ev_c) (enters en80)) (pick_ct 2 bb cv _ _ (hcode.chg F6.chg) (F6.get 2 rfl) (by omega) (by omega)) (fun e w7 hw7 => ?_))
    obtain ⟨r3, rfl, C7, hrdr3, hr3⟩ := hw7
    have F7 := F6.upd 2 rfl C7 (fun _ hk => .inl hk) (rd bb cv _) hrdr3 (fun _ hk => .inl hk)
    change Fr _ _ [_, _, _, _, _] _ at F7
    refine ⟨_, rfl, ?_⟩
    refine Ops.step (One.val (gd_some rfl rfl) rfl rfl (yld_eql rfl (ev_g rfl) ev_c) ?_)
    refine Ops.step (One.val rfl rfl rfl (yld_and rfl (ev_t rfl) (ev_g rfl)) ?_)
    refine Ops.nil fun a hS => ?_
    refine hK5 _ _ ?_ a hS
    refine Cod.cond rfl (fun hc18 => ?_) (fun hc18 => ?_)
    · skip
      have hp0 : 0 < tx1.list.length := by simp [gof] at hgt; omega
      refine Cod.seq fun K6 hK6 => ?_
      have F8 := F7.drew
      refine Cod.draw (C_of (((F8.erase 4).erase 3).erase 2)) (by kernel_rfl) ?_
      refine Hops.take 0 rfl (by kernel_rfl) (fun _ _ _ h => h) rfl rfl rfl (((F8.erase 4).erase 3).erase 2) (fun w F => (yld_loadN ag31 rfl (ev_t rfl) (fun _ => F.range (m := 5) (cs' := [_, _, _, _, _]) 0 rfl rfl) rfl)) ?_
      refine Hops.take 1 rfl (by kernel_rfl) (fun _ _ _ h => h) rfl rfl rfl (((F8.erase 4).erase 3).erase 2) (fun w F => (yld_field fi31_4 rfl (ev_t rfl))) ?_
      refine Hops.take 2 rfl (by kernel_rfl) (fun _ _ _ h => h) rfl rfl rfl (((F8.erase 4).erase 3).erase 2) (fun w F => (yld_load1 on29 rfl (ev_t rfl) (fun _ => F.cell 0 rfl rfl))) ?_
      refine Hops.take 3 rfl (by kernel_rfl) (fun _ _ _ h => h) rfl rfl rfl (((F8.erase 4).erase 3).erase 2) (fun w F => (yld_move rfl (ev_t rfl))) ?_
      refine Hops.take 4 rfl (by kernel_rfl) (fun _ _ _ h => h) rfl rfl rfl (((F8.erase 4).erase 3).erase 2) (fun w F => (yld_field fi31_4 rfl (ev_t rfl))) ?_
      refine Hops.take 5 rfl (by kernel_rfl) (fun _ _ _ h => h) rfl rfl rfl (((F8.erase 4).erase 3).erase 2) (fun w F => (yld_load1 on29 rfl (ev_t rfl) (fun _ => F.cell 0 rfl rfl))) ?_
      refine Hops.take 6 rfl (by kernel_rfl) (fun _ _ _ h => h) rfl rfl rfl (((F8.erase 4).erase 3).erase 2) (fun w F => (yld_len sl29 rfl (ev_t rfl))) ?_
      refine Hops.one 7 rfl (by kernel_rfl) (One.call rfl rfl rfl (ent_f rfl (evl2 (ev_t rfl) (ev_t rfl)) (enters en80)) (pick_ct tx1.list.length bb cv _ _ (hcode.chg F8.chg) (F8.get 2 rfl) (by omega) (by omega)) (fun e w8 hw8 => ?_))
      obtain ⟨r4, rfl, C8, hrdr4, hr4⟩ := hw8
      have F9 := F8.upd 2 rfl C8 (fun _ hk => .inl hk) (rd bb cv _) hrdr4 (fun _ hk => .inl hk)
      change Fr _ _ [_, _, _, _, _] _ at F9
      obtain ⟨y1, p1, z1, hy1, -, hr1, ht1⟩ := at5 (rep_l (F9.get 1 rfl).rep) r4 hr4
      refine ⟨_, rfl, ?_⟩
      refine ⟨(((F9.erase 4).erase 3).erase 2), ?_⟩
      refine Hops.take 8 rfl (by kernel_rfl) (fun _ _ _ h => h) rfl rfl rfl (((F9.erase 4).erase 3).erase 2) (fun w F => (yld_indexG (b := y1) (q := p1) (i := r4) sl29 rfl (ev_t rfl) (ev_t rfl) (fun _ => hy1) (fun _ => hr4))) ?_
      refine Hops.one 9 rfl (by kernel_rfl) (One.val rfl rfl rfl (yld_loadN (cs := [z1.a, z1.b, z1.c, z1.d, z1.e]) ag31 rfl (ev_t rfl) (fun _ => hr1) rfl) ?_)
      refine ⟨(((F9.erase 4).erase 3).erase 2), ?_⟩
      refine Hops.one 10 rfl (by kernel_rfl) (One.call rfl rfl rfl (ent_f rfl (evl1 (ev_t rfl)) (enters en73)) (l1Copy_ct (tx1.list[r4]'hr4) _ _ ht1 (by have h1 := sumN_mem Tr.wt (List.getElem_mem hr4); have h2 := tx1.wt_list; omega)) (fun e w9 hw9 => ?_))
      obtain ⟨x2, G2, rfl, C9, hs2, hb2⟩ := hw9
      have F10 := F9.new C9 (sep G2 _ x2.val) hs2 hb2
      refine ⟨_, rfl, ?_⟩
      refine ⟨(((F10.erase 5).erase 4).erase 3).drop1, ?_⟩
      refine Hops.one 11 rfl (by kernel_rfl) (One.storeN (vs := [_, _, _, _, _]) F10 5 rfl sz31 rfl rfl rfl (ev_t rfl) (ev_t rfl) rfl rfl (Sep.one (x := x5 tx1.kind tx1.num tx1.str (.slice A3x tx1.keys.length c3x) (.slice A4x tx1.list.length c4x)) (F10.get 2 rfl)) ?_)
      intro w10 F11
      refine ⟨(((F11.erase 5).erase 4).erase 3).drop1, ?_⟩
      change Fr _ _ [_, blk _ _ [_, _, _, _, _], _, _, blk _ _ [_, _, _, _, _], blk _ _ [_, _, _, _, _]] _ at F11
      refine Hops.one 12 rfl (by kernel_rfl) (One.storeN (vs := [_, _, _, _, _]) F11 4 rfl sz31 rfl rfl rfl (ev_t rfl) (ev_t rfl) rfl rfl hs2.one ?_)
      intro w11 F12
      refine ⟨(((F12.erase 5).erase 4).erase 3).drop1, ?_⟩
      change Fr _ _ [_, blk _ _ [_, _, _, _, _], _, _, blk _ _ [_, _, _, _, _], blk _ _ [_, _, _, _, _]] _ at F12
      refine Hops.nil (by kernel_rfl) fun a hS => ?_
      refine hK6 _ _ ?_ a hS
      refine Cod.ret fun a hS => ?_
      try simp only [Exit.then, Exit.inBlock]
      exact retcc (t := 2) (u := 3) (ty := 31) (ty' := 31) rfl hS ag31 ag31 rfl rfl (F12.range (m := 5) (cs' := [_, _, _, _, _]) 5 rfl rfl) (F12.range (m := 5) (cs' := [_, _, _, _, _]) 4 rfl rfl) rfl rfl ⟨_, x2, tx1, (tx1.list[r4]'hr4), rfl, F12.chg, rps_two (rps1 (X := No) F12 2 rfl) (rps1 (X := No) F12 0 rfl), hpx1, ⟨hpx1.fit.list _ (List.getElem_mem hr4), by have h1 := sumN_mem Tr.wt (List.getElem_mem hr4); have h2 := tx1.wt_list; omega⟩⟩
    · skip
      skip
      refine Cod.skip fun a hS => ?_
      refine hK4 _ _ ?_ a hS
      refine Cod.seq fun K7 hK7 => ?_
      have F13 := F7.drew
      refine Cod.draw (C_of (((F13.erase 4).erase 3).erase 2)) (by kernel_rfl) ?_
      refine Hops.take 0 rfl (by kernel_rfl) (fun _ _ _ h => h) rfl rfl rfl (((F13.erase 4).erase 3).erase 2) (fun w F => (yld_loadN ag31 rfl (ev_t rfl) (fun _ => F.range (m := 5) (cs' := [_, _, _, _, _]) 0 rfl rfl) rfl)) ?_
      refine Hops.take 1 rfl (by kernel_rfl) (fun _ _ _ h => h) rfl rfl rfl (((F13.erase 4).erase 3).erase 2) (fun w F => (yld_move rfl (ev_t rfl))) ?_
      refine Hops.one 2 rfl (by kernel_rfl) (One.call rfl rfl rfl (ent_f rfl (evl1 (ev_t rfl)) (enters en67)) (bent_ct bb cv _ _ (hcode.chg F13.chg) (F13.get 2 rfl) (by omega)) (fun e w12 hw12 => ?_))
      obtain ⟨x2, Gx2, tx2, rfl, C12, hrdx2, hsx2, hbx2, hpx2⟩ := hw12
      have F14 := F13.updNew 2 rfl C12 (fun _ hk => hk) (rd bb cv _) hrdx2 (fun _ hk => hk) (sep Gx2 tx2 x2.val) hsx2 hbx2
      change Fr _ _ (_ :: [_, _, _, _, _]) _ at F14
      refine ⟨_, rfl, ?_⟩
      refine ⟨(((F14.erase 5).erase 4).erase 3).drop1, ?_⟩
      refine Hops.one 3 rfl (by kernel_rfl) (One.storeN (vs := [_, _, _, _, _]) F14 5 rfl sz31 rfl rfl rfl (ev_t rfl) (ev_t rfl) rfl rfl (Sep.one (x := x5 tx1.kind tx1.num tx1.str (.slice A3x tx1.keys.length c3x) (.slice A4x tx1.list.length c4x)) (F14.get 2 rfl)) ?_)
      intro w13 F15
      refine ⟨(((F15.erase 5).erase 4).erase 3).drop1, ?_⟩
      change Fr _ _ [_, blk _ _ [_, _, _, _, _], _, _, blk _ _ [_, _, _, _, _], blk _ _ [_, _, _, _, _]] _ at F15
      refine Hops.one 4 rfl (by kernel_rfl) (One.storeN (vs := [_, _, _, _, _]) F15 4 rfl sz31 rfl rfl rfl (ev_t rfl) (ev_t rfl) rfl rfl hsx2.one ?_)
      intro w14 F16
      refine ⟨(((F16.erase 5).erase 4).erase 3).drop1, ?_⟩
      change Fr _ _ [_, blk _ _ [_, _, _, _, _], _, _, blk _ _ [_, _, _, _, _], blk _ _ [_, _, _, _, _]] _ at F16
      refine Hops.nil (by kernel_rfl) fun a hS => ?_
      refine hK7 _ _ ?_ a hS
      refine Cod.ret fun a hS => ?_
      try simp only [Exit.then, Exit.inBlock]
      exact retcc (t := 2) (u := 3) (ty := 31) (ty' := 31) rfl hS ag31 ag31 rfl rfl (F16.range (m := 5) (cs' := [_, _, _, _, _]) 5 rfl rfl) (F16.range (m := 5) (cs' := [_, _, _, _, _]) 4 rfl rfl) rfl rfl ⟨_, x2, tx1, tx2, rfl, F16.chg, rps_two (rps1 (X := No) F16 2 rfl) (rps1 (X := No) F16 0 rfl), hpx1, ⟨hpx2.dr.fit, hpx2.dr.wt⟩⟩
  · intro hgf
    skip
    refine Ops.step (One.gskip (v := .int .i64 0) (gd_some rfl rfl) hgf rfl rfl ?_)
    refine Ops.step (One.val (gd_some rfl rfl) rfl rfl (yld_eql rfl (ev_g rfl) ev_c) ?_)
    refine Ops.step (One.val rfl rfl rfl (yld_and rfl (ev_t rfl) (ev_g rfl)) ?_)
    refine Ops.nil fun a hS => ?_
    refine hK5 _ _ ?_ a hS
    refine Cod.cond rfl (fun hc18 => ?_) (fun hc18 => ?_)
    · skip
      (simp [gof] at hgf; simp [hgf] at hc18)
    · skip
      skip
      refine Cod.skip fun a hS => ?_
      refine hK4 _ _ ?_ a hS
      refine Cod.seq fun K8 hK8 => ?_
      have F18 := F6.drew
      refine Cod.draw (C_of (((F18.erase 4).erase 3).erase 2)) (by kernel_rfl) ?_
      refine Hops.take 0 rfl (by kernel_rfl) (fun _ _ _ h => h) rfl rfl rfl (((F18.erase 4).erase 3).erase 2) (fun w F => (yld_loadN ag31 rfl (ev_t rfl) (fun _ => F.range (m := 5) (cs' := [_, _, _, _, _]) 0 rfl rfl) rfl)) ?_
      refine Hops.take 1 rfl (by kernel_rfl) (fun _ _ _ h => h) rfl rfl rfl (((F18.erase 4).erase 3).erase 2) (fun w F => (yld_move rfl (ev_t rfl))) ?_
      refine Hops.one 2 rfl (by kernel_rfl) (One.call rfl rfl rfl (ent_f rfl (evl1 (ev_t rfl)) (enters en67)) (bent_ct bb cv _ _ (hcode.chg F18.chg) (F18.get 2 rfl) (by omega)) (fun e w16 hw16 => ?_))
      obtain ⟨x2, Gx2, tx2, rfl, C16, hrdx2, hsx2, hbx2, hpx2⟩ := hw16
      have F19 := F18.updNew 2 rfl C16 (fun _ hk => hk) (rd bb cv _) hrdx2 (fun _ hk => hk) (sep Gx2 tx2 x2.val) hsx2 hbx2
      change Fr _ _ (_ :: [_, _, _, _, _]) _ at F19
      refine ⟨_, rfl, ?_⟩
      refine ⟨(((F19.erase 5).erase 4).erase 3).drop1, ?_⟩
      refine Hops.one 3 rfl (by kernel_rfl) (One.storeN (vs := [_, _, _, _, _]) F19 5 rfl sz31 rfl rfl rfl (ev_t rfl) (ev_t rfl) rfl rfl (Sep.one (x := x5 tx1.kind tx1.num tx1.str (.slice A3x tx1.keys.length c3x) (.slice A4x tx1.list.length c4x)) (F19.get 2 rfl)) ?_)
      intro w17 F20
      refine ⟨(((F20.erase 5).erase 4).erase 3).drop1, ?_⟩
      change Fr _ _ [_, blk _ _ [_, _, _, _, _], _, _, blk _ _ [_, _, _, _, _], blk _ _ [_, _, _, _, _]] _ at F20
      refine Hops.one 4 rfl (by kernel_rfl) (One.storeN (vs := [_, _, _, _, _]) F20 4 rfl sz31 rfl rfl rfl (ev_t rfl) (ev_t rfl) rfl rfl hsx2.one ?_)
      intro w18 F21
      refine ⟨(((F21.erase 5).erase 4).erase 3).drop1, ?_⟩
      change Fr _ _ [_, blk _ _ [_, _, _, _, _], _, _, blk _ _ [_, _, _, _, _], blk _ _ [_, _, _, _, _]] _ at F21
      refine Hops.nil (by kernel_rfl) fun a hS => ?_
      refine hK8 _ _ ?_ a hS
      refine Cod.ret fun a hS => ?_
      try simp only [Exit.then, Exit.inBlock]
      exact retcc (t := 2) (u := 3) (ty := 31) (ty' := 31) rfl hS ag31 ag31 rfl rfl (F21.range (m := 5) (cs' := [_, _, _, _, _]) 5 rfl rfl) (F21.range (m := 5) (cs' := [_, _, _, _, _]) 4 rfl rfl) rfl rfl ⟨_, x2, tx1, tx2, rfl, F21.chg, rps_two (rps1 (X := No) F21 2 rfl) (rps1 (X := No) F21 0 rfl), hpx1, ⟨hpx2.dr.fit, hpx2.dr.wt⟩⟩

end Go.Proofs.Ytodbflfelimppaa.Eng
