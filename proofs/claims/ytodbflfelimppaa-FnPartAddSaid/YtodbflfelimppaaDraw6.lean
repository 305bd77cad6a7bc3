/- The walk of the function that draws two trees to be added. -/
import Derived.Test.YtodbflfelimppaaDraw4
namespace Go.Proofs.Ytodbflfelimppaa.Eng
open Go.RowKit
set_option linter.unusedVariables false
set_option linter.unusedSimpArgs false
set_option maxHeartbeats 1000000

set_option maxRecDepth 100000 in
theorem drawAdd_ct (code : List UInt8) (v : Value) (w : World) (hp : RepE bCells 1 Any w code v) : Calls Try.prog 39 #[v] w (Draw2 w) := by
  refine enter Try.func39 rfl rfl rfl ?_
  have F0 := Fr.start w
  refine Cod.seq fun K1 hK1 => ?_
  refine Cod.region ?_
  refine Ops.step (One.alloc F0 zero31 rfl rfl rfl rfl ?_)
  intro b1 w1 hb1 F1
  change Fr _ _ [blk _ _ [_, _, _, _, _]] _ at F1
  refine Ops.step (One.alloc F1 zero31 rfl rfl rfl rfl ?_)
  intro b2 w2 hb2 F2
  change Fr _ _ [blk _ _ [_, _, _, _, _], blk _ _ [_, _, _, _, _]] _ at F2
  refine Ops.nil fun a hS => ?_
  refine hK1 _ _ ?_ a hS
  refine Cod.seq fun K2 hK2 => ?_
  refine Cod.region ?_
  refine Ops.step (One.val rfl rfl rfl (yld_move rfl (ev_t rfl)) ?_)
  refine Ops.step (One.call rfl rfl rfl (ent_f rfl (evl1 (ev_t rfl)) (enters en66)) (open_ct code v _ (hp.chg F2.chg)) (fun e w3 hw3 => ?_))
  obtain ⟨bb, rfl, C3, hrd0, hbb⟩ := hw3
  obtain ⟨cv, hcv⟩ : ∃ cv, cv = cutv v := ⟨_, rfl⟩
  rw [← hcv] at hrd0
  have hcode : Code bb w cv := by rw [hcv]; exact code_of hp (by have := F2.chg.size; omega)
  have F3 := F2.new C3 (rd bb cv 0) hrd0 (fun k hk => by have h1 : k = bb := hk; subst h1; exact hbb)
  refine ⟨_, rfl, ?_⟩
  refine Ops.step (One.val rfl rfl rfl (yld_assign rfl (ev_t rfl)) ?_)
  refine Ops.nil fun a hS => ?_
  refine hK2 _ _ ?_ a hS
  refine Cod.seq fun K3 hK3 => ?_
  refine Cod.region ?_
  refine Ops.step (One.val rfl rfl rfl (yld_move rfl (ev_t rfl)) ?_)
  refine Ops.step (One.call rfl rfl rfl (ent_f rfl (evl1 (ev_t rfl)) (enters en67)) (bent_ct bb cv _ _ (hcode.chg F3.chg) (F3.get 0 rfl) (by omega)) (fun e w4 hw4 => ?_))
  obtain ⟨x1, Gx1, tx1, rfl, C4, hrdx1, hsx1, hbx1, hpx1⟩ := hw4
  have F4 := F3.updNew 0 rfl C4 (fun _ hk => hk) (rd bb cv _) hrdx1 (fun _ hk => hk) (sep Gx1 tx1 x1.val) hsx1 hbx1
  change Fr _ _ (_ :: [_, _, _]) _ at F4
  refine ⟨_, rfl, ?_⟩
  refine Ops.step (One.alloc F4 zero31 rfl rfl rfl rfl ?_)
  intro b3 w5 hb3 F5
  change Fr _ _ [blk _ _ [_, _, _, _, _], _, _, blk _ _ [_, _, _, _, _], blk _ _ [_, _, _, _, _]] _ at F5
  refine Ops.step (One.storeN (vs := [_, _, _, _, _]) F5 0 rfl sz31 rfl rfl rfl (ev_t rfl) (ev_t rfl) rfl rfl hsx1.one ?_)
  intro w6 F6
  change Fr _ _ [blk _ _ [_, _, _, _, _], _, _, blk _ _ [_, _, _, _, _], blk _ _ [_, _, _, _, _]] _ at F6
  refine Ops.nil fun a hS => ?_
  refine hK3 _ _ ?_ a hS
  refine Cod.seq fun K4 hK4 => ?_
  obtain ⟨tk1, tn1, ts1, tks1, tl1, rfl⟩ := Tr.eta tx1
  obtain ⟨v31, v41, rfl, -⟩ := Sep.leafs hsx1
  refine Cod.region ?_
  refine Ops.step (One.val rfl rfl rfl (yld_move rfl (ev_t rfl)) ?_)
  refine Ops.step (One.call rfl rfl rfl (ent_f rfl (evl1 (ev_t rfl)) (enters en67)) (bent_ct bb cv _ _ (hcode.chg F6.chg) (F6.get 2 rfl) (by omega)) (fun e w7 hw7 => ?_))
  obtain ⟨y1, Gy1, ty1, rfl, C7, hrdy1, hsy1, hby1, hpy1⟩ := hw7
  have F7 := F6.updNew 2 rfl C7 (fun _ hk => hk) (rd bb cv _) hrdy1 (fun _ hk => hk) (sep Gy1 ty1 y1.val) hsy1 hby1
  change Fr _ _ (_ :: [_, _, _, _, _]) _ at F7
  refine ⟨_, rfl, ?_⟩
  refine Ops.step (One.alloc F7 zero31 rfl rfl rfl rfl ?_)
  intro b4 w8 hb4 F8
  change Fr _ _ [blk _ _ [_, _, _, _, _], _, blk _ _ [_, _, _, _, _], _, _, blk _ _ [_, _, _, _, _], blk _ _ [_, _, _, _, _]] _ at F8
  refine Ops.step (One.storeN (vs := [_, _, _, _, _]) F8 0 rfl sz31 rfl rfl rfl (ev_t rfl) (ev_t rfl) rfl rfl hsy1.one ?_)
  intro w9 F9
  change Fr _ _ [blk _ _ [_, _, _, _, _], _, blk _ _ [_, _, _, _, _], _, _, blk _ _ [_, _, _, _, _], blk _ _ [_, _, _, _, _]] _ at F9
  refine Ops.nil fun a hS => ?_
  refine hK4 _ _ ?_ a hS
  refine Cod.seq fun K5 hK5 => ?_
  refine Cod.seq fun K6 hK6 => ?_
  refine Cod.region ?_
  refine Ops.step (One.val rfl rfl rfl (yld_assign rfl ev_c) ?_)
  refine Ops.nil fun a hS => ?_
  refine hK6 _ _ ?_ a hS
  refine Cod.block ?_
  have F10 := F9.pull 6 rfl
  have F11 := F10.pull 6 rfl
  have F12 := F11.pull 5 rfl
  have F13 := F12.pull 5 rfl
  have F14 := F13.pull 6 rfl
  have F15 := F14.pull 6 rfl
  have F16 := F15.pull 6 rfl
  refine Cod.loop (fun i : Nat × V5 × Tr × (Nat → Prop) => [(2, true, .pointer (some ⟨b1, 0, none⟩)), (3, true, .pointer (some ⟨b2, 0, none⟩)), (4, true, .pointer (some ⟨bb, 0, none⟩)), (5, true, .pointer (some ⟨b3, 0, none⟩)), (6, true, .pointer (some ⟨b4, 0, none⟩)), (7, true, .int .i64 (i.1 : Int))]) (fun i w' => Dr i.2.2.1 ∧ i.1 ≤ 3 ∧ Fr No w [blk b4 31 (enc5 i.2.1), sep i.2.2.2 i.2.2.1 i.2.1.val, rd bb cv (4000 + i.1 * 2000), blk b3 31 (enc5 (x5 tk1 tn1 ts1 v31 v41)), sep Gx1 (Tr.mk tk1 tn1 ts1 tks1 tl1) (x5 tk1 tn1 ts1 v31 v41).val, blk b2 31 [.int .i64 0, .int .i64 0, .string ⟨#[]⟩, .slice none 0 0, .slice none 0 0], blk b1 31 [.int .i64 0, .int .i64 0, .string ⟨#[]⟩, .slice none 0 0, .slice none 0 0]] w') (fun i => 3 - i.1) (0, y1, ty1, Gy1) ⟨rfl, rfl, rfl, rfl, rfl, rfl, trivial⟩ ⟨hpy1.dr, Nat.zero_le _, F16.rdUp 2 rfl (4000 + 0 * 2000) (by omega)⟩ ?_
  intro i w10 hW K7 hK7
  obtain ⟨ix, x, t, G⟩ := i
  obtain ⟨hdr, hix, F17⟩ := hW
  dsimp only at *
  obtain ⟨tk, tn, ts, tks, tl, rfl⟩ := Tr.eta t
  obtain ⟨v3, v4, rfl, -⟩ := Sep.leafs (F17.get 1 rfl)
  refine Cod.seq fun K8 hK8 => ?_
  refine Cod.seq fun K9 hK9 => ?_
  refine Cod.region ?_
  refine Ops.step (One.val rfl rfl rfl (yld_move rfl (ev_t rfl)) ?_)
  refine Ops.step (One.val rfl rfl rfl (yld_lss rfl (ev_t rfl) ev_c) ?_)
  refine Ops.step (One.val rfl rfl rfl (yld_move rfl (ev_t rfl)) ?_)
  refine Ops.step (One.val (gd_some rfl rfl) rfl rfl (yld_field fi31_0 rfl (ev_t rfl)) ?_)
  refine Ops.step (One.val (gd_some rfl rfl) rfl rfl (yld_load1 on3 rfl (ev_g rfl) (fun _ => F17.cell 3 rfl rfl)) ?_)
  refine Ops.step (One.val (gd_some rfl rfl) rfl rfl (yld_field fi31_0 rfl (ev_t rfl)) ?_)
  refine Ops.step (One.val (gd_some rfl rfl) rfl rfl (yld_load1 on3 rfl (ev_g rfl) (fun _ => F17.cell 0 rfl rfl)) ?_)
  refine Ops.step (One.val (gd_some rfl rfl) rfl rfl (yld_neq rfl (ev_g rfl) (ev_g rfl)) ?_)
  refine Ops.step (One.val rfl rfl rfl (yld_and rfl (ev_t rfl) (ev_g rfl)) ?_)
  refine Ops.nil fun a hS => ?_
  refine hK9 _ _ ?_ a hS
  refine Cod.cond rfl (fun hc22 => ?_) (fun hc22 => ?_)
  · skip
    have hlt : ix < 3 := by
      have h := hc22
      simp at h
      omega
    refine Cod.skip fun a hS => ?_
    refine hK8 _ _ ?_ a hS
    refine Cod.seq fun K10 hK10 => ?_
    refine Cod.block ?_
    refine Cod.region ?_
    refine Ops.step (One.val rfl rfl rfl (yld_move rfl (ev_t rfl)) ?_)
    refine Ops.step (One.call rfl rfl rfl (ent_f rfl (evl1 (ev_t rfl)) (enters en99)) (some_ct bb cv _ _ (hcode.chg F17.chg) (F17.get 2 rfl) (by omega)) (fun e w11 hw11 => ?_))
    obtain ⟨x2, Gx2, tx2, rfl, C11, hrdx2, hsx2, hbx2, hpx2⟩ := hw11
    have F18 := F17.updNew 2 rfl C11 (fun _ hk => hk) (rd bb cv _) hrdx2 (fun _ hk => hk) (sep Gx2 tx2 x2.val) hsx2 hbx2
    change Fr _ _ (_ :: [_, _, _, _, _, _, _]) _ at F18
    refine ⟨_, rfl, ?_⟩
    refine Ops.step (One.storeN (vs := [_, _, _, _, _]) F18 1 rfl sz31 rfl rfl rfl (ev_t rfl) (ev_t rfl) rfl rfl hsx2.one ?_)
    intro w12 F19
    change Fr _ _ [_, blk _ _ [_, _, _, _, _], _, _, blk _ _ [_, _, _, _, _], _, blk _ _ [_, _, _, _, _], blk _ _ [_, _, _, _, _]] _ at F19
    refine Ops.nil fun a hS => ?_
    refine hK10 _ _ ?_ a hS
    refine Cod.region ?_
    refine Ops.step (One.val rfl rfl rfl (yld_move rfl (ev_t rfl)) ?_)
    refine Ops.step (One.val rfl rfl rfl (yld_inc rfl (ev_t rfl) (fun _ => by omega)) ?_)
    refine Ops.step (One.val rfl rfl rfl (yld_assign rfl (ev_t rfl)) ?_)
    refine Ops.nil fun a hS => ?_
    have F20 := F19.pull 7 rfl
    have F21 := F20.pull 7 rfl
    have F22 := F21.pull 7 rfl
    have F23 := F22.pull 7 rfl
    have F24 := F23.pull 7 rfl
    have F25 := F24.pull 5 rfl
    have F26 := F25.pull 6 rfl
    have F27 := F26.erase 7
    exact hK7 (ix + 1, x2, tx2, Gx2) _ a (hS.sub ⟨rfl, rfl, rfl, rfl, rfl, rfl, trivial⟩) ⟨hpx2.dr, by show ix + 1 ≤ _; omega, F27.rdUp 2 rfl (4000 + (ix + 1) * 2000) (by omega)⟩ (by show 3 - (ix + 1) < 3 - ix; omega)
  · skip
    skip
    refine Cod.exit fun a hS => ?_
    simp only [Exit.then, Exit.inBlock, ↓reduceIte]
    refine hK5 _ _ ?_ a hS
    refine Cod.seq fun K11 hK11 => ?_
    have F28 := F17.drew
    refine Cod.draw (C_of ((F28.erase 6).erase 5)) (by kernel_rfl) ?_
    refine Hops.take 0 rfl (by kernel_rfl) (fun _ _ _ h => h) rfl rfl rfl ((F28.erase 6).erase 5) (fun w F => (yld_loadN ag31 rfl (ev_t rfl) (fun _ => F.range (m := 5) (cs' := [_, _, _, _, _]) 3 rfl rfl) rfl)) ?_
    refine Hops.take 1 rfl (by kernel_rfl) (fun _ _ _ h => h) rfl rfl rfl ((F28.erase 6).erase 5) (fun w F => (yld_loadN ag31 rfl (ev_t rfl) (fun _ => F.range (m := 5) (cs' := [_, _, _, _, _]) 0 rfl rfl) rfl)) ?_
    refine Hops.one 2 rfl (by kernel_rfl) (One.storeN (vs := [_, _, _, _, _]) F28 6 rfl sz31 rfl rfl rfl (ev_t rfl) (ev_t rfl) rfl rfl (Sep.one (x := x5 tk1 tn1 ts1 v31 v41) (F28.get 4 rfl)) ?_)
    intro w13 F29
    refine ⟨((F29.erase 6).erase 5), ?_⟩
    change Fr _ _ [blk _ _ [_, _, _, _, _], _, _, blk _ _ [_, _, _, _, _], _, blk _ _ [_, _, _, _, _], blk _ _ [_, _, _, _, _]] _ at F29
    refine Hops.one 3 rfl (by kernel_rfl) (One.storeN (vs := [_, _, _, _, _]) F29 5 rfl sz31 rfl rfl rfl (ev_t rfl) (ev_t rfl) rfl rfl (Sep.one (x := x5 tk tn ts v3 v4) (F29.get 1 rfl)) ?_)
    intro w14 F30
    refine ⟨((F30.erase 6).erase 5), ?_⟩
    change Fr _ _ [blk _ _ [_, _, _, _, _], _, _, blk _ _ [_, _, _, _, _], _, blk _ _ [_, _, _, _, _], blk _ _ [_, _, _, _, _]] _ at F30
    refine Hops.nil (by kernel_rfl) fun a hS => ?_
    refine hK11 _ _ ?_ a hS
    refine Cod.ret fun a hS => ?_
    try simp only [Exit.then, Exit.inBlock]
    exact retcc (t := 2) (u := 3) (ty := 31) (ty' := 31) rfl hS ag31 ag31 rfl rfl (F30.range (m := 5) (cs' := [_, _, _, _, _]) 6 rfl rfl) (F30.range (m := 5) (cs' := [_, _, _, _, _]) 5 rfl rfl) rfl rfl ⟨(x5 tk1 tn1 ts1 v31 v41), (x5 tk tn ts v3 v4), (Tr.mk tk1 tn1 ts1 tks1 tl1), (Tr.mk tk tn ts tks tl), rfl, F30.chg, rps_two (rps1 (X := No) F30 4 rfl) (rps1 (X := No) F30 1 rfl), hpx1.dr, hdr⟩

end Go.Proofs.Ytodbflfelimppaa.Eng
