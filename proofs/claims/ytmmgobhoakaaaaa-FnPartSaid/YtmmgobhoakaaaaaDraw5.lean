/- Walks of the functions that draw trees by keys, rows, or two trees. -/
import Derived.Test.YtmmgobhoakaaaaaDraw4
namespace Go.Proofs.Ytmmgobhoakaaaaa.Eng
open Go.RowKit
set_option linter.unusedVariables false
set_option linter.unusedSimpArgs false
set_option maxHeartbeats 1000000

set_option maxRecDepth 100000 in
theorem drawPairs_ct (code : List UInt8) (v : Value) (w : World) (hp : RepE bCells 1 Any w code v) : Calls Try.prog 28 #[v] w (Draw1 w) := by
  refine enter Try.func28 rfl rfl rfl ?_
  have F0 := Fr.start w
  refine Cod.seq fun K1 hK1 => ?_
  refine Cod.region ?_
  refine Ops.step (One.alloc F0 zero26 rfl rfl rfl rfl ?_)
  intro b1 w1 hb1 F1
  change Fr _ _ [blk _ _ [_, _, _, _, _]] _ at F1
  refine Ops.nil fun a hS => ?_
  refine hK1 _ _ ?_ a hS
  refine Cod.seq fun K2 hK2 => ?_
  refine Cod.region ?_
  refine Ops.step (One.val rfl rfl rfl (yld_move rfl (ev_t rfl)) ?_)
  refine Ops.step (One.call rfl rfl rfl (ent_f rfl (evl1 (ev_t rfl)) (enters en61)) (open_ct code v _ (hp.chg F1.chg)) (fun e w2 hw2 => ?_))
  obtain ⟨bb, rfl, C2, hrd0, hbb⟩ := hw2
  obtain ⟨cv, hcv⟩ : ∃ cv, cv = cutv v := ⟨_, rfl⟩
  rw [← hcv] at hrd0
  have hcode : Code bb w cv := by rw [hcv]; exact code_of hp (by have := F1.chg.size; omega)
  have F2 := F1.new C2 (rd bb cv 0) hrd0 (fun k hk => by have h1 : k = bb := hk; subst h1; exact hbb)
  refine ⟨_, rfl, ?_⟩
  refine Ops.step (One.val rfl rfl rfl (yld_assign rfl (ev_t rfl)) ?_)
  refine Ops.nil fun a hS => ?_
  refine hK2 _ _ ?_ a hS
  refine Cod.seq fun K3 hK3 => ?_
  refine Cod.region ?_
  refine Ops.step (One.val rfl rfl rfl (yld_move rfl (ev_t rfl)) ?_)
  refine Ops.step (One.call rfl rfl rfl (ent_f rfl (evl1 (ev_t rfl)) (enters en65)) (bent_ct bb cv _ _ (hcode.chg F2.chg) (F2.get 0 rfl) (by omega)) (fun e w3 hw3 => ?_))
  obtain ⟨x1, Gx1, tx1, rfl, C3, hrdx1, hsx1, hbx1, hpx1⟩ := hw3
  have F3 := F2.updNew 0 rfl C3 (fun _ hk => hk) (rd bb cv _) hrdx1 (fun _ hk => hk) (sep Gx1 tx1 x1.val) hsx1 hbx1
  change Fr _ _ (_ :: [_, _]) _ at F3
  refine ⟨_, rfl, ?_⟩
  refine Ops.step (One.alloc F3 zero26 rfl rfl rfl rfl ?_)
  intro b2 w4 hb2 F4
  change Fr _ _ [blk _ _ [_, _, _, _, _], _, _, blk _ _ [_, _, _, _, _]] _ at F4
  refine Ops.step (One.storeN (vs := [_, _, _, _, _]) F4 0 rfl sz26 rfl rfl rfl (ev_t rfl) (ev_t rfl) rfl rfl hsx1.one ?_)
  intro w5 F5
  change Fr _ _ [blk _ _ [_, _, _, _, _], _, _, blk _ _ [_, _, _, _, _]] _ at F5
  refine Ops.nil fun a hS => ?_
  refine hK3 _ _ ?_ a hS
  refine Cod.seq fun K4 hK4 => ?_
  refine Cod.seq fun K5 hK5 => ?_
  refine Cod.region ?_
  refine Ops.step (One.val rfl rfl rfl (yld_assign rfl ev_c) ?_)
  refine Ops.nil fun a hS => ?_
  refine hK5 _ _ ?_ a hS
  refine Cod.block ?_
  have F6 := F5.pull 3 rfl
  have F7 := F6.pull 3 rfl
  have F8 := F7.pull 3 rfl
  have F9 := F8.pull 3 rfl
  refine Cod.loop (fun i : Nat × V5 × Tr × (Nat → Prop) => [(2, true, .pointer (some ⟨b1, 0, none⟩)), (3, true, .pointer (some ⟨bb, 0, none⟩)), (4, true, .pointer (some ⟨b2, 0, none⟩)), (5, true, .int .i64 (i.1 : Int))]) (fun i w' => Dr i.2.2.1 ∧ i.1 ≤ 4 ∧ Fr No w [blk b2 26 (enc5 i.2.1), sep i.2.2.2 i.2.2.1 i.2.1.val, rd bb cv (2000 + i.1 * 2000), blk b1 26 [.int .i64 0, .int .i64 0, .string ⟨#[]⟩, .slice none 0 0, .slice none 0 0]] w') (fun i => 4 - i.1) (0, x1, tx1, Gx1) ⟨rfl, rfl, rfl, rfl, trivial⟩ ⟨hpx1.dr, Nat.zero_le _, F9.rdUp 2 rfl (2000 + 0 * 2000) (by omega)⟩ ?_
  intro i w6 hW K6 hK6
  obtain ⟨ix, x, t, G⟩ := i
  obtain ⟨hdr, hix, F10⟩ := hW
  dsimp only at *
  obtain ⟨tk, tn, ts, tks, tl, rfl⟩ := Tr.eta t
  obtain ⟨v3, v4, rfl, -⟩ := Sep.leafs (F10.get 1 rfl)
  refine Cod.seq fun K7 hK7 => ?_
  refine Cod.seq fun K8 hK8 => ?_
  refine Cod.region ?_
  refine Ops.step (One.val rfl rfl rfl (yld_move rfl (ev_t rfl)) ?_)
  refine Ops.step (One.val rfl rfl rfl (yld_lss rfl (ev_t rfl) ev_c) ?_)
  refine Ops.step (One.val rfl rfl rfl (yld_move rfl (ev_t rfl)) ?_)
  refine Ops.step (One.val (gd_some rfl rfl) rfl rfl (yld_field fi26_0 rfl (ev_t rfl)) ?_)
  refine Ops.step (One.val (gd_some rfl rfl) rfl rfl (yld_load1 on3 rfl (ev_g rfl) (fun _ => F10.cell 0 rfl rfl)) ?_)
  refine Ops.step (One.val (gd_some rfl rfl) rfl rfl (yld_neq rfl (ev_g rfl) ev_c) ?_)
  refine Ops.step (One.val rfl rfl rfl (yld_and rfl (ev_t rfl) (ev_g rfl)) ?_)
  refine Ops.nil fun a hS => ?_
  refine hK8 _ _ ?_ a hS
  refine Cod.cond rfl (fun hc16 => ?_) (fun hc16 => ?_)
  · skip
    have hlt : ix < 4 := by
      have h := hc16
      simp at h
      omega
    refine Cod.skip fun a hS => ?_
    refine hK7 _ _ ?_ a hS
    refine Cod.seq fun K9 hK9 => ?_
    refine Cod.block ?_
    refine Cod.region ?_
    refine Ops.step (One.val rfl rfl rfl (yld_move rfl (ev_t rfl)) ?_)
    refine Ops.step (One.call rfl rfl rfl (ent_f rfl (evl1 (ev_t rfl)) (enters en87)) (some_ct bb cv _ _ (hcode.chg F10.chg) (F10.get 2 rfl) (by omega)) (fun e w7 hw7 => ?_))
    obtain ⟨x2, Gx2, tx2, rfl, C7, hrdx2, hsx2, hbx2, hpx2⟩ := hw7
    have F11 := F10.updNew 2 rfl C7 (fun _ hk => hk) (rd bb cv _) hrdx2 (fun _ hk => hk) (sep Gx2 tx2 x2.val) hsx2 hbx2
    change Fr _ _ (_ :: [_, _, _, _]) _ at F11
    refine ⟨_, rfl, ?_⟩
    refine Ops.step (One.storeN (vs := [_, _, _, _, _]) F11 1 rfl sz26 rfl rfl rfl (ev_t rfl) (ev_t rfl) rfl rfl hsx2.one ?_)
    intro w8 F12
    change Fr _ _ [_, blk _ _ [_, _, _, _, _], _, _, blk _ _ [_, _, _, _, _]] _ at F12
    refine Ops.nil fun a hS => ?_
    refine hK9 _ _ ?_ a hS
    refine Cod.region ?_
    refine Ops.step (One.val rfl rfl rfl (yld_move rfl (ev_t rfl)) ?_)
    refine Ops.step (One.val rfl rfl rfl (yld_inc rfl (ev_t rfl) (fun _ => by omega)) ?_)
    refine Ops.step (One.val rfl rfl rfl (yld_assign rfl (ev_t rfl)) ?_)
    refine Ops.nil fun a hS => ?_
    have F13 := F12.pull 4 rfl
    have F14 := F13.pull 4 rfl
    have F15 := F14.pull 2 rfl
    have F16 := F15.pull 3 rfl
    have F17 := F16.erase 4
    exact hK6 (ix + 1, x2, tx2, Gx2) _ a (hS.sub ⟨rfl, rfl, rfl, rfl, trivial⟩) ⟨hpx2.dr, by show ix + 1 ≤ _; omega, F17.rdUp 2 rfl (2000 + (ix + 1) * 2000) (by omega)⟩ (by show 4 - (ix + 1) < 4 - ix; omega)
  · skip
    skip
    refine Cod.exit fun a hS => ?_
    simp only [Exit.then, Exit.inBlock, ↓reduceIte]
    refine hK4 _ _ ?_ a hS
    refine Cod.seq fun K10 hK10 => ?_
    refine Cod.region ?_
    refine Ops.step (One.val rfl rfl rfl (yld_loadN ag26 rfl (ev_t rfl) (fun _ => F10.range (m := 5) (cs' := [_, _, _, _, _]) 0 rfl rfl) rfl) ?_)
    refine Ops.step (One.storeN (vs := [_, _, _, _, _]) F10 3 rfl sz26 rfl rfl rfl (ev_t rfl) (ev_t rfl) rfl rfl (Sep.one (x := x5 tk tn ts v3 v4) (F10.get 1 rfl)) ?_)
    intro w9 F18
    change Fr _ _ [blk _ _ [_, _, _, _, _], _, _, blk _ _ [_, _, _, _, _]] _ at F18
    refine Ops.nil fun a hS => ?_
    refine hK10 _ _ ?_ a hS
    refine Cod.ret fun a hS => ?_
    try simp only [Exit.then, Exit.inBlock]
    exact retc (t := 2) (ty := 26) rfl hS ag26 rfl (F18.range (m := 5) (cs' := [_, _, _, _, _]) 3 rfl rfl) rfl ⟨(x5 tk tn ts v3 v4), (Tr.mk tk tn ts tks tl), rfl, F18.chg, rps_one (rps1 (X := No) F18 1 rfl), hdr⟩

set_option maxRecDepth 100000 in
theorem drawPut_ct (code : List UInt8) (v : Value) (w : World) (hp : RepE bCells 1 Any w code v) : Calls Try.prog 24 #[v] w (DrawST w) := by
  refine enter Try.func24 rfl rfl rfl ?_
  have F0 := Fr.start w
  refine Cod.seq fun K1 hK1 => ?_
  refine Cod.region ?_
  refine Ops.step (One.alloc F0 zero26 rfl rfl rfl rfl ?_)
  intro b1 w1 hb1 F1
  change Fr _ _ [blk _ _ [_, _, _, _, _]] _ at F1
  refine Ops.step (One.val rfl rfl rfl (yld_assign rfl ev_c) ?_)
  refine Ops.step (One.alloc F1 zero26 rfl rfl rfl rfl ?_)
  intro b2 w2 hb2 F2
  change Fr _ _ [blk _ _ [_, _, _, _, _], blk _ _ [_, _, _, _, _]] _ at F2
  refine Ops.nil fun a hS => ?_
  refine hK1 _ _ ?_ a hS
  refine Cod.seq fun K2 hK2 => ?_
  refine Cod.region ?_
  refine Ops.step (One.val rfl rfl rfl (yld_move rfl (ev_t rfl)) ?_)
  refine Ops.step (One.call rfl rfl rfl (ent_f rfl (evl1 (ev_t rfl)) (enters en61)) (open_ct code v _ (hp.chg F2.chg)) (fun e w3 hw3 => ?_))
  obtain ⟨bb, rfl, C3, hrd0, hbb⟩ := hw3
  obtain ⟨cv, hcv⟩ : ∃ cv, cv = cutv v := ⟨_, rfl⟩
  rw [← hcv] at hrd0
  have hcode : Code bb w cv := by rw [hcv]; exact code_of hp (by have := F2.chg.size; omega)
  have F3 := F2.new C3 (rd bb cv 0) hrd0 (fun k hk => by have h1 : k = bb := hk; subst h1; exact hbb)
  refine ⟨_, rfl, ?_⟩
  refine Ops.step (One.val rfl rfl rfl (yld_assign rfl (ev_t rfl)) ?_)
  refine Ops.nil fun a hS => ?_
  refine hK2 _ _ ?_ a hS
  refine Cod.seq fun K3 hK3 => ?_
  refine Cod.region ?_
  refine Ops.step (One.val rfl rfl rfl (yld_move rfl (ev_t rfl)) ?_)
  refine Ops.step (One.call rfl rfl rfl (ent_f rfl (evl1 (ev_t rfl)) (enters en65)) (bent_ct bb cv _ _ (hcode.chg F3.chg) (F3.get 0 rfl) (by omega)) (fun e w4 hw4 => ?_))
  obtain ⟨x1, Gx1, tx1, rfl, C4, hrdx1, hsx1, hbx1, hpx1⟩ := hw4
  have F4 := F3.updNew 0 rfl C4 (fun _ hk => hk) (rd bb cv _) hrdx1 (fun _ hk => hk) (sep Gx1 tx1 x1.val) hsx1 hbx1
  change Fr _ _ (_ :: [_, _, _]) _ at F4
  refine ⟨_, rfl, ?_⟩
  refine Ops.step (One.alloc F4 zero26 rfl rfl rfl rfl ?_)
  intro b3 w5 hb3 F5
  change Fr _ _ [blk _ _ [_, _, _, _, _], _, _, blk _ _ [_, _, _, _, _], blk _ _ [_, _, _, _, _]] _ at F5
  refine Ops.step (One.storeN (vs := [_, _, _, _, _]) F5 0 rfl sz26 rfl rfl rfl (ev_t rfl) (ev_t rfl) rfl rfl hsx1.one ?_)
  intro w6 F6
  change Fr _ _ [blk _ _ [_, _, _, _, _], _, _, blk _ _ [_, _, _, _, _], blk _ _ [_, _, _, _, _]] _ at F6
  refine Ops.nil fun a hS => ?_
  refine hK3 _ _ ?_ a hS
  refine Cod.seq fun K4 hK4 => ?_
  refine Cod.seq fun K5 hK5 => ?_
  refine Cod.region ?_
  refine Ops.step (One.val rfl rfl rfl (yld_assign rfl ev_c) ?_)
  refine Ops.nil fun a hS => ?_
  refine hK5 _ _ ?_ a hS
  refine Cod.block ?_
  have F7 := F6.pull 4 rfl
  have F8 := F7.pull 4 rfl
  have F9 := F8.pull 4 rfl
  have F10 := F9.pull 4 rfl
  have F11 := F10.pull 4 rfl
  refine Cod.loop (fun i : Nat × V5 × Tr × (Nat → Prop) => [(2, true, .pointer (some ⟨b1, 0, none⟩)), (4, true, .pointer (some ⟨b2, 0, none⟩)), (5, true, .pointer (some ⟨bb, 0, none⟩)), (6, true, .pointer (some ⟨b3, 0, none⟩)), (7, true, .int .i64 (i.1 : Int))]) (fun i w' => Dr i.2.2.1 ∧ i.1 ≤ 3 ∧ Fr No w [blk b3 26 (enc5 i.2.1), sep i.2.2.2 i.2.2.1 i.2.1.val, rd bb cv (2000 + i.1 * 2000), blk b2 26 [.int .i64 0, .int .i64 0, .string ⟨#[]⟩, .slice none 0 0, .slice none 0 0], blk b1 26 [.int .i64 0, .int .i64 0, .string ⟨#[]⟩, .slice none 0 0, .slice none 0 0]] w') (fun i => 3 - i.1) (0, x1, tx1, Gx1) ⟨rfl, rfl, rfl, rfl, rfl, trivial⟩ ⟨hpx1.dr, Nat.zero_le _, F11.rdUp 2 rfl (2000 + 0 * 2000) (by omega)⟩ ?_
  intro i w7 hW K6 hK6
  obtain ⟨ix, x, t, G⟩ := i
  obtain ⟨hdr, hix, F12⟩ := hW
  dsimp only at *
  obtain ⟨tk, tn, ts, tks, tl, rfl⟩ := Tr.eta t
  obtain ⟨v3, v4, rfl, -⟩ := Sep.leafs (F12.get 1 rfl)
  refine Cod.seq fun K7 hK7 => ?_
  refine Cod.seq fun K8 hK8 => ?_
  refine Cod.region ?_
  refine Ops.step (One.val rfl rfl rfl (yld_move rfl (ev_t rfl)) ?_)
  refine Ops.step (One.val rfl rfl rfl (yld_lss rfl (ev_t rfl) ev_c) ?_)
  refine Ops.step (One.val rfl rfl rfl (yld_move rfl (ev_t rfl)) ?_)
  refine Ops.step (One.val (gd_some rfl rfl) rfl rfl (yld_field fi26_0 rfl (ev_t rfl)) ?_)
  refine Ops.step (One.val (gd_some rfl rfl) rfl rfl (yld_load1 on3 rfl (ev_g rfl) (fun _ => F12.cell 0 rfl rfl)) ?_)
  refine Ops.step (One.val (gd_some rfl rfl) rfl rfl (yld_neq rfl (ev_g rfl) ev_c) ?_)
  refine Ops.step (One.val rfl rfl rfl (yld_and rfl (ev_t rfl) (ev_g rfl)) ?_)
  refine Ops.nil fun a hS => ?_
  refine hK8 _ _ ?_ a hS
  refine Cod.cond rfl (fun hc19 => ?_) (fun hc19 => ?_)
  · skip
    have hlt : ix < 3 := by
      have h := hc19
      simp at h
      omega
    refine Cod.skip fun a hS => ?_
    refine hK7 _ _ ?_ a hS
    refine Cod.seq fun K9 hK9 => ?_
    refine Cod.block ?_
    refine Cod.region ?_
    refine Ops.step (One.val rfl rfl rfl (yld_move rfl (ev_t rfl)) ?_)
    refine Ops.step (One.call rfl rfl rfl (ent_f rfl (evl1 (ev_t rfl)) (enters en87)) (some_ct bb cv _ _ (hcode.chg F12.chg) (F12.get 2 rfl) (by omega)) (fun e w8 hw8 => ?_))
    obtain ⟨x2, Gx2, tx2, rfl, C8, hrdx2, hsx2, hbx2, hpx2⟩ := hw8
    have F13 := F12.updNew 2 rfl C8 (fun _ hk => hk) (rd bb cv _) hrdx2 (fun _ hk => hk) (sep Gx2 tx2 x2.val) hsx2 hbx2
    change Fr _ _ (_ :: [_, _, _, _, _]) _ at F13
    refine ⟨_, rfl, ?_⟩
    refine Ops.step (One.storeN (vs := [_, _, _, _, _]) F13 1 rfl sz26 rfl rfl rfl (ev_t rfl) (ev_t rfl) rfl rfl hsx2.one ?_)
    intro w9 F14
    change Fr _ _ [_, blk _ _ [_, _, _, _, _], _, _, blk _ _ [_, _, _, _, _], blk _ _ [_, _, _, _, _]] _ at F14
    refine Ops.nil fun a hS => ?_
    refine hK9 _ _ ?_ a hS
    refine Cod.region ?_
    refine Ops.step (One.val rfl rfl rfl (yld_move rfl (ev_t rfl)) ?_)
    refine Ops.step (One.val rfl rfl rfl (yld_inc rfl (ev_t rfl) (fun _ => by omega)) ?_)
    refine Ops.step (One.val rfl rfl rfl (yld_assign rfl (ev_t rfl)) ?_)
    refine Ops.nil fun a hS => ?_
    have F15 := F14.pull 5 rfl
    have F16 := F15.pull 5 rfl
    have F17 := F16.pull 5 rfl
    have F18 := F17.pull 3 rfl
    have F19 := F18.pull 4 rfl
    have F20 := F19.erase 5
    exact hK6 (ix + 1, x2, tx2, Gx2) _ a (hS.sub ⟨rfl, rfl, rfl, rfl, rfl, trivial⟩) ⟨hpx2.dr, by show ix + 1 ≤ _; omega, F20.rdUp 2 rfl (2000 + (ix + 1) * 2000) (by omega)⟩ (by show 3 - (ix + 1) < 3 - ix; omega)
  · skip
    skip
    refine Cod.exit fun a hS => ?_
    simp only [Exit.then, Exit.inBlock, ↓reduceIte]
    refine hK4 _ _ ?_ a hS
    refine Cod.seq fun K10 hK10 => ?_
    refine Cod.region ?_
    refine Ops.step (One.val rfl rfl rfl (yld_move rfl (ev_t rfl)) ?_)
    refine Ops.step (One.call rfl rfl rfl (ent_f rfl (evl1 (ev_t rfl)) (enters en88)) (keyDraw_ct bb cv _ _ (hcode.chg F12.chg) (F12.get 2 rfl) (by omega)) (fun e w10 hw10 => ?_))
    obtain ⟨ks1, hks1, rfl, C10, hrdk⟩ := hw10
    have F21 := F12.upd 2 rfl C10 (fun _ hk => .inl hk) (rd bb cv _) hrdk (fun _ hk => .inl hk)
    change Fr _ _ [_, _, _, _, _] _ at F21
    refine ⟨_, rfl, ?_⟩
    refine Ops.step (One.val rfl rfl rfl (yld_assign rfl (ev_t rfl)) ?_)
    refine Ops.nil fun a hS => ?_
    refine hK10 _ _ ?_ a hS
    refine Cod.seq fun K11 hK11 => ?_
    have F22 := F21.drew
    refine Cod.draw (C_of (((F22.erase 4).erase 3).erase 2)) (by kernel_rfl) ?_
    refine Hops.take 0 rfl (by kernel_rfl) (fun _ _ _ h => h) rfl rfl rfl (((F22.erase 4).erase 3).erase 2) (fun w F => (yld_loadN ag26 rfl (ev_t rfl) (fun _ => F.range (m := 5) (cs' := [_, _, _, _, _]) 0 rfl rfl) rfl)) ?_
    refine Hops.take 1 rfl (by kernel_rfl) (fun _ _ _ h => h) rfl rfl rfl (((F22.erase 4).erase 3).erase 2) (fun w F => (yld_move rfl (ev_t rfl))) ?_
    refine Hops.take 2 rfl (by kernel_rfl) (fun _ _ _ h => h) rfl rfl rfl (((F22.erase 4).erase 3).erase 2) (fun w F => (yld_move rfl (ev_t rfl))) ?_
    refine Hops.one 3 rfl (by kernel_rfl) (One.call rfl rfl rfl (ent_f rfl (evl1 (ev_t rfl)) (enters en65)) (bent_ct bb cv _ _ (hcode.chg F22.chg) (F22.get 2 rfl) (by omega)) (fun e w11 hw11 => ?_))
    obtain ⟨y1, Gy1, ty1, rfl, C11, hrdy1, hsy1, hby1, hpy1⟩ := hw11
    have F23 := F22.updNew 2 rfl C11 (fun _ hk => hk) (rd bb cv _) hrdy1 (fun _ hk => hk) (sep Gy1 ty1 y1.val) hsy1 hby1
    change Fr _ _ (_ :: [_, _, _, _, _]) _ at F23
    refine ⟨_, rfl, ?_⟩
    refine ⟨(((F23.erase 5).erase 4).erase 3).drop1, ?_⟩
    refine Hops.one 4 rfl (by kernel_rfl) (One.storeN (vs := [_, _, _, _, _]) F23 5 rfl sz26 rfl rfl rfl (ev_t rfl) (ev_t rfl) rfl rfl (Sep.one (x := x5 tk tn ts v3 v4) (F23.get 2 rfl)) ?_)
    intro w12 F24
    refine ⟨(((F24.erase 5).erase 4).erase 3).drop1, ?_⟩
    change Fr _ _ [_, blk _ _ [_, _, _, _, _], _, _, blk _ _ [_, _, _, _, _], blk _ _ [_, _, _, _, _]] _ at F24
    refine Hops.one 5 rfl (by kernel_rfl) (One.val rfl rfl rfl (yld_assign rfl (ev_t rfl)) ?_)
    refine ⟨(((F24.erase 5).erase 4).erase 3).drop1, ?_⟩
    refine Hops.one 6 rfl (by kernel_rfl) (One.storeN (vs := [_, _, _, _, _]) F24 4 rfl sz26 rfl rfl rfl (ev_t rfl) (ev_t rfl) rfl rfl (Sep.one (x := y1) (F24.get 0 rfl)) ?_)
    intro w13 F25
    refine ⟨(((F25.erase 5).erase 4).erase 3).drop1, ?_⟩
    change Fr _ _ [_, blk _ _ [_, _, _, _, _], _, _, blk _ _ [_, _, _, _, _], blk _ _ [_, _, _, _, _]] _ at F25
    refine Hops.nil (by kernel_rfl) fun a hS => ?_
    refine hK11 _ _ ?_ a hS
    refine Cod.ret fun a hS => ?_
    try simp only [Exit.then, Exit.inBlock]
    exact retctc (t := 2) (k := 3) (u := 4) (ty := 26) (ty' := 26) rfl hS ag26 ag26 rfl rfl rfl (F25.range (m := 5) (cs' := [_, _, _, _, _]) 5 rfl rfl) (F25.range (m := 5) (cs' := [_, _, _, _, _]) 4 rfl rfl) rfl rfl ⟨(x5 tk tn ts v3 v4), y1, (Tr.mk tk tn ts tks tl), ty1, ks1, rfl, F25.chg, rps_two (rps1 (X := No) F25 2 rfl) (rps1 (X := No) F25 0 rfl), hdr, hpy1.dr, hks1⟩

set_option maxRecDepth 100000 in
theorem drawSet_ct (code : List UInt8) (v : Value) (w : World) (hp : RepE bCells 1 Any w code v) : Calls Try.prog 39 #[v] w (DrawIT w) := by
  refine enter Try.func39 rfl rfl rfl ?_
  have F0 := Fr.start w
  refine Cod.seq fun K1 hK1 => ?_
  refine Cod.region ?_
  refine Ops.step (One.alloc F0 zero26 rfl rfl rfl rfl ?_)
  intro b1 w1 hb1 F1
  change Fr _ _ [blk _ _ [_, _, _, _, _]] _ at F1
  refine Ops.step (One.val rfl rfl rfl (yld_assign rfl ev_c) ?_)
  refine Ops.step (One.alloc F1 zero26 rfl rfl rfl rfl ?_)
  intro b2 w2 hb2 F2
  change Fr _ _ [blk _ _ [_, _, _, _, _], blk _ _ [_, _, _, _, _]] _ at F2
  refine Ops.nil fun a hS => ?_
  refine hK1 _ _ ?_ a hS
  refine Cod.seq fun K2 hK2 => ?_
  refine Cod.region ?_
  refine Ops.step (One.val rfl rfl rfl (yld_move rfl (ev_t rfl)) ?_)
  refine Ops.step (One.call rfl rfl rfl (ent_f rfl (evl1 (ev_t rfl)) (enters en61)) (open_ct code v _ (hp.chg F2.chg)) (fun e w3 hw3 => ?_))
  obtain ⟨bb, rfl, C3, hrd0, hbb⟩ := hw3
  obtain ⟨cv, hcv⟩ : ∃ cv, cv = cutv v := ⟨_, rfl⟩
  rw [← hcv] at hrd0
  have hcode : Code bb w cv := by rw [hcv]; exact code_of hp (by have := F2.chg.size; omega)
  have F3 := F2.new C3 (rd bb cv 0) hrd0 (fun k hk => by have h1 : k = bb := hk; subst h1; exact hbb)
  refine ⟨_, rfl, ?_⟩
  refine Ops.step (One.val rfl rfl rfl (yld_assign rfl (ev_t rfl)) ?_)
  refine Ops.nil fun a hS => ?_
  refine hK2 _ _ ?_ a hS
  refine Cod.seq fun K3 hK3 => ?_
  refine Cod.region ?_
  refine Ops.step (One.val rfl rfl rfl (yld_move rfl (ev_t rfl)) ?_)
  refine Ops.step (One.call rfl rfl rfl (ent_f rfl (evl1 (ev_t rfl)) (enters en65)) (bent_ct bb cv _ _ (hcode.chg F3.chg) (F3.get 0 rfl) (by omega)) (fun e w4 hw4 => ?_))
  obtain ⟨x1, Gx1, tx1, rfl, C4, hrdx1, hsx1, hbx1, hpx1⟩ := hw4
  have F4 := F3.updNew 0 rfl C4 (fun _ hk => hk) (rd bb cv _) hrdx1 (fun _ hk => hk) (sep Gx1 tx1 x1.val) hsx1 hbx1
  change Fr _ _ (_ :: [_, _, _]) _ at F4
  refine ⟨_, rfl, ?_⟩
  refine Ops.step (One.alloc F4 zero26 rfl rfl rfl rfl ?_)
  intro b3 w5 hb3 F5
  change Fr _ _ [blk _ _ [_, _, _, _, _], _, _, blk _ _ [_, _, _, _, _], blk _ _ [_, _, _, _, _]] _ at F5
  refine Ops.step (One.storeN (vs := [_, _, _, _, _]) F5 0 rfl sz26 rfl rfl rfl (ev_t rfl) (ev_t rfl) rfl rfl hsx1.one ?_)
  intro w6 F6
  change Fr _ _ [blk _ _ [_, _, _, _, _], _, _, blk _ _ [_, _, _, _, _], blk _ _ [_, _, _, _, _]] _ at F6
  refine Ops.nil fun a hS => ?_
  refine hK3 _ _ ?_ a hS
  refine Cod.seq fun K4 hK4 => ?_
  refine Cod.seq fun K5 hK5 => ?_
  refine Cod.region ?_
  refine Ops.step (One.val rfl rfl rfl (yld_assign rfl ev_c) ?_)
  refine Ops.nil fun a hS => ?_
  refine hK5 _ _ ?_ a hS
  refine Cod.block ?_
  have F7 := F6.pull 4 rfl
  have F8 := F7.pull 4 rfl
  have F9 := F8.pull 4 rfl
  have F10 := F9.pull 4 rfl
  have F11 := F10.pull 4 rfl
  refine Cod.loop (fun i : Nat × V5 × Tr × (Nat → Prop) => [(2, true, .pointer (some ⟨b1, 0, none⟩)), (4, true, .pointer (some ⟨b2, 0, none⟩)), (5, true, .pointer (some ⟨bb, 0, none⟩)), (6, true, .pointer (some ⟨b3, 0, none⟩)), (7, true, .int .i64 (i.1 : Int))]) (fun i w' => Dr i.2.2.1 ∧ i.1 ≤ 3 ∧ Fr No w [blk b3 26 (enc5 i.2.1), sep i.2.2.2 i.2.2.1 i.2.1.val, rd bb cv (2000 + i.1 * 2000), blk b2 26 [.int .i64 0, .int .i64 0, .string ⟨#[]⟩, .slice none 0 0, .slice none 0 0], blk b1 26 [.int .i64 0, .int .i64 0, .string ⟨#[]⟩, .slice none 0 0, .slice none 0 0]] w') (fun i => 3 - i.1) (0, x1, tx1, Gx1) ⟨rfl, rfl, rfl, rfl, rfl, trivial⟩ ⟨hpx1.dr, Nat.zero_le _, F11.rdUp 2 rfl (2000 + 0 * 2000) (by omega)⟩ ?_
  intro i w7 hW K6 hK6
  obtain ⟨ix, x, t, G⟩ := i
  obtain ⟨hdr, hix, F12⟩ := hW
  dsimp only at *
  obtain ⟨tk, tn, ts, tks, tl, rfl⟩ := Tr.eta t
  obtain ⟨v3, v4, rfl, -⟩ := Sep.leafs (F12.get 1 rfl)
  refine Cod.seq fun K7 hK7 => ?_
  refine Cod.seq fun K8 hK8 => ?_
  refine Cod.region ?_
  refine Ops.step (One.val rfl rfl rfl (yld_move rfl (ev_t rfl)) ?_)
  refine Ops.step (One.val rfl rfl rfl (yld_lss rfl (ev_t rfl) ev_c) ?_)
  refine Ops.step (One.val rfl rfl rfl (yld_move rfl (ev_t rfl)) ?_)
  refine Ops.step (One.val (gd_some rfl rfl) rfl rfl (yld_field fi26_0 rfl (ev_t rfl)) ?_)
  refine Ops.step (One.val (gd_some rfl rfl) rfl rfl (yld_load1 on3 rfl (ev_g rfl) (fun _ => F12.cell 0 rfl rfl)) ?_)
  refine Ops.step (One.val (gd_some rfl rfl) rfl rfl (yld_neq rfl (ev_g rfl) ev_c) ?_)
  refine Ops.step (One.val rfl rfl rfl (yld_and rfl (ev_t rfl) (ev_g rfl)) ?_)
  refine Ops.nil fun a hS => ?_
  refine hK8 _ _ ?_ a hS
  refine Cod.cond rfl (fun hc19 => ?_) (fun hc19 => ?_)
  · skip
    have hlt : ix < 3 := by
      have h := hc19
      simp at h
      omega
    refine Cod.skip fun a hS => ?_
    refine hK7 _ _ ?_ a hS
    refine Cod.seq fun K9 hK9 => ?_
    refine Cod.block ?_
    refine Cod.region ?_
    refine Ops.step (One.val rfl rfl rfl (yld_move rfl (ev_t rfl)) ?_)
    refine Ops.step (One.call rfl rfl rfl (ent_f rfl (evl1 (ev_t rfl)) (enters en87)) (some_ct bb cv _ _ (hcode.chg F12.chg) (F12.get 2 rfl) (by omega)) (fun e w8 hw8 => ?_))
    obtain ⟨x2, Gx2, tx2, rfl, C8, hrdx2, hsx2, hbx2, hpx2⟩ := hw8
    have F13 := F12.updNew 2 rfl C8 (fun _ hk => hk) (rd bb cv _) hrdx2 (fun _ hk => hk) (sep Gx2 tx2 x2.val) hsx2 hbx2
    change Fr _ _ (_ :: [_, _, _, _, _]) _ at F13
    refine ⟨_, rfl, ?_⟩
    refine Ops.step (One.storeN (vs := [_, _, _, _, _]) F13 1 rfl sz26 rfl rfl rfl (ev_t rfl) (ev_t rfl) rfl rfl hsx2.one ?_)
    intro w9 F14
    change Fr _ _ [_, blk _ _ [_, _, _, _, _], _, _, blk _ _ [_, _, _, _, _], blk _ _ [_, _, _, _, _]] _ at F14
    refine Ops.nil fun a hS => ?_
    refine hK9 _ _ ?_ a hS
    refine Cod.region ?_
    refine Ops.step (One.val rfl rfl rfl (yld_move rfl (ev_t rfl)) ?_)
    refine Ops.step (One.val rfl rfl rfl (yld_inc rfl (ev_t rfl) (fun _ => by omega)) ?_)
    refine Ops.step (One.val rfl rfl rfl (yld_assign rfl (ev_t rfl)) ?_)
    refine Ops.nil fun a hS => ?_
    have F15 := F14.pull 5 rfl
    have F16 := F15.pull 5 rfl
    have F17 := F16.pull 5 rfl
    have F18 := F17.pull 3 rfl
    have F19 := F18.pull 4 rfl
    have F20 := F19.erase 5
    exact hK6 (ix + 1, x2, tx2, Gx2) _ a (hS.sub ⟨rfl, rfl, rfl, rfl, rfl, trivial⟩) ⟨hpx2.dr, by show ix + 1 ≤ _; omega, F20.rdUp 2 rfl (2000 + (ix + 1) * 2000) (by omega)⟩ (by show 3 - (ix + 1) < 3 - ix; omega)
  · skip
    skip
    refine Cod.exit fun a hS => ?_
    simp only [Exit.then, Exit.inBlock, ↓reduceIte]
    refine hK4 _ _ ?_ a hS
    refine Cod.seq fun K10 hK10 => ?_
    refine Cod.region ?_
    refine Ops.step (One.val rfl rfl rfl (yld_move rfl (ev_t rfl)) ?_)
    refine Ops.step (One.buildSlice (cells := (setID.flatMap jCells)) F12 sl96 zero3 rfl rfl rfl rfl (evp9 ev_c ev_c ev_c ev_c ev_c ev_c ev_c ev_c ev_c) rfl rfl (by kernel_rfl) ?_)
    intro b4 w10 hb4 F21
    refine Ops.step (One.call rfl rfl rfl (ent_f rfl (evl2 (ev_t rfl) (ev_t rfl)) (enters en102)) (rnum_ct setID bb cv _ _ _ (hcode.chg F21.chg) (F21.get 3 rfl) (by have := F21.lit (enc := jCells) (sz := 1) (xs := setID) (fun _ => rfl) 0 3 (by decide) rfl rfl (by decide); exact this) (by omega) (by decide) (by decide)) (fun e w11 hw11 => ?_))
    obtain ⟨a1, hma1, rfl, C11, hrda1⟩ := hw11
    have F22 := F21.upd 3 rfl C11 (fun _ hk => .inl hk) (rd bb cv _) hrda1 (fun _ hk => .inl hk)
    change Fr _ _ [_, _, _, _, _, _] _ at F22
    refine ⟨_, rfl, ?_⟩
    refine Ops.step (One.val rfl rfl rfl (yld_assign rfl (ev_t rfl)) ?_)
    refine Ops.nil fun a hS => ?_
    refine hK10 _ _ ?_ a hS
    refine Cod.seq fun K11 hK11 => ?_
    have F23 := F22.drew
    refine Cod.draw (C_of (((F23.erase 5).erase 4).erase 3).drop1) (by kernel_rfl) ?_
    refine Hops.take 0 rfl (by kernel_rfl) (fun _ _ _ h => h) rfl rfl rfl (((F23.erase 5).erase 4).erase 3).drop1 (fun w F => (yld_loadN ag26 rfl (ev_t rfl) (fun _ => F.range (m := 5) (cs' := [_, _, _, _, _]) 0 rfl rfl) rfl)) ?_
    refine Hops.take 1 rfl (by kernel_rfl) (fun _ _ _ h => h) rfl rfl rfl (((F23.erase 5).erase 4).erase 3).drop1 (fun w F => (yld_move rfl (ev_t rfl))) ?_
    refine Hops.take 2 rfl (by kernel_rfl) (fun _ _ _ h => h) rfl rfl rfl (((F23.erase 5).erase 4).erase 3).drop1 (fun w F => (yld_move rfl (ev_t rfl))) ?_
    refine Hops.one 3 rfl (by kernel_rfl) (One.call rfl rfl rfl (ent_f rfl (evl1 (ev_t rfl)) (enters en65)) (bent_ct bb cv _ _ (hcode.chg F23.chg) (F23.get 3 rfl) (by omega)) (fun e w12 hw12 => ?_))
    obtain ⟨y1, Gy1, ty1, rfl, C12, hrdy1, hsy1, hby1, hpy1⟩ := hw12
    have F24 := F23.updNew 3 rfl C12 (fun _ hk => hk) (rd bb cv _) hrdy1 (fun _ hk => hk) (sep Gy1 ty1 y1.val) hsy1 hby1
    change Fr _ _ (_ :: [_, _, _, _, _, _]) _ at F24
    refine ⟨_, rfl, ?_⟩
    refine ⟨((((F24.erase 6).erase 5).erase 4).erase 1).drop1, ?_⟩
    refine Hops.one 4 rfl (by kernel_rfl) (One.storeN (vs := [_, _, _, _, _]) F24 6 rfl sz26 rfl rfl rfl (ev_t rfl) (ev_t rfl) rfl rfl (Sep.one (x := x5 tk tn ts v3 v4) (F24.get 3 rfl)) ?_)
    intro w13 F25
    refine ⟨((((F25.erase 6).erase 5).erase 4).erase 1).drop1, ?_⟩
    change Fr _ _ [_, _, blk _ _ [_, _, _, _, _], _, _, blk _ _ [_, _, _, _, _], blk _ _ [_, _, _, _, _]] _ at F25
    refine Hops.one 5 rfl (by kernel_rfl) (One.val rfl rfl rfl (yld_assign rfl (ev_t rfl)) ?_)
    refine ⟨((((F25.erase 6).erase 5).erase 4).erase 1).drop1, ?_⟩
    refine Hops.one 6 rfl (by kernel_rfl) (One.storeN (vs := [_, _, _, _, _]) F25 5 rfl sz26 rfl rfl rfl (ev_t rfl) (ev_t rfl) rfl rfl (Sep.one (x := y1) (F25.get 0 rfl)) ?_)
    intro w14 F26
    refine ⟨((((F26.erase 6).erase 5).erase 4).erase 1).drop1, ?_⟩
    change Fr _ _ [_, _, blk _ _ [_, _, _, _, _], _, _, blk _ _ [_, _, _, _, _], blk _ _ [_, _, _, _, _]] _ at F26
    refine Hops.nil (by kernel_rfl) fun a hS => ?_
    refine hK11 _ _ ?_ a hS
    refine Cod.ret fun a hS => ?_
    try simp only [Exit.then, Exit.inBlock]
    exact retctc (t := 2) (k := 3) (u := 4) (ty := 26) (ty' := 26) rfl hS ag26 ag26 rfl rfl rfl (F26.range (m := 5) (cs' := [_, _, _, _, _]) 6 rfl rfl) (F26.range (m := 5) (cs' := [_, _, _, _, _]) 5 rfl rfl) rfl rfl ⟨(x5 tk tn ts v3 v4), y1, (Tr.mk tk tn ts tks tl), ty1, a1, rfl, F26.chg, rps_two (rps1 (X := No) F26 3 rfl) (rps1 (X := No) F26 0 rfl), hdr, hpy1.dr, mem64 hma1 (by decide)⟩

end Go.Proofs.Ytmmgobhoakaaaaa.Eng
