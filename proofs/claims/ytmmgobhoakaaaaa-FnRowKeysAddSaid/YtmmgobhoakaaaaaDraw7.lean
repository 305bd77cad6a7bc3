/- The walk of the function that draws a tree by keys, for its pairs. -/
import Derived.Test.YtmmgobhoakaaaaaDraw3
namespace Go.Proofs.Ytmmgobhoakaaaaa.Eng
open Go.RowKit
set_option linter.unusedVariables false
set_option linter.unusedSimpArgs false
set_option maxHeartbeats 1000000


theorem SomeT.dr {t : Tr} (h : SomeT t) : Dr t := ⟨h.fit, by have := h.wt; omega, by have := h.len; omega⟩

set_option maxRecDepth 100000 in
theorem drawPairs_ct (code : List UInt8) (v : Value) (w : World) (hp : RepE bCells 1 Any w code v) : Calls Try.prog 28 #[v] w (Draw1 w) := by
  refine enter Try.func28 rfl rfl rfl ?_
  have F0 := Fr.start w
  refine Cod.seq fun K1 hK1 => ?_
  refine Cod.region ?_
  refine Ops.step (One.alloc F0 zero26 rfl rfl rfl rfl ?_)
  intro b1 w1 hb1 F1
  change Fr _ _ [blk _ _ [_, _, _, _, _]] _ at F1
  refine Ops.nil fun a hS => ?_
  refine hK1 _ _ ?_ a hS
  refine Cod.seq fun K2 hK2 => ?_
  refine Cod.region ?_
  refine Ops.step (One.val rfl rfl rfl (yld_move rfl (ev_t rfl)) ?_)
  refine Ops.step (One.call rfl rfl rfl (ent_f rfl (evl1 (ev_t rfl)) (enters en61)) (open_ct code v _ (hp.chg F1.chg)) (fun e w2 hw2 => ?_))
  obtain ⟨bb, rfl, C2, hrd0, hbb⟩ := hw2
  obtain ⟨cv, hcv⟩ : ∃ cv, cv = cutv v := ⟨_, rfl⟩
  rw [← hcv] at hrd0
  have hcode : Code bb w cv := by rw [hcv]; exact code_of hp (by have := F1.chg.size; omega)
  have F2 := F1.new C2 (rd bb cv 0) hrd0 (fun k hk => by have h1 : k = bb := hk; subst h1; exact hbb)
  refine ⟨_, rfl, ?_⟩
  refine Ops.step (One.val rfl rfl rfl (yld_assign rfl (ev_t rfl)) ?_)
  refine Ops.nil fun a hS => ?_
  refine hK2 _ _ ?_ a hS
  refine Cod.seq fun K3 hK3 => ?_
  refine Cod.region ?_
  refine Ops.step (One.val rfl rfl rfl (yld_move rfl (ev_t rfl)) ?_)
  refine Ops.step (One.call rfl rfl rfl (ent_f rfl (evl1 (ev_t rfl)) (enters en65)) (bent_ct bb cv _ _ (hcode.chg F2.chg) (F2.get 0 rfl) (by omega)) (fun e w3 hw3 => ?_))
  obtain ⟨x1, Gx1, tx1, rfl, C3, hrdx1, hsx1, hbx1, hpx1⟩ := hw3
  have F3 := F2.updNew 0 rfl C3 (fun _ hk => hk) (rd bb cv _) hrdx1 (fun _ hk => hk) (sep Gx1 tx1 x1.val) hsx1 hbx1
  change Fr _ _ (_ :: [_, _]) _ at F3
  refine ⟨_, rfl, ?_⟩
  refine Ops.step (One.alloc F3 zero26 rfl rfl rfl rfl ?_)
  intro b2 w4 hb2 F4
  change Fr _ _ [blk _ _ [_, _, _, _, _], _, _, blk _ _ [_, _, _, _, _]] _ at F4
  refine Ops.step (One.storeN (vs := [_, _, _, _, _]) F4 0 rfl sz26 rfl rfl rfl (ev_t rfl) (ev_t rfl) rfl rfl hsx1.one ?_)
  intro w5 F5
  change Fr _ _ [blk _ _ [_, _, _, _, _], _, _, blk _ _ [_, _, _, _, _]] _ at F5
  refine Ops.nil fun a hS => ?_
  refine hK3 _ _ ?_ a hS
  refine Cod.seq fun K4 hK4 => ?_
  refine Cod.seq fun K5 hK5 => ?_
  refine Cod.region ?_
  refine Ops.step (One.val rfl rfl rfl (yld_assign rfl ev_c) ?_)
  refine Ops.nil fun a hS => ?_
  refine hK5 _ _ ?_ a hS
  refine Cod.block ?_
  have F6 := F5.pull 3 rfl
  have F7 := F6.pull 3 rfl
  have F8 := F7.pull 3 rfl
  have F9 := F8.pull 3 rfl
  refine Cod.loop (fun i : Nat × V5 × Tr × (Nat → Prop) => [(2, true, .pointer (some ⟨b1, 0, none⟩)), (3, true, .pointer (some ⟨bb, 0, none⟩)), (4, true, .pointer (some ⟨b2, 0, none⟩)), (5, true, .int .i64 (i.1 : Int))]) (fun i w' => Dr i.2.2.1 ∧ i.1 ≤ 4 ∧ Fr No w [blk b2 26 (enc5 i.2.1), sep i.2.2.2 i.2.2.1 i.2.1.val, rd bb cv (2000 + i.1 * 2000), blk b1 26 [.int .i64 0, .int .i64 0, .string ⟨#[]⟩, .slice none 0 0, .slice none 0 0]] w') (fun i => 4 - i.1) (0, x1, tx1, Gx1) ⟨rfl, rfl, rfl, rfl, trivial⟩ ⟨hpx1.dr, Nat.zero_le _, F9.rdUp 2 rfl (2000 + 0 * 2000) (by omega)⟩ ?_
  intro i w6 hW K6 hK6
  obtain ⟨ix, x, t, G⟩ := i
  obtain ⟨hdr, hix, F10⟩ := hW
  dsimp only at *
  obtain ⟨tk, tn, ts, tks, tl, rfl⟩ := Tr.eta t
  obtain ⟨v3, v4, rfl, -⟩ := Sep.leafs (F10.get 1 rfl)
  refine Cod.seq fun K7 hK7 => ?_
  refine Cod.seq fun K8 hK8 => ?_
  refine Cod.region ?_
  refine Ops.step (One.val rfl rfl rfl (yld_move rfl (ev_t rfl)) ?_)
  refine Ops.step (One.val rfl rfl rfl (yld_lss rfl (ev_t rfl) ev_c) ?_)
  refine Ops.step (One.val rfl rfl rfl (yld_move rfl (ev_t rfl)) ?_)
  refine Ops.step (One.val (gd_some rfl rfl) rfl rfl (yld_field fi26_0 rfl (ev_t rfl)) ?_)
  refine Ops.step (One.val (gd_some rfl rfl) rfl rfl (yld_load1 on3 rfl (ev_g rfl) (fun _ => F10.cell 0 rfl rfl)) ?_)
  refine Ops.step (One.val (gd_some rfl rfl) rfl rfl (yld_neq rfl (ev_g rfl) ev_c) ?_)
  refine Ops.step (One.val rfl rfl rfl (yld_and rfl (ev_t rfl) (ev_g rfl)) ?_)
  refine Ops.nil fun a hS => ?_
  refine hK8 _ _ ?_ a hS
  refine Cod.cond rfl (fun hc16 => ?_) (fun hc16 => ?_)
  · skip
    have hlt : ix < 4 := by
      have h := hc16
      simp at h
      omega
    refine Cod.skip fun a hS => ?_
    refine hK7 _ _ ?_ a hS
    refine Cod.seq fun K9 hK9 => ?_
    refine Cod.block ?_
    refine Cod.region ?_
    refine Ops.step (One.val rfl rfl rfl (yld_move rfl (ev_t rfl)) ?_)
    refine Ops.step (One.call rfl rfl rfl (ent_f rfl (evl1 (ev_t rfl)) (enters en87)) (some_ct bb cv _ _ (hcode.chg F10.chg) (F10.get 2 rfl) (by omega)) (fun e w7 hw7 => ?_))
    obtain ⟨x2, Gx2, tx2, rfl, C7, hrdx2, hsx2, hbx2, hpx2⟩ := hw7
    have F11 := F10.updNew 2 rfl C7 (fun _ hk => hk) (rd bb cv _) hrdx2 (fun _ hk => hk) (sep Gx2 tx2 x2.val) hsx2 hbx2
    change Fr _ _ (_ :: [_, _, _, _]) _ at F11
    refine ⟨_, rfl, ?_⟩
    refine Ops.step (One.storeN (vs := [_, _, _, _, _]) F11 1 rfl sz26 rfl rfl rfl (ev_t rfl) (ev_t rfl) rfl rfl hsx2.one ?_)
    intro w8 F12
    change Fr _ _ [_, blk _ _ [_, _, _, _, _], _, _, blk _ _ [_, _, _, _, _]] _ at F12
    refine Ops.nil fun a hS => ?_
    refine hK9 _ _ ?_ a hS
    refine Cod.region ?_
    refine Ops.step (One.val rfl rfl rfl (yld_move rfl (ev_t rfl)) ?_)
    refine Ops.step (One.val rfl rfl rfl (yld_inc rfl (ev_t rfl) (fun _ => by omega)) ?_)
    refine Ops.step (One.val rfl rfl rfl (yld_assign rfl (ev_t rfl)) ?_)
    refine Ops.nil fun a hS => ?_
    have F13 := F12.pull 4 rfl
    have F14 := F13.pull 4 rfl
    have F15 := F14.pull 2 rfl
    have F16 := F15.pull 3 rfl
    have F17 := F16.erase 4
    exact hK6 (ix + 1, x2, tx2, Gx2) _ a (hS.sub ⟨rfl, rfl, rfl, rfl, trivial⟩) ⟨hpx2.dr, by show ix + 1 ≤ _; omega, F17.rdUp 2 rfl (2000 + (ix + 1) * 2000) (by omega)⟩ (by show 4 - (ix + 1) < 4 - ix; omega)
  · skip
    skip
    refine Cod.exit fun a hS => ?_
    simp only [Exit.then, Exit.inBlock, ↓reduceIte]
    refine hK4 _ _ ?_ a hS
    refine Cod.seq fun K10 hK10 => ?_
    refine Cod.region ?_
    refine Ops.step (One.val rfl rfl rfl (yld_loadN ag26 rfl (ev_t rfl) (fun _ => F10.range (m := 5) (cs' := [_, _, _, _, _]) 0 rfl rfl) rfl) ?_)
    refine Ops.step (One.storeN (vs := [_, _, _, _, _]) F10 3 rfl sz26 rfl rfl rfl (ev_t rfl) (ev_t rfl) rfl rfl (Sep.one (x := x5 tk tn ts v3 v4) (F10.get 1 rfl)) ?_)
    intro w9 F18
    change Fr _ _ [blk _ _ [_, _, _, _, _], _, _, blk _ _ [_, _, _, _, _]] _ at F18
    refine Ops.nil fun a hS => ?_
    refine hK10 _ _ ?_ a hS
    refine Cod.ret fun a hS => ?_
    try simp only [Exit.then, Exit.inBlock]
    exact retc (t := 2) (ty := 26) rfl hS ag26 rfl (F18.range (m := 5) (cs' := [_, _, _, _, _]) 3 rfl rfl) rfl ⟨(x5 tk tn ts v3 v4), (Tr.mk tk tn ts tks tl), rfl, F18.chg, rps_one (rps1 (X := No) F18 1 rfl), hdr⟩

end Go.Proofs.Ytmmgobhoakaaaaa.Eng
