/- Walks of what gives a tree and a word of whether it is one: num, str, row, told, l2Told, heldVal. -/
import Derived.Test.YtodbflfelimppaaHeld
import Derived.Test.YtodbflfelimppaaIsRow
import Derived.Test.YtodbflfelimppaaNeg
namespace Go.Proofs.Ytodbflfelimppaa.Eng
open Go.RowKit
set_option linter.unusedVariables false
set_option linter.unusedSimpArgs false
set_option maxHeartbeats 1000000


/-- No tree. -/
def zeroT : Tr := .mk 0 0 ⟨#[]⟩ [] []
def numT (n : Int) : Tr := .mk 3 n ⟨#[]⟩ [] []
def strT' (s : ByteArray) : Tr := .mk 4 0 s [] []
theorem sep_leaf (w : World) (k n : Int) (s : ByteArray) : Sep w No (.mk k n s [] []) (x5 k n s (.slice none 0 0) (.slice none 0 0)).val :=
  Sep.close (F4 := No) (World.ownsRow_nil w 0 9 1) ⟨[], No, rfl, World.ownsRow_nil w 0 31 5, Kd.nil w [], fun b hb => by simp [Value.ownBlock] at hb, fun b hb => hb, fun b hb => hb.elim⟩ (fun b hb => by simp [Value.ownBlock] at hb) (fun b hb => hb) (fun b hb => hb.elim)
/-- What a function gives that gives a tree and a word. -/
def Gives (w : World) (r : Option Tr) (e : Ending) (w' : World) : Prop := ∃ (x : V5) (F : Nat → Prop), e = .returned (.tuple #[x.val, .bool r.isSome]) ∧ Chg No w w' ∧ Sep w' F (r.getD zeroT) x.val ∧ ∀ k, F k → w.heap.size ≤ k
noncomputable def toldR (ok : Bool) (t : Tr) : Option Tr := if (ok && okT t) = true then some t else none

set_option maxRecDepth 100000 in
theorem num_ct (n : Int) (w : World) : Calls Try.prog 100 #[.int .i64 n] w fun e w' => e = .returned (x5 3 n ⟨#[]⟩ (.slice none 0 0) (.slice none 0 0)).val ∧ Chg No w w' := by
  refine enter Try.func100 rfl rfl rfl ?_
  have F0 := Fr.start w
  refine Cod.seq fun K1 hK1 => ?_
  refine Cod.region ?_
  refine Ops.step (One.alloc F0 zero31 rfl rfl rfl rfl ?_)
  intro b1 w1 hb1 F1
  change Fr _ _ [blk _ _ [_, _, _, _, _]] _ at F1
  refine Ops.nil fun a hS => ?_
  refine hK1 _ _ ?_ a hS
  refine Cod.seq fun K2 hK2 => ?_
  refine Cod.region ?_
  refine Ops.step (One.val rfl rfl rfl (yld_move rfl (ev_t rfl)) ?_)
  refine Ops.step (One.val rfl rfl rfl (yld_build (cells := [.int .i64 3, .int .i64 n, .string ⟨#[]⟩, .slice none 0 0, .slice none 0 0]) rfl (evp2 ev_c (ev_t rfl)) (by kernel_rfl)) ?_)
  refine Ops.step (One.storeN (vs := [_, _, _, _, _]) F1 0 rfl sz31 rfl rfl rfl (ev_t rfl) (ev_t rfl) rfl rfl rfl ?_)
  intro w2 F2
  change Fr _ _ [blk _ _ [_, _, _, _, _]] _ at F2
  refine Ops.nil fun a hS => ?_
  refine hK2 _ _ ?_ a hS
  refine Cod.ret fun a hS => ?_
  try simp only [Exit.then, Exit.inBlock]
  exact retc (t := 2) (ty := 31) rfl hS ag31 rfl (F2.range (m := 5) (cs' := [_, _, _, _, _]) 0 rfl rfl) rfl ⟨rfl, F2.chg⟩

set_option maxRecDepth 100000 in
theorem str_ct (n : ByteArray) (w : World) : Calls Try.prog 101 #[.string n] w fun e w' => e = .returned (x5 4 0 n (.slice none 0 0) (.slice none 0 0)).val ∧ Chg No w w' := by
  refine enter Try.func101 rfl rfl rfl ?_
  have F0 := Fr.start w
  refine Cod.seq fun K1 hK1 => ?_
  refine Cod.region ?_
  refine Ops.step (One.alloc F0 zero31 rfl rfl rfl rfl ?_)
  intro b1 w1 hb1 F1
  change Fr _ _ [blk _ _ [_, _, _, _, _]] _ at F1
  refine Ops.nil fun a hS => ?_
  refine hK1 _ _ ?_ a hS
  refine Cod.seq fun K2 hK2 => ?_
  refine Cod.region ?_
  refine Ops.step (One.val rfl rfl rfl (yld_move rfl (ev_t rfl)) ?_)
  refine Ops.step (One.val rfl rfl rfl (yld_build (cells := [.int .i64 4, .int .i64 0, .string n, .slice none 0 0, .slice none 0 0]) rfl (evp2 ev_c (ev_t rfl)) (by kernel_rfl)) ?_)
  refine Ops.step (One.storeN (vs := [_, _, _, _, _]) F1 0 rfl sz31 rfl rfl rfl (ev_t rfl) (ev_t rfl) rfl rfl rfl ?_)
  intro w2 F2
  change Fr _ _ [blk _ _ [_, _, _, _, _]] _ at F2
  refine Ops.nil fun a hS => ?_
  refine hK2 _ _ ?_ a hS
  refine Cod.ret fun a hS => ?_
  try simp only [Exit.then, Exit.inBlock]
  exact retc (t := 2) (ty := 31) rfl hS ag31 rfl (F2.range (m := 5) (cs' := [_, _, _, _, _]) 0 rfl rfl) rfl ⟨rfl, F2.chg⟩

set_option maxRecDepth 100000 in
theorem row_ct (v : Value) (w : World) (hv : ∃ A m c, v = .slice A m c) : Calls Try.prog 88 #[v] w fun e w' => e = .returned (x5 5 0 ⟨#[]⟩ (.slice none 0 0) v).val ∧ Chg No w w' := by
  refine enter Try.func88 rfl rfl rfl ?_
  have F0 := Fr.start w
  refine Cod.seq fun K1 hK1 => ?_
  refine Cod.region ?_
  refine Ops.step (One.alloc F0 zero31 rfl rfl rfl rfl ?_)
  intro b1 w1 hb1 F1
  change Fr _ _ [blk _ _ [_, _, _, _, _]] _ at F1
  refine Ops.nil fun a hS => ?_
  refine hK1 _ _ ?_ a hS
  refine Cod.seq fun K2 hK2 => ?_
  refine Cod.region ?_
  refine Ops.step (One.val rfl rfl rfl (yld_move rfl (ev_t rfl)) ?_)
  refine Ops.step (One.val rfl rfl rfl (yld_build (cells := [.int .i64 5, .int .i64 0, .string ⟨#[]⟩, .slice none 0 0, v]) rfl (evp2 ev_c (ev_t rfl)) (built_list hv)) ?_)
  refine Ops.step (One.storeN (vs := [_, _, _, _, _]) F1 0 rfl sz31 rfl rfl rfl (ev_t rfl) (ev_t rfl) rfl rfl (by obtain ⟨A, m, c, rfl⟩ := hv; rfl) ?_)
  intro w2 F2
  change Fr _ _ [blk _ _ [_, _, _, _, _]] _ at F2
  refine Ops.nil fun a hS => ?_
  refine hK2 _ _ ?_ a hS
  refine Cod.ret fun a hS => ?_
  try simp only [Exit.then, Exit.inBlock]
  exact retc (t := 2) (ty := 31) rfl hS ag31 rfl (F2.range (m := 5) (cs' := [_, _, _, _, _]) 0 rfl rfl) rfl ⟨rfl, F2.chg⟩

set_option maxRecDepth 100000 in
theorem l4Of_ct (v : Value) (w : World) (hv : ∃ A m c, v = .slice A m c) : Calls Try.prog 92 #[v] w fun e w' => e = .returned (x5 5 0 ⟨#[]⟩ (.slice none 0 0) v).val ∧ Chg No w w' := by
  refine enter Try.func92 rfl rfl rfl ?_
  have F0 := Fr.start w
  refine Cod.seq fun K1 hK1 => ?_
  refine Cod.region ?_
  refine Ops.step (One.alloc F0 zero31 rfl rfl rfl rfl ?_)
  intro b1 w1 hb1 F1
  change Fr _ _ [blk _ _ [_, _, _, _, _]] _ at F1
  refine Ops.nil fun a hS => ?_
  refine hK1 _ _ ?_ a hS
  refine Cod.seq fun K2 hK2 => ?_
  refine Cod.region ?_
  refine Ops.step (One.val rfl rfl rfl (yld_move rfl (ev_t rfl)) ?_)
  refine Ops.step (One.val rfl rfl rfl (yld_build (cells := [.int .i64 5, .int .i64 0, .string ⟨#[]⟩, .slice none 0 0, v]) rfl (evp2 ev_c (ev_t rfl)) (built_list hv)) ?_)
  refine Ops.step (One.storeN (vs := [_, _, _, _, _]) F1 0 rfl sz31 rfl rfl rfl (ev_t rfl) (ev_t rfl) rfl rfl (by obtain ⟨A, m, c, rfl⟩ := hv; rfl) ?_)
  intro w2 F2
  change Fr _ _ [blk _ _ [_, _, _, _, _]] _ at F2
  refine Ops.nil fun a hS => ?_
  refine hK2 _ _ ?_ a hS
  refine Cod.ret fun a hS => ?_
  try simp only [Exit.then, Exit.inBlock]
  exact retc (t := 2) (ty := 31) rfl hS ag31 rfl (F2.range (m := 5) (cs' := [_, _, _, _, _]) 0 rfl rfl) rfl ⟨rfl, F2.chg⟩

set_option maxRecDepth 100000 in
theorem told_ct (t : Tr) (ok : Bool) (v : Value) (w : World) (hr : Rep Any w t v) (hf : t.Fit) (hw : t.wt ≤ 1048576) : Calls Try.prog 70 #[v, .bool ok] w (Gives w (toldR ok t)) := by
  obtain ⟨v3, v4, ev, -, -⟩ := hr.form
  subst ev
  refine enter Try.func70 rfl rfl rfl ?_
  have F0 := Fr.start w
  refine Cod.seq fun K1 hK1 => ?_
  refine Cod.region ?_
  refine Ops.step (One.box F0 rfl rfl rfl rfl (ev_t rfl) ?_)
  intro b1 w1 hb1 F1
  change Fr _ _ [blk _ _ [_, _, _, _, _]] _ at F1
  refine Ops.step (One.alloc F1 zero31 rfl rfl rfl rfl ?_)
  intro b2 w2 hb2 F2
  change Fr _ _ [blk _ _ [_, _, _, _, _], blk _ _ [_, _, _, _, _]] _ at F2
  refine Ops.step (One.val rfl rfl rfl (yld_assign rfl ev_c) ?_)
  refine Ops.nil fun a hS => ?_
  refine hK1 _ _ ?_ a hS
  refine Cod.seq fun K2 hK2 => ?_
  refine Cod.seq fun K3 hK3 => ?_
  refine Cod.region ?_
  refine Ops.step (One.val rfl rfl rfl (yld_move rfl (ev_t rfl)) ?_)
  refine Ops.step (One.val rfl rfl rfl (yld_not rfl (ev_t rfl)) ?_)
  refine Ops.step (One.val rfl rfl rfl (yld_move rfl (ev_t rfl)) ?_)
  refine Ops.step (One.val (gd_some rfl rfl) rfl rfl (yld_loadN ag31 rfl (ev_t rfl) (fun _ => F2.range (m := 5) (cs' := [_, _, _, _, _]) 1 rfl rfl) rfl) ?_)
  refine Ops.step (One.gcall (R := Chg No w2) (gd_some rfl rfl) rfl rfl (ent_f rfl (evl1 (ev_g rfl)) (enters en43)) (Chg.refl _ _) (fun hg => valOk_ct t _ _ (hr.chg F2.chg) hf) ?_)
  intro w3 C3
  have F3 := F2.call C3
  refine Ops.step (One.val (gd_some rfl rfl) rfl rfl (yld_not rfl (ev_g rfl)) ?_)
  refine Ops.step (One.val rfl rfl rfl (yld_or rfl (ev_t rfl) (ev_g rfl)) ?_)
  refine Ops.nil fun a hS => ?_
  refine hK3 _ _ ?_ a hS
  refine Cod.cond rfl (fun hc12 => ?_) (fun hc12 => ?_)
  · skip
    have hno : toldR ok t = none := by
      have hc : (!ok || !(okT t)) = true := hc12
      unfold toldR
      cases ok <;> cases h1 : okT t <;> simp [h1] at hc ⊢
    refine Cod.seq fun K4 hK4 => ?_
    refine Cod.region ?_
    refine Ops.step (One.val rfl rfl rfl (yld_build (cells := [.int .i64 0, .int .i64 0, .string ⟨#[]⟩, .slice none 0 0, .slice none 0 0]) rfl (evp0) (by kernel_rfl)) ?_)
    refine Ops.step (One.storeN (vs := [_, _, _, _, _]) F3 0 rfl sz31 rfl rfl rfl (ev_t rfl) (ev_t rfl) rfl rfl rfl ?_)
    intro w4 F4
    change Fr _ _ [blk _ _ [_, _, _, _, _], blk _ _ [_, _, _, _, _]] _ at F4
    refine Ops.step (One.val rfl rfl rfl (yld_assign rfl ev_c) ?_)
    refine Ops.nil fun a hS => ?_
    refine hK4 _ _ ?_ a hS
    refine Cod.ret fun a hS => ?_
    try simp only [Exit.then, Exit.inBlock]
    exact retct (t := 4) (u := 5) (ty := 31) rfl hS ag31 rfl rfl (F4.range (m := 5) (cs' := [_, _, _, _, _]) 0 rfl rfl) rfl ⟨z5, No, by rw [hno]; rfl, F4.chg, by rw [hno]; exact sep_leaf _ 0 0 ⟨#[]⟩, fun k hk => hk.elim⟩
  · skip
    have hyes : toldR ok t = some t := by
      have hc : (!ok || !(okT t)) = false := hc12
      unfold toldR
      cases ok <;> cases h1 : okT t <;> simp [h1] at hc ⊢
    refine Cod.skip fun a hS => ?_
    refine hK2 _ _ ?_ a hS
    refine Cod.seq fun K5 hK5 => ?_
    refine Cod.region ?_
    refine Ops.step (One.val rfl rfl rfl (yld_loadN ag31 rfl (ev_t rfl) (fun _ => F3.range (m := 5) (cs' := [_, _, _, _, _]) 1 rfl rfl) rfl) ?_)
    refine Ops.step (One.call rfl rfl rfl (ent_f rfl (evl1 (ev_t rfl)) (enters en119)) (clone_ct t _ _ (hr.chg F3.chg) hw) (fun e w5 hw5 => ?_))
    obtain ⟨x1, G1, rfl, C5, hs1, hb1⟩ := hw5
    have F5 := F3.new C5 (sep G1 t x1.val) hs1 hb1
    refine ⟨_, rfl, ?_⟩
    refine Ops.step (One.storeN (vs := [_, _, _, _, _]) F5 1 rfl sz31 rfl rfl rfl (ev_t rfl) (ev_t rfl) rfl rfl hs1.one ?_)
    intro w6 F6
    change Fr _ _ [_, blk _ _ [_, _, _, _, _], blk _ _ [_, _, _, _, _]] _ at F6
    refine Ops.step (One.val rfl rfl rfl (yld_assign rfl ev_c) ?_)
    refine Ops.nil fun a hS => ?_
    refine hK5 _ _ ?_ a hS
    refine Cod.ret fun a hS => ?_
    try simp only [Exit.then, Exit.inBlock]
    exact retct (t := 4) (u := 5) (ty := 31) rfl hS ag31 rfl rfl (F6.range (m := 5) (cs' := [_, _, _, _, _]) 1 rfl rfl) rfl ⟨x1, G1, by rw [hyes]; rfl, F6.chg, by rw [hyes]; exact F6.get 0 rfl, fun b hb => (F6.dom _ (List.mem_of_getElem? (i := 0) rfl) b hb).resolve_left id⟩

set_option maxRecDepth 100000 in
theorem l2Told_ct (t : Tr) (v : Value) (w : World) (hr : Rep Any w t v) (hf : t.Fit) (hw : t.wt ≤ 1048576) : Calls Try.prog 91 #[v] w (Gives w (toldR true t)) := by
  obtain ⟨v3, v4, ev, -, -⟩ := hr.form
  subst ev
  refine enter Try.func91 rfl rfl rfl ?_
  have F0 := Fr.start w
  refine Cod.seq fun K1 hK1 => ?_
  refine Cod.region ?_
  refine Ops.step (One.box F0 rfl rfl rfl rfl (ev_t rfl) ?_)
  intro b1 w1 hb1 F1
  change Fr _ _ [blk _ _ [_, _, _, _, _]] _ at F1
  refine Ops.step (One.alloc F1 zero31 rfl rfl rfl rfl ?_)
  intro b2 w2 hb2 F2
  change Fr _ _ [blk _ _ [_, _, _, _, _], blk _ _ [_, _, _, _, _]] _ at F2
  refine Ops.step (One.val rfl rfl rfl (yld_assign rfl ev_c) ?_)
  refine Ops.nil fun a hS => ?_
  refine hK1 _ _ ?_ a hS
  refine Cod.seq fun K2 hK2 => ?_
  refine Cod.seq fun K3 hK3 => ?_
  refine Cod.region ?_
  refine Ops.step (One.val rfl rfl rfl (yld_loadN ag31 rfl (ev_t rfl) (fun _ => F2.range (m := 5) (cs' := [_, _, _, _, _]) 1 rfl rfl) rfl) ?_)
  refine Ops.step (One.call rfl rfl rfl (ent_f rfl (evl1 (ev_t rfl)) (enters en42)) (specOk_ct t _ _ (hr.chg F2.chg) hf hw) (fun e w3 hw3 => ?_))
  obtain ⟨rfl, C3⟩ := hw3
  have F3 := F2.call C3
  refine ⟨_, rfl, ?_⟩
  refine Ops.step (One.val rfl rfl rfl (yld_not rfl (ev_t rfl)) ?_)
  refine Ops.nil fun a hS => ?_
  refine hK3 _ _ ?_ a hS
  refine Cod.cond rfl (fun hc6 => ?_) (fun hc6 => ?_)
  · skip
    have hno : toldR true t = none := by
      have hc : (!(okT t)) = true := hc6
      unfold toldR
      cases h1 : okT t <;> simp [h1] at hc ⊢
    refine Cod.seq fun K4 hK4 => ?_
    refine Cod.region ?_
    refine Ops.step (One.val rfl rfl rfl (yld_build (cells := [.int .i64 0, .int .i64 0, .string ⟨#[]⟩, .slice none 0 0, .slice none 0 0]) rfl (evp0) (by kernel_rfl)) ?_)
    refine Ops.step (One.storeN (vs := [_, _, _, _, _]) F3 0 rfl sz31 rfl rfl rfl (ev_t rfl) (ev_t rfl) rfl rfl rfl ?_)
    intro w4 F4
    change Fr _ _ [blk _ _ [_, _, _, _, _], blk _ _ [_, _, _, _, _]] _ at F4
    refine Ops.step (One.val rfl rfl rfl (yld_assign rfl ev_c) ?_)
    refine Ops.nil fun a hS => ?_
    refine hK4 _ _ ?_ a hS
    refine Cod.ret fun a hS => ?_
    try simp only [Exit.then, Exit.inBlock]
    exact retct (t := 2) (u := 3) (ty := 31) rfl hS ag31 rfl rfl (F4.range (m := 5) (cs' := [_, _, _, _, _]) 0 rfl rfl) rfl ⟨z5, No, by rw [hno]; rfl, F4.chg, by rw [hno]; exact sep_leaf _ 0 0 ⟨#[]⟩, fun k hk => hk.elim⟩
  · skip
    have hyes : toldR true t = some t := by
      have hc : (!(okT t)) = false := hc6
      unfold toldR
      cases h1 : okT t <;> simp [h1] at hc ⊢
    refine Cod.skip fun a hS => ?_
    refine hK2 _ _ ?_ a hS
    refine Cod.seq fun K5 hK5 => ?_
    refine Cod.region ?_
    refine Ops.step (One.val rfl rfl rfl (yld_loadN ag31 rfl (ev_t rfl) (fun _ => F3.range (m := 5) (cs' := [_, _, _, _, _]) 1 rfl rfl) rfl) ?_)
    refine Ops.step (One.call rfl rfl rfl (ent_f rfl (evl1 (ev_t rfl)) (enters en73)) (l1Copy_ct t _ _ (hr.chg F3.chg) hw) (fun e w5 hw5 => ?_))
    obtain ⟨x1, G1, rfl, C5, hs1, hb1⟩ := hw5
    have F5 := F3.new C5 (sep G1 t x1.val) hs1 hb1
    refine ⟨_, rfl, ?_⟩
    refine Ops.step (One.storeN (vs := [_, _, _, _, _]) F5 1 rfl sz31 rfl rfl rfl (ev_t rfl) (ev_t rfl) rfl rfl hs1.one ?_)
    intro w6 F6
    change Fr _ _ [_, blk _ _ [_, _, _, _, _], blk _ _ [_, _, _, _, _]] _ at F6
    refine Ops.step (One.val rfl rfl rfl (yld_assign rfl ev_c) ?_)
    refine Ops.nil fun a hS => ?_
    refine hK5 _ _ ?_ a hS
    refine Cod.ret fun a hS => ?_
    try simp only [Exit.then, Exit.inBlock]
    exact retct (t := 2) (u := 3) (ty := 31) rfl hS ag31 rfl rfl (F6.range (m := 5) (cs' := [_, _, _, _, _]) 1 rfl rfl) rfl ⟨x1, G1, by rw [hyes]; rfl, F6.chg, by rw [hyes]; exact F6.get 0 rfl, fun b hb => (F6.dom _ (List.mem_of_getElem? (i := 0) rfl) b hb).resolve_left id⟩

end Go.Proofs.Ytodbflfelimppaa.Eng
