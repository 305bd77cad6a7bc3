/- FnExactFiltAlike returns true for all filters: where they are small enough to be looked at, the program's FiltAlike and the reference's answer alike, and the program leaves its arguments as they were. No condition. -/
import Derived.Test.YtnfpclfnbcdgbaaFilt
import Derived.Test.YtnfpclfnbcdgbaaArgF
import Derived.Test.YtnfpclfnbcdgbaaRows
namespace Go.Proofs.Ytnfpclfnbcdgbaa.Eng
open Go.RowKit Go.ChangeShapes Go.WideShapes Go.ChangeAt
set_option linter.unusedVariables false
set_option linter.unusedSimpArgs false
set_option linter.constructorNameAsVariable false
namespace LFiltAlike

set_option maxRecDepth 100000 in
theorem walk (ta tb : Fl) (va vb : Value) (w : World) (ha : RepF Any w ta va) (hb : RepF Any w tb vb) (fa : ta.Fit) (fb : tb.Fit) :
    Calls Try.prog 11 #[va, vb] w fun e w' => e = .returned (.bool true) ∧ Chg No w w' := by
  obtain ⟨ak, an, as', ay, a4, ea⟩ := ha.form
  obtain ⟨bk, bn, bs', bby, b4, eb⟩ := hb.form
  subst ea
  subst eb
  refine enter Try.func11 rfl rfl rfl ?_
  have F0 := Fr.start w
  refine Cod.seq fun K1 hK1 => ?_
  refine Cod.region ?_
  refine Ops.step (One.box F0 rfl rfl rfl rfl (ev_t rfl) ?_)
  intro b1 w1 hb1 F1
  change Fr _ _ [blk _ _ [_, _, _, _, _, _, _, _, _]] _ at F1
  refine Ops.step (One.box F1 rfl rfl rfl rfl (ev_t rfl) ?_)
  intro b2 w2 hb2 F2
  change Fr _ _ [blk _ _ [_, _, _, _, _, _, _, _, _], blk _ _ [_, _, _, _, _, _, _, _, _]] _ at F2
  refine Ops.step (One.val rfl rfl rfl (yld_assign rfl ev_c) ?_)
  refine Ops.nil fun a hS => ?_
  refine hK1 _ _ ?_ a hS
  refine Cod.seq fun K2 hK2 => ?_
  refine Cod.region ?_
  refine Ops.step (One.val rfl rfl rfl (yld_assign rfl ev_c) ?_)
  refine Ops.nil fun a hS => ?_
  refine hK2 _ _ ?_ a hS
  refine Cod.seq fun K3 hK3 => ?_
  refine Cod.region ?_
  refine Ops.step (One.val rfl rfl rfl (yld_loadN ag55 rfl (ev_t rfl) (fun _ => F2.range (m := 9) (cs' := [_, _, _, _, _, _, _, _, _]) 1 rfl rfl) rfl) ?_)
  refine Ops.step (One.val rfl rfl rfl (yld_move rfl (ev_t rfl)) ?_)
  refine Ops.step (One.call rfl rfl rfl (ent_f rfl (evl2 (ev_t rfl) (ev_t rfl)) (enters en38)) (szFilt_ct ta _ _ _ (ha.chg F2.chg) (by omega) (by omega) fa) (fun e w3 hw3 => ?_))
  obtain ⟨rfl, C3⟩ := hw3
  have F3 := F2.call C3
  refine ⟨_, rfl, ?_⟩
  refine Ops.step (One.val rfl rfl rfl (yld_assign rfl (ev_t rfl)) ?_)
  refine Ops.nil fun a hS => ?_
  refine hK3 _ _ ?_ a hS
  refine Cod.seq fun K4 hK4 => ?_
  refine Cod.seq fun K5 hK5 => ?_
  refine Cod.region ?_
  refine Ops.step (One.val rfl rfl rfl (yld_move rfl (ev_t rfl)) ?_)
  refine Ops.step (One.val rfl rfl rfl (yld_lss rfl (ev_t rfl) ev_c) ?_)
  refine Ops.nil fun a hS => ?_
  refine hK5 _ _ ?_ a hS
  refine Cod.cond rfl (fun hc14 => ?_) (fun hc14 => ?_)
  · skip
    skip
    refine Cod.seq fun K6 hK6 => ?_
    refine Cod.region ?_
    refine Ops.step (One.val rfl rfl rfl (yld_assign rfl ev_c) ?_)
    refine Ops.nil fun a hS => ?_
    refine hK6 _ _ ?_ a hS
    refine Cod.ret fun a hS => ?_
    try simp only [Exit.then, Exit.inBlock]
    exact ret1 (t := 4) rfl hS rfl ⟨rfl, F3.chg⟩
  · skip
    obtain ⟨he, hge⟩ := tk_ok (by omega) hc14
    rw [he]
    refine Cod.skip fun a hS => ?_
    refine hK4 _ _ ?_ a hS
    refine Cod.seq fun K7 hK7 => ?_
    refine Cod.region ?_
    refine Ops.step (One.val rfl rfl rfl (yld_loadN ag55 rfl (ev_t rfl) (fun _ => F3.range (m := 9) (cs' := [_, _, _, _, _, _, _, _, _]) 0 rfl rfl) rfl) ?_)
    refine Ops.step (One.val rfl rfl rfl (yld_move rfl (ev_t rfl)) ?_)
    refine Ops.step (One.call rfl rfl rfl (ent_f rfl (evl2 (ev_t rfl) (ev_t rfl)) (enters en38)) (szFilt_ct tb _ _ _ (hb.chg F3.chg) (by omega) (by omega) fb) (fun e w4 hw4 => ?_))
    obtain ⟨rfl, C4⟩ := hw4
    have F4 := F3.call C4
    refine ⟨_, rfl, ?_⟩
    refine Ops.step (One.val rfl rfl rfl (yld_assign rfl (ev_t rfl)) ?_)
    refine Ops.nil fun a hS => ?_
    refine hK7 _ _ ?_ a hS
    refine Cod.seq fun K8 hK8 => ?_
    refine Cod.seq fun K9 hK9 => ?_
    refine Cod.region ?_
    refine Ops.step (One.val rfl rfl rfl (yld_move rfl (ev_t rfl)) ?_)
    refine Ops.step (One.val rfl rfl rfl (yld_lss rfl (ev_t rfl) ev_c) ?_)
    refine Ops.nil fun a hS => ?_
    refine hK9 _ _ ?_ a hS
    refine Cod.cond rfl (fun hc19 => ?_) (fun hc19 => ?_)
    · skip
      skip
      refine Cod.seq fun K10 hK10 => ?_
      refine Cod.region ?_
      refine Ops.step (One.val rfl rfl rfl (yld_assign rfl ev_c) ?_)
      refine Ops.nil fun a hS => ?_
      refine hK10 _ _ ?_ a hS
      refine Cod.ret fun a hS => ?_
      try simp only [Exit.then, Exit.inBlock]
      exact ret1 (t := 4) rfl hS rfl ⟨rfl, F4.chg⟩
    · skip
      obtain ⟨he2, hge2⟩ := tk_ok (by omega) hc19
      refine Cod.skip fun a hS => ?_
      refine hK8 _ _ ?_ a hS
      refine Cod.seq fun K11 hK11 => ?_
      have F5 := F4.drew
      refine Cod.draw (C_of F5) (by kernel_rfl) ?_
      refine Hops.take 0 rfl (by kernel_rfl) (fun _ _ _ h => h) rfl rfl rfl F5 (fun w F => (yld_loadN ag55 rfl (ev_t rfl) (fun _ => F.range (m := 9) (cs' := [_, _, _, _, _, _, _, _, _]) 1 rfl rfl) rfl)) ?_
      refine Hops.take 2 rfl (by kernel_rfl) (fun _ _ _ h => h) rfl rfl rfl F5 (fun w F => (yld_loadN ag55 rfl (ev_t rfl) (fun _ => F.range (m := 9) (cs' := [_, _, _, _, _, _, _, _, _]) 0 rfl rfl) rfl)) ?_
      refine Hops.one 1 rfl (by kernel_rfl) (One.call rfl rfl rfl (ent_f rfl (evl1 (ev_t rfl)) (enters en40)) (toFilt_ct ta _ _ (ha.chg F5.chg) (by omega)) (fun e w5 hw5 => ?_))
      obtain ⟨x1, G1, rfl, C5, hs1, hb1⟩ := hw5
      have F6 := F5.new C5 (repF G1 ta x1.val) hs1 hb1
      refine ⟨_, rfl, ?_⟩
      refine ⟨F6.drop1, ?_⟩
      refine Hops.one 3 rfl (by kernel_rfl) (One.call rfl rfl rfl (ent_f rfl (evl1 (ev_t rfl)) (enters en40)) (toFilt_ct tb _ _ (hb.chg F6.chg) (by omega)) (fun e w6 hw6 => ?_))
      obtain ⟨x2, G2, rfl, C6, hs2, hb2⟩ := hw6
      have F7 := F6.new C6 (repF G2 tb x2.val) hs2 hb2
      refine ⟨_, rfl, ?_⟩
      refine ⟨(F7.erase 1).drop1, ?_⟩
      refine Hops.one 4 rfl (by kernel_rfl) (One.call rfl rfl rfl (ent_f rfl (evl2 (ev_t rfl) (ev_t rfl)) (enters en39)) (specAlike_ct ta tb _ _ _ ((F7.get 1 rfl).1.weak fun _ _ => trivial) ((F7.get 0 rfl).1.weak fun _ _ => trivial)) (fun e w7 hw7 => ?_))
      obtain ⟨rfl, C7⟩ := hw7
      have F8 := F7.call C7
      refine ⟨_, rfl, ?_⟩
      refine ⟨(F8.erase 1).drop1, ?_⟩
      refine Hops.one 5 rfl (by kernel_rfl) (One.val rfl rfl rfl (yld_assign rfl (ev_t rfl)) ?_)
      refine ⟨(F8.erase 1).drop1, ?_⟩
      refine Hops.nil (by kernel_rfl) fun a hS => ?_
      refine hK11 _ _ ?_ a hS
      refine Cod.seq fun K12 hK12 => ?_
      refine Cod.region ?_
      refine Ops.step (One.val rfl rfl rfl (yld_loadN ag55 rfl (ev_t rfl) (fun _ => F8.range (m := 9) (cs' := [_, _, _, _, _, _, _, _, _]) 3 rfl rfl) rfl) ?_)
      refine Ops.step (One.call rfl rfl rfl (ent_f rfl (evl1 (ev_t rfl)) (enters en40)) (toFilt_ct ta _ _ (ha.chg F8.chg) (by omega)) (fun e w8 hw8 => ?_))
      obtain ⟨x3, G3, rfl, C8, hs3, hb3⟩ := hw8
      have F9 := F8.new C8 (repF G3 ta x3.val) hs3 hb3
      refine ⟨_, rfl, ?_⟩
      refine Ops.step (One.alloc F9 zero60 rfl rfl rfl rfl ?_)
      intro b3 w9 hb3 F10
      change Fr _ _ [blk _ _ [_, _, _, _, _, _, _, _, _], _, _, _, blk _ _ [_, _, _, _, _, _, _, _, _], blk _ _ [_, _, _, _, _, _, _, _, _]] _ at F10
      refine Ops.step (One.storeN (vs := [_, _, _, _, _, _, _, _, _]) F10 0 rfl sz60 rfl rfl rfl (ev_t rfl) (ev_t rfl) rfl rfl hs3.1.cells ?_)
      intro w10 F11
      change Fr _ _ [blk _ _ [_, _, _, _, _, _, _, _, _], _, _, _, blk _ _ [_, _, _, _, _, _, _, _, _], blk _ _ [_, _, _, _, _, _, _, _, _]] _ at F11
      refine Ops.nil fun a hS => ?_
      refine hK12 _ _ ?_ a hS
      refine Cod.seq fun K13 hK13 => ?_
      refine Cod.region ?_
      refine Ops.step (One.val rfl rfl rfl (yld_loadN ag55 rfl (ev_t rfl) (fun _ => F11.range (m := 9) (cs' := [_, _, _, _, _, _, _, _, _]) 4 rfl rfl) rfl) ?_)
      refine Ops.step (One.call rfl rfl rfl (ent_f rfl (evl1 (ev_t rfl)) (enters en40)) (toFilt_ct tb _ _ (hb.chg F11.chg) (by omega)) (fun e w11 hw11 => ?_))
      obtain ⟨x4, G4, rfl, C11, hs4, hb4⟩ := hw11
      have F12 := F11.new C11 (repF G4 tb x4.val) hs4 hb4
      refine ⟨_, rfl, ?_⟩
      refine Ops.step (One.alloc F12 zero60 rfl rfl rfl rfl ?_)
      intro b4 w12 hb4 F13
      change Fr _ _ [blk _ _ [_, _, _, _, _, _, _, _, _], _, blk _ _ [_, _, _, _, _, _, _, _, _], _, _, _, blk _ _ [_, _, _, _, _, _, _, _, _], blk _ _ [_, _, _, _, _, _, _, _, _]] _ at F13
      refine Ops.step (One.storeN (vs := [_, _, _, _, _, _, _, _, _]) F13 0 rfl sz60 rfl rfl rfl (ev_t rfl) (ev_t rfl) rfl rfl hs4.1.cells ?_)
      intro w13 F14
      change Fr _ _ [blk _ _ [_, _, _, _, _, _, _, _, _], _, blk _ _ [_, _, _, _, _, _, _, _, _], _, _, _, blk _ _ [_, _, _, _, _, _, _, _, _], blk _ _ [_, _, _, _, _, _, _, _, _]] _ at F14
      refine Ops.nil fun a hS => ?_
      refine hK13 _ _ ?_ a hS
      refine Cod.seq fun K14 hK14 => ?_
      refine Cod.region ?_
      refine Ops.step (One.val rfl rfl rfl (yld_loadN ag60 rfl (ev_t rfl) (fun _ => F14.range (m := 9) (cs' := [_, _, _, _, _, _, _, _, _]) 2 rfl rfl) rfl) ?_)
      refine Ops.step (One.val rfl rfl rfl (yld_loadN ag60 rfl (ev_t rfl) (fun _ => F14.range (m := 9) (cs' := [_, _, _, _, _, _, _, _, _]) 0 rfl rfl) rfl) ?_)
      refine Ops.step (One.call rfl rfl rfl (ent_f rfl (evl2 (ev_t rfl) (ev_t rfl)) (enters en41)) (alike_ct ta tb _ _ _ ((F14.get 3 rfl).1.weak fun _ _ => trivial) ((F14.get 1 rfl).1.weak fun _ _ => trivial)) (fun e w14 hw14 => ?_))
      obtain ⟨rfl, C14⟩ := hw14
      have F15 := F14.call C14
      refine ⟨_, rfl, ?_⟩
      refine Ops.step (One.val rfl rfl rfl (yld_assign rfl (ev_t rfl)) ?_)
      refine Ops.nil fun a hS => ?_
      refine hK14 _ _ ?_ a hS
      refine Cod.seq fun K15 hK15 => ?_
      refine Cod.seq fun K16 hK16 => ?_
      refine Cod.region ?_
      refine Ops.step (One.val rfl rfl rfl (yld_move rfl (ev_t rfl)) ?_)
      refine Ops.step (One.val rfl rfl rfl (yld_move rfl (ev_t rfl)) ?_)
      refine Ops.step (One.val rfl rfl rfl (yld_bneq Try.underlying4 rfl (ev_t rfl) (ev_t rfl)) ?_)
      refine Ops.nil fun a hS => ?_
      refine hK16 _ _ ?_ a hS
      refine Cod.cond rfl (fun hc34 => ?_) (fun hc34 => ?_)
      · skip
        simp at hc34
      · skip
        refine Cod.skip fun a hS => ?_
        refine hK15 _ _ ?_ a hS
        refine Cod.seq fun K17 hK17 => ?_
        refine Cod.seq fun K18 hK18 => ?_
        have F16 := F15.drew
        refine Cod.draw (C_of F16) (by kernel_rfl) ?_
        refine Hops.take 0 rfl (by kernel_rfl) (fun _ _ _ h => h) rfl rfl rfl F16 (fun w F => (yld_loadN ag60 rfl (ev_t rfl) (fun _ => F.range (m := 9) (cs' := [_, _, _, _, _, _, _, _, _]) 2 rfl rfl) rfl)) ?_
        refine Hops.take 1 rfl (by kernel_rfl) (fun _ _ _ h => h) rfl rfl rfl F16 (fun w F => (yld_loadN ag55 rfl (ev_t rfl) (fun _ => F.range (m := 9) (cs' := [_, _, _, _, _, _, _, _, _]) 7 rfl rfl) rfl)) ?_
        refine Hops.one 2 rfl (by kernel_rfl) (One.call rfl rfl rfl (ent_f rfl (evl1 (ev_t rfl)) (enters en40)) (toFilt_ct ta _ _ (ha.chg F16.chg) (by omega)) (fun e w15 hw15 => ?_))
        obtain ⟨x5, G5, rfl, C15, hs5, hb5⟩ := hw15
        have F17 := F16.new C15 (repF G5 ta x5.val) hs5 hb5
        refine ⟨_, rfl, ?_⟩
        refine ⟨F17.drop1, ?_⟩
        refine Hops.one 3 rfl (by kernel_rfl) (One.call rfl rfl rfl (ent_f rfl (evl2 (ev_t rfl) (ev_t rfl)) (enters en42)) (eqFilt_ct ta ta _ _ _ ((F17.get 4 rfl).1.weak fun _ _ => trivial) ((F17.get 0 rfl).1.weak fun _ _ => trivial)) (fun e w16 hw16 => ?_))
        obtain ⟨rfl, C16⟩ := hw16
        have F18 := F17.call C16
        refine ⟨_, rfl, ?_⟩
        refine ⟨F18.drop1, ?_⟩
        refine Hops.take 4 rfl (by kernel_rfl) (fun _ _ _ h => h) rfl rfl rfl F18.drop1 (fun w F => (yld_not rfl (ev_t rfl))) ?_
        refine Hops.nil (by kernel_rfl) fun a hS => ?_
        refine hK18 _ _ ?_ a hS
        refine Cod.cond rfl (fun hc39 => ?_) (fun hc39 => ?_)
        · skip
          simp at hc39
        · skip
          refine Cod.skip fun a hS => ?_
          refine hK17 _ _ ?_ a hS
          refine Cod.seq fun K19 hK19 => ?_
          refine Cod.seq fun K20 hK20 => ?_
          have F19 := F18.drew
          refine Cod.draw (C_of F19) (by kernel_rfl) ?_
          refine Hops.take 0 rfl (by kernel_rfl) (fun _ _ _ h => h) rfl rfl rfl F19 (fun w F => (yld_loadN ag60 rfl (ev_t rfl) (fun _ => F.range (m := 9) (cs' := [_, _, _, _, _, _, _, _, _]) 1 rfl rfl) rfl)) ?_
          refine Hops.take 1 rfl (by kernel_rfl) (fun _ _ _ h => h) rfl rfl rfl F19 (fun w F => (yld_loadN ag55 rfl (ev_t rfl) (fun _ => F.range (m := 9) (cs' := [_, _, _, _, _, _, _, _, _]) 7 rfl rfl) rfl)) ?_
          refine Hops.one 2 rfl (by kernel_rfl) (One.call rfl rfl rfl (ent_f rfl (evl1 (ev_t rfl)) (enters en40)) (toFilt_ct tb _ _ (hb.chg F19.chg) (by omega)) (fun e w17 hw17 => ?_))
          obtain ⟨x6, G6, rfl, C17, hs6, hb6⟩ := hw17
          have F20 := F19.new C17 (repF G6 tb x6.val) hs6 hb6
          refine ⟨_, rfl, ?_⟩
          refine ⟨F20.drop1, ?_⟩
          refine Hops.one 3 rfl (by kernel_rfl) (One.call rfl rfl rfl (ent_f rfl (evl2 (ev_t rfl) (ev_t rfl)) (enters en42)) (eqFilt_ct tb tb _ _ _ ((F20.get 3 rfl).1.weak fun _ _ => trivial) ((F20.get 0 rfl).1.weak fun _ _ => trivial)) (fun e w18 hw18 => ?_))
          obtain ⟨rfl, C18⟩ := hw18
          have F21 := F20.call C18
          refine ⟨_, rfl, ?_⟩
          refine ⟨F21.drop1, ?_⟩
          refine Hops.take 4 rfl (by kernel_rfl) (fun _ _ _ h => h) rfl rfl rfl F21.drop1 (fun w F => (yld_not rfl (ev_t rfl))) ?_
          refine Hops.nil (by kernel_rfl) fun a hS => ?_
          refine hK20 _ _ ?_ a hS
          refine Cod.cond rfl (fun hc44 => ?_) (fun hc44 => ?_)
          · skip
            simp at hc44
          · skip
            refine Cod.skip fun a hS => ?_
            refine hK19 _ _ ?_ a hS
            refine Cod.seq fun K21 hK21 => ?_
            refine Cod.region ?_
            refine Ops.step (One.val rfl rfl rfl (yld_assign rfl ev_c) ?_)
            refine Ops.nil fun a hS => ?_
            refine hK21 _ _ ?_ a hS
            refine Cod.ret fun a hS => ?_
            try simp only [Exit.then, Exit.inBlock]
            exact ret1 (t := 4) rfl hS rfl ⟨rfl, F21.chg⟩


theorem ownKnob_none : ownKnob Try.prog.godebug = none := by kernel_rfl
theorem params_ok : ∀ t ∈ Try.f11.params.toList, Try.prog.readableRec t = true ∧ t < Try.prog.types.size := by
  rw [Try.params11]
  intro t ht
  simp only [List.mem_cons, List.not_mem_nil, or_false] at ht
  rcases ht with rfl | rfl <;> exact ⟨by kernel_rfl, of_decide_eq_true (by kernel_rfl)⟩
set_option maxRecDepth 100000 in
theorem lifted (os : Os) (started : os.Started) (H : Type) (enc : TypeId × Value → H) :
    ReturnsInHanded {} Try.checked os 11 .any (Rows.fnExactFiltAlikeSpec.pre6 enc Try.prog Try.f11 Rows.fnExactFiltAlikeRow.domain false) (Rows.fnExactFiltAlikeSpec.post enc Try.prog Try.f11 false true false false) := by
  refine returnsInHanded_of_change (C := Try.checked) ownKnob_none started (by kernel_rfl) Try.func11
    (ChangeSpec.witness6 (enc := enc) (C := Try.checked) false ⟨#[], #[.agg #[.int .i64 0, .int .i64 0, .string ⟨#[]⟩, .int .i64 0, .int .i64 0, .string ⟨#[]⟩, .slice none 0 0, .slice none 0 0, .slice none 0 0], .agg #[.int .i64 0, .int .i64 0, .string ⟨#[]⟩, .int .i64 0, .int .i64 0, .string ⟨#[]⟩, .slice none 0 0, .slice none 0 0, .slice none 0 0]], []⟩ 8 (by kernel_rfl) (by kernel_rfl) (by kernel_rfl) (by kernel_rfl)) ?_
  intro W base args ds gs before hval0 hW hcnd _
  have hval : ∀ (j : Nat) t v, Try.f11.params[j]? = some t → args[j]? = some v → Value.okWide Try.prog W .any base t v := hval0
  have hW' := hW
  obtain ⟨p, q, hA0, hV, rfl, hfz, hnd⟩ := hW
  have hA : DataW.TrodAll enc Try.prog W 0 (fun _ => true) true Try.f11.params.toList args.toList ds p := hA0
  rw [Try.params11] at hA hval
  obtain ⟨v0, v1, d0, d1, p0, p1, rfl, rfl, rfl, h0, h1⟩ := trodAll_two hA
  obtain ⟨rfl, rfl⟩ := trodVars_none hV
  obtain ⟨ta, ha, fa⟩ := open_filt h0
  obtain ⟨tb, hb, fb⟩ := open_filt h1
  refine (walk ta tb v0 v1 W ha hb fa fb).mono fun e W' ⟨he, hc⟩ => ?_
  subst he
  exact ⟨_, rfl, post_chg laidOut rfl params_ok hW' (fun _ _ _ => (trodAll_cons_mk (shut_bool Try.underlying4 _) trodAll_mk0)) rfl rfl hc (ok_one (by kernel_rfl) rfl (okWide_bool_mk Try.underlying4 _))⟩

theorem over : Rows.fnExactFiltAlikeRow.holds Try.pinned (OpenSpec.ofChange Rows.fnExactFiltAlikeSpec) :=
  OpenClaim.holds_of_wide 11 Try.f11 rfl rfl rfl rfl rfl rfl rfl ⟨rfl, rfl, rfl, rfl, rfl⟩ rfl rfl rfl rfl rfl (by kernel_rfl) Try.func11 (by kernel_rfl)
    (of_decide_eq_true (by kernel_rfl)) (by unfold Func.isWrapper; first | (rw [if_pos (by decide +kernel)]; kernel_rfl) | (rw [if_neg (by decide +kernel)]; exact ⟨rfl, rfl⟩))
    (fun os started H enc _ => lifted os started H enc)

/-- The statement. -/
theorem proved : Rows.FnExactFiltAlikeSaid := over
#print axioms proved

end LFiltAlike
end Go.Proofs.Ytnfpclfnbcdgbaa.Eng
