/- FnExactValText returns true for every tree: where it is small enough to be looked at, the program's ValText and the reference's answer alike, and the program leaves its argument as it was. The card: the library's tables read as the program's text lays them. No condition besides. -/
import Derived.Test.YtpfkcblhojkaiaaDoorVTxt
import Derived.Test.YtpfkcblhojkaiaaDoorSame
import Derived.Test.YtpfkcblhojkaiaaDoorLaiR
import Derived.Test.YtpfkcblhojkaiaaDoorCopy
import Derived.Test.YtpfkcblhojkaiaaDoorArg
import Derived.Test.YtpfkcblhojkaiaaDoorRows
import Derived.Test.YtpfkcblhojkaiaaDoorTie
import Derived.Test.YtpfkcblhojkaiaaDoorCards
namespace Go.Proofs.YtpfkcblhojkaiaaDoor.Eng
open Go.RowKit Go.ChangeShapes Go.WideShapes Go.ChangeAt
set_option linter.unusedVariables false
set_option linter.unusedSimpArgs false
set_option maxHeartbeats 1000000
set_option linter.constructorNameAsVariable false
namespace LValText

set_option maxRecDepth 100000 in
theorem walk (ta : Tr) (va : Value) (w : World) (ha : Rep Any w ta va) (fa : ta.Fit) (hT : PowTab w) :
    Calls Tryd.prog 7 #[va] w fun e w' => e = .returned (.bool true) ∧ Chg No w w' := by
  obtain ⟨a3, a4, ea, -, -⟩ := ha.form
  subst ea
  refine enter Tryd.func7 rfl rfl rfl ?_
  have F0 := Fr.start w
  refine Cod.seq fun K1 hK1 => ?_
  refine Cod.region ?_
  refine Ops.step (One.box F0 rfl rfl rfl rfl (ev_t rfl) ?_)
  intro b1 w1 hb1 F1
  change Fr _ _ [blk _ _ [_, _, _, _, _]] _ at F1
  refine Ops.step (One.val rfl rfl rfl (yld_assign rfl ev_c) ?_)
  refine Ops.nil fun a hS => ?_
  refine hK1 _ _ ?_ a hS
  refine Cod.seq fun K2 hK2 => ?_
  refine Cod.region ?_
  refine Ops.step (One.val rfl rfl rfl (yld_assign rfl ev_c) ?_)
  refine Ops.nil fun a hS => ?_
  refine hK2 _ _ ?_ a hS
  refine Cod.seq fun K3 hK3 => ?_
  refine Cod.region ?_
  refine Ops.step (One.val rfl rfl rfl (yld_loadN ag25 rfl (ev_t rfl) (fun _ => F1.range (m := 5) (cs' := [_, _, _, _, _]) 0 rfl rfl) rfl) ?_)
  refine Ops.step (One.val rfl rfl rfl (yld_move rfl (ev_t rfl)) ?_)
  refine Ops.step (One.call rfl rfl rfl (ent_f rfl (evl2 (ev_t rfl) (ev_t rfl)) (enters en26)) (szVal_ct ta _ _ _ (ha.chg F1.chg) (by omega) (by omega) fa) (fun e w2 hw2 => ?_))
  obtain ⟨rfl, C2⟩ := hw2
  have F2 := F1.call C2
  refine ⟨_, rfl, ?_⟩
  refine Ops.step (One.val rfl rfl rfl (yld_assign rfl (ev_t rfl)) ?_)
  refine Ops.nil fun a hS => ?_
  refine hK3 _ _ ?_ a hS
  refine Cod.seq fun K4 hK4 => ?_
  refine Cod.seq fun K5 hK5 => ?_
  refine Cod.region ?_
  refine Ops.step (One.val rfl rfl rfl (yld_move rfl (ev_t rfl)) ?_)
  refine Ops.step (One.val rfl rfl rfl (yld_lss rfl (ev_t rfl) ev_c) ?_)
  refine Ops.nil fun a hS => ?_
  refine hK5 _ _ ?_ a hS
  refine Cod.cond rfl (fun hc11 => ?_) (fun hc11 => ?_)
  · skip
    skip
    refine Cod.seq fun K6 hK6 => ?_
    refine Cod.region ?_
    refine Ops.step (One.val rfl rfl rfl (yld_assign rfl ev_c) ?_)
    refine Ops.nil fun a hS => ?_
    refine hK6 _ _ ?_ a hS
    refine Cod.ret fun a hS => ?_
    try simp only [Exit.then, Exit.inBlock]
    exact ret1 (t := 2) rfl hS rfl ⟨rfl, F2.chg⟩
  · skip
    obtain ⟨he, hge⟩ := tk_ok (by omega) hc11
    rw [he]
    have hwt : ta.wt ≤ 1048576 := by omega
    refine Cod.skip fun a hS => ?_
    refine hK4 _ _ ?_ a hS
    refine Cod.seq fun K7 hK7 => ?_
    refine Cod.region ?_
    refine Ops.step (One.val rfl rfl rfl (yld_loadN ag25 rfl (ev_t rfl) (fun _ => F2.range (m := 5) (cs' := [_, _, _, _, _]) 0 rfl rfl) rfl) ?_)
    refine Ops.step (One.call rfl rfl rfl (ent_f rfl (evl1 (ev_t rfl)) (enters en28)) (toVal_ct ta _ _ (ha.chg F2.chg) (by omega)) (fun e w3 hw3 => ?_))
    obtain ⟨x1, G1, rfl, C3, hs1, hb1⟩ := hw3
    have F3 := F2.new C3 (sep G1 ta x1.val) hs1 hb1
    refine ⟨_, rfl, ?_⟩
    refine Ops.step (One.call rfl rfl rfl (ent_f rfl (evl1 (ev_t rfl)) (enters en27)) (specText_ct ta _ _ (F3.get 0 rfl).rep fa hwt (hT.chg F3.chg)) (fun e w4 hw4 => ?_))
    obtain ⟨rfl, C4⟩ := hw4
    have F4 := F3.call C4
    refine ⟨_, rfl, ?_⟩
    refine Ops.step (One.val rfl rfl rfl (yld_assign rfl (ev_t rfl)) ?_)
    refine Ops.nil fun a hS => ?_
    refine hK7 _ _ ?_ a hS
    refine Cod.seq fun K8 hK8 => ?_
    refine Cod.region ?_
    refine Ops.step (One.val rfl rfl rfl (yld_loadN ag25 rfl (ev_t rfl) (fun _ => F4.range (m := 5) (cs' := [_, _, _, _, _]) 1 rfl rfl) rfl) ?_)
    refine Ops.step (One.call rfl rfl rfl (ent_f rfl (evl1 (ev_t rfl)) (enters en28)) (toVal_ct ta _ _ (ha.chg F4.chg) (by omega)) (fun e w5 hw5 => ?_))
    obtain ⟨x2, G2, rfl, C5, hs2, hb2⟩ := hw5
    have F5 := F4.new C5 (sep G2 ta x2.val) hs2 hb2
    refine ⟨_, rfl, ?_⟩
    refine Ops.step (One.alloc F5 zero33 rfl rfl rfl rfl ?_)
    intro b2 w6 hb2 F6
    change Fr _ _ [blk _ _ [_, _, _, _, _], _, _, blk _ _ [_, _, _, _, _]] _ at F6
    refine Ops.step (One.storeN (vs := [_, _, _, _, _]) F6 0 rfl sz33 rfl rfl rfl (ev_t rfl) (ev_t rfl) rfl rfl hs2.one ?_)
    intro w7 F7
    change Fr _ _ [blk _ _ [_, _, _, _, _], _, _, blk _ _ [_, _, _, _, _]] _ at F7
    refine Ops.nil fun a hS => ?_
    refine hK8 _ _ ?_ a hS
    refine Cod.seq fun K9 hK9 => ?_
    refine Cod.region ?_
    refine Ops.step (One.val rfl rfl rfl (yld_loadN ag33 rfl (ev_t rfl) (fun _ => F7.range (m := 5) (cs' := [_, _, _, _, _]) 0 rfl rfl) rfl) ?_)
    refine Ops.step (One.call rfl rfl rfl (ent_f rfl (evl1 (ev_t rfl)) (enters en29)) (valText_ct ta _ _ (F7.get 1 rfl).rep fa hwt (hT.chg F7.chg)) (fun e w8 hw8 => ?_))
    obtain ⟨rfl, C8⟩ := hw8
    have F8 := F7.call C8
    refine ⟨_, rfl, ?_⟩
    refine Ops.step (One.val rfl rfl rfl (yld_assign rfl (ev_t rfl)) ?_)
    refine Ops.nil fun a hS => ?_
    refine hK9 _ _ ?_ a hS
    refine Cod.seq fun K10 hK10 => ?_
    refine Cod.seq fun K11 hK11 => ?_
    refine Cod.region ?_
    refine Ops.step (One.val rfl rfl rfl (yld_move rfl (ev_t rfl)) ?_)
    refine Ops.step (One.val rfl rfl rfl (yld_move rfl (ev_t rfl)) ?_)
    refine Ops.step (One.val rfl rfl rfl (yld_sneq rfl (ev_t rfl) (ev_t rfl)) ?_)
    refine Ops.nil fun a hS => ?_
    refine hK11 _ _ ?_ a hS
    refine Cod.cond rfl (fun hc21 => ?_) (fun hc21 => ?_)
    · skip
      simp at hc21
    · skip
      refine Cod.skip fun a hS => ?_
      refine hK10 _ _ ?_ a hS
      refine Cod.seq fun K12 hK12 => ?_
      refine Cod.seq fun K13 hK13 => ?_
      have F9 := F8.drew
      refine Cod.draw (C_of F9) (by kernel_rfl) ?_
      refine Hops.take 0 rfl (by kernel_rfl) (fun _ _ _ h => h) rfl rfl rfl F9 (fun w F => (yld_loadN ag33 rfl (ev_t rfl) (fun _ => F.range (m := 5) (cs' := [_, _, _, _, _]) 0 rfl rfl) rfl)) ?_
      refine Hops.take 1 rfl (by kernel_rfl) (fun _ _ _ h => h) rfl rfl rfl F9 (fun w F => (yld_loadN ag25 rfl (ev_t rfl) (fun _ => F.range (m := 5) (cs' := [_, _, _, _, _]) 3 rfl rfl) rfl)) ?_
      refine Hops.one 2 rfl (by kernel_rfl) (One.call rfl rfl rfl (ent_f rfl (evl1 (ev_t rfl)) (enters en28)) (toVal_ct ta _ _ (ha.chg F9.chg) (by omega)) (fun e w9 hw9 => ?_))
      obtain ⟨x3, G3, rfl, C9, hs3, hb3⟩ := hw9
      have F10 := F9.new C9 (sep G3 ta x3.val) hs3 hb3
      refine ⟨_, rfl, ?_⟩
      refine ⟨F10.drop1, ?_⟩
      refine Hops.one 3 rfl (by kernel_rfl) (One.call rfl rfl rfl (ent_f rfl (evl2 (ev_t rfl) (ev_t rfl)) (enters en30)) (eqVal_ct ta ta _ _ _ (F10.get 2 rfl).rep (F10.get 0 rfl).rep) (fun e w10 hw10 => ?_))
      obtain ⟨rfl, C10⟩ := hw10
      have F11 := F10.call C10
      refine ⟨_, rfl, ?_⟩
      refine ⟨F11.drop1, ?_⟩
      refine Hops.take 4 rfl (by kernel_rfl) (fun _ _ _ h => h) rfl rfl rfl F11.drop1 (fun w F => (yld_not rfl (ev_t rfl))) ?_
      refine Hops.nil (by kernel_rfl) fun a hS => ?_
      refine hK13 _ _ ?_ a hS
      refine Cod.cond rfl (fun hc26 => ?_) (fun hc26 => ?_)
      · skip
        simp at hc26
      · skip
        refine Cod.skip fun a hS => ?_
        refine hK12 _ _ ?_ a hS
        refine Cod.seq fun K14 hK14 => ?_
        refine Cod.region ?_
        refine Ops.step (One.val rfl rfl rfl (yld_assign rfl ev_c) ?_)
        refine Ops.nil fun a hS => ?_
        refine hK14 _ _ ?_ a hS
        refine Cod.ret fun a hS => ?_
        try simp only [Exit.then, Exit.inBlock]
        exact ret1 (t := 2) rfl hS rfl ⟨rfl, F11.chg⟩


theorem ownKnob_none : ownKnob Tryd.prog.godebug = none := by kernel_rfl
theorem params_ok : ∀ t ∈ Tryd.f7.params.toList, Tryd.prog.readableRec t = true ∧ t < Tryd.prog.types.size := by
  rw [Tryd.params7]
  intro t ht
  simp only [List.mem_cons, List.not_mem_nil, or_false] at ht
  rcases ht with rfl <;> exact ⟨by kernel_rfl, of_decide_eq_true (by kernel_rfl)⟩
set_option maxRecDepth 100000 in
theorem lifted (os : Os) (started : os.Started) (H : Type) (enc : TypeId × Value → H) :
    ReturnsInHanded {} Tryd.checked os 7 .any (fun w args => (Rows.fnExactValTextSpec.pre enc Tryd.prog Tryd.f7 [] false w args ∧ laidMetH Tryd.prog Rows.fnExactValTextRow.laid w) ∧ sizedMet enc Tryd.prog Tryd.f7 (OpenSpec.ofChange Rows.fnExactValTextSpec) false w args)
      (Rows.fnExactValTextSpec.post enc Tryd.prog Tryd.f7 false true false false) := by
  refine returnsInHanded_of_change_and (C := Tryd.checked) (X := fun w _ => laidMetH Tryd.prog Rows.fnExactValTextRow.laid w) (fun _ _ _ hh h => h.of_heap hh) ownKnob_none started (by kernel_rfl) Tryd.func7
    (ChangeSpec.witness_shaped (enc := enc) (C := Tryd.checked) (os := os) (X := fun w _ => laidMetH Tryd.prog Rows.fnExactValTextRow.laid w) false (World.laidAll Tryd.prog os Rows.fnExactValTextRow.laid) #[.agg #[.int .i64 0, .int .i64 0, .string ⟨#[]⟩, .slice none 0 0, .slice none 0 0]] 8 (World.laidAll_os _ _ _)
      (World.shaped_of_ZipB (by kernel_rfl) (by kernel_rfl)) (by kernel_rfl) (by kernel_rfl) (by kernel_rfl)
      (by rw [MakeChecks.laidMetH_plain _ _ _ (by kernel_rfl)]; exact laidMet_laidAll _ (by kernel_rfl) (by kernel_rfl))) ?_
  intro W base args ds gs before hval0 hW _ _ hL _
  have hval : ∀ (j : Nat) t v, Tryd.f7.params[j]? = some t → args[j]? = some v → Value.okWide Tryd.prog W .any base t v := hval0
  have hW' := hW
  obtain ⟨p, q, hA0, hV, rfl, hfz, hnd⟩ := hW
  have hA : DataW.TrodAll enc Tryd.prog W 0 (fun _ => true) true Tryd.f7.params.toList args.toList ds p := hA0
  rw [Tryd.params7] at hA hval
  obtain ⟨v0, d0, rfl, rfl, h0⟩ := trodAll_one hA
  obtain ⟨rfl, rfl⟩ := trodVars_none hV
  rw [MakeChecks.laidMetH_plain _ _ _ (by kernel_rfl)] at hL
  obtain ⟨ps, ⟨g0, t0, cs0, f0, p0, q0, hg0, ht0, hv0, hd0, ⟨g1, t1, cs1, f1, p1, q1, hg1, ht1, hv1, hd1, ⟨g2, t2, cs2, f2, p2, q2, hg2, ht2, hv2, hd2, -, -⟩, -⟩, -⟩, -, -⟩ := hL
  have hT : PowTab W := powTab_of hg2 ht2 hv2 (by kernel_rfl) hd2
  obtain ⟨ta, ha, fa⟩ := open_tree h0
  refine (walk ta v0 W ha fa hT).mono fun e W' ⟨he, hc⟩ => ?_
  subst he
  skip
  exact ⟨_, rfl, post_chgV hW' (fun _ _ _ => (trodAll_cons_mk (shut_bool Tryd.underlying4 _) trodAll_mk0)) (args_stay laidOut hc _ _ _ _ params_ok hA0 (fun x hx => hW'.lt x (by simp [hx])) (fun x hx => by simpa using hW'.lt x (by simp [hx]))) (rfl : DataW.TrodVars enc Tryd.prog W' _ [] [] []) hc⟩

theorem over : Rows.fnExactValTextRow.holds Tryd.pinned (OpenSpec.ofChange Rows.fnExactValTextSpec) :=
  OpenClaim.holds_of_wide 7 Tryd.f7 rfl rfl rfl rfl rfl rfl rfl ⟨rfl, rfl, rfl, rfl, rfl⟩ rfl rfl rfl rfl rfl (by kernel_rfl) Tryd.func7 (by kernel_rfl)
    (of_decide_eq_true (by kernel_rfl)) (by unfold Func.isWrapper; first | (rw [if_pos (by decide +kernel)]; kernel_rfl) | (rw [if_neg (by decide +kernel)]; exact ⟨rfl, rfl⟩))
    (fun os started H enc _ => lifted os started H enc)

/-- The statement: the tied card. -/
theorem proved : Rows.FnExactValTextCardSaid :=
  Claim7.holds_tied_plain_at .later [] [.data, .data, .data] true (true, "268f5d2513eeebe425927c9dc9135bbdd009be8dcd699a379ca5ed5d5dfdc605") true over (fun _ h => by cases h) (by kernel_rfl) (fun _ h => by cases h) fnExactValText_row_tie rfl ⟨rfl, rfl⟩ (by kernel_rfl) rfl
    (fun f fn hf hfn => by
      obtain rfl : f = 7 := Option.some.inj ((show Tryd.prog.funcNamed "loop.example/cribble/laws.FnExactValText" = some 7 by kernel_rfl).symm.trans hf) |>.symm
      obtain rfl : fn = Tryd.f7 := (Option.some.inj (Tryd.func7.symm.trans hfn)).symm
      exact ⟨by kernel_rfl, fun j t ht => by
        rw [Tryd.params7] at ht
        have hm : t ∈ [25] := by simpa using Array.mem_of_getElem? ht
        have hall : ([25].all fun u => !Tryd.prog.wantsStandIn u) = true := by kernel_rfl
        exact (show Tryd.prog.wantsStandIn t = false by simpa using List.all_eq_true.1 hall t hm)⟩)
    (by kernel_rfl)
#print axioms proved

end LValText
end Go.Proofs.YtpfkcblhojkaiaaDoor.Eng
