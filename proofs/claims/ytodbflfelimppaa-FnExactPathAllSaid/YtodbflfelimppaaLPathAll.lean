/- FnExactPathAll returns true for every tree: where it is small enough to be looked at, the program's PathAll and the reference's answer alike, the program leaves its argument as it was, and what it gives shares nothing with it, nor with itself, nor with what it gives next. No condition. -/
import Derived.Test.YtodbflfelimppaaWays2
import Derived.Test.YtodbflfelimppaaHeld
import Derived.Test.YtodbflfelimppaaArg
import Derived.Test.YtodbflfelimppaaRows
namespace Go.Proofs.Ytodbflfelimppaa.Eng
open Go.RowKit Go.ChangeShapes Go.WideShapes Go.ChangeAt
set_option linter.unusedVariables false
set_option linter.unusedSimpArgs false
set_option maxHeartbeats 1000000
set_option linter.constructorNameAsVariable false
namespace LPathAll


theorem sepPR {w : World} {l : List (List Stp)} {v : Value} {xs : List Value} (h : (bun (sepP l v xs)).is w) (hl : xs.length = l.length) : RepPP Any w l v := by
  have h' : Mem (sepP l v xs) w := h
  exact sepP_rep (Mem.get 0 rfl h') (Mem.get 1 rfl h') hl
theorem rowsP_fp : ∀ {l l' : List (List Stp)} {xs : List Value} {k : Nat}, l.length = l'.length → (∃ r ∈ rowsP l xs, r.fp k) → ∃ r ∈ rowsP l' xs, r.fp k
  | [], _, _, _, _, h => by obtain ⟨r, hr, -⟩ := h; simp [rowsP] at hr
  | _ :: _, [], _, _, h, _ => by simp at h
  | _ :: _, _ :: _, [], _, _, h => by obtain ⟨r, hr, -⟩ := h; simp [rowsP] at hr
  | p :: l, p' :: l', x :: xs, k, hl, h => by
    obtain ⟨r, hr, hk⟩ := h
    rcases List.mem_cons.1 hr with rfl | hr
    · exact ⟨rowP p' x, by simp [rowsP], hk⟩
    · obtain ⟨r', hr', hk'⟩ := rowsP_fp (l := l) (l' := l') (xs := xs) (by simpa using hl) ⟨r, hr, hk⟩
      exact ⟨r', by simp [rowsP, hr'], hk'⟩
theorem sepP_fp {l l' : List (List Stp)} {v : Value} {xs : List Value} {k : Nat} (hl : l.length = l'.length) (h : (bun (sepP l v xs)).fp k) : (bun (sepP l' v xs)).fp k := by
  obtain ⟨r, hr, hk⟩ := h
  rcases (by simpa [sepP] using hr : r = _ ∨ r = _) with rfl | rfl
  · exact ⟨own 46 1 v xs.length (xs.flatMap vCells), by simp [sepP], hk⟩
  · exact ⟨bun (rowsP l' xs), by simp [sepP], rowsP_fp hl hk⟩

set_option maxRecDepth 100000 in
theorem walk (ta : Tr) (va : Value) (w : World) (ha : Rep Any w ta va) (fa : ta.Fit) :
    Calls Try.prog 3 #[va] w fun e w' => e = .returned (.bool true) ∧ Chg No w w' := by
  obtain ⟨a3, a4, ea, -, -⟩ := ha.form
  subst ea
  refine enter Try.func3 rfl rfl rfl ?_
  have F0 := Fr.start w
  refine Cod.seq fun K1 hK1 => ?_
  refine Cod.region ?_
  refine Ops.step (One.box F0 rfl rfl rfl rfl (ev_t rfl) ?_)
  intro b1 w1 hb1 F1
  change Fr _ _ [blk _ _ [_, _, _, _, _]] _ at F1
  refine Ops.step (One.val rfl rfl rfl (yld_assign rfl ev_c) ?_)
  refine Ops.nil fun a hS => ?_
  refine hK1 _ _ ?_ a hS
  refine Cod.seq fun K2 hK2 => ?_
  refine Cod.region ?_
  refine Ops.step (One.val rfl rfl rfl (yld_assign rfl ev_c) ?_)
  refine Ops.nil fun a hS => ?_
  refine hK2 _ _ ?_ a hS
  refine Cod.seq fun K3 hK3 => ?_
  refine Cod.region ?_
  refine Ops.step (One.val rfl rfl rfl (yld_loadN ag25 rfl (ev_t rfl) (fun _ => F1.range (m := 5) (cs' := [_, _, _, _, _]) 0 rfl rfl) rfl) ?_)
  refine Ops.step (One.val rfl rfl rfl (yld_move rfl (ev_t rfl)) ?_)
  refine Ops.step (One.call rfl rfl rfl (ent_f rfl (evl2 (ev_t rfl) (ev_t rfl)) (enters en10)) (szVal_ct ta _ _ _ (ha.chg F1.chg) (by omega) (by omega) fa) (fun e w2 hw2 => ?_))
  obtain ⟨rfl, C2⟩ := hw2
  have F2 := F1.call C2
  refine ⟨_, rfl, ?_⟩
  refine Ops.step (One.val rfl rfl rfl (yld_assign rfl (ev_t rfl)) ?_)
  refine Ops.nil fun a hS => ?_
  refine hK3 _ _ ?_ a hS
  refine Cod.seq fun K4 hK4 => ?_
  refine Cod.seq fun K5 hK5 => ?_
  refine Cod.region ?_
  refine Ops.step (One.val rfl rfl rfl (yld_move rfl (ev_t rfl)) ?_)
  refine Ops.step (One.val rfl rfl rfl (yld_lss rfl (ev_t rfl) ev_c) ?_)
  refine Ops.nil fun a hS => ?_
  refine hK5 _ _ ?_ a hS
  refine Cod.cond rfl (fun hc15 => ?_) (fun hc15 => ?_)
  · skip
    skip
    refine Cod.seq fun K6 hK6 => ?_
    refine Cod.region ?_
    refine Ops.step (One.val rfl rfl rfl (yld_assign rfl ev_c) ?_)
    refine Ops.nil fun a hS => ?_
    refine hK6 _ _ ?_ a hS
    refine Cod.ret fun a hS => ?_
    try simp only [Exit.then, Exit.inBlock]
    exact ret1 (t := 2) rfl hS rfl ⟨rfl, F2.chg⟩
  · skip
    obtain ⟨he, hge⟩ := tk_ok (by omega) hc15
    have hwt : ta.wt ≤ 1048576 := by omega
    have hmk1 := ta.mkn_list
    have hmw := waysR_mkw ta
    refine Cod.skip fun a hS => ?_
    refine hK4 _ _ ?_ a hS
    refine Cod.seq fun K7 hK7 => ?_
    refine Cod.region ?_
    refine Ops.step (One.val rfl rfl rfl (yld_loadN ag25 rfl (ev_t rfl) (fun _ => F2.range (m := 5) (cs' := [_, _, _, _, _]) 0 rfl rfl) rfl) ?_)
    refine Ops.step (One.call rfl rfl rfl (ent_f rfl (evl1 (ev_t rfl)) (enters en12)) (toVal_ct ta _ _ (ha.chg F2.chg) (by omega)) (fun e w3 hw3 => ?_))
    obtain ⟨x1, G1, rfl, C3, hs1, hb1⟩ := hw3
    have F3 := F2.new C3 (sep G1 ta x1.val) hs1 hb1
    refine ⟨_, rfl, ?_⟩
    refine Ops.step (One.call rfl rfl rfl (ent_f rfl (evl1 (ev_t rfl)) (enters en11)) (specAll_ct ta _ _ (F3.get 0 rfl).rep fa hwt) (fun e w4 hw4 => ?_))
    obtain ⟨e1, xs1, rfl, hl1, C4, hm1, hb1⟩ := hw4
    have F4 := F3.new C4 (bun (sepP (waysR ta) e1 xs1)) hm1 hb1
    refine ⟨_, rfl, ?_⟩
    refine Ops.step (One.val rfl rfl rfl (yld_assign rfl (ev_t rfl)) ?_)
    refine Ops.nil fun a hS => ?_
    refine hK7 _ _ ?_ a hS
    refine Cod.seq fun K8 hK8 => ?_
    refine Cod.region ?_
    refine Ops.step (One.val rfl rfl rfl (yld_loadN ag25 rfl (ev_t rfl) (fun _ => F4.range (m := 5) (cs' := [_, _, _, _, _]) 2 rfl rfl) rfl) ?_)
    refine Ops.step (One.call rfl rfl rfl (ent_f rfl (evl1 (ev_t rfl)) (enters en12)) (toVal_ct ta _ _ (ha.chg F4.chg) (by omega)) (fun e w5 hw5 => ?_))
    obtain ⟨x2, G2, rfl, C5, hs2, hb2⟩ := hw5
    have F5 := F4.new C5 (sep G2 ta x2.val) hs2 hb2
    refine ⟨_, rfl, ?_⟩
    refine Ops.step (One.alloc F5 zero31 rfl rfl rfl rfl ?_)
    intro b2 w6 hb2 F6
    change Fr _ _ [blk _ _ [_, _, _, _, _], _, _, _, blk _ _ [_, _, _, _, _]] _ at F6
    refine Ops.step (One.storeN (vs := [_, _, _, _, _]) F6 0 rfl sz31 rfl rfl rfl (ev_t rfl) (ev_t rfl) rfl rfl hs2.one ?_)
    intro w7 F7
    change Fr _ _ [blk _ _ [_, _, _, _, _], _, _, _, blk _ _ [_, _, _, _, _]] _ at F7
    refine Ops.nil fun a hS => ?_
    refine hK8 _ _ ?_ a hS
    refine Cod.seq fun K9 hK9 => ?_
    refine Cod.region ?_
    refine Ops.step (One.val rfl rfl rfl (yld_loadN ag31 rfl (ev_t rfl) (fun _ => F7.range (m := 5) (cs' := [_, _, _, _, _]) 0 rfl rfl) rfl) ?_)
    refine Ops.step (One.call rfl rfl rfl (ent_f rfl (evl1 (ev_t rfl)) (enters en13)) (all_ct ta _ _ (F7.get 1 rfl).rep fa hwt) (fun e w8 hw8 => ?_))
    obtain ⟨e2, xs2, rfl, hl2, C8, hm2, hb2⟩ := hw8
    have F8 := F7.new C8 (bun (sepP (waysR ta) e2 xs2)) hm2 hb2
    refine ⟨_, rfl, ?_⟩
    refine Ops.step (One.val rfl rfl rfl (yld_assign rfl (ev_t rfl)) ?_)
    refine Ops.nil fun a hS => ?_
    refine hK9 _ _ ?_ a hS
    refine Cod.seq fun K10 hK10 => ?_
    refine Cod.seq fun K11 hK11 => ?_
    refine Cod.region ?_
    refine Ops.step (One.val rfl rfl rfl (yld_move rfl (ev_t rfl)) ?_)
    refine Ops.step (One.val rfl rfl rfl (yld_move rfl (ev_t rfl)) ?_)
    refine Ops.step (One.call rfl rfl rfl (ent_f rfl (evl2 (ev_t rfl) (ev_t rfl)) (enters en14)) (eqStepSS_ct (waysR ta) (waysR ta) _ _ _ (sepPR (F8.get 0 rfl) hl2) (sepPR (F8.get 3 rfl) hl1)) (fun e w9 hw9 => ?_))
    obtain ⟨rfl, C9⟩ := hw9
    have F9 := F8.call C9
    refine ⟨_, rfl, ?_⟩
    refine Ops.step (One.val rfl rfl rfl (yld_not rfl (ev_t rfl)) ?_)
    refine Ops.nil fun a hS => ?_
    refine hK11 _ _ ?_ a hS
    refine Cod.cond rfl (fun hc26 => ?_) (fun hc26 => ?_)
    · skip
      simp at hc26
    · skip
      refine Cod.skip fun a hS => ?_
      refine hK10 _ _ ?_ a hS
      refine Cod.seq fun K12 hK12 => ?_
      refine Cod.seq fun K13 hK13 => ?_
      have F10 := F9.drew
      refine Cod.draw (C_of F10) (by kernel_rfl) ?_
      refine Hops.take 0 rfl (by kernel_rfl) (fun _ _ _ h => h) rfl rfl rfl F10 (fun w F => (yld_loadN ag31 rfl (ev_t rfl) (fun _ => F.range (m := 5) (cs' := [_, _, _, _, _]) 1 rfl rfl) rfl)) ?_
      refine Hops.take 1 rfl (by kernel_rfl) (fun _ _ _ h => h) rfl rfl rfl F10 (fun w F => (yld_loadN ag25 rfl (ev_t rfl) (fun _ => F.range (m := 5) (cs' := [_, _, _, _, _]) 5 rfl rfl) rfl)) ?_
      refine Hops.one 2 rfl (by kernel_rfl) (One.call rfl rfl rfl (ent_f rfl (evl1 (ev_t rfl)) (enters en12)) (toVal_ct ta _ _ (ha.chg F10.chg) (by omega)) (fun e w10 hw10 => ?_))
      obtain ⟨x3, G3, rfl, C10, hs3, hb3⟩ := hw10
      have F11 := F10.new C10 (sep G3 ta x3.val) hs3 hb3
      refine ⟨_, rfl, ?_⟩
      refine ⟨F11.drop1, ?_⟩
      refine Hops.one 3 rfl (by kernel_rfl) (One.call rfl rfl rfl (ent_f rfl (evl2 (ev_t rfl) (ev_t rfl)) (enters en15)) (eqVal_ct ta ta _ _ _ (F11.get 3 rfl).rep (F11.get 0 rfl).rep) (fun e w11 hw11 => ?_))
      obtain ⟨rfl, C11⟩ := hw11
      have F12 := F11.call C11
      refine ⟨_, rfl, ?_⟩
      refine ⟨F12.drop1, ?_⟩
      refine Hops.take 4 rfl (by kernel_rfl) (fun _ _ _ h => h) rfl rfl rfl F12.drop1 (fun w F => (yld_not rfl (ev_t rfl))) ?_
      refine Hops.nil (by kernel_rfl) fun a hS => ?_
      refine hK13 _ _ ?_ a hS
      refine Cod.cond rfl (fun hc31 => ?_) (fun hc31 => ?_)
      · skip
        simp at hc31
      · skip
        refine Cod.skip fun a hS => ?_
        refine hK12 _ _ ?_ a hS
        refine Cod.seq fun K14 hK14 => ?_
        refine Cod.region ?_
        refine Ops.step (One.val rfl rfl rfl (yld_assign rfl ev_c) ?_)
        refine Ops.nil fun a hS => ?_
        refine hK14 _ _ ?_ a hS
        refine Cod.seq fun K15 hK15 => ?_
        refine Cod.region ?_
        refine Ops.step (One.val rfl rfl rfl (yld_loadN ag31 rfl (ev_t rfl) (fun _ => F12.range (m := 5) (cs' := [_, _, _, _, _]) 2 rfl rfl) rfl) ?_)
        refine Ops.step (One.val rfl rfl rfl (yld_move rfl (ev_t rfl)) ?_)
        refine Ops.step (One.call rfl rfl rfl (ent_f rfl (evl2 (ev_t rfl) (ev_t rfl)) (enters en16)) (markVal_ct ta 1 x2.val _ G2 (F12.get 3 rfl) (by omega) (by omega)) (fun e w12 hw12 => ?_))
        obtain ⟨rfl, C12, hmx⟩ := hw12
        have F13 := F12.upd 3 rfl C12 (fun _ hk => .inl hk) (sep G2 (ta.mkT 1) x2.val) hmx (fun _ hk => .inl hk)
        change Fr _ _ [_, _, _, _, _, _, _] _ at F13
        refine ⟨_, rfl, ?_⟩
        refine Ops.step (One.val rfl rfl rfl (yld_assign rfl (ev_t rfl)) ?_)
        refine Ops.nil fun a hS => ?_
        refine hK15 _ _ ?_ a hS
        refine Cod.seq fun K16 hK16 => ?_
        refine Cod.seq fun K17 hK17 => ?_
        refine Cod.region ?_
        refine Ops.step (One.val rfl rfl rfl (yld_move rfl (ev_t rfl)) ?_)
        refine Ops.step (One.val rfl rfl rfl (yld_lss rfl (ev_t rfl) ev_c) ?_)
        refine Ops.step (One.val rfl rfl rfl (yld_move rfl (ev_t rfl)) ?_)
        refine Ops.step (One.val (gd_some rfl rfl) rfl rfl (yld_move rfl (ev_t rfl)) ?_)
        refine Ops.step (One.val (gd_some rfl rfl) rfl rfl (yld_move rfl (ev_t rfl)) ?_)
        refine Ops.step (One.gcall (R := Chg No w12) (gd_some rfl rfl) rfl rfl (ent_f rfl (evl2 (ev_g rfl) (ev_g rfl)) (enters en14)) (Chg.refl _ _) (fun hg => eqStepSS_ct (waysR ta) (waysR ta) _ _ _ (sepPR (F13.get 1 rfl) hl2) (sepPR (F13.get 4 rfl) hl1)) ?_)
        intro w13 C13
        have F14 := F13.call C13
        refine Ops.step (One.val (gd_some rfl rfl) rfl rfl (yld_not rfl (ev_g rfl)) ?_)
        refine Ops.step (One.val rfl rfl rfl (yld_or rfl (ev_t rfl) (ev_g rfl)) ?_)
        refine Ops.nil fun a hS => ?_
        refine hK17 _ _ ?_ a hS
        refine Cod.cond rfl (fun hc42 => ?_) (fun hc42 => ?_)
        · skip
          (simp at hc42; omega)
        · skip
          refine Cod.skip fun a hS => ?_
          refine hK16 _ _ ?_ a hS
          refine Cod.seq fun K18 hK18 => ?_
          refine Cod.region ?_
          refine Ops.step (One.val rfl rfl rfl (yld_assign rfl ev_c) ?_)
          refine Ops.nil fun a hS => ?_
          refine hK18 _ _ ?_ a hS
          refine Cod.seq fun K19 hK19 => ?_
          refine Cod.region ?_
          refine Ops.step (One.val rfl rfl rfl (yld_move rfl (ev_t rfl)) ?_)
          refine Ops.step (One.val rfl rfl rfl (yld_move rfl (ev_t rfl)) ?_)
          refine Ops.step (One.call rfl rfl rfl (ent_f rfl (evl2 (ev_t rfl) (ev_t rfl)) (enters en17)) (markPP_ct (waysR ta) 1 e2 xs2 _ (F14.get 1 rfl) hl2 (by omega)) (fun e w14 hw14 => ?_))
          obtain ⟨rfl, C14, hmq⟩ := hw14
          have F15 := F14.upd 1 rfl C14 (fun _ hk => .inl hk) (bun (sepP (mkPP (waysR ta) 1) e2 xs2)) hmq (fun _ hk => .inl (sepP_fp (mkPP_len _ _) hk))
          change Fr _ _ [_, _, _, _, _, _, _] _ at F15
          refine ⟨_, rfl, ?_⟩
          refine Ops.step (One.val rfl rfl rfl (yld_assign rfl (ev_t rfl)) ?_)
          refine Ops.nil fun a hS => ?_
          refine hK19 _ _ ?_ a hS
          refine Cod.seq fun K20 hK20 => ?_
          refine Cod.region ?_
          refine Ops.step (One.val rfl rfl rfl (yld_assign rfl ev_c) ?_)
          refine Ops.nil fun a hS => ?_
          refine hK20 _ _ ?_ a hS
          refine Cod.seq fun K21 hK21 => ?_
          refine Cod.region ?_
          refine Ops.step (One.val rfl rfl rfl (yld_move rfl (ev_t rfl)) ?_)
          refine Ops.step (One.val rfl rfl rfl (yld_move rfl (ev_t rfl)) ?_)
          refine Ops.step (One.call rfl rfl rfl (ent_f rfl (evl2 (ev_t rfl) (ev_t rfl)) (enters en18)) (heldPP_ct (waysR ta) 1 _ _ (sepPR (F15.get 1 rfl) (by rw [mkPP_len]; exact hl2)) (by omega)) (fun e w15 hw15 => ?_))
          obtain ⟨rfl, C15⟩ := hw15
          have F16 := F15.call C15
          refine ⟨_, rfl, ?_⟩
          refine Ops.step (One.val rfl rfl rfl (yld_assign rfl (ev_t rfl)) ?_)
          refine Ops.nil fun a hS => ?_
          refine hK21 _ _ ?_ a hS
          refine Cod.seq fun K22 hK22 => ?_
          refine Cod.seq fun K23 hK23 => ?_
          refine Cod.region ?_
          refine Ops.step (One.val rfl rfl rfl (yld_move rfl (ev_t rfl)) ?_)
          refine Ops.step (One.val rfl rfl rfl (yld_lss rfl (ev_t rfl) ev_c) ?_)
          refine Ops.nil fun a hS => ?_
          refine hK23 _ _ ?_ a hS
          refine Cod.cond rfl (fun hc50 => ?_) (fun hc50 => ?_)
          · skip
            (have := of_decide_eq_true hc50; omega)
          · skip
            refine Cod.skip fun a hS => ?_
            refine hK22 _ _ ?_ a hS
            refine Cod.seq fun K24 hK24 => ?_
            refine Cod.seq fun K25 hK25 => ?_
            refine Cod.region ?_
            refine Ops.step (One.val rfl rfl rfl (yld_move rfl (ev_t rfl)) ?_)
            refine Ops.step (One.val rfl rfl rfl (yld_move rfl (ev_t rfl)) ?_)
            refine Ops.step (One.val rfl rfl rfl (yld_neq rfl (ev_t rfl) (ev_t rfl)) ?_)
            refine Ops.nil fun a hS => ?_
            refine hK25 _ _ ?_ a hS
            refine Cod.cond rfl (fun hc53 => ?_) (fun hc53 => ?_)
            · skip
              simp at hc53
            · skip
              refine Cod.skip fun a hS => ?_
              refine hK24 _ _ ?_ a hS
              refine Cod.seq fun K26 hK26 => ?_
              refine Cod.region ?_
              refine Ops.step (One.val rfl rfl rfl (yld_loadN ag25 rfl (ev_t rfl) (fun _ => F16.range (m := 5) (cs' := [_, _, _, _, _]) 6 rfl rfl) rfl) ?_)
              refine Ops.step (One.call rfl rfl rfl (ent_f rfl (evl1 (ev_t rfl)) (enters en12)) (toVal_ct ta _ _ (ha.chg F16.chg) (by omega)) (fun e w16 hw16 => ?_))
              obtain ⟨x4, G4, rfl, C16, hs4, hb4⟩ := hw16
              have F17 := F16.new C16 (sep G4 ta x4.val) hs4 hb4
              refine ⟨_, rfl, ?_⟩
              refine Ops.step (One.call rfl rfl rfl (ent_f rfl (evl1 (ev_t rfl)) (enters en13)) (all_ct ta _ _ (F17.get 0 rfl).rep fa hwt) (fun e w17 hw17 => ?_))
              obtain ⟨e3, xs3, rfl, hl3, C17, hm3, hb3⟩ := hw17
              have F18 := F17.new C17 (bun (sepP (waysR ta) e3 xs3)) hm3 hb3
              refine ⟨_, rfl, ?_⟩
              refine Ops.step (One.val rfl rfl rfl (yld_assign rfl (ev_t rfl)) ?_)
              refine Ops.nil fun a hS => ?_
              refine hK26 _ _ ?_ a hS
              refine Cod.seq fun K27 hK27 => ?_
              refine Cod.seq fun K28 hK28 => ?_
              refine Cod.region ?_
              refine Ops.step (One.val rfl rfl rfl (yld_move rfl (ev_t rfl)) ?_)
              refine Ops.step (One.val rfl rfl rfl (yld_move rfl (ev_t rfl)) ?_)
              refine Ops.step (One.call rfl rfl rfl (ent_f rfl (evl2 (ev_t rfl) (ev_t rfl)) (enters en14)) (eqStepSS_ct (waysR ta) (waysR ta) _ _ _ (sepPR (F18.get 0 rfl) hl3) (sepPR (F18.get 6 rfl) hl1)) (fun e w18 hw18 => ?_))
              obtain ⟨rfl, C18⟩ := hw18
              have F19 := F18.call C18
              refine ⟨_, rfl, ?_⟩
              refine Ops.step (One.val rfl rfl rfl (yld_not rfl (ev_t rfl)) ?_)
              refine Ops.nil fun a hS => ?_
              refine hK28 _ _ ?_ a hS
              refine Cod.cond rfl (fun hc60 => ?_) (fun hc60 => ?_)
              · skip
                simp at hc60
              · skip
                refine Cod.skip fun a hS => ?_
                refine hK27 _ _ ?_ a hS
                refine Cod.seq fun K29 hK29 => ?_
                refine Cod.region ?_
                refine Ops.step (One.val rfl rfl rfl (yld_assign rfl ev_c) ?_)
                refine Ops.nil fun a hS => ?_
                refine hK29 _ _ ?_ a hS
                refine Cod.seq fun K30 hK30 => ?_
                refine Cod.region ?_
                refine Ops.step (One.val rfl rfl rfl (yld_move rfl (ev_t rfl)) ?_)
                refine Ops.step (One.val rfl rfl rfl (yld_move rfl (ev_t rfl)) ?_)
                refine Ops.step (One.call rfl rfl rfl (ent_f rfl (evl2 (ev_t rfl) (ev_t rfl)) (enters en18)) (heldPP_ct (waysR ta) 1 _ _ (sepPR (F19.get 3 rfl) (by rw [mkPP_len]; exact hl2)) (by omega)) (fun e w19 hw19 => ?_))
                obtain ⟨rfl, C19⟩ := hw19
                have F20 := F19.call C19
                refine ⟨_, rfl, ?_⟩
                refine Ops.step (One.val rfl rfl rfl (yld_assign rfl (ev_t rfl)) ?_)
                refine Ops.nil fun a hS => ?_
                refine hK30 _ _ ?_ a hS
                refine Cod.seq fun K31 hK31 => ?_
                refine Cod.seq fun K32 hK32 => ?_
                refine Cod.region ?_
                refine Ops.step (One.val rfl rfl rfl (yld_move rfl (ev_t rfl)) ?_)
                refine Ops.step (One.val rfl rfl rfl (yld_lss rfl (ev_t rfl) ev_c) ?_)
                refine Ops.nil fun a hS => ?_
                refine hK32 _ _ ?_ a hS
                refine Cod.cond rfl (fun hc65 => ?_) (fun hc65 => ?_)
                · skip
                  (have := of_decide_eq_true hc65; omega)
                · skip
                  refine Cod.skip fun a hS => ?_
                  refine hK31 _ _ ?_ a hS
                  refine Cod.seq fun K33 hK33 => ?_
                  refine Cod.seq fun K34 hK34 => ?_
                  refine Cod.region ?_
                  refine Ops.step (One.val rfl rfl rfl (yld_move rfl (ev_t rfl)) ?_)
                  refine Ops.step (One.val rfl rfl rfl (yld_move rfl (ev_t rfl)) ?_)
                  refine Ops.step (One.val rfl rfl rfl (yld_neq rfl (ev_t rfl) (ev_t rfl)) ?_)
                  refine Ops.nil fun a hS => ?_
                  refine hK34 _ _ ?_ a hS
                  refine Cod.cond rfl (fun hc68 => ?_) (fun hc68 => ?_)
                  · skip
                    simp at hc68
                  · skip
                    refine Cod.skip fun a hS => ?_
                    refine hK33 _ _ ?_ a hS
                    refine Cod.seq fun K35 hK35 => ?_
                    refine Cod.region ?_
                    refine Ops.step (One.val rfl rfl rfl (yld_assign rfl ev_c) ?_)
                    refine Ops.nil fun a hS => ?_
                    refine hK35 _ _ ?_ a hS
                    refine Cod.ret fun a hS => ?_
                    try simp only [Exit.then, Exit.inBlock]
                    exact ret1 (t := 2) rfl hS rfl ⟨rfl, F20.chg⟩


theorem ownKnob_none : ownKnob Try.prog.godebug = none := by kernel_rfl
theorem params_ok : ∀ t ∈ Try.f3.params.toList, Try.prog.readableRec t = true ∧ t < Try.prog.types.size := by
  rw [Try.params3]
  intro t ht
  simp only [List.mem_cons, List.not_mem_nil, or_false] at ht
  rcases ht with rfl <;> exact ⟨by kernel_rfl, of_decide_eq_true (by kernel_rfl)⟩
set_option maxRecDepth 100000 in
theorem lifted (os : Os) (started : os.Started) (H : Type) (enc : TypeId × Value → H) :
    ReturnsInHanded {} Try.checked os 3 .any (Rows.fnExactPathAllSpec.pre6 enc Try.prog Try.f3 Rows.fnExactPathAllRow.domain false) (Rows.fnExactPathAllSpec.post enc Try.prog Try.f3 false true false false) := by
  refine returnsInHanded_of_change (C := Try.checked) ownKnob_none started (by kernel_rfl) Try.func3
    (ChangeSpec.witness6 (enc := enc) (C := Try.checked) false ⟨#[], #[.agg #[.int .i64 0, .int .i64 0, .string ⟨#[]⟩, .slice none 0 0, .slice none 0 0]], []⟩ 8 (by kernel_rfl) (by kernel_rfl) (by kernel_rfl) (by kernel_rfl)) ?_
  intro W base args ds gs before hval0 hW hcnd _
  have hval : ∀ (j : Nat) t v, Try.f3.params[j]? = some t → args[j]? = some v → Value.okWide Try.prog W .any base t v := hval0
  have hW' := hW
  obtain ⟨p, q, hA0, hV, rfl, hfz, hnd⟩ := hW
  have hA : DataW.TrodAll enc Try.prog W 0 (fun _ => true) true Try.f3.params.toList args.toList ds p := hA0
  rw [Try.params3] at hA hval
  obtain ⟨v0, d0, rfl, rfl, h0⟩ := trodAll_one hA
  obtain ⟨rfl, rfl⟩ := trodVars_none hV
  obtain ⟨ta, ha, fa⟩ := open_tree h0
  refine (walk ta v0 W ha fa).mono fun e W' ⟨he, hc⟩ => ?_
  subst he
  exact ⟨_, rfl, post_chg laidOut rfl params_ok hW' (fun _ _ _ => (trodAll_cons_mk (shut_bool Try.underlying4 _) trodAll_mk0)) rfl rfl hc (ok_one (by kernel_rfl) rfl (okWide_bool_mk Try.underlying4 _))⟩

theorem over : Rows.fnExactPathAllRow.holds Try.pinned (OpenSpec.ofChange Rows.fnExactPathAllSpec) :=
  OpenClaim.holds_of_wide 3 Try.f3 rfl rfl rfl rfl rfl rfl rfl ⟨rfl, rfl, rfl, rfl, rfl⟩ rfl rfl rfl rfl rfl (by kernel_rfl) Try.func3 (by kernel_rfl)
    (of_decide_eq_true (by kernel_rfl)) (by unfold Func.isWrapper; first | (rw [if_pos (by decide +kernel)]; kernel_rfl) | (rw [if_neg (by decide +kernel)]; exact ⟨rfl, rfl⟩))
    (fun os started H enc _ => lifted os started H enc)

/-- The statement. -/
theorem proved : Rows.FnExactPathAllSaid := over
#print axioms proved

end LPathAll
end Go.Proofs.Ytodbflfelimppaa.Eng
