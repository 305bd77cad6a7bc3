/- FnExactPathRead returns true for every text: the program's PathRead and the reference's answer alike, the program leaves its argument as it was, and what it gives is new memory, shared with nothing that it gives next. The card: the library's tables and its two errors read as the program's text lays them. No condition besides. -/
import Derived.Test.YtpfkcblhojkaiaaDoorRdQ
import Derived.Test.YtpfkcblhojkaiaaDoorWays
import Derived.Test.YtpfkcblhojkaiaaDoorLaiR
import Derived.Test.YtpfkcblhojkaiaaDoorArg
import Derived.Test.YtpfkcblhojkaiaaDoorRows
import Derived.Test.YtpfkcblhojkaiaaDoorTie
import Derived.Test.YtpfkcblhojkaiaaDoorCards
namespace Go.Proofs.YtpfkcblhojkaiaaDoor.Eng
open Go.RowKit Go.ChangeShapes Go.WideShapes Go.ChangeAt
set_option linter.unusedVariables false
set_option linter.unusedSimpArgs false
set_option maxHeartbeats 1000000
set_option linter.constructorNameAsVariable false
namespace LPathRead


theorem errAt_of {W : World} {name nm : String} {g t k : Nat} {cs : Array Value} {fuel : Nat} {p : List MemPlace} {d : DataW Unit} (hk : Tryd.prog.globalNamed name = some k) (hg : Tryd.prog.globalNamed name = some g) (htk : (Tryd.prog.globals[k]?).map (·.type) = some 88) (ht : (Tryd.prog.globals[g]?).map (·.type) = some t) (hv : W.var? Tryd.prog name = some cs)
    (hd : DataW.trod (fun _ => ()) Tryd.prog W 0 (fun _ => true) false fuel t cs.toList = some (.iface nm d, p)) : ErrAt W k := by
  rw [hk] at hg
  obtain rfl := Option.some.inj hg
  rw [htk] at ht
  obtain rfl := Option.some.inj ht
  obtain ⟨f', u, v, hcs, -, -⟩ := iface_of_trod Tryd.underlying88 hd
  refine ⟨.iface u v, ?_, .inr ⟨u, v, rfl⟩⟩
  have h0 := World.var?_cell hk hv 0
  rw [Array.eq_one_of_toList hcs] at h0
  simpa using h0
theorem ownM {w : World} {v : Value} {n k : Nat} (h : (rowP (mkP n k) v).is w) : RepP Any w (mkP n k) v := ownP h
theorem readsTo_len {t : ByteArray} {r : Option (List Stp)} (h : ReadsTo t r) : (r.getD []).length ≤ 6 := by
  cases r with
  | none => exact Nat.zero_le _
  | some p => exact pathOk_len h.1

set_option maxRecDepth 100000 in
theorem walk (t : ByteArray) (ht0 : t.size ≤ 9223372036854775807) (w : World) (hT : PowTab w) (hE : Errs w) :
    Calls Tryd.prog 6 #[.string t] w fun e w' => e = .returned (.bool true) ∧ Chg No w w' := by
  refine enter Tryd.func6 rfl rfl rfl ?_
  have F0 := Fr.start w
  refine Cod.seq fun K1 hK1 => ?_
  refine Cod.region ?_
  refine Ops.step (One.val rfl rfl rfl (yld_assign rfl ev_c) ?_)
  refine Ops.nil fun a hS => ?_
  refine hK1 _ _ ?_ a hS
  refine Cod.seq fun K2 hK2 => ?_
  refine Cod.seq fun K3 hK3 => ?_
  refine Cod.region ?_
  refine Ops.step (One.val rfl rfl rfl (yld_move rfl (ev_t rfl)) ?_)
  refine Ops.step (One.val rfl rfl rfl (yld_slen st9 rfl (ev_t rfl)) ?_)
  refine Ops.step (One.val rfl rfl rfl (yld_gtr rfl (ev_t rfl) ev_c) ?_)
  refine Ops.nil fun a hS => ?_
  refine hK3 _ _ ?_ a hS
  refine Cod.cond rfl (fun hc13 => ?_) (fun hc13 => ?_)
  · skip
    skip
    refine Cod.seq fun K4 hK4 => ?_
    refine Cod.region ?_
    refine Ops.step (One.val rfl rfl rfl (yld_assign rfl ev_c) ?_)
    refine Ops.nil fun a hS => ?_
    refine hK4 _ _ ?_ a hS
    refine Cod.ret fun a hS => ?_
    try simp only [Exit.then, Exit.inBlock]
    exact ret1 (t := 2) rfl hS rfl ⟨rfl, F0.chg⟩
  · skip
    have ht : t.size ≤ 1048576 := by
      have hc := of_decide_eq_false hc13
      omega
    refine Cod.skip fun a hS => ?_
    refine hK2 _ _ ?_ a hS
    refine Cod.seq fun K5 hK5 => ?_
    refine Cod.region ?_
    refine Ops.step (One.val rfl rfl rfl (yld_move rfl (ev_t rfl)) ?_)
    refine Ops.step (One.call rfl rfl rfl (ent_f rfl (evl1 (ev_t rfl)) (enters en22)) (specRead_ct t ht _) (fun e w1 hw1 => ?_))
    obtain ⟨e1, r1, hr1, rfl, C1, ho1, hb1⟩ := hw1
    have hl6 := readsTo_len hr1
    have F1 := F0.new C1 (own 61 3 e1 (r1.getD []).length ((r1.getD []).flatMap pCells)) ho1 hb1
    refine ⟨_, rfl, ?_⟩
    refine Ops.step (One.val rfl rfl rfl (yld_move rfl (ev_t rfl)) ?_)
    refine Ops.step (One.val rfl rfl rfl (yld_extract rfl (ev_t rfl) rfl) ?_)
    refine Ops.step (One.val rfl rfl rfl (yld_extract rfl (ev_t rfl) rfl) ?_)
    refine Ops.step (One.val rfl rfl rfl (yld_assign rfl (ev_t rfl)) ?_)
    refine Ops.step (One.val rfl rfl rfl (yld_assign rfl (ev_t rfl)) ?_)
    refine Ops.nil fun a hS => ?_
    refine hK5 _ _ ?_ a hS
    refine Cod.seq fun K6 hK6 => ?_
    refine Cod.region ?_
    refine Ops.step (One.val rfl rfl rfl (yld_move rfl (ev_t rfl)) ?_)
    refine Ops.step (One.call rfl rfl rfl (ent_f rfl (evl1 (ev_t rfl)) (enters en23)) (read_ct t ht _ (hT.chg F1.chg) (hE.chg F1.chg)) (fun e w2 hw2 => ?_))
    obtain ⟨e2, r2, hr2, rfl, C2, ho2, hb2⟩ := hw2
    obtain rfl := hr1.uniq hr2
    have F2 := F1.new C2 (own 61 3 e2 (r1.getD []).length ((r1.getD []).flatMap pCells)) ho2 hb2
    refine ⟨_, rfl, ?_⟩
    refine Ops.step (One.val rfl rfl rfl (yld_move rfl (ev_t rfl)) ?_)
    refine Ops.step (One.val rfl rfl rfl (yld_extract rfl (ev_t rfl) rfl) ?_)
    refine Ops.step (One.val rfl rfl rfl (yld_extract rfl (ev_t rfl) rfl) ?_)
    refine Ops.step (One.val rfl rfl rfl (yld_assign rfl (ev_t rfl)) ?_)
    refine Ops.step (One.val rfl rfl rfl (yld_assign rfl (ev_t rfl)) ?_)
    refine Ops.nil fun a hS => ?_
    refine hK6 _ _ ?_ a hS
    refine Cod.seq fun K7 hK7 => ?_
    refine Cod.seq fun K8 hK8 => ?_
    refine Cod.region ?_
    refine Ops.step (One.val rfl rfl rfl (yld_move rfl (ev_t rfl)) ?_)
    refine Ops.step (One.val rfl rfl rfl (yld_move rfl (ev_t rfl)) ?_)
    refine Ops.step (One.call rfl rfl rfl (ent_f rfl (evl2 (ev_t rfl) (ev_t rfl)) (enters en21)) (eqStepS_ct (r1.getD []) (r1.getD []) _ _ _ (ownP (F2.get 0 rfl)) (ownP (F2.get 1 rfl))) (fun e w3 hw3 => ?_))
    obtain ⟨rfl, C3⟩ := hw3
    have F3 := F2.call C3
    refine ⟨_, rfl, ?_⟩
    refine Ops.step (One.val rfl rfl rfl (yld_not rfl (ev_t rfl)) ?_)
    refine Ops.step (One.val rfl rfl rfl (yld_move rfl (ev_t rfl)) ?_)
    refine Ops.step (One.val (gd_some rfl rfl) rfl rfl (yld_move rfl (ev_t rfl)) ?_)
    refine Ops.step (One.val (gd_some rfl rfl) rfl rfl (yld_move rfl (ev_t rfl)) ?_)
    refine Ops.step (One.val (gd_some rfl rfl) rfl rfl (yld_bneq Tryd.underlying4 rfl (ev_g rfl) (ev_g rfl)) ?_)
    refine Ops.step (One.val rfl rfl rfl (yld_or rfl (ev_t rfl) (ev_g rfl)) ?_)
    refine Ops.nil fun a hS => ?_
    refine hK8 _ _ ?_ a hS
    refine Cod.cond rfl (fun hc32 => ?_) (fun hc32 => ?_)
    · skip
      simp at hc32
    · skip
      refine Cod.skip fun a hS => ?_
      refine hK7 _ _ ?_ a hS
      refine Cod.seq fun K9 hK9 => ?_
      refine Cod.region ?_
      refine Ops.step (One.val rfl rfl rfl (yld_assign rfl ev_c) ?_)
      refine Ops.nil fun a hS => ?_
      refine hK9 _ _ ?_ a hS
      refine Cod.seq fun K10 hK10 => ?_
      refine Cod.region ?_
      refine Ops.step (One.val rfl rfl rfl (yld_move rfl (ev_t rfl)) ?_)
      refine Ops.step (One.val rfl rfl rfl (yld_move rfl (ev_t rfl)) ?_)
      refine Ops.step (One.call rfl rfl rfl (ent_f rfl (evl2 (ev_t rfl) (ev_t rfl)) (enters en24)) (markP_ct (r1.getD []) 1 _ _ (F3.get 0 rfl) (by omega)) (fun e w4 hw4 => ?_))
      obtain ⟨rfl, C4, hmk⟩ := hw4
      have F4 := F3.upd 0 rfl C4 (fun _ hk => .inl hk) (rowP (mkP (r1.getD []).length 1) e2) hmk (fun _ hk => .inl hk)
      change Fr _ _ [_, _] _ at F4
      refine ⟨_, rfl, ?_⟩
      refine Ops.step (One.val rfl rfl rfl (yld_assign rfl (ev_t rfl)) ?_)
      refine Ops.nil fun a hS => ?_
      refine hK10 _ _ ?_ a hS
      refine Cod.seq fun K11 hK11 => ?_
      refine Cod.region ?_
      refine Ops.step (One.val rfl rfl rfl (yld_assign rfl ev_c) ?_)
      refine Ops.nil fun a hS => ?_
      refine hK11 _ _ ?_ a hS
      refine Cod.seq fun K12 hK12 => ?_
      refine Cod.region ?_
      refine Ops.step (One.val rfl rfl rfl (yld_move rfl (ev_t rfl)) ?_)
      refine Ops.step (One.val rfl rfl rfl (yld_move rfl (ev_t rfl)) ?_)
      refine Ops.step (One.call rfl rfl rfl (ent_f rfl (evl2 (ev_t rfl) (ev_t rfl)) (enters en25)) (heldP_ct (r1.getD []).length 1 _ _ (ownM (F4.get 0 rfl)) (by omega)) (fun e w5 hw5 => ?_))
      obtain ⟨rfl, C5⟩ := hw5
      have F5 := F4.call C5
      refine ⟨_, rfl, ?_⟩
      refine Ops.step (One.val rfl rfl rfl (yld_assign rfl (ev_t rfl)) ?_)
      refine Ops.nil fun a hS => ?_
      refine hK12 _ _ ?_ a hS
      refine Cod.seq fun K13 hK13 => ?_
      refine Cod.seq fun K14 hK14 => ?_
      refine Cod.region ?_
      refine Ops.step (One.val rfl rfl rfl (yld_move rfl (ev_t rfl)) ?_)
      refine Ops.step (One.val rfl rfl rfl (yld_lss rfl (ev_t rfl) ev_c) ?_)
      refine Ops.nil fun a hS => ?_
      refine hK14 _ _ ?_ a hS
      refine Cod.cond rfl (fun hc40 => ?_) (fun hc40 => ?_)
      · skip
        (have := of_decide_eq_true hc40; omega)
      · skip
        refine Cod.skip fun a hS => ?_
        refine hK13 _ _ ?_ a hS
        refine Cod.seq fun K15 hK15 => ?_
        refine Cod.seq fun K16 hK16 => ?_
        refine Cod.region ?_
        refine Ops.step (One.val rfl rfl rfl (yld_move rfl (ev_t rfl)) ?_)
        refine Ops.step (One.val rfl rfl rfl (yld_move rfl (ev_t rfl)) ?_)
        refine Ops.step (One.val rfl rfl rfl (yld_neq rfl (ev_t rfl) (ev_t rfl)) ?_)
        refine Ops.nil fun a hS => ?_
        refine hK16 _ _ ?_ a hS
        refine Cod.cond rfl (fun hc43 => ?_) (fun hc43 => ?_)
        · skip
          simp at hc43
        · skip
          refine Cod.skip fun a hS => ?_
          refine hK15 _ _ ?_ a hS
          refine Cod.seq fun K17 hK17 => ?_
          refine Cod.region ?_
          refine Ops.step (One.val rfl rfl rfl (yld_move rfl (ev_t rfl)) ?_)
          refine Ops.step (One.call rfl rfl rfl (ent_f rfl (evl1 (ev_t rfl)) (enters en23)) (read_ct t ht _ (hT.chg F5.chg) (hE.chg F5.chg)) (fun e w6 hw6 => ?_))
          obtain ⟨e3, r3, hr3, rfl, C6, ho3, hb3⟩ := hw6
          obtain rfl := hr1.uniq hr3
          have F6 := F5.new C6 (own 61 3 e3 (r1.getD []).length ((r1.getD []).flatMap pCells)) ho3 hb3
          refine ⟨_, rfl, ?_⟩
          refine Ops.step (One.val rfl rfl rfl (yld_move rfl (ev_t rfl)) ?_)
          refine Ops.step (One.val rfl rfl rfl (yld_extract rfl (ev_t rfl) rfl) ?_)
          refine Ops.step (One.val rfl rfl rfl (yld_extract rfl (ev_t rfl) rfl) ?_)
          refine Ops.step (One.val rfl rfl rfl (yld_assign rfl (ev_t rfl)) ?_)
          refine Ops.step (One.val rfl rfl rfl (yld_assign rfl (ev_t rfl)) ?_)
          refine Ops.nil fun a hS => ?_
          refine hK17 _ _ ?_ a hS
          refine Cod.seq fun K18 hK18 => ?_
          refine Cod.seq fun K19 hK19 => ?_
          refine Cod.region ?_
          refine Ops.step (One.val rfl rfl rfl (yld_move rfl (ev_t rfl)) ?_)
          refine Ops.step (One.val rfl rfl rfl (yld_move rfl (ev_t rfl)) ?_)
          refine Ops.step (One.call rfl rfl rfl (ent_f rfl (evl2 (ev_t rfl) (ev_t rfl)) (enters en21)) (eqStepS_ct (r1.getD []) (r1.getD []) _ _ _ (ownP (F6.get 0 rfl)) (ownP (F6.get 2 rfl))) (fun e w7 hw7 => ?_))
          obtain ⟨rfl, C7⟩ := hw7
          have F7 := F6.call C7
          refine ⟨_, rfl, ?_⟩
          refine Ops.step (One.val rfl rfl rfl (yld_not rfl (ev_t rfl)) ?_)
          refine Ops.step (One.val rfl rfl rfl (yld_move rfl (ev_t rfl)) ?_)
          refine Ops.step (One.val (gd_some rfl rfl) rfl rfl (yld_move rfl (ev_t rfl)) ?_)
          refine Ops.step (One.val (gd_some rfl rfl) rfl rfl (yld_move rfl (ev_t rfl)) ?_)
          refine Ops.step (One.val (gd_some rfl rfl) rfl rfl (yld_bneq Tryd.underlying4 rfl (ev_g rfl) (ev_g rfl)) ?_)
          refine Ops.step (One.val rfl rfl rfl (yld_or rfl (ev_t rfl) (ev_g rfl)) ?_)
          refine Ops.nil fun a hS => ?_
          refine hK19 _ _ ?_ a hS
          refine Cod.cond rfl (fun hc57 => ?_) (fun hc57 => ?_)
          · skip
            simp at hc57
          · skip
            refine Cod.skip fun a hS => ?_
            refine hK18 _ _ ?_ a hS
            refine Cod.seq fun K20 hK20 => ?_
            refine Cod.region ?_
            refine Ops.step (One.val rfl rfl rfl (yld_assign rfl ev_c) ?_)
            refine Ops.nil fun a hS => ?_
            refine hK20 _ _ ?_ a hS
            refine Cod.seq fun K21 hK21 => ?_
            refine Cod.region ?_
            refine Ops.step (One.val rfl rfl rfl (yld_move rfl (ev_t rfl)) ?_)
            refine Ops.step (One.val rfl rfl rfl (yld_move rfl (ev_t rfl)) ?_)
            refine Ops.step (One.call rfl rfl rfl (ent_f rfl (evl2 (ev_t rfl) (ev_t rfl)) (enters en25)) (heldP_ct (r1.getD []).length 1 _ _ (ownM (F7.get 1 rfl)) (by omega)) (fun e w8 hw8 => ?_))
            obtain ⟨rfl, C8⟩ := hw8
            have F8 := F7.call C8
            refine ⟨_, rfl, ?_⟩
            refine Ops.step (One.val rfl rfl rfl (yld_assign rfl (ev_t rfl)) ?_)
            refine Ops.nil fun a hS => ?_
            refine hK21 _ _ ?_ a hS
            refine Cod.seq fun K22 hK22 => ?_
            refine Cod.seq fun K23 hK23 => ?_
            refine Cod.region ?_
            refine Ops.step (One.val rfl rfl rfl (yld_move rfl (ev_t rfl)) ?_)
            refine Ops.step (One.val rfl rfl rfl (yld_lss rfl (ev_t rfl) ev_c) ?_)
            refine Ops.nil fun a hS => ?_
            refine hK23 _ _ ?_ a hS
            refine Cod.cond rfl (fun hc62 => ?_) (fun hc62 => ?_)
            · skip
              (have := of_decide_eq_true hc62; omega)
            · skip
              refine Cod.skip fun a hS => ?_
              refine hK22 _ _ ?_ a hS
              refine Cod.seq fun K24 hK24 => ?_
              refine Cod.seq fun K25 hK25 => ?_
              refine Cod.region ?_
              refine Ops.step (One.val rfl rfl rfl (yld_move rfl (ev_t rfl)) ?_)
              refine Ops.step (One.val rfl rfl rfl (yld_move rfl (ev_t rfl)) ?_)
              refine Ops.step (One.val rfl rfl rfl (yld_neq rfl (ev_t rfl) (ev_t rfl)) ?_)
              refine Ops.nil fun a hS => ?_
              refine hK25 _ _ ?_ a hS
              refine Cod.cond rfl (fun hc65 => ?_) (fun hc65 => ?_)
              · skip
                simp at hc65
              · skip
                refine Cod.skip fun a hS => ?_
                refine hK24 _ _ ?_ a hS
                refine Cod.seq fun K26 hK26 => ?_
                refine Cod.region ?_
                refine Ops.step (One.val rfl rfl rfl (yld_assign rfl ev_c) ?_)
                refine Ops.nil fun a hS => ?_
                refine hK26 _ _ ?_ a hS
                refine Cod.ret fun a hS => ?_
                try simp only [Exit.then, Exit.inBlock]
                exact ret1 (t := 2) rfl hS rfl ⟨rfl, F8.chg⟩


theorem ownKnob_none : ownKnob Tryd.prog.godebug = none := by kernel_rfl
theorem params_ok : ∀ t ∈ Tryd.f6.params.toList, Tryd.prog.readableRec t = true ∧ t < Tryd.prog.types.size := by
  rw [Tryd.params6]
  intro t ht
  simp only [List.mem_cons, List.not_mem_nil, or_false] at ht
  rcases ht with rfl <;> exact ⟨by kernel_rfl, of_decide_eq_true (by kernel_rfl)⟩
set_option maxRecDepth 100000 in
theorem lifted (os : Os) (started : os.Started) (H : Type) (enc : TypeId × Value → H) :
    ReturnsInHanded {} Tryd.checked os 6 .any (fun w args => (Rows.fnExactPathReadSpec.pre enc Tryd.prog Tryd.f6 [] false w args ∧ laidMetH Tryd.prog Rows.fnExactPathReadRow.laid w) ∧ sizedMet enc Tryd.prog Tryd.f6 (OpenSpec.ofChange Rows.fnExactPathReadSpec) false w args)
      (Rows.fnExactPathReadSpec.post enc Tryd.prog Tryd.f6 false true false false) := by
  refine returnsInHanded_of_change_and (C := Tryd.checked) (X := fun w _ => laidMetH Tryd.prog Rows.fnExactPathReadRow.laid w) (fun _ _ _ hh h => h.of_heap hh) ownKnob_none started (by kernel_rfl) Tryd.func6
    (ChangeSpec.witness_shaped (enc := enc) (C := Tryd.checked) (os := os) (X := fun w _ => laidMetH Tryd.prog Rows.fnExactPathReadRow.laid w) false (World.laidAll Tryd.prog os Rows.fnExactPathReadRow.laid) #[.string ⟨#[]⟩] 8 (World.laidAll_os _ _ _)
      (World.shaped_of_ZipB (by kernel_rfl) (by kernel_rfl)) (by kernel_rfl) (by kernel_rfl) (by kernel_rfl)
      (by rw [MakeChecks.laidMetH_plain _ _ _ (by kernel_rfl)]; exact laidMet_laidAll _ (by kernel_rfl) (by kernel_rfl))) ?_
  intro W base args ds gs before hval0 hW _ _ hL _
  have hval : ∀ (j : Nat) t v, Tryd.f6.params[j]? = some t → args[j]? = some v → Value.okWide Tryd.prog W .any base t v := hval0
  have hW' := hW
  obtain ⟨p, q, hA0, hV, rfl, hfz, hnd⟩ := hW
  have hA : DataW.TrodAll enc Tryd.prog W 0 (fun _ => true) true Tryd.f6.params.toList args.toList ds p := hA0
  rw [Tryd.params6] at hA hval
  obtain ⟨v0, d0, rfl, rfl, h0⟩ := trodAll_one hA
  obtain ⟨rfl, rfl⟩ := trodVars_none hV
  rw [MakeChecks.laidMetH_plain _ _ _ (by kernel_rfl)] at hL
  obtain ⟨ps, ⟨g0, t0, cs0, f0, p0, q0, hg0, ht0, hv0, hd0, ⟨g1, t1, cs1, f1, p1, q1, hg1, ht1, hv1, hd1, ⟨g2, t2, cs2, f2, p2, q2, hg2, ht2, hv2, hd2, ⟨g3, t3, cs3, f3, p3, q3, hg3, ht3, hv3, hd3, ⟨g4, t4, cs4, f4, p4, q4, hg4, ht4, hv4, hd4, -, -⟩, -⟩, -⟩, -⟩, -⟩, -, -⟩ := hL
  have hT : PowTab W := powTab_of hg2 ht2 hv2 (by kernel_rfl) hd2
  have hE : Errs W := ⟨errAt_of (k := 1) (by kernel_rfl) hg4 (by kernel_rfl) ht4 hv4 hd4, errAt_of (k := 2) (by kernel_rfl) hg3 (by kernel_rfl) ht3 hv3 hd3⟩
  obtain ⟨s, rfl, hs⟩ := openS (hval 0 _ v0 rfl rfl) h0
  refine (walk s hs W hT hE).mono fun e W' ⟨he, hc⟩ => ?_
  subst he
  skip
  exact ⟨_, rfl, post_chgV hW' (fun _ _ _ => (trodAll_cons_mk (shut_bool Tryd.underlying4 _) trodAll_mk0)) (args_stay laidOut hc _ _ _ _ params_ok hA0 (fun x hx => hW'.lt x (by simp [hx])) (fun x hx => by simpa using hW'.lt x (by simp [hx]))) (rfl : DataW.TrodVars enc Tryd.prog W' _ [] [] []) hc⟩

theorem over : Rows.fnExactPathReadRow.holds Tryd.pinned (OpenSpec.ofChange Rows.fnExactPathReadSpec) :=
  OpenClaim.holds_of_wide 6 Tryd.f6 rfl rfl rfl rfl rfl rfl rfl ⟨rfl, rfl, rfl, rfl, rfl⟩ rfl rfl rfl rfl rfl (by kernel_rfl) Tryd.func6 (by kernel_rfl)
    (of_decide_eq_true (by kernel_rfl)) (by unfold Func.isWrapper; first | (rw [if_pos (by decide +kernel)]; kernel_rfl) | (rw [if_neg (by decide +kernel)]; exact ⟨rfl, rfl⟩))
    (fun os started H enc _ => lifted os started H enc)

/-- The statement: the tied card. -/
theorem proved : Rows.FnExactPathReadCardSaid :=
  Claim7.holds_tied_plain_at .later [] [.data, .data, .data, .sentinel, .sentinel] true (true, "268f5d2513eeebe425927c9dc9135bbdd009be8dcd699a379ca5ed5d5dfdc605") true over (fun _ h => by cases h) (by kernel_rfl) (fun _ h => by cases h) fnExactPathRead_row_tie rfl ⟨rfl, rfl⟩ (by kernel_rfl) rfl
    (fun f fn hf hfn => by
      obtain rfl : f = 6 := Option.some.inj ((show Tryd.prog.funcNamed "loop.example/cribble/laws.FnExactPathRead" = some 6 by kernel_rfl).symm.trans hf) |>.symm
      obtain rfl : fn = Tryd.f6 := (Option.some.inj (Tryd.func6.symm.trans hfn)).symm
      exact ⟨by kernel_rfl, fun j t ht => by
        rw [Tryd.params6] at ht
        have hm : t ∈ [9] := by simpa using Array.mem_of_getElem? ht
        have hall : ([9].all fun u => !Tryd.prog.wantsStandIn u) = true := by kernel_rfl
        exact (show Tryd.prog.wantsStandIn t = false by simpa using List.all_eq_true.1 hall t hm)⟩)
    (by kernel_rfl)
#print axioms proved

end LPathRead
end Go.Proofs.YtpfkcblhojkaiaaDoor.Eng
