/- FnPathOne returns true for all bytes: a way that is one step longer leads to the part at that step; from nothing every way leads on to nothing. No condition. -/
import Derived.Test.YtodbflfelimppaaLawT
import Derived.Test.YtodbflfelimppaaDraw4
import Derived.Test.YtodbflfelimppaaWays2
import Derived.Test.YtodbflfelimppaaArgB
import Derived.Test.YtodbflfelimppaaRows
namespace Go.Proofs.Ytodbflfelimppaa.Eng
open Go.RowKit Go.ChangeShapes Go.WideShapes Go.ChangeAt
set_option linter.unusedVariables false
set_option linter.unusedSimpArgs false
set_option maxHeartbeats 1000000
set_option linter.constructorNameAsVariable false
namespace GPathOne


def shortK (p : List Stp) : Prop := ∀ s ∈ p, s.key.size ≤ 12
theorem shortK.nil : shortK [] := fun s h => by simp at h
theorem shortK.snoc {p : List Stp} {s : Stp} (h : shortK p) (hs : s.key.size ≤ 12) : shortK (p ++ [s]) := fun x hx => by
  rcases List.mem_append.1 hx with hx | hx
  · exact h x hx
  · obtain rfl := List.mem_singleton.1 hx; exact hs
theorem stepK_short {t : Tr} (h : okT t = true) (i : Nat) : (stepK t.kind t.keys i).key.size ≤ 12 := by
  unfold stepK
  split
  · show (nth t.keys i).size ≤ 12
    by_cases hi : i < t.keys.length
    · exact okS_size ((okT_six h).2.2 i hi).1
    · unfold nth; rw [List.getD_eq_getElem?_getD, List.getElem?_eq_none (by omega)]; exact Nat.zero_le _
  · exact Nat.zero_le _
theorem ways_key : ∀ (t : Tr) (p : List Stp), okT t = true → shortK p → ∀ q ∈ t.ways p, shortK q := Tr.ind (p := fun t => ∀ p, okT t = true → shortK p → ∀ q ∈ t.ways p, shortK q) fun k n s ks l H p ho hp q hq => by
  rw [Tr.ways] at hq
  rcases List.mem_cons.1 hq with rfl | hq
  · exact hp
  · obtain ⟨i, hi, hq⟩ := Tr.waysL_mem hq
    exact H _ (List.getElem_mem hi) _ (okT_child ho (List.getElem_mem hi)) (hp.snoc (stepK_short ho (0 + i))) q hq
theorem waysR_key (t : Tr) : ∀ q ∈ waysR t, shortK q := fun q hq => by
  unfold waysR at hq
  split at hq
  · rename_i h
    exact ways_key t [] h shortK.nil q hq
  · simp at hq
/-- A drawn way. -/
def DrewP (bb : Nat) (cv : Value) (lim n : Nat) (w : World) (e : Ending) (w' : World) : Prop := ∃ (v : Value) (p : List Stp), e = .returned v ∧ Chg (· = bb) w w' ∧ (rd bb cv lim).is w' ∧ (own 52 3 v p.length (p.flatMap pCells)).is w' ∧ (∀ k, v.ownBlock = some k → w.heap.size ≤ k) ∧ shortK p ∧ p.length ≤ n
theorem DrewP.of {bb lim lim1 n : Nat} {cv v : Value} {w0 w : World} {L : List Res} {p : List Stp} (F : Fr (· = bb) w0 L w) (i j : Nat) (hi : L[i]? = some (rd bb cv lim1)) (hj : L[j]? = some (own 52 3 v p.length (p.flatMap pCells))) (hij : i ≠ j) (hle : lim1 ≤ lim) (hk : shortK p) (hl : p.length ≤ n) : DrewP bb cv lim n w0 (.returned v) w := by
  refine ⟨v, p, rfl, F.chg, ?_, F.get j hj, fun k hkk => ?_, hk, hl⟩
  · obtain ⟨q, hq, hb⟩ := F.get i hi
    exact ⟨q, by omega, hb⟩
  · rcases F.dom _ (List.mem_of_getElem? hj) k hkk with h | h
    · exact absurd h (F.apart' j i hj hi hij k hkk)
    · exact h
def wayA : List ByteArray := [⟨#[97]⟩, ⟨#[122]⟩]
def wayK : List ByteArray := [⟨#[97]⟩, ⟨#[98]⟩, ⟨#[99]⟩, ⟨#[100]⟩]
def wayI : List Int := [0, 1, -1, 2]
def wayB : List Int := [60, -61]

theorem memW {s : ByteArray} {l : List ByteArray} (h : s ∈ l) (hl : l.all (fun x => decide (x.size ≤ 12)) = true) : s.size ≤ 12 := by
  have := List.all_eq_true.1 hl s h
  simpa using this

set_option maxRecDepth 100000 in
theorem l3Path_ct (t : Tr) (v : Value) (bb : Nat) (cv : Value) (lim : Nat) (w : World) (hcode : Code bb w cv) (hr : (rd bb cv lim).is w) (ht : Rep (fun k => k ≠ bb) w t v) (hf : t.Fit) (hw : t.wt ≤ 1048576) (hlim : lim ≤ 1000000) :
    Calls Try.prog 118 #[.pointer (some ⟨bb, 0, none⟩), v] w (DrewP bb cv (lim + 20) 61 w) := by
  obtain ⟨v3, v4, ev, -, -⟩ := ht.form
  subst ev
  refine enter Try.func118 rfl rfl rfl ?_
  have F0 := Fr.lend (rd bb cv lim) hr
  refine Cod.seq fun K1 hK1 => ?_
  refine Cod.region ?_
  refine Ops.step (One.box F0 rfl rfl rfl rfl (ev_t rfl) ?_)
  intro b1 w1 hb1 F1
  change Fr _ _ [blk _ _ [_, _, _, _, _], _] _ at F1
  refine Ops.step (One.val rfl rfl rfl (yld_assign rfl ev_c) ?_)
  refine Ops.nil fun a hS => ?_
  refine hK1 _ _ ?_ a hS
  refine Cod.seq fun K2 hK2 => ?_
  refine Cod.region ?_
  refine Ops.step (One.val rfl rfl rfl (yld_loadN ag31 rfl (ev_t rfl) (fun _ => F1.range (m := 5) (cs' := [_, _, _, _, _]) 0 rfl rfl) rfl) ?_)
  refine Ops.step (One.call rfl rfl rfl (ent_f rfl (evl1 (ev_t rfl)) (enters en11)) (specAll_ct t _ _ ((ht.keepX F1.chg fun _ _ h => h).weak fun _ _ => trivial) hf hw) (fun e w2 hw2 => ?_))
  obtain ⟨av, axs, rfl, hal, C2, hm, hbn⟩ := hw2
  have hm2 : Mem (sepP (waysR t) av axs) w2 := hm
  obtain ⟨A, m, c, hav⟩ := own_form (Mem.get 0 rfl hm2)
  have hml := own_len (Mem.get 0 rfl hm2) hav
  subst hav
  subst hml
  have hal60 := waysR_len t
  have F2 := F1.new C2 (bun (sepP (waysR t) (.slice A axs.length c) axs)) hm hbn
  refine ⟨_, rfl, ?_⟩
  refine Ops.step (One.val rfl rfl rfl (yld_assign rfl (ev_t rfl)) ?_)
  refine Ops.nil fun a hS => ?_
  refine hK2 _ _ ?_ a hS
  refine Cod.seq fun K3 hK3 => ?_
  refine Cod.cut (fun i : Bool => [(0, true, .pointer (some ⟨bb, 0, none⟩)), (5, true, .slice A axs.length c), (18, true, .bool i)]) (fun i w' => (i = true → 0 < axs.length) ∧ Fr (· = bb) w [bun (sepP (waysR t) (.slice A axs.length c) axs), rd bb cv (lim + 1)] w') (fun K4 hK4 => ?_) ?_
  · skip
    refine Cod.region ?_
    refine Ops.step (One.val rfl rfl rfl (yld_move rfl (ev_t rfl)) ?_)
    refine Ops.step (One.val rfl rfl rfl (yld_len sl27 rfl (ev_t rfl)) ?_)
    refine Ops.step (One.val rfl rfl rfl (yld_gtr rfl (ev_t rfl) ev_c) ?_)
    refine Ops.step (One.val rfl rfl rfl (yld_move rfl (ev_t rfl)) ?_)
    refine Ops.step (One.val (gd_some rfl rfl) rfl rfl (yld_move rfl (ev_t rfl)) ?_)
    refine Ops.gsplit (gd_some rfl rfl) ?_ ?_
    · intro hgt
      skip
      refine Ops.step (One.gsure (gd_some rfl rfl) hgt rfl rfl (ent_f rfl (evl2 (ev_g rfl) ev_c) (enters en80)) (pick_ct 3 bb cv _ _ (hcode.keep F2.chg) (F2.get 2 rfl) (by omega) (by omega)) (fun e w3 hw3 => ?_))
      obtain ⟨r1, rfl, C3, hrdr1, hr1⟩ := hw3
      have F3 := F2.upd 2 rfl C3 (fun _ hk => .inl hk) (rd bb cv _) hrdr1 (fun _ hk => .inl hk)
      change Fr _ _ [_, _, _] _ at F3
      refine ⟨_, rfl, ?_⟩
      refine Ops.step (One.val (gd_some rfl rfl) rfl rfl (yld_gtr rfl (ev_g rfl) ev_c) ?_)
      refine Ops.step (One.val rfl rfl rfl (yld_and rfl (ev_t rfl) (ev_g rfl)) ?_)
      refine Ops.nil fun a hS => ?_
      have F4 := F3.pull 2 rfl
      have F5 := F4.pull 1 rfl
      have F6 := F5.erase 2
      first
        | exact hK4 _ _ a (hS.sub ⟨rfl, rfl, rfl, trivial⟩) ⟨fun hi => by first | (simp at hi; done) | (simp at hi; omega), F6⟩
        | exact hK4 _ _ a (hS.sub ⟨rfl, rfl, rfl, trivial⟩) ⟨fun hi => by first | (simp at hi; done) | (simp at hi; omega), F6.rdUp 1 rfl (lim + 1) (by omega)⟩
    · intro hgf
      skip
      refine Ops.step (One.gskip (v := .int .i64 0) (gd_some rfl rfl) hgf rfl rfl ?_)
      refine Ops.step (One.val (gd_some rfl rfl) rfl rfl (yld_gtr rfl (ev_g rfl) ev_c) ?_)
      refine Ops.step (One.val rfl rfl rfl (yld_and rfl (ev_t rfl) (ev_g rfl)) ?_)
      refine Ops.nil fun a hS => ?_
      have F8 := F2.pull 2 rfl
      have F9 := F8.pull 1 rfl
      have F10 := F9.erase 2
      first
        | exact hK4 _ _ a (hS.sub ⟨rfl, rfl, rfl, trivial⟩) ⟨fun hi => by first | (simp at hi; done) | (simp at hi; omega), F10⟩
        | exact hK4 _ _ a (hS.sub ⟨rfl, rfl, rfl, trivial⟩) ⟨fun hi => by first | (simp at hi; done) | (simp at hi; omega), F10.rdUp 1 rfl (lim + 1) (by omega)⟩
  · skip
    intro i w5 hW
    obtain ⟨hpos, F11⟩ := hW
    refine Cod.cond rfl (fun hc18 => ?_) (fun hc18 => ?_)
    · skip
      have hp0 := hpos hc18
      refine Cod.seq fun K5 hK5 => ?_
      refine Cod.region ?_
      refine Ops.step (One.val rfl rfl rfl (yld_move rfl (ev_t rfl)) ?_)
      refine Ops.step (One.val rfl rfl rfl (yld_move rfl (ev_t rfl)) ?_)
      refine Ops.step (One.val rfl rfl rfl (yld_move rfl (ev_t rfl)) ?_)
      refine Ops.step (One.val rfl rfl rfl (yld_len sl27 rfl (ev_t rfl)) ?_)
      refine Ops.step (One.call rfl rfl rfl (ent_f rfl (evl2 (ev_t rfl) (ev_t rfl)) (enters en80)) (pick_ct axs.length bb cv _ _ (hcode.keep F11.chg) (F11.get 1 rfl) (by omega) (by omega)) (fun e w6 hw6 => ?_))
      obtain ⟨r3, rfl, C6, hrdr3, hr3⟩ := hw6
      have F12 := F11.upd 1 rfl C6 (fun _ hk => .inl hk) (rd bb cv _) hrdr3 (fun _ hk => .inl hk)
      change Fr _ _ [_, _] _ at F12
      have hmS : Mem (sepP (waysR t) (.slice A axs.length c) axs) w6 := F12.get 0 rfl
      have hre := own_rep (e := 46) (enc := vCells) (sz := 1) (fun _ => rfl) (Mem.get 0 rfl hmS)
      obtain ⟨ab, ao, rfl, -, har⟩ := hre.at r3 hr3
      have hrow := rowsP_get (l := waysR t) (xs := axs) r3 (by omega) hr3
      refine ⟨_, rfl, ?_⟩
      refine Ops.step (One.val rfl rfl rfl (yld_indexN sl27 rfl (ev_t rfl) (ev_t rfl) (fun _ => by omega)) ?_)
      refine Ops.step (One.val rfl rfl rfl (yld_load1 on46 rfl (ev_t rfl) (fun _ => rangeAt_cell har (j := 0) rfl)) ?_)
      refine Ops.step (One.val rfl rfl rfl (yld_assign rfl (ev_t rfl)) ?_)
      refine Ops.nil fun a hS => ?_
      refine hK5 _ _ ?_ a hS
      refine Cod.seq fun K6 hK6 => ?_
      refine Cod.seq fun K7 hK7 => ?_
      have hB1 := F12.bunOut
      have hB2 := (show Fr _ _ (own 46 1 (.slice (some ⟨ab, ao, none⟩) axs.length c) axs.length (axs.flatMap vCells) :: bun (rowsP (waysR t) axs) :: rd bb cv _ :: []) w6 from hB1).drop1
      have F13 := hB2.bunPick r3 hrow
      obtain ⟨pv, hpv⟩ : ∃ pv, pv = axs[r3] := ⟨_, rfl⟩
      rw [← hpv] at F13 ⊢
      obtain ⟨p, hpe⟩ : ∃ p, p = (waysR t)[r3] := ⟨_, rfl⟩
      have hpk := waysR_key t _ (List.getElem_mem (by omega : r3 < (waysR t).length))
      have hps := waysR_short t _ (List.getElem_mem (by omega : r3 < (waysR t).length))
      rw [← hpe] at F13 hpk hps
      obtain ⟨pA, pm, pc, hpve⟩ := own_form (F13.get 0 rfl)
      have hpm := own_len (F13.get 0 rfl) hpve
      subst hpve
      subst hpm
      change Fr _ _ [own 52 3 (.slice pA p.length pc) p.length (p.flatMap pCells), rd bb cv _] _ at F13
      refine Cod.region ?_
      refine Ops.step (One.val rfl rfl rfl (yld_move rfl (ev_t rfl)) ?_)
      refine Ops.step (One.call rfl rfl rfl (ent_f rfl (evl2 (ev_t rfl) ev_c) (enters en80)) (pick_ct 3 bb cv _ _ (hcode.keep F13.chg) (F13.get 1 rfl) (by omega) (by omega)) (fun e w7 hw7 => ?_))
      obtain ⟨r4, rfl, C7, hrdr4, hr4⟩ := hw7
      have F14 := F13.upd 1 rfl C7 (fun _ hk => .inl hk) (rd bb cv _) hrdr4 (fun _ hk => .inl hk)
      change Fr _ _ [_, _] _ at F14
      refine ⟨_, rfl, ?_⟩
      refine Ops.step (One.val rfl rfl rfl (yld_eql rfl (ev_t rfl) ev_c) ?_)
      refine Ops.step (One.val rfl rfl rfl (yld_move rfl (ev_t rfl)) ?_)
      refine Ops.step (One.val (gd_some rfl rfl) rfl rfl (yld_move rfl (ev_t rfl)) ?_)
      refine Ops.step (One.val (gd_some rfl rfl) rfl rfl (yld_len sl46 rfl (ev_g rfl)) ?_)
      refine Ops.step (One.val (gd_some rfl rfl) rfl rfl (yld_lss rfl (ev_g rfl) ev_c) ?_)
      refine Ops.step (One.val rfl rfl rfl (yld_and rfl (ev_t rfl) (ev_g rfl)) ?_)
      refine Ops.nil fun a hS => ?_
      refine hK7 _ _ ?_ a hS
      refine Cod.cond rfl (fun hc33 => ?_) (fun hc33 => ?_)
      · skip
        refine Cod.region ?_
        refine Ops.step (One.val rfl rfl rfl (yld_move rfl (ev_t rfl)) ?_)
        refine Ops.step (One.val rfl rfl rfl (yld_move rfl (ev_t rfl)) ?_)
        refine Ops.step (One.buildSlice (cells := (wayA.flatMap sCells)) F14 sl22 zero9 rfl rfl rfl rfl (evp2 ev_c ev_c) rfl rfl (by kernel_rfl) ?_)
        intro b2 w8 hb2 F15
        refine Ops.step (One.call rfl rfl rfl (ent_f rfl (evl2 (ev_t rfl) (ev_t rfl)) (enters en117)) (rof_ct wayA bb cv _ _ _ (hcode.keep F15.chg) (F15.get 2 rfl) (by have := F15.lit (enc := sCells) (sz := 1) (xs := wayA) (fun _ => rfl) 0 2 (by decide) rfl rfl (by decide); exact this) (by omega) (by decide) (by decide)) (fun e w9 hw9 => ?_))
        obtain ⟨s5, hms5, rfl, C9, hrds5⟩ := hw9
        have F16 := F15.upd 2 rfl C9 (fun _ hk => .inl hk) (rd bb cv _) hrds5 (fun _ hk => .inl hk)
        change Fr _ _ [_, _, _] _ at F16
        refine ⟨_, rfl, ?_⟩
        refine Ops.step (One.val rfl rfl rfl (yld_build (cells := [.bool true, .string s5, .int .i64 0]) rfl (evp2 ev_c (ev_t rfl)) (by kernel_rfl)) ?_)
        refine Ops.step (One.buildSlice (cells := (pCells ⟨true, s5, 0⟩)) F16 sl46 zero52 rfl rfl rfl rfl (evp1 (ev_t rfl)) rfl rfl (by kernel_rfl) ?_)
        intro b3 w10 hb3 F17
        refine Ops.step (One.append (enc := pCells) [⟨true, s5, 0⟩] F17 2 rfl sl46 zero52 rfl rfl (fun _ => rfl) rfl rfl rfl rfl (ev_t rfl) (ev_t rfl) ((blk_rep (enc := pCells) (sz := 3) (xs := [⟨true, s5, 0⟩]) (fun _ => rfl) (by simpa using F17.get 0 rfl) (by simp) (by simp)).weak fun _ _ => trivial) (fun _ _ => rfl) (by simp; omega) (by simp; omega) ?_)
        intro u5 w11 hu5 F18
        change Fr _ _ [_, _, _, _] _ at F18
        refine Ops.step (One.val rfl rfl rfl (yld_assign rfl (ev_t rfl)) ?_)
        refine Ops.nil fun a hS => ?_
        refine hK6 _ _ ?_ a hS
        refine Cod.seq fun K8 hK8 => ?_
        refine Cod.region ?_
        refine Ops.step (One.val rfl rfl rfl (yld_move rfl (ev_t rfl)) ?_)
        refine Ops.step (One.val rfl rfl rfl (yld_assign rfl (ev_t rfl)) ?_)
        refine Ops.nil fun a hS => ?_
        refine hK8 _ _ ?_ a hS
        refine Cod.ret fun a hS => ?_
        try simp only [Exit.then, Exit.inBlock]
        exact ret1 (t := 4) rfl hS rfl (DrewP.of F18 3 2 rfl rfl (by decide) (by omega) (hpk.snoc (memW hms5 (by decide))) (by simp; omega))
      · skip
        refine Cod.skip fun a hS => ?_
        refine hK6 _ _ ?_ a hS
        refine Cod.seq fun K9 hK9 => ?_
        refine Cod.region ?_
        refine Ops.step (One.val rfl rfl rfl (yld_move rfl (ev_t rfl)) ?_)
        refine Ops.step (One.val rfl rfl rfl (yld_assign rfl (ev_t rfl)) ?_)
        refine Ops.nil fun a hS => ?_
        refine hK9 _ _ ?_ a hS
        refine Cod.ret fun a hS => ?_
        try simp only [Exit.then, Exit.inBlock]
        exact ret1 (t := 4) rfl hS rfl (DrewP.of F14 1 0 rfl rfl (by decide) (by omega) hpk (by omega))
    · skip
      skip
      refine Cod.skip fun a hS => ?_
      refine hK3 _ _ ?_ a hS
      refine Cod.seq fun K10 hK10 => ?_
      refine Cod.region ?_
      refine Ops.step (One.buildNil pCells F11 sl46 rfl rfl rfl rfl ?_)
      intro b4 w12 hb4 F19
      refine Ops.step (One.val rfl rfl rfl (yld_assign rfl (ev_t rfl)) ?_)
      refine Ops.nil fun a hS => ?_
      refine hK10 _ _ ?_ a hS
      refine Cod.seq fun K11 hK11 => ?_
      refine Cod.seq fun K12 hK12 => ?_
      refine Cod.region ?_
      refine Ops.step (One.val rfl rfl rfl (yld_move rfl (ev_t rfl)) ?_)
      refine Ops.step (One.call rfl rfl rfl (ent_f rfl (evl2 (ev_t rfl) ev_c) (enters en80)) (pick_ct 4 bb cv _ _ (hcode.keep F19.chg) (F19.get 2 rfl) (by omega) (by omega)) (fun e w13 hw13 => ?_))
      obtain ⟨r8, rfl, C13, hrdr8, hr8⟩ := hw13
      have F20 := F19.upd 2 rfl C13 (fun _ hk => .inl hk) (rd bb cv _) hrdr8 (fun _ hk => .inl hk)
      change Fr _ _ [_, _, _] _ at F20
      refine ⟨_, rfl, ?_⟩
      refine Ops.step (One.val rfl rfl rfl (yld_assign rfl (ev_t rfl)) ?_)
      refine Ops.nil fun a hS => ?_
      refine hK12 _ _ ?_ a hS
      refine Cod.block ?_
      have F21 := F20.pull 2 rfl
      have F22 := F21.pull 1 rfl
      have F23 := F22.erase 2
      refine Cod.loop (fun i : Nat × Nat × List Stp × Value => [(0, true, .pointer (some ⟨bb, 0, none⟩)), (7, true, i.2.2.2), (8, true, .int .i64 (i.1 : Int))]) (fun i w' => i.1 + i.2.1 ≤ 3 ∧ i.2.2.1.length ≤ i.2.1 ∧ shortK i.2.2.1 ∧ Fr (· = bb) w [own 52 3 i.2.2.2 i.2.2.1.length (i.2.2.1.flatMap pCells), rd bb cv (lim + 2 + 2 * i.2.1)] w') (fun i => i.1) (r8, 0, [], .slice (some ⟨b4, 0, none⟩) 0 0) ⟨rfl, rfl, rfl, trivial⟩ ⟨by show r8 + 0 ≤ 3; omega, Nat.le_refl _, shortK.nil, F23⟩ ?_
      intro i w14 hW K13 hK13
      obtain ⟨j, m, p, pv⟩ := i
      obtain ⟨hjm, hpm, hpk, F24⟩ := hW
      dsimp only at *
      refine Cod.seq fun K14 hK14 => ?_
      refine Cod.seq fun K15 hK15 => ?_
      refine Cod.region ?_
      refine Ops.step (One.val rfl rfl rfl (yld_move rfl (ev_t rfl)) ?_)
      refine Ops.step (One.val rfl rfl rfl (yld_gtr rfl (ev_t rfl) ev_c) ?_)
      refine Ops.nil fun a hS => ?_
      refine hK15 _ _ ?_ a hS
      refine Cod.cond rfl (fun hc46 => ?_) (fun hc46 => ?_)
      · skip
        have hj0 : 0 < j := by simp at hc46; omega
        obtain ⟨j, rfl⟩ : ∃ j2, j = j2 + 1 := ⟨j - 1, by omega⟩
        refine Cod.skip fun a hS => ?_
        refine hK14 _ _ ?_ a hS
        refine Cod.seq fun K16 hK16 => ?_
        refine Cod.block ?_
        refine Cod.seq fun K17 hK17 => ?_
        refine Cod.region ?_
        refine Ops.step (One.val rfl rfl rfl (yld_move rfl (ev_t rfl)) ?_)
        refine Ops.step (One.call rfl rfl rfl (ent_f rfl (evl2 (ev_t rfl) ev_c) (enters en80)) (pick_ct 2 bb cv _ _ (hcode.keep F24.chg) (F24.get 1 rfl) (by omega) (by omega)) (fun e w15 hw15 => ?_))
        obtain ⟨r11, rfl, C15, hrdr11, hr11⟩ := hw15
        have F25 := F24.upd 1 rfl C15 (fun _ hk => .inl hk) (rd bb cv _) hrdr11 (fun _ hk => .inl hk)
        change Fr _ _ [_, _] _ at F25
        refine ⟨_, rfl, ?_⟩
        refine Ops.step (One.val rfl rfl rfl (yld_eql rfl (ev_t rfl) ev_c) ?_)
        refine Ops.nil fun a hS => ?_
        refine hK17 _ _ ?_ a hS
        refine Cod.cond rfl (fun hc51 => ?_) (fun hc51 => ?_)
        · skip
          refine Cod.region ?_
          refine Ops.step (One.val rfl rfl rfl (yld_move rfl (ev_t rfl)) ?_)
          refine Ops.step (One.val rfl rfl rfl (yld_move rfl (ev_t rfl)) ?_)
          refine Ops.step (One.buildSlice (cells := (wayK.flatMap sCells)) F25 sl22 zero9 rfl rfl rfl rfl (evp4 ev_c ev_c ev_c ev_c) rfl rfl (by kernel_rfl) ?_)
          intro b5 w16 hb5 F26
          refine Ops.step (One.call rfl rfl rfl (ent_f rfl (evl2 (ev_t rfl) (ev_t rfl)) (enters en117)) (rof_ct wayK bb cv _ _ _ (hcode.keep F26.chg) (F26.get 2 rfl) (by have := F26.lit (enc := sCells) (sz := 1) (xs := wayK) (fun _ => rfl) 0 2 (by decide) rfl rfl (by decide); exact this) (by omega) (by decide) (by decide)) (fun e w17 hw17 => ?_))
          obtain ⟨s12, hms12, rfl, C17, hrds12⟩ := hw17
          have F27 := F26.upd 2 rfl C17 (fun _ hk => .inl hk) (rd bb cv _) hrds12 (fun _ hk => .inl hk)
          change Fr _ _ [_, _, _] _ at F27
          refine ⟨_, rfl, ?_⟩
          refine Ops.step (One.val rfl rfl rfl (yld_build (cells := [.bool true, .string s12, .int .i64 0]) rfl (evp2 ev_c (ev_t rfl)) (by kernel_rfl)) ?_)
          refine Ops.step (One.buildSlice (cells := (pCells ⟨true, s12, 0⟩)) F27 sl46 zero52 rfl rfl rfl rfl (evp1 (ev_t rfl)) rfl rfl (by kernel_rfl) ?_)
          intro b6 w18 hb6 F28
          refine Ops.step (One.append (enc := pCells) [⟨true, s12, 0⟩] F28 2 rfl sl46 zero52 rfl rfl (fun _ => rfl) rfl rfl rfl rfl (ev_t rfl) (ev_t rfl) ((blk_rep (enc := pCells) (sz := 3) (xs := [⟨true, s12, 0⟩]) (fun _ => rfl) (by simpa using F28.get 0 rfl) (by simp) (by simp)).weak fun _ _ => trivial) (fun _ _ => rfl) (by simp; omega) (by simp; omega) ?_)
          intro u12 w19 hu12 F29
          change Fr _ _ [_, _, _, _] _ at F29
          refine Ops.step (One.val rfl rfl rfl (yld_assign rfl (ev_t rfl)) ?_)
          refine Ops.nil fun a hS => ?_
          refine hK16 _ _ ?_ a hS
          refine Cod.region ?_
          refine Ops.step (One.val rfl rfl rfl (yld_move rfl (ev_t rfl)) ?_)
          refine Ops.step (One.val rfl rfl rfl (yld_sub rfl (ev_t rfl) ev_c (fun _ => by omega)) ?_)
          refine Ops.step (One.val rfl rfl rfl (yld_assign rfl (ev_t rfl)) ?_)
          refine Ops.nil fun a hS => ?_
          have F30 := F29.pull 3 rfl
          have F31 := F30.pull 3 rfl
          have F32 := F31.erase 2
          have F33 := F32.erase 2
          rw [show ((j + 1 : Nat) : Int) - 1 = (j : Int) by omega] at hS
          exact hK13 (j, m + 1, _, _) _ a (hS.sub ⟨rfl, rfl, rfl, trivial⟩) ⟨by show j + (m + 1) ≤ 3; omega, by simp; omega, hpk.snoc (memW hms12 (by decide)), F33.rdUp 1 rfl (lim + 2 + 2 * (m + 1)) (by omega)⟩ (by show j < j + 1; omega)
        · skip
          refine Cod.region ?_
          refine Ops.step (One.val rfl rfl rfl (yld_move rfl (ev_t rfl)) ?_)
          refine Ops.step (One.val rfl rfl rfl (yld_move rfl (ev_t rfl)) ?_)
          refine Ops.step (One.buildSlice (cells := (wayI.flatMap jCells)) F25 sl128 zero3 rfl rfl rfl rfl (evp4 ev_c ev_c ev_c ev_c) rfl rfl (by kernel_rfl) ?_)
          intro b7 w20 hb7 F34
          refine Ops.step (One.call rfl rfl rfl (ent_f rfl (evl2 (ev_t rfl) (ev_t rfl)) (enters en116)) (rnum_ct wayI bb cv _ _ _ (hcode.keep F34.chg) (F34.get 2 rfl) (by have := F34.lit (enc := jCells) (sz := 1) (xs := wayI) (fun _ => rfl) 0 2 (by decide) rfl rfl (by decide); exact this) (by omega) (by decide) (by decide)) (fun e w21 hw21 => ?_))
          obtain ⟨s13, hms13, rfl, C21, hrds13⟩ := hw21
          have F35 := F34.upd 2 rfl C21 (fun _ hk => .inl hk) (rd bb cv _) hrds13 (fun _ hk => .inl hk)
          change Fr _ _ [_, _, _] _ at F35
          refine ⟨_, rfl, ?_⟩
          refine Ops.step (One.val rfl rfl rfl (yld_build (cells := [.bool false, .string ⟨#[]⟩, .int .i64 s13]) rfl (evp1 (ev_t rfl)) (by kernel_rfl)) ?_)
          refine Ops.step (One.buildSlice (cells := (pCells ⟨false, ⟨#[]⟩, s13⟩)) F35 sl46 zero52 rfl rfl rfl rfl (evp1 (ev_t rfl)) rfl rfl (by kernel_rfl) ?_)
          intro b8 w22 hb8 F36
          refine Ops.step (One.append (enc := pCells) [⟨false, ⟨#[]⟩, s13⟩] F36 2 rfl sl46 zero52 rfl rfl (fun _ => rfl) rfl rfl rfl rfl (ev_t rfl) (ev_t rfl) ((blk_rep (enc := pCells) (sz := 3) (xs := [⟨false, ⟨#[]⟩, s13⟩]) (fun _ => rfl) (by simpa using F36.get 0 rfl) (by simp) (by simp)).weak fun _ _ => trivial) (fun _ _ => rfl) (by simp; omega) (by simp; omega) ?_)
          intro u13 w23 hu13 F37
          change Fr _ _ [_, _, _, _] _ at F37
          refine Ops.step (One.val rfl rfl rfl (yld_assign rfl (ev_t rfl)) ?_)
          refine Ops.nil fun a hS => ?_
          refine hK16 _ _ ?_ a hS
          refine Cod.region ?_
          refine Ops.step (One.val rfl rfl rfl (yld_move rfl (ev_t rfl)) ?_)
          refine Ops.step (One.val rfl rfl rfl (yld_sub rfl (ev_t rfl) ev_c (fun _ => by omega)) ?_)
          refine Ops.step (One.val rfl rfl rfl (yld_assign rfl (ev_t rfl)) ?_)
          refine Ops.nil fun a hS => ?_
          have F38 := F37.pull 3 rfl
          have F39 := F38.pull 3 rfl
          have F40 := F39.erase 2
          have F41 := F40.erase 2
          rw [show ((j + 1 : Nat) : Int) - 1 = (j : Int) by omega] at hS
          exact hK13 (j, m + 1, _, _) _ a (hS.sub ⟨rfl, rfl, rfl, trivial⟩) ⟨by show j + (m + 1) ≤ 3; omega, by simp; omega, hpk.snoc (Nat.zero_le _), F41.rdUp 1 rfl (lim + 2 + 2 * (m + 1)) (by omega)⟩ (by show j < j + 1; omega)
      · skip
        skip
        refine Cod.exit fun a hS => ?_
        simp only [Exit.then, Exit.inBlock, ↓reduceIte]
        refine hK11 _ _ ?_ a hS
        refine Cod.seq fun K18 hK18 => ?_
        refine Cod.region ?_
        refine Ops.step (One.val rfl rfl rfl (yld_move rfl (ev_t rfl)) ?_)
        refine Ops.step (One.val rfl rfl rfl (yld_assign rfl (ev_t rfl)) ?_)
        refine Ops.nil fun a hS => ?_
        refine hK18 _ _ ?_ a hS
        refine Cod.ret fun a hS => ?_
        try simp only [Exit.then, Exit.inBlock]
        exact ret1 (t := 4) rfl hS rfl (DrewP.of F24 1 0 rfl rfl (by decide) (by omega) hpk (by omega))


/-- What a function gives that draws a tree and a way. -/
def rpsW (G : Nat → Prop) (l : List (Tr × Value)) (p : List Stp) (pv : Value) : Res := ⟨G, fun w => (rps G l).is w ∧ RepP G w p pv, fun w w' h hi => ⟨(rps G l).keep w w' h hi.1, hi.2.keep h⟩, fun w hi k hk => (rps G l).lt w hi.1 k hk⟩
def DrawW (w : World) (e : Ending) (w' : World) : Prop := ∃ (x : V5) (t : Tr) (pv : Value) (p : List Stp), e = .returned (.tuple #[x.val, pv]) ∧ Chg No w w' ∧ (rpsW (New w w') [(t, x.val)] p pv).is w' ∧ Dr t ∧ shortK p ∧ p.length ≤ 100

set_option maxRecDepth 100000 in
theorem l3Bent_ct (t : Tr) (v : Value) (bb : Nat) (cv : Value) (lim : Nat) (w : World) (hcode : Code bb w cv) (hr : (rd bb cv lim).is w) (ht : Rep (fun k => k ≠ bb) w t v) (hf : t.Fit) (hw : t.wt ≤ 1048576) (hlim : lim ≤ 1000000) :
    Calls Try.prog 68 #[.pointer (some ⟨bb, 0, none⟩), v] w (DrewP bb cv (lim + 30) 62 w) := by
  obtain ⟨v3, v4, ev, -, -⟩ := ht.form
  subst ev
  refine enter Try.func68 rfl rfl rfl ?_
  have F0 := Fr.lend (rd bb cv lim) hr
  refine Cod.seq fun K1 hK1 => ?_
  refine Cod.region ?_
  refine Ops.step (One.box F0 rfl rfl rfl rfl (ev_t rfl) ?_)
  intro b1 w1 hb1 F1
  change Fr _ _ [blk _ _ [_, _, _, _, _], _] _ at F1
  refine Ops.step (One.val rfl rfl rfl (yld_assign rfl ev_c) ?_)
  refine Ops.nil fun a hS => ?_
  refine hK1 _ _ ?_ a hS
  refine Cod.seq fun K2 hK2 => ?_
  refine Cod.region ?_
  refine Ops.step (One.val rfl rfl rfl (yld_move rfl (ev_t rfl)) ?_)
  refine Ops.step (One.val rfl rfl rfl (yld_loadN ag31 rfl (ev_t rfl) (fun _ => F1.range (m := 5) (cs' := [_, _, _, _, _]) 0 rfl rfl) rfl) ?_)
  refine Ops.step (One.call rfl rfl rfl (ent_f rfl (evl2 (ev_t rfl) (ev_t rfl)) (enters en118)) (l3Path_ct t _ bb cv _ _ (hcode.keep F1.chg) (F1.get 1 rfl) (ht.keepX F1.chg fun _ _ h => h) hf hw (by omega)) (fun e w2 hw2 => ?_))
  obtain ⟨pv, p, rfl, C2, hrdp, hop, hobp, hpk, hpl⟩ := hw2
  obtain ⟨pA, pm, pc, hpve⟩ := own_form hop
  have hpm := own_len hop hpve
  subst hpve
  subst hpm
  have F2 := F1.updNew 1 rfl C2 (fun _ hk => hk) (rd bb cv _) hrdp (fun _ hk => hk) (own 52 3 (.slice pA p.length pc) p.length (p.flatMap pCells)) hop hobp
  change Fr _ _ (_ :: [_, _]) _ at F2
  refine ⟨_, rfl, ?_⟩
  refine Ops.step (One.val rfl rfl rfl (yld_assign rfl (ev_t rfl)) ?_)
  refine Ops.nil fun a hS => ?_
  refine hK2 _ _ ?_ a hS
  refine Cod.seq fun K3 hK3 => ?_
  refine Cod.seq fun K4 hK4 => ?_
  refine Cod.region ?_
  refine Ops.step (One.val rfl rfl rfl (yld_move rfl (ev_t rfl)) ?_)
  refine Ops.step (One.call rfl rfl rfl (ent_f rfl (evl2 (ev_t rfl) ev_c) (enters en80)) (pick_ct 30 bb cv _ _ (hcode.keep F2.chg) (F2.get 2 rfl) (by omega) (by omega)) (fun e w3 hw3 => ?_))
  obtain ⟨r2, rfl, C3, hrdr2, hr2⟩ := hw3
  have F3 := F2.upd 2 rfl C3 (fun _ hk => .inl hk) (rd bb cv _) hrdr2 (fun _ hk => .inl hk)
  change Fr _ _ [_, _, _] _ at F3
  refine ⟨_, rfl, ?_⟩
  refine Ops.nil fun a hS => ?_
  refine hK4 _ _ ?_ a hS
  refine Cod.block ?_
  refine Cod.seq fun K5 hK5 => ?_
  refine Cod.region ?_
  refine Ops.step (One.val rfl rfl rfl (yld_eql rfl (ev_t rfl) ev_c) ?_)
  refine Ops.step (One.val rfl rfl rfl (yld_assign rfl (ev_t rfl)) ?_)
  refine Ops.nil fun a hS => ?_
  refine hK5 _ _ ?_ a hS
  refine Cod.cond rfl (fun hc11 => ?_) (fun hc11 => ?_)
  · skip
    refine Cod.seq fun K6 hK6 => ?_
    refine Cod.region ?_
    refine Ops.step (One.val rfl rfl rfl (yld_move rfl (ev_t rfl)) ?_)
    refine Ops.step (One.val rfl rfl rfl (yld_build (cells := [.bool true, .string ⟨#[65]⟩, .int .i64 0]) rfl (evp2 ev_c ev_c) (by kernel_rfl)) ?_)
    refine Ops.step (One.buildSlice (cells := (pCells ⟨true, ⟨#[65]⟩, 0⟩)) F3 sl46 zero52 rfl rfl rfl rfl (evp1 (ev_t rfl)) rfl rfl (by kernel_rfl) ?_)
    intro b2 w4 hb2 F4
    refine Ops.step (One.append (enc := pCells) [⟨true, ⟨#[65]⟩, 0⟩] F4 1 rfl sl46 zero52 rfl rfl (fun _ => rfl) rfl rfl rfl rfl (ev_t rfl) (ev_t rfl) ((blk_rep (enc := pCells) (sz := 3) (xs := [⟨true, ⟨#[65]⟩, 0⟩]) (fun _ => rfl) (by simpa using F4.get 0 rfl) (by simp) (by simp)).weak fun _ _ => trivial) (fun _ _ => rfl) (by simp; omega) (by simp; omega) ?_)
    intro u4 w5 hu4 F5
    change Fr _ _ [_, _, blk _ _ [_, _, _, _, _], _] _ at F5
    refine Ops.step (One.val rfl rfl rfl (yld_assign rfl (ev_t rfl)) ?_)
    refine Ops.nil fun a hS => ?_
    refine hK6 _ _ ?_ a hS
    refine Cod.ret fun a hS => ?_
    try simp only [Exit.then, Exit.inBlock]
    exact ret1 (t := 4) rfl hS rfl (DrewP.of F5 3 1 rfl rfl (by decide) (by omega) (hpk.snoc (by decide)) (by simp; omega))
  · skip
    refine Cod.seq fun K7 hK7 => ?_
    refine Cod.region ?_
    refine Ops.step (One.val rfl rfl rfl (yld_eql rfl (ev_t rfl) ev_c) ?_)
    refine Ops.step (One.val rfl rfl rfl (yld_assign rfl (ev_t rfl)) ?_)
    refine Ops.nil fun a hS => ?_
    refine hK7 _ _ ?_ a hS
    refine Cod.cond rfl (fun hc17 => ?_) (fun hc17 => ?_)
    · skip
      refine Cod.seq fun K8 hK8 => ?_
      refine Cod.region ?_
      refine Ops.step (One.val rfl rfl rfl (yld_move rfl (ev_t rfl)) ?_)
      refine Ops.step (One.val rfl rfl rfl (yld_move rfl (ev_t rfl)) ?_)
      refine Ops.step (One.buildSlice (cells := (wayB.flatMap jCells)) F3 sl128 zero3 rfl rfl rfl rfl (evp2 ev_c ev_c) rfl rfl (by kernel_rfl) ?_)
      intro b3 w6 hb3 F6
      refine Ops.step (One.call rfl rfl rfl (ent_f rfl (evl2 (ev_t rfl) (ev_t rfl)) (enters en116)) (rnum_ct wayB bb cv _ _ _ (hcode.keep F6.chg) (F6.get 3 rfl) (by have := F6.lit (enc := jCells) (sz := 1) (xs := wayB) (fun _ => rfl) 0 3 (by decide) rfl rfl (by decide); exact this) (by omega) (by decide) (by decide)) (fun e w7 hw7 => ?_))
      obtain ⟨s6, hms6, rfl, C7, hrds6⟩ := hw7
      have F7 := F6.upd 3 rfl C7 (fun _ hk => .inl hk) (rd bb cv _) hrds6 (fun _ hk => .inl hk)
      change Fr _ _ [_, _, _, _] _ at F7
      refine ⟨_, rfl, ?_⟩
      refine Ops.step (One.val rfl rfl rfl (yld_build (cells := [.bool false, .string ⟨#[]⟩, .int .i64 s6]) rfl (evp1 (ev_t rfl)) (by kernel_rfl)) ?_)
      refine Ops.step (One.buildSlice (cells := (pCells ⟨false, ⟨#[]⟩, s6⟩)) F7 sl46 zero52 rfl rfl rfl rfl (evp1 (ev_t rfl)) rfl rfl (by kernel_rfl) ?_)
      intro b4 w8 hb4 F8
      refine Ops.step (One.append (enc := pCells) [⟨false, ⟨#[]⟩, s6⟩] F8 2 rfl sl46 zero52 rfl rfl (fun _ => rfl) rfl rfl rfl rfl (ev_t rfl) (ev_t rfl) ((blk_rep (enc := pCells) (sz := 3) (xs := [⟨false, ⟨#[]⟩, s6⟩]) (fun _ => rfl) (by simpa using F8.get 0 rfl) (by simp) (by simp)).weak fun _ _ => trivial) (fun _ _ => rfl) (by simp; omega) (by simp; omega) ?_)
      intro u6 w9 hu6 F9
      change Fr _ _ [_, _, _, blk _ _ [_, _, _, _, _], _] _ at F9
      refine Ops.step (One.val rfl rfl rfl (yld_assign rfl (ev_t rfl)) ?_)
      refine Ops.nil fun a hS => ?_
      refine hK8 _ _ ?_ a hS
      refine Cod.ret fun a hS => ?_
      try simp only [Exit.then, Exit.inBlock]
      exact ret1 (t := 4) rfl hS rfl (DrewP.of F9 4 2 rfl rfl (by decide) (by omega) (hpk.snoc (Nat.zero_le _)) (by simp; omega))
    · skip
      refine Cod.seq fun K9 hK9 => ?_
      refine Cod.region ?_
      refine Ops.step (One.val rfl rfl rfl (yld_eql rfl (ev_t rfl) ev_c) ?_)
      refine Ops.step (One.val rfl rfl rfl (yld_assign rfl (ev_t rfl)) ?_)
      refine Ops.nil fun a hS => ?_
      refine hK9 _ _ ?_ a hS
      refine Cod.cond rfl (fun hc26 => ?_) (fun hc26 => ?_)
      · skip
        refine Cod.block ?_
        have F10 := F3.pull 2 rfl
        have F11 := F10.pull 1 rfl
        have F12 := F11.erase 2
        refine Cod.loop (fun i : List Stp × Value => [(5, true, i.2)]) (fun i w' => shortK i.1 ∧ i.1.length ≤ 62 ∧ Fr (· = bb) w [own 52 3 i.2 i.1.length (i.1.flatMap pCells), rd bb cv (lim + 25)] w') (fun i => 7 - i.1.length) (p, .slice pA p.length pc) ⟨rfl, trivial⟩ ⟨hpk, (by show p.length ≤ 62; omega), F12.rdUp 1 rfl (lim + 25) (by omega)⟩ ?_
        intro i w10 hW K10 hK10
        obtain ⟨q, qv⟩ := i
        obtain ⟨hqk, hql, F13⟩ := hW
        dsimp only at *
        obtain ⟨qA, qm, qc, hqve⟩ := own_form (F13.get 0 rfl)
        have hqm := own_len (F13.get 0 rfl) hqve
        subst hqve
        subst hqm
        refine Cod.seq fun K11 hK11 => ?_
        refine Cod.seq fun K12 hK12 => ?_
        refine Cod.region ?_
        refine Ops.step (One.val rfl rfl rfl (yld_move rfl (ev_t rfl)) ?_)
        refine Ops.step (One.val rfl rfl rfl (yld_len sl46 rfl (ev_t rfl)) ?_)
        refine Ops.step (One.val rfl rfl rfl (yld_leq rfl (ev_t rfl) ev_c) ?_)
        refine Ops.nil fun a hS => ?_
        refine hK12 _ _ ?_ a hS
        refine Cod.cond rfl (fun hc30 => ?_) (fun hc30 => ?_)
        · skip
          have hq6 : q.length ≤ 6 := by simp at hc30; omega
          refine Cod.skip fun a hS => ?_
          refine hK11 _ _ ?_ a hS
          refine Cod.block ?_
          refine Cod.region ?_
          refine Ops.step (One.val rfl rfl rfl (yld_move rfl (ev_t rfl)) ?_)
          refine Ops.step (One.val rfl rfl rfl (yld_build (cells := [.bool false, .string ⟨#[]⟩, .int .i64 0]) rfl (evp0) (by kernel_rfl)) ?_)
          refine Ops.step (One.buildSlice (cells := (pCells ⟨false, ⟨#[]⟩, 0⟩)) F13 sl46 zero52 rfl rfl rfl rfl (evp1 (ev_t rfl)) rfl rfl (by kernel_rfl) ?_)
          intro b5 w11 hb5 F14
          refine Ops.step (One.append (enc := pCells) [⟨false, ⟨#[]⟩, 0⟩] F14 1 rfl sl46 zero52 rfl rfl (fun _ => rfl) rfl rfl rfl rfl (ev_t rfl) (ev_t rfl) ((blk_rep (enc := pCells) (sz := 3) (xs := [⟨false, ⟨#[]⟩, 0⟩]) (fun _ => rfl) (by simpa using F14.get 0 rfl) (by simp) (by simp)).weak fun _ _ => trivial) (fun _ _ => rfl) (by simp; omega) (by simp; omega) ?_)
          intro u9 w12 hu9 F15
          change Fr _ _ [_, _, _] _ at F15
          refine Ops.step (One.val rfl rfl rfl (yld_assign rfl (ev_t rfl)) ?_)
          refine Ops.nil fun a hS => ?_
          have F16 := F15.pull 2 rfl
          have F17 := F16.pull 2 rfl
          have F18 := F17.erase 2
          exact hK10 (_, _) _ a (hS.sub ⟨rfl, trivial⟩) ⟨hqk.snoc (Nat.zero_le _), by simp; omega, F18⟩ (by simp; omega)
        · skip
          refine Cod.exit fun a hS => ?_
          simp only [Exit.then, Exit.inBlock, ↓reduceIte]
          refine hK3 _ _ ?_ a hS
          refine Cod.seq fun K13 hK13 => ?_
          refine Cod.region ?_
          refine Ops.step (One.val rfl rfl rfl (yld_move rfl (ev_t rfl)) ?_)
          refine Ops.step (One.val rfl rfl rfl (yld_assign rfl (ev_t rfl)) ?_)
          refine Ops.nil fun a hS => ?_
          refine hK13 _ _ ?_ a hS
          refine Cod.ret fun a hS => ?_
          try simp only [Exit.then, Exit.inBlock]
          first
            | exact ret1 (t := 4) rfl hS rfl (DrewP.of F13 1 0 rfl rfl (by decide) (by omega) hqk hql)
            | exact ret1 (t := 4) rfl hS rfl (DrewP.of F13 1 0 rfl rfl (by decide) (by omega) hpk (by omega))
      · skip
        refine Cod.skip fun a hS => ?_
        refine hK3 _ _ ?_ a hS
        refine Cod.seq fun K14 hK14 => ?_
        refine Cod.region ?_
        refine Ops.step (One.val rfl rfl rfl (yld_move rfl (ev_t rfl)) ?_)
        refine Ops.step (One.val rfl rfl rfl (yld_assign rfl (ev_t rfl)) ?_)
        refine Ops.nil fun a hS => ?_
        refine hK14 _ _ ?_ a hS
        refine Cod.ret fun a hS => ?_
        try simp only [Exit.then, Exit.inBlock]
        first
          | exact ret1 (t := 4) rfl hS rfl (DrewP.of F3 2 0 rfl rfl (by decide) (by omega) hqk hql)
          | exact ret1 (t := 4) rfl hS rfl (DrewP.of F3 2 0 rfl rfl (by decide) (by omega) hpk (by omega))

set_option maxRecDepth 100000 in
theorem drawPG_ct (code : List UInt8) (v : Value) (w : World) (hp : RepE bCells 1 Any w code v) : Calls Try.prog 24 #[v] w (DrawW w) := by
  refine enter Try.func24 rfl rfl rfl ?_
  have F0 := Fr.start w
  refine Cod.seq fun K1 hK1 => ?_
  refine Cod.region ?_
  refine Ops.step (One.alloc F0 zero31 rfl rfl rfl rfl ?_)
  intro b1 w1 hb1 F1
  change Fr _ _ [blk _ _ [_, _, _, _, _]] _ at F1
  refine Ops.step (One.val rfl rfl rfl (yld_assign rfl ev_c) ?_)
  refine Ops.nil fun a hS => ?_
  refine hK1 _ _ ?_ a hS
  refine Cod.seq fun K2 hK2 => ?_
  refine Cod.region ?_
  refine Ops.step (One.val rfl rfl rfl (yld_move rfl (ev_t rfl)) ?_)
  refine Ops.step (One.call rfl rfl rfl (ent_f rfl (evl1 (ev_t rfl)) (enters en66)) (open_ct code v _ (hp.chg F1.chg)) (fun e w2 hw2 => ?_))
  obtain ⟨bb, rfl, C2, hrd0, hbb⟩ := hw2
  obtain ⟨cv, hcv⟩ : ∃ cv, cv = cutv v := ⟨_, rfl⟩
  rw [← hcv] at hrd0
  have hcode : Code bb w cv := by rw [hcv]; exact code_of hp (by have := F1.chg.size; omega)
  have F2 := F1.new C2 (rd bb cv 0) hrd0 (fun k hk => by have h1 : k = bb := hk; subst h1; exact hbb)
  refine ⟨_, rfl, ?_⟩
  refine Ops.step (One.val rfl rfl rfl (yld_assign rfl (ev_t rfl)) ?_)
  refine Ops.nil fun a hS => ?_
  refine hK2 _ _ ?_ a hS
  refine Cod.seq fun K3 hK3 => ?_
  refine Cod.region ?_
  refine Ops.step (One.val rfl rfl rfl (yld_move rfl (ev_t rfl)) ?_)
  refine Ops.step (One.call rfl rfl rfl (ent_f rfl (evl1 (ev_t rfl)) (enters en67)) (bent_ct bb cv _ _ (hcode.chg F2.chg) (F2.get 0 rfl) (by omega)) (fun e w3 hw3 => ?_))
  obtain ⟨x1, Gx1, tx1, rfl, C3, hrdx1, hsx1, hbx1, hpx1⟩ := hw3
  have F3 := F2.updNew 0 rfl C3 (fun _ hk => hk) (rd bb cv _) hrdx1 (fun _ hk => hk) (sep Gx1 tx1 x1.val) hsx1 hbx1
  change Fr _ _ (_ :: [_, _]) _ at F3
  refine ⟨_, rfl, ?_⟩
  refine Ops.step (One.alloc F3 zero31 rfl rfl rfl rfl ?_)
  intro b2 w4 hb2 F4
  change Fr _ _ [blk _ _ [_, _, _, _, _], _, _, blk _ _ [_, _, _, _, _]] _ at F4
  refine Ops.step (One.storeN (vs := [_, _, _, _, _]) F4 0 rfl sz31 rfl rfl rfl (ev_t rfl) (ev_t rfl) rfl rfl hsx1.one ?_)
  intro w5 F5
  change Fr _ _ [blk _ _ [_, _, _, _, _], _, _, blk _ _ [_, _, _, _, _]] _ at F5
  refine Ops.nil fun a hS => ?_
  refine hK3 _ _ ?_ a hS
  refine Cod.seq fun K4 hK4 => ?_
  have F6 := F5.drew
  refine Cod.draw (C_of ((F6.erase 3).erase 2)) (by kernel_rfl) ?_
  refine Hops.take 0 rfl (by kernel_rfl) (fun _ _ _ h => h) rfl rfl rfl ((F6.erase 3).erase 2) (fun w F => (yld_loadN ag31 rfl (ev_t rfl) (fun _ => F.range (m := 5) (cs' := [_, _, _, _, _]) 0 rfl rfl) rfl)) ?_
  refine Hops.take 1 rfl (by kernel_rfl) (fun _ _ _ h => h) rfl rfl rfl ((F6.erase 3).erase 2) (fun w F => (yld_move rfl (ev_t rfl))) ?_
  refine Hops.take 2 rfl (by kernel_rfl) (fun _ _ _ h => h) rfl rfl rfl ((F6.erase 3).erase 2) (fun w F => (yld_loadN ag31 rfl (ev_t rfl) (fun _ => F.range (m := 5) (cs' := [_, _, _, _, _]) 0 rfl rfl) rfl)) ?_
  refine Hops.one 3 rfl (by kernel_rfl) (One.call rfl rfl rfl (ent_f rfl (evl2 (ev_t rfl) (ev_t rfl)) (enters en68)) (l3Bent_ct tx1 _ bb cv _ _ (hcode.chg F6.chg) (F6.get 2 rfl) ((F6.get 1 rfl : Sep _ _ _ _).repF.weak fun k hk e => F6.apart' 1 2 rfl rfl (by decide) k hk e) hpx1.fit (by have := hpx1.wt; omega) (by omega)) (fun e w6 hw6 => ?_))
  obtain ⟨pv, p, rfl, C6, hrdp, hop, hobp, hpk, hpl⟩ := hw6
  have F7 := F6.updNew 2 rfl C6 (fun _ hk => hk) (rd bb cv _) hrdp (fun _ hk => hk) (own 52 3 pv p.length (p.flatMap pCells)) hop hobp
  change Fr _ _ (_ :: [_, _, _, _]) _ at F7
  refine ⟨_, rfl, ?_⟩
  refine ⟨((F7.erase 4).erase 3).drop1, ?_⟩
  refine Hops.one 4 rfl (by kernel_rfl) (One.storeN (vs := [_, _, _, _, _]) F7 4 rfl sz31 rfl rfl rfl (ev_t rfl) (ev_t rfl) rfl rfl (Sep.one (x := x1) (F7.get 2 rfl)) ?_)
  intro w7 F8
  refine ⟨((F8.erase 4).erase 3).drop1, ?_⟩
  change Fr _ _ [_, blk _ _ [_, _, _, _, _], _, _, blk _ _ [_, _, _, _, _]] _ at F8
  refine Hops.one 5 rfl (by kernel_rfl) (One.val rfl rfl rfl (yld_assign rfl (ev_t rfl)) ?_)
  refine ⟨((F8.erase 4).erase 3).drop1, ?_⟩
  refine Hops.nil (by kernel_rfl) fun a hS => ?_
  refine hK4 _ _ ?_ a hS
  refine Cod.ret fun a hS => ?_
  try simp only [Exit.then, Exit.inBlock]
  exact retct (t := 2) (u := 3) (ty := 31) rfl hS ag31 rfl rfl (F8.range (m := 5) (cs' := [_, _, _, _, _]) 4 rfl rfl) rfl ⟨x1, tx1, pv, p, rfl, F8.chg, ⟨rps_one (rps1 (X := No) F8 2 rfl), (own_rep (enc := pCells) (sz := 3) (fun _ => rfl) (F8.get 0 rfl)).weak fun k hk => ⟨(F8.dom _ (List.mem_of_getElem? (i := 0) rfl) k hk).resolve_left id, (own _ 3 pv _ _).lt _ (F8.get 0 rfl) k hk⟩⟩, hpx1.dr, hpk, by omega⟩


theorem rpsW_t {G : Nat → Prop} {l : List (Tr × Value)} {p : List Stp} {pv : Value} {w : World} (h : (rpsW G l p pv).is w) : (rps G l).is w := h.1
theorem rpsW_p {G : Nat → Prop} {l : List (Tr × Value)} {p : List Stp} {pv : Value} {w : World} (h : (rpsW G l p pv).is w) : RepP Any w p pv := (show RepP G w p pv from h.2).weak fun _ _ => trivial
theorem path_ok {x : Tr} : ∀ {p : List Stp} {t : Tr}, okT t = true → pathT p t = some x → okT x = true
  | [], t, h, e => by rw [pathT] at e; obtain rfl := Option.some.inj e; exact h
  | s :: p, t, h, e => by
    rw [pathT] at e
    cases hs : stepT t s with
    | none => rw [hs] at e; cases e
    | some y => rw [hs] at e; exact path_ok (step_ok h hs) e
theorem pathR_ok (t : Tr) (p : List Stp) : okT ((pathR t p).getD zeroT) = true := getD_ok fun x hx => by
  unfold pathR at hx
  split at hx
  · rename_i h
    simp at h
    exact path_ok h.1 hx
  · cases hx


theorem snocK {p : List Stp} {s : Stp} (h : shortK p) (hs : s.key.size ≤ 12) : ∀ x ∈ p ++ [s], x.key.size ≤ 9223372036854775807 := fun x hx => by have := h.snoc hs x hx; omega
theorem pathT_snoc (s : Stp) : ∀ (p : List Stp) (t : Tr), pathT (p ++ [s]) t = (pathT p t).bind fun x => stepT x s
  | [], t => by
    rw [List.nil_append, pathT, pathT]
    show (match stepT t s with | none => none | some x => pathT [] x) = stepT t s
    cases stepT t s <;> rfl
  | q :: p, t => by
    rw [List.cons_append, pathT, pathT]
    cases stepT t q with
    | none => rfl
    | some y => exact pathT_snoc s p y
theorem yes54 {r : Option Tr} {a : Tr} {n : Int} (h : ((((r.isSome != r.isSome) || !decide (a = a)) || !r.isSome) || decide (n ≥ 6)) = false) : r.isSome = true ∧ n < 6 := by
  simp at h
  exact ⟨by cases r <;> simp at h ⊢, by omega⟩
theorem pathOk_snoc {p : List Stp} {s : Stp} (h : pathOk p = true) (hs : s.ok = true) (hl : (p.length : Int) < 6) : pathOk (p ++ [s]) = true := by
  unfold pathOk at h ⊢
  rw [Bool.and_eq_true] at h
  rw [List.all_append, h.1, Bool.true_and, Bool.and_eq_true]
  refine ⟨by simp [hs], ?_⟩
  rw [decide_eq_true_eq, List.length_append]
  show p.length + 1 ≤ 6
  omega
theorem longer {t : Tr} {p : List Stp} {s : Stp} {r r2 : Option Tr} (hr : r = pathR t p) (h : r.isSome = true) (hl : (p.length : Int) < 6) (hs : s.ok = true) (hr2 : r2 = pathR t (p ++ [s])) : r2 = stepT (r.getD zeroT) s ∧ okT (r.getD zeroT) = true := by
  have ho := pathR_ok t p
  rw [← hr] at ho
  refine ⟨?_, ho⟩
  subst hr hr2
  unfold pathR at h ⊢
  split at h
  · rename_i hc
    rw [if_pos hc]
    rw [Bool.and_eq_true] at hc
    rw [if_pos (by rw [hc.1, pathOk_snoc hc.2 hs hl]; rfl), pathT_snoc]
    cases hx : pathT p t with
    | none => rw [hx] at h; cases h
    | some x => rfl
  · cases h
theorem stepA {x : Tr} {r : Option Tr} (h : okT x = true) (hr : r = partGetR x ⟨#[97]⟩) : r = stepT x ⟨true, ⟨#[97]⟩, 0⟩ := by
  rw [hr]
  unfold partGetR
  rw [h, show okS ⟨#[97]⟩ = true by decide]
  rfl
theorem stepB {x : Tr} {r : Option Tr} (h : okT x = true) (hr : r = partAtR x (-1)) : r = stepT x ⟨false, ⟨#[]⟩, -1⟩ := by
  rw [hr]
  unfold partAtR
  rw [h]
  rfl
theorem step0 {x : Tr} {s : Stp} (h : x.kind = 0) : stepT x s = some zeroT := by
  unfold stepT getT atT
  split <;> simp [h]
theorem fin0 {x : Tr} : ((x.kind != 0) || ((((stepT x ⟨true, ⟨#[97]⟩, 0⟩).isSome && (stepT x ⟨false, ⟨#[]⟩, -1⟩).isSome) && (((stepT x ⟨true, ⟨#[97]⟩, 0⟩).getD zeroT).kind == 0)) && (((stepT x ⟨false, ⟨#[]⟩, -1⟩).getD zeroT).kind == 0))) = true := by
  by_cases h0 : x.kind = 0
  · rw [step0 h0, step0 h0]
    simp
    exact .inr rfl
  · simp [h0]

set_option maxHeartbeats 8000000 in
set_option maxRecDepth 100000 in
theorem walk (code : List UInt8) (v : Value) (w : World) (hp : RepE bCells 1 Any w code v) :
    Calls Try.prog 5 #[v] w fun e w' => e = .returned (.bool true) ∧ Chg No w w' := by
  obtain ⟨A, c, rfl, -⟩ := hp.open
  refine enter Try.func5 rfl rfl rfl ?_
  have F0 := Fr.start w
  refine Cod.seq fun K1 hK1 => ?_
  refine Cod.region ?_
  refine Ops.step (One.val rfl rfl rfl (yld_assign rfl ev_c) ?_)
  refine Ops.nil fun a hS => ?_
  refine hK1 _ _ ?_ a hS
  refine Cod.seq fun K2 hK2 => ?_
  refine Cod.seq fun K3 hK3 => ?_
  refine Cod.region ?_
  refine Ops.step (One.val rfl rfl rfl (yld_move rfl (ev_t rfl)) ?_)
  refine Ops.step (One.val rfl rfl rfl (yld_len sl45 rfl (ev_t rfl)) ?_)
  refine Ops.step (One.val rfl rfl rfl (yld_gtr rfl (ev_t rfl) ev_c) ?_)
  refine Ops.nil fun a hS => ?_
  refine hK3 _ _ ?_ a hS
  refine Cod.cond rfl (fun hc19 => ?_) (fun hc19 => ?_)
  · skip
    refine Cod.seq fun K4 hK4 => ?_
    refine Cod.region ?_
    refine Ops.step (One.val rfl rfl rfl (yld_assign rfl ev_c) ?_)
    refine Ops.nil fun a hS => ?_
    refine hK4 _ _ ?_ a hS
    refine Cod.ret fun a hS => ?_
    try simp only [Exit.then, Exit.inBlock]
    exact ret1 (t := 2) rfl hS rfl ⟨rfl, F0.chg⟩
  · skip
    refine Cod.skip fun a hS => ?_
    refine hK2 _ _ ?_ a hS
    refine Cod.seq fun K5 hK5 => ?_
    refine Cod.region ?_
    refine Ops.step (One.val rfl rfl rfl (yld_move rfl (ev_t rfl)) ?_)
    refine Ops.step (One.call rfl rfl rfl (ent_f rfl (evl1 (ev_t rfl)) (enters en24)) (drawPG_ct code _ _ (hp.chg F0.chg)) (fun e w1 hw1 => ?_))
    obtain ⟨xa, ta, pva, pa, rfl, C1, hrsa, hda, hpka, hpla⟩ := hw1
    have hwa := hda.wt
    have hpsa : ∀ s ∈ pa, s.key.size ≤ 9223372036854775807 := fun s h => by have := hpka s h; omega
    obtain ⟨Grsa, hGa⟩ : ∃ G, G = New w w1 := ⟨_, rfl⟩
    rw [← hGa] at hrsa
    obtain ⟨A3a, c3a, A4a, c4a, hxa⟩ := rep_x (rps_get (rpsW_t hrsa) 0 rfl)
    subst hxa
    obtain ⟨Apa, cpa, hpva, -⟩ := (rpsW_p hrsa).open
    subst hpva
    have F1 := F0.new C1 (rpsW Grsa [(ta, (x5 ta.kind ta.num ta.str (.slice A3a ta.keys.length c3a) (.slice A4a ta.list.length c4a)).val)] pa (.slice Apa pa.length cpa)) hrsa (by rw [hGa]; exact New.new)
    refine ⟨_, rfl, ?_⟩
    refine Ops.step (One.val rfl rfl rfl (yld_move rfl (ev_t rfl)) ?_)
    refine Ops.step (One.val rfl rfl rfl (yld_extract rfl (ev_t rfl) rfl) ?_)
    refine Ops.step (One.val rfl rfl rfl (yld_extract rfl (ev_t rfl) rfl) ?_)
    refine Ops.step (One.alloc F1 zero31 rfl rfl rfl rfl ?_)
    intro b1 w2 hb1 F2
    change Fr _ _ [blk _ _ [_, _, _, _, _], _] _ at F2
    refine Ops.step (One.storeN (vs := [_, _, _, _, _]) F2 0 rfl sz31 rfl rfl rfl (ev_t rfl) (ev_t rfl) rfl rfl (rps_oneC (rpsW_t (F2.get 1 rfl)) 0 rfl) ?_)
    intro w3 F3
    change Fr _ _ [blk _ _ [_, _, _, _, _], _] _ at F3
    refine Ops.step (One.val rfl rfl rfl (yld_assign rfl (ev_t rfl)) ?_)
    refine Ops.nil fun a hS => ?_
    refine hK5 _ _ ?_ a hS
    refine Cod.seq fun K6 hK6 => ?_
    refine Cod.region ?_
    refine Ops.step (One.val rfl rfl rfl (yld_loadN ag31 rfl (ev_t rfl) (fun _ => F3.range (m := 5) (cs' := [_, _, _, _, _]) 0 rfl rfl) rfl) ?_)
    refine Ops.step (One.val rfl rfl rfl (yld_move rfl (ev_t rfl)) ?_)
    refine Ops.step (One.call rfl rfl rfl (ent_f rfl (evl2 (ev_t rfl) (ev_t rfl)) (enters en25)) (pathGet_ct ta pa hpsa _ _ _ (rps_get (rpsW_t (F3.get 1 rfl)) 0 rfl) (rpsW_p (F3.get 1 rfl)) hda.fit (by omega)) (fun e w4 hw4 => ?_))
    obtain ⟨R1, hR1⟩ : ∃ R, R = pathR ta pa := ⟨_, rfl⟩
    have hO1 : okT (R1.getD zeroT) = true := by rw [hR1]; exact pathR_ok ta pa
    rw [← hR1] at hw4
    obtain ⟨e1, E1, rfl, C4, hE1, hEb1⟩ := hw4
    obtain ⟨A3e1, c3e1, A4e1, c4e1, hxe1⟩ := rep_x hE1.rep
    subst hxe1
    have F4 := F3.new C4 (sep E1 (R1.getD zeroT) (x5 (R1.getD zeroT).kind (R1.getD zeroT).num (R1.getD zeroT).str (.slice A3e1 (R1.getD zeroT).keys.length c3e1) (.slice A4e1 (R1.getD zeroT).list.length c4e1)).val) hE1 hEb1
    refine ⟨_, rfl, ?_⟩
    refine Ops.step (One.val rfl rfl rfl (yld_move rfl (ev_t rfl)) ?_)
    refine Ops.step (One.val rfl rfl rfl (yld_extract rfl (ev_t rfl) rfl) ?_)
    refine Ops.step (One.val rfl rfl rfl (yld_extract rfl (ev_t rfl) rfl) ?_)
    refine Ops.step (One.alloc F4 zero31 rfl rfl rfl rfl ?_)
    intro b2 w5 hb2 F5
    change Fr _ _ [blk _ _ [_, _, _, _, _], _, blk _ _ [_, _, _, _, _], _] _ at F5
    refine Ops.step (One.storeN (vs := [_, _, _, _, _]) F5 0 rfl sz31 rfl rfl rfl (ev_t rfl) (ev_t rfl) rfl rfl (Sep.one (x := (x5 (R1.getD zeroT).kind (R1.getD zeroT).num (R1.getD zeroT).str (.slice A3e1 (R1.getD zeroT).keys.length c3e1) (.slice A4e1 (R1.getD zeroT).list.length c4e1))) (F5.get 1 rfl)) ?_)
    intro w6 F6
    change Fr _ _ [blk _ _ [_, _, _, _, _], _, blk _ _ [_, _, _, _, _], _] _ at F6
    refine Ops.step (One.val rfl rfl rfl (yld_assign rfl (ev_t rfl)) ?_)
    refine Ops.nil fun a hS => ?_
    refine hK6 _ _ ?_ a hS
    refine Cod.seq fun K7 hK7 => ?_
    refine Cod.region ?_
    refine Ops.step (One.val rfl rfl rfl (yld_loadN ag31 rfl (ev_t rfl) (fun _ => F6.range (m := 5) (cs' := [_, _, _, _, _]) 2 rfl rfl) rfl) ?_)
    refine Ops.step (One.val rfl rfl rfl (yld_move rfl (ev_t rfl)) ?_)
    refine Ops.step (One.call rfl rfl rfl (ent_f rfl (evl2 (ev_t rfl) (ev_t rfl)) (enters en26)) (specPathGet_ct ta pa hpsa _ _ _ (rps_get (rpsW_t (F6.get 3 rfl)) 0 rfl) (rpsW_p (F6.get 3 rfl)) hda.fit (by omega)) (fun e w7 hw7 => ?_))
    rw [← hR1] at hw7
    obtain ⟨e2, E2, rfl, C7, hE2, hEb2⟩ := hw7
    obtain ⟨A3e2, c3e2, A4e2, c4e2, hxe2⟩ := rep_x hE2.rep
    subst hxe2
    have F7 := F6.new C7 (sep E2 (R1.getD zeroT) (x5 (R1.getD zeroT).kind (R1.getD zeroT).num (R1.getD zeroT).str (.slice A3e2 (R1.getD zeroT).keys.length c3e2) (.slice A4e2 (R1.getD zeroT).list.length c4e2)).val) hE2 hEb2
    refine ⟨_, rfl, ?_⟩
    refine Ops.step (One.val rfl rfl rfl (yld_move rfl (ev_t rfl)) ?_)
    refine Ops.step (One.val rfl rfl rfl (yld_extract rfl (ev_t rfl) rfl) ?_)
    refine Ops.step (One.val rfl rfl rfl (yld_extract rfl (ev_t rfl) rfl) ?_)
    refine Ops.step (One.alloc F7 zero31 rfl rfl rfl rfl ?_)
    intro b3 w8 hb3 F8
    change Fr _ _ [blk _ _ [_, _, _, _, _], _, blk _ _ [_, _, _, _, _], _, blk _ _ [_, _, _, _, _], _] _ at F8
    refine Ops.step (One.storeN (vs := [_, _, _, _, _]) F8 0 rfl sz31 rfl rfl rfl (ev_t rfl) (ev_t rfl) rfl rfl (Sep.one (x := (x5 (R1.getD zeroT).kind (R1.getD zeroT).num (R1.getD zeroT).str (.slice A3e2 (R1.getD zeroT).keys.length c3e2) (.slice A4e2 (R1.getD zeroT).list.length c4e2))) (F8.get 1 rfl)) ?_)
    intro w9 F9
    change Fr _ _ [blk _ _ [_, _, _, _, _], _, blk _ _ [_, _, _, _, _], _, blk _ _ [_, _, _, _, _], _] _ at F9
    refine Ops.step (One.val rfl rfl rfl (yld_assign rfl (ev_t rfl)) ?_)
    refine Ops.nil fun a hS => ?_
    refine hK7 _ _ ?_ a hS
    refine Cod.seq fun K8 hK8 => ?_
    refine Cod.seq fun K9 hK9 => ?_
    refine Cod.region ?_
    refine Ops.step (One.val rfl rfl rfl (yld_move rfl (ev_t rfl)) ?_)
    refine Ops.step (One.val rfl rfl rfl (yld_move rfl (ev_t rfl)) ?_)
    refine Ops.step (One.val rfl rfl rfl (yld_bneq Try.underlying4 rfl (ev_t rfl) (ev_t rfl)) ?_)
    refine Ops.step (One.val rfl rfl rfl (yld_move rfl (ev_t rfl)) ?_)
    refine Ops.step (One.val (gd_some rfl rfl) rfl rfl (yld_loadN ag31 rfl (ev_t rfl) (fun _ => F9.range (m := 5) (cs' := [_, _, _, _, _]) 2 rfl rfl) rfl) ?_)
    refine Ops.step (One.val (gd_some rfl rfl) rfl rfl (yld_loadN ag31 rfl (ev_t rfl) (fun _ => F9.range (m := 5) (cs' := [_, _, _, _, _]) 0 rfl rfl) rfl) ?_)
    refine Ops.step (One.gcall (R := Chg No w9) (gd_some rfl rfl) rfl rfl (ent_f rfl (evl2 (ev_g rfl) (ev_g rfl)) (enters en27)) (Chg.refl _ _) (fun hg => valSame_ct (R1.getD zeroT) (R1.getD zeroT) _ _ _ (F9.get 3 rfl).rep (F9.get 1 rfl).rep) ?_)
    intro w10 C10
    have F10 := F9.call C10
    refine Ops.step (One.val (gd_some rfl rfl) rfl rfl (yld_not rfl (ev_g rfl)) ?_)
    refine Ops.step (One.val rfl rfl rfl (yld_or rfl (ev_t rfl) (ev_g rfl)) ?_)
    refine Ops.step (One.val rfl rfl rfl (yld_move rfl (ev_t rfl)) ?_)
    refine Ops.step (One.val (gd_some rfl rfl) rfl rfl (yld_move rfl (ev_t rfl)) ?_)
    refine Ops.step (One.val (gd_some rfl rfl) rfl rfl (yld_not rfl (ev_g rfl)) ?_)
    refine Ops.step (One.val rfl rfl rfl (yld_or rfl (ev_t rfl) (ev_g rfl)) ?_)
    refine Ops.step (One.val rfl rfl rfl (yld_move rfl (ev_t rfl)) ?_)
    refine Ops.step (One.val (gd_some rfl rfl) rfl rfl (yld_move rfl (ev_t rfl)) ?_)
    refine Ops.step (One.val (gd_some rfl rfl) rfl rfl (yld_len sl46 rfl (ev_g rfl)) ?_)
    refine Ops.step (One.val (gd_some rfl rfl) rfl rfl (yld_geq rfl (ev_g rfl) ev_c) ?_)
    refine Ops.step (One.val rfl rfl rfl (yld_or rfl (ev_t rfl) (ev_g rfl)) ?_)
    refine Ops.nil fun a hS => ?_
    refine hK9 _ _ ?_ a hS
    refine Cod.cond rfl (fun hc54 => ?_) (fun hc54 => ?_)
    · skip
      skip
      refine Cod.seq fun K10 hK10 => ?_
      refine Cod.region ?_
      refine Ops.step (One.val rfl rfl rfl (yld_move rfl (ev_t rfl)) ?_)
      refine Ops.step (One.val rfl rfl rfl (yld_move rfl (ev_t rfl)) ?_)
      refine Ops.step (One.val rfl rfl rfl (yld_beql Try.underlying4 rfl (ev_t rfl) (ev_t rfl)) ?_)
      refine Ops.step (One.val rfl rfl rfl (yld_move rfl (ev_t rfl)) ?_)
      refine Ops.step (One.val (gd_some rfl rfl) rfl rfl (yld_loadN ag31 rfl (ev_t rfl) (fun _ => F10.range (m := 5) (cs' := [_, _, _, _, _]) 2 rfl rfl) rfl) ?_)
      refine Ops.step (One.val (gd_some rfl rfl) rfl rfl (yld_loadN ag31 rfl (ev_t rfl) (fun _ => F10.range (m := 5) (cs' := [_, _, _, _, _]) 0 rfl rfl) rfl) ?_)
      refine Ops.step (One.gcall (R := Chg No w10) (gd_some rfl rfl) rfl rfl (ent_f rfl (evl2 (ev_g rfl) (ev_g rfl)) (enters en27)) (Chg.refl _ _) (fun hg => valSame_ct (R1.getD zeroT) (R1.getD zeroT) _ _ _ (F10.get 3 rfl).rep (F10.get 1 rfl).rep) ?_)
      intro w11 C11
      have F11 := F10.call C11
      refine Ops.step (One.val rfl rfl rfl (yld_and rfl (ev_t rfl) (ev_g rfl)) ?_)
      refine Ops.step (One.val rfl rfl rfl (yld_assign rfl (ev_t rfl)) ?_)
      refine Ops.nil fun a hS => ?_
      refine hK10 _ _ ?_ a hS
      refine Cod.ret fun a hS => ?_
      try simp only [Exit.then, Exit.inBlock]
      exact ret1 (t := 2) rfl hS rfl ⟨ret_b (by simp), F11.chg⟩
    · skip
      obtain ⟨Rb, hRb⟩ : ∃ R, R = pathR ta (pa ++ [⟨true, ⟨#[97]⟩, 0⟩]) := ⟨_, rfl⟩
      have hOb : okT (Rb.getD zeroT) = true := by rw [hRb]; exact pathR_ok ta (pa ++ [⟨true, ⟨#[97]⟩, 0⟩])
      obtain ⟨Rc, hRc⟩ : ∃ R, R = pathR ta (pa ++ [⟨false, ⟨#[]⟩, -1⟩]) := ⟨_, rfl⟩
      have hOc : okT (Rc.getD zeroT) = true := by rw [hRc]; exact pathR_ok ta (pa ++ [⟨false, ⟨#[]⟩, -1⟩])
      obtain ⟨hsome, hlt⟩ := yes54 hc54
      refine Cod.skip fun a hS => ?_
      refine hK8 _ _ ?_ a hS
      refine Cod.cut (fun i : Nat × V5 × (Nat → Prop) => [(3, true, .pointer (some ⟨b1, 0, none⟩)), (4, true, .slice Apa pa.length cpa), (5, true, .pointer (some ⟨b2, 0, none⟩)), (9, true, .pointer (some ⟨i.1, 0, none⟩)), (10, true, .bool Rb.isSome)]) (fun i w' => Fr No w [blk i.1 31 (enc5 i.2.1), sep i.2.2 (Rb.getD zeroT) i.2.1.val, blk b2 31 (enc5 (x5 (R1.getD zeroT).kind (R1.getD zeroT).num (R1.getD zeroT).str (.slice A3e1 (R1.getD zeroT).keys.length c3e1) (.slice A4e1 (R1.getD zeroT).list.length c4e1))), sep E1 (R1.getD zeroT) (x5 (R1.getD zeroT).kind (R1.getD zeroT).num (R1.getD zeroT).str (.slice A3e1 (R1.getD zeroT).keys.length c3e1) (.slice A4e1 (R1.getD zeroT).list.length c4e1)).val, blk b1 31 (enc5 (x5 ta.kind ta.num ta.str (.slice A3a ta.keys.length c3a) (.slice A4a ta.list.length c4a))), rpsW Grsa [(ta, (x5 ta.kind ta.num ta.str (.slice A3a ta.keys.length c3a) (.slice A4a ta.list.length c4a)).val)] pa (.slice Apa pa.length cpa)] w') (fun K11 hK11 => ?_) ?_
      · skip
        have F12 := F10.drew
        refine Cod.draw (C_of (F12.erase 1).drop1) (by kernel_rfl) ?_
        refine Hops.take 0 rfl (by kernel_rfl) (fun _ _ _ h => h) rfl rfl rfl (F12.erase 1).drop1 (fun w F => (yld_loadN ag31 rfl (ev_t rfl) (fun _ => F.range (m := 5) (cs' := [_, _, _, _, _]) 2 rfl rfl) rfl)) ?_
        refine Hops.take 2 rfl (by kernel_rfl) (fun _ _ _ h => h) rfl rfl rfl (F12.erase 1).drop1 (fun w F => (yld_move rfl (ev_t rfl))) ?_
        refine Hops.take 4 rfl (by kernel_rfl) (fun _ _ _ h => h) rfl rfl rfl (F12.erase 1).drop1 (fun w F => (yld_build (cells := [.bool true, .string ⟨#[97]⟩, .int .i64 0]) rfl (evp2 ev_c ev_c) (by kernel_rfl))) ?_
        refine Hops.three 1 5 11 rfl rfl rfl (by kernel_rfl) ?_ ?_ ?_
        · skip
          refine (One.buildNil pCells F12 sl46 rfl rfl rfl rfl ?_)
          intro b4 w12 hb4 F13
          refine ⟨((F13.erase 2).erase 1).drop1, ?_⟩
          refine Hops.three 3 5 11 rfl rfl rfl (by kernel_rfl) ?_ ?_ ?_
          · skip
            refine (One.append (enc := pCells) pa F13 0 rfl sl46 zero52 rfl rfl (fun _ => rfl) rfl rfl rfl rfl (ev_t rfl) (ev_t rfl) (rpsW_p (F13.get 6 rfl)) (fun _ _ => rfl) (by simp; omega) (by simp; omega) ?_)
            intro u8 w13 hu8 F14
            refine ⟨((F14.erase 2).erase 1).drop1, ?_⟩
            change Fr _ _ [_, blk _ _ [_, _, _, _, _], _, blk _ _ [_, _, _, _, _], _, blk _ _ [_, _, _, _, _], _] _ at F14
            refine Hops.two 5 11 rfl rfl (by kernel_rfl) ?_ ?_
            · skip
              refine (One.buildSlice (cells := (pCells ⟨true, ⟨#[97]⟩, 0⟩)) F14 sl46 zero52 rfl rfl rfl rfl (evp1 (ev_t rfl)) rfl rfl (by kernel_rfl) ?_)
              intro b5 w14 hb5 F15
              refine ⟨(((F15.erase 3).erase 2).erase 1).drop1, ?_⟩
              refine Hops.two 6 11 rfl rfl (by kernel_rfl) ?_ ?_
              · skip
                refine (One.append (enc := pCells) [⟨true, ⟨#[97]⟩, 0⟩] F15 1 rfl sl46 zero52 rfl rfl (fun _ => rfl) rfl rfl rfl rfl (ev_t rfl) (ev_t rfl) ((blk_rep (enc := pCells) (sz := 3) (xs := [⟨true, ⟨#[97]⟩, 0⟩]) (fun _ => rfl) (by simpa using F15.get 0 rfl) (by simp) (by simp)).weak fun _ _ => trivial) (fun _ _ => rfl) (by simp; omega) (by simp; omega) ?_)
                intro v8 w15 hv8 F16
                refine ⟨(((F16.erase 3).erase 2).erase 1).drop1, ?_⟩
                change Fr _ _ [_, _, blk _ _ [_, _, _, _, _], _, blk _ _ [_, _, _, _, _], _, blk _ _ [_, _, _, _, _], _] _ at F16
                refine Hops.two 7 11 rfl rfl (by kernel_rfl) ?_ ?_
                · skip
                  refine (One.call rfl rfl rfl (ent_f rfl (evl2 (ev_t rfl) (ev_t rfl)) (enters en25)) (pathGet_ct ta (pa ++ [⟨true, ⟨#[97]⟩, 0⟩]) (snocK hpka (by decide)) _ _ _ (rps_get (rpsW_t (F16.get 7 rfl)) 0 rfl) (ownP (F16.get 1 rfl)) hda.fit (by omega)) (fun e w16 hw16 => ?_))
                  rw [← hRb] at hw16
                  obtain ⟨e3, E3, rfl, C16, hE3, hEb3⟩ := hw16
                  obtain ⟨A3e3, c3e3, A4e3, c4e3, hxe3⟩ := rep_x hE3.rep
                  subst hxe3
                  have F17 := F16.new C16 (sep E3 (Rb.getD zeroT) (x5 (Rb.getD zeroT).kind (Rb.getD zeroT).num (Rb.getD zeroT).str (.slice A3e3 (Rb.getD zeroT).keys.length c3e3) (.slice A4e3 (Rb.getD zeroT).list.length c4e3)).val) hE3 hEb3
                  refine ⟨_, rfl, ?_⟩
                  refine ⟨((((F17.erase 4).erase 3).erase 2).erase 1).drop1, ?_⟩
                  refine Hops.take 8 rfl (by kernel_rfl) (fun _ _ _ h => h) rfl rfl rfl ((((F17.erase 4).erase 3).erase 2).erase 1).drop1 (fun w F => (yld_move rfl (ev_t rfl))) ?_
                  refine Hops.take 9 rfl (by kernel_rfl) (fun _ _ _ h => h) rfl rfl rfl ((((F17.erase 4).erase 3).erase 2).erase 1).drop1 (fun w F => (yld_extract rfl (ev_t rfl) rfl)) ?_
                  refine Hops.take 10 rfl (by kernel_rfl) (fun _ _ _ h => h) rfl rfl rfl ((((F17.erase 4).erase 3).erase 2).erase 1).drop1 (fun w F => (yld_extract rfl (ev_t rfl) rfl)) ?_
                  refine Hops.one 11 rfl (by kernel_rfl) (One.alloc F17 zero31 rfl rfl rfl rfl ?_)
                  intro b6 w17 hb6 F18
                  refine ⟨(((((F18.erase 5).erase 4).erase 3).erase 2).erase 1).drop1, ?_⟩
                  change Fr _ _ [blk _ _ [_, _, _, _, _], _, _, _, blk _ _ [_, _, _, _, _], _, blk _ _ [_, _, _, _, _], _, blk _ _ [_, _, _, _, _], _] _ at F18
                  refine Hops.one 12 rfl (by kernel_rfl) (One.storeN (vs := [_, _, _, _, _]) F18 0 rfl sz31 rfl rfl rfl (ev_t rfl) (ev_t rfl) rfl rfl (Sep.one (x := (x5 (Rb.getD zeroT).kind (Rb.getD zeroT).num (Rb.getD zeroT).str (.slice A3e3 (Rb.getD zeroT).keys.length c3e3) (.slice A4e3 (Rb.getD zeroT).list.length c4e3))) (F18.get 1 rfl)) ?_)
                  intro w18 F19
                  refine ⟨(((((F19.erase 5).erase 4).erase 3).erase 2).erase 1).drop1, ?_⟩
                  change Fr _ _ [blk _ _ [_, _, _, _, _], _, _, _, blk _ _ [_, _, _, _, _], _, blk _ _ [_, _, _, _, _], _, blk _ _ [_, _, _, _, _], _] _ at F19
                  refine Hops.one 13 rfl (by kernel_rfl) (One.val rfl rfl rfl (yld_assign rfl (ev_t rfl)) ?_)
                  refine ⟨(((((F19.erase 5).erase 4).erase 3).erase 2).erase 1).drop1, ?_⟩
                  refine Hops.nil (by kernel_rfl) fun a hS => ?_
                  have F20 := F19.pull 9 rfl
                  have F21 := F20.pull 9 rfl
                  have F22 := F21.pull 9 rfl
                  have F23 := F22.pull 9 rfl
                  have F24 := F23.pull 5 rfl
                  have F25 := F24.pull 5 rfl
                  have F26 := F25.erase 6
                  have F27 := F26.erase 6
                  have F28 := F27.erase 6
                  have F29 := F28.erase 6
                  exact hK11 (b6, (x5 (Rb.getD zeroT).kind (Rb.getD zeroT).num (Rb.getD zeroT).str (.slice A3e3 (Rb.getD zeroT).keys.length c3e3) (.slice A4e3 (Rb.getD zeroT).list.length c4e3)), E3) _ a (hS.sub ⟨rfl, rfl, rfl, rfl, rfl, trivial⟩) F29
                · skip
                  refine (One.alloc F16 zero31 rfl rfl rfl rfl ?_)
                  intro b7 w19 hb7 F30
                  refine ⟨((((F30.erase 4).erase 3).erase 2).erase 1).drop1, ?_⟩
                  change Fr _ _ [blk _ _ [_, _, _, _, _], _, _, blk _ _ [_, _, _, _, _], _, blk _ _ [_, _, _, _, _], _, blk _ _ [_, _, _, _, _], _] _ at F30
                  refine Hops.one 7 rfl (by kernel_rfl) (One.call rfl rfl rfl (ent_f rfl (evl2 (ev_t rfl) (ev_t rfl)) (enters en25)) (pathGet_ct ta (pa ++ [⟨true, ⟨#[97]⟩, 0⟩]) (snocK hpka (by decide)) _ _ _ (rps_get (rpsW_t (F30.get 8 rfl)) 0 rfl) (ownP (F30.get 2 rfl)) hda.fit (by omega)) (fun e w20 hw20 => ?_))
                  rw [← hRb] at hw20
                  obtain ⟨e4, E4, rfl, C20, hE4, hEb4⟩ := hw20
                  obtain ⟨A3e4, c3e4, A4e4, c4e4, hxe4⟩ := rep_x hE4.rep
                  subst hxe4
                  have F31 := F30.new C20 (sep E4 (Rb.getD zeroT) (x5 (Rb.getD zeroT).kind (Rb.getD zeroT).num (Rb.getD zeroT).str (.slice A3e4 (Rb.getD zeroT).keys.length c3e4) (.slice A4e4 (Rb.getD zeroT).list.length c4e4)).val) hE4 hEb4
                  refine ⟨_, rfl, ?_⟩
                  refine ⟨(((((F31.erase 5).erase 4).erase 3).erase 2).erase 1).drop1, ?_⟩
                  refine Hops.take 8 rfl (by kernel_rfl) (fun _ _ _ h => h) rfl rfl rfl (((((F31.erase 5).erase 4).erase 3).erase 2).erase 1).drop1 (fun w F => (yld_move rfl (ev_t rfl))) ?_
                  refine Hops.take 9 rfl (by kernel_rfl) (fun _ _ _ h => h) rfl rfl rfl (((((F31.erase 5).erase 4).erase 3).erase 2).erase 1).drop1 (fun w F => (yld_extract rfl (ev_t rfl) rfl)) ?_
                  refine Hops.take 10 rfl (by kernel_rfl) (fun _ _ _ h => h) rfl rfl rfl (((((F31.erase 5).erase 4).erase 3).erase 2).erase 1).drop1 (fun w F => (yld_extract rfl (ev_t rfl) rfl)) ?_
                  refine Hops.one 12 rfl (by kernel_rfl) (One.storeN (vs := [_, _, _, _, _]) F31 1 rfl sz31 rfl rfl rfl (ev_t rfl) (ev_t rfl) rfl rfl (Sep.one (x := (x5 (Rb.getD zeroT).kind (Rb.getD zeroT).num (Rb.getD zeroT).str (.slice A3e4 (Rb.getD zeroT).keys.length c3e4) (.slice A4e4 (Rb.getD zeroT).list.length c4e4))) (F31.get 0 rfl)) ?_)
                  intro w21 F32
                  refine ⟨(((((F32.erase 5).erase 4).erase 3).erase 2).erase 1).drop1, ?_⟩
                  change Fr _ _ [_, blk _ _ [_, _, _, _, _], _, _, blk _ _ [_, _, _, _, _], _, blk _ _ [_, _, _, _, _], _, blk _ _ [_, _, _, _, _], _] _ at F32
                  refine Hops.one 13 rfl (by kernel_rfl) (One.val rfl rfl rfl (yld_assign rfl (ev_t rfl)) ?_)
                  refine ⟨(((((F32.erase 5).erase 4).erase 3).erase 2).erase 1).drop1, ?_⟩
                  refine Hops.nil (by kernel_rfl) fun a hS => ?_
                  have F33 := F32.pull 9 rfl
                  have F34 := F33.pull 9 rfl
                  have F35 := F34.pull 9 rfl
                  have F36 := F35.pull 9 rfl
                  have F37 := F36.pull 4 rfl
                  have F38 := F37.pull 5 rfl
                  have F39 := F38.erase 6
                  have F40 := F39.erase 6
                  have F41 := F40.erase 6
                  have F42 := F41.erase 6
                  exact hK11 (b7, (x5 (Rb.getD zeroT).kind (Rb.getD zeroT).num (Rb.getD zeroT).str (.slice A3e4 (Rb.getD zeroT).keys.length c3e4) (.slice A4e4 (Rb.getD zeroT).list.length c4e4)), E4) _ a (hS.sub ⟨rfl, rfl, rfl, rfl, rfl, trivial⟩) F42
              · skip
                refine (One.alloc F15 zero31 rfl rfl rfl rfl ?_)
                intro b8 w22 hb8 F43
                refine ⟨((((F43.erase 4).erase 3).erase 2).erase 1).drop1, ?_⟩
                change Fr _ _ [blk _ _ [_, _, _, _, _], _, _, blk _ _ [_, _, _, _, _], _, blk _ _ [_, _, _, _, _], _, blk _ _ [_, _, _, _, _], _] _ at F43
                refine Hops.one 6 rfl (by kernel_rfl) (One.append (enc := pCells) [⟨true, ⟨#[97]⟩, 0⟩] F43 2 rfl sl46 zero52 rfl rfl (fun _ => rfl) rfl rfl rfl rfl (ev_t rfl) (ev_t rfl) ((blk_rep (enc := pCells) (sz := 3) (xs := [⟨true, ⟨#[97]⟩, 0⟩]) (fun _ => rfl) (by simpa using F43.get 1 rfl) (by simp) (by simp)).weak fun _ _ => trivial) (fun _ _ => rfl) (by simp; omega) (by simp; omega) ?_)
                intro v8 w23 hv8 F44
                refine ⟨((((F44.erase 4).erase 3).erase 2).erase 1).drop1, ?_⟩
                change Fr _ _ [blk _ _ [_, _, _, _, _], _, _, blk _ _ [_, _, _, _, _], _, blk _ _ [_, _, _, _, _], _, blk _ _ [_, _, _, _, _], _] _ at F44
                refine Hops.one 7 rfl (by kernel_rfl) (One.call rfl rfl rfl (ent_f rfl (evl2 (ev_t rfl) (ev_t rfl)) (enters en25)) (pathGet_ct ta (pa ++ [⟨true, ⟨#[97]⟩, 0⟩]) (snocK hpka (by decide)) _ _ _ (rps_get (rpsW_t (F44.get 8 rfl)) 0 rfl) (ownP (F44.get 2 rfl)) hda.fit (by omega)) (fun e w24 hw24 => ?_))
                rw [← hRb] at hw24
                obtain ⟨e5, E5, rfl, C24, hE5, hEb5⟩ := hw24
                obtain ⟨A3e5, c3e5, A4e5, c4e5, hxe5⟩ := rep_x hE5.rep
                subst hxe5
                have F45 := F44.new C24 (sep E5 (Rb.getD zeroT) (x5 (Rb.getD zeroT).kind (Rb.getD zeroT).num (Rb.getD zeroT).str (.slice A3e5 (Rb.getD zeroT).keys.length c3e5) (.slice A4e5 (Rb.getD zeroT).list.length c4e5)).val) hE5 hEb5
                refine ⟨_, rfl, ?_⟩
                refine ⟨(((((F45.erase 5).erase 4).erase 3).erase 2).erase 1).drop1, ?_⟩
                refine Hops.take 8 rfl (by kernel_rfl) (fun _ _ _ h => h) rfl rfl rfl (((((F45.erase 5).erase 4).erase 3).erase 2).erase 1).drop1 (fun w F => (yld_move rfl (ev_t rfl))) ?_
                refine Hops.take 9 rfl (by kernel_rfl) (fun _ _ _ h => h) rfl rfl rfl (((((F45.erase 5).erase 4).erase 3).erase 2).erase 1).drop1 (fun w F => (yld_extract rfl (ev_t rfl) rfl)) ?_
                refine Hops.take 10 rfl (by kernel_rfl) (fun _ _ _ h => h) rfl rfl rfl (((((F45.erase 5).erase 4).erase 3).erase 2).erase 1).drop1 (fun w F => (yld_extract rfl (ev_t rfl) rfl)) ?_
                refine Hops.one 12 rfl (by kernel_rfl) (One.storeN (vs := [_, _, _, _, _]) F45 1 rfl sz31 rfl rfl rfl (ev_t rfl) (ev_t rfl) rfl rfl (Sep.one (x := (x5 (Rb.getD zeroT).kind (Rb.getD zeroT).num (Rb.getD zeroT).str (.slice A3e5 (Rb.getD zeroT).keys.length c3e5) (.slice A4e5 (Rb.getD zeroT).list.length c4e5))) (F45.get 0 rfl)) ?_)
                intro w25 F46
                refine ⟨(((((F46.erase 5).erase 4).erase 3).erase 2).erase 1).drop1, ?_⟩
                change Fr _ _ [_, blk _ _ [_, _, _, _, _], _, _, blk _ _ [_, _, _, _, _], _, blk _ _ [_, _, _, _, _], _, blk _ _ [_, _, _, _, _], _] _ at F46
                refine Hops.one 13 rfl (by kernel_rfl) (One.val rfl rfl rfl (yld_assign rfl (ev_t rfl)) ?_)
                refine ⟨(((((F46.erase 5).erase 4).erase 3).erase 2).erase 1).drop1, ?_⟩
                refine Hops.nil (by kernel_rfl) fun a hS => ?_
                have F47 := F46.pull 9 rfl
                have F48 := F47.pull 9 rfl
                have F49 := F48.pull 9 rfl
                have F50 := F49.pull 9 rfl
                have F51 := F50.pull 4 rfl
                have F52 := F51.pull 5 rfl
                have F53 := F52.erase 6
                have F54 := F53.erase 6
                have F55 := F54.erase 6
                have F56 := F55.erase 6
                exact hK11 (b8, (x5 (Rb.getD zeroT).kind (Rb.getD zeroT).num (Rb.getD zeroT).str (.slice A3e5 (Rb.getD zeroT).keys.length c3e5) (.slice A4e5 (Rb.getD zeroT).list.length c4e5)), E5) _ a (hS.sub ⟨rfl, rfl, rfl, rfl, rfl, trivial⟩) F56
            · skip
              refine (One.alloc F14 zero31 rfl rfl rfl rfl ?_)
              intro b9 w26 hb9 F57
              refine ⟨(((F57.erase 3).erase 2).erase 1).drop1, ?_⟩
              change Fr _ _ [blk _ _ [_, _, _, _, _], _, blk _ _ [_, _, _, _, _], _, blk _ _ [_, _, _, _, _], _, blk _ _ [_, _, _, _, _], _] _ at F57
              refine Hops.one 5 rfl (by kernel_rfl) (One.buildSlice (cells := (pCells ⟨true, ⟨#[97]⟩, 0⟩)) F57 sl46 zero52 rfl rfl rfl rfl (evp1 (ev_t rfl)) rfl rfl (by kernel_rfl) ?_)
              intro b10 w27 hb10 F58
              refine ⟨((((F58.erase 4).erase 3).erase 2).erase 1).drop1, ?_⟩
              refine Hops.one 6 rfl (by kernel_rfl) (One.append (enc := pCells) [⟨true, ⟨#[97]⟩, 0⟩] F58 2 rfl sl46 zero52 rfl rfl (fun _ => rfl) rfl rfl rfl rfl (ev_t rfl) (ev_t rfl) ((blk_rep (enc := pCells) (sz := 3) (xs := [⟨true, ⟨#[97]⟩, 0⟩]) (fun _ => rfl) (by simpa using F58.get 0 rfl) (by simp) (by simp)).weak fun _ _ => trivial) (fun _ _ => rfl) (by simp; omega) (by simp; omega) ?_)
              intro v8 w28 hv8 F59
              refine ⟨((((F59.erase 4).erase 3).erase 2).erase 1).drop1, ?_⟩
              change Fr _ _ [_, blk _ _ [_, _, _, _, _], _, blk _ _ [_, _, _, _, _], _, blk _ _ [_, _, _, _, _], _, blk _ _ [_, _, _, _, _], _] _ at F59
              refine Hops.one 7 rfl (by kernel_rfl) (One.call rfl rfl rfl (ent_f rfl (evl2 (ev_t rfl) (ev_t rfl)) (enters en25)) (pathGet_ct ta (pa ++ [⟨true, ⟨#[97]⟩, 0⟩]) (snocK hpka (by decide)) _ _ _ (rps_get (rpsW_t (F59.get 8 rfl)) 0 rfl) (ownP (F59.get 2 rfl)) hda.fit (by omega)) (fun e w29 hw29 => ?_))
              rw [← hRb] at hw29
              obtain ⟨e6, E6, rfl, C29, hE6, hEb6⟩ := hw29
              obtain ⟨A3e6, c3e6, A4e6, c4e6, hxe6⟩ := rep_x hE6.rep
              subst hxe6
              have F60 := F59.new C29 (sep E6 (Rb.getD zeroT) (x5 (Rb.getD zeroT).kind (Rb.getD zeroT).num (Rb.getD zeroT).str (.slice A3e6 (Rb.getD zeroT).keys.length c3e6) (.slice A4e6 (Rb.getD zeroT).list.length c4e6)).val) hE6 hEb6
              refine ⟨_, rfl, ?_⟩
              refine ⟨(((((F60.erase 5).erase 4).erase 3).erase 2).erase 1).drop1, ?_⟩
              refine Hops.take 8 rfl (by kernel_rfl) (fun _ _ _ h => h) rfl rfl rfl (((((F60.erase 5).erase 4).erase 3).erase 2).erase 1).drop1 (fun w F => (yld_move rfl (ev_t rfl))) ?_
              refine Hops.take 9 rfl (by kernel_rfl) (fun _ _ _ h => h) rfl rfl rfl (((((F60.erase 5).erase 4).erase 3).erase 2).erase 1).drop1 (fun w F => (yld_extract rfl (ev_t rfl) rfl)) ?_
              refine Hops.take 10 rfl (by kernel_rfl) (fun _ _ _ h => h) rfl rfl rfl (((((F60.erase 5).erase 4).erase 3).erase 2).erase 1).drop1 (fun w F => (yld_extract rfl (ev_t rfl) rfl)) ?_
              refine Hops.one 12 rfl (by kernel_rfl) (One.storeN (vs := [_, _, _, _, _]) F60 2 rfl sz31 rfl rfl rfl (ev_t rfl) (ev_t rfl) rfl rfl (Sep.one (x := (x5 (Rb.getD zeroT).kind (Rb.getD zeroT).num (Rb.getD zeroT).str (.slice A3e6 (Rb.getD zeroT).keys.length c3e6) (.slice A4e6 (Rb.getD zeroT).list.length c4e6))) (F60.get 0 rfl)) ?_)
              intro w30 F61
              refine ⟨(((((F61.erase 5).erase 4).erase 3).erase 2).erase 1).drop1, ?_⟩
              change Fr _ _ [_, _, blk _ _ [_, _, _, _, _], _, blk _ _ [_, _, _, _, _], _, blk _ _ [_, _, _, _, _], _, blk _ _ [_, _, _, _, _], _] _ at F61
              refine Hops.one 13 rfl (by kernel_rfl) (One.val rfl rfl rfl (yld_assign rfl (ev_t rfl)) ?_)
              refine ⟨(((((F61.erase 5).erase 4).erase 3).erase 2).erase 1).drop1, ?_⟩
              refine Hops.nil (by kernel_rfl) fun a hS => ?_
              have F62 := F61.pull 9 rfl
              have F63 := F62.pull 9 rfl
              have F64 := F63.pull 9 rfl
              have F65 := F64.pull 9 rfl
              have F66 := F65.pull 4 rfl
              have F67 := F66.pull 6 rfl
              have F68 := F67.erase 6
              have F69 := F68.erase 6
              have F70 := F69.erase 6
              have F71 := F70.erase 6
              exact hK11 (b9, (x5 (Rb.getD zeroT).kind (Rb.getD zeroT).num (Rb.getD zeroT).str (.slice A3e6 (Rb.getD zeroT).keys.length c3e6) (.slice A4e6 (Rb.getD zeroT).list.length c4e6)), E6) _ a (hS.sub ⟨rfl, rfl, rfl, rfl, rfl, trivial⟩) F71
          · skip
            refine (One.buildSlice (cells := (pCells ⟨true, ⟨#[97]⟩, 0⟩)) F13 sl46 zero52 rfl rfl rfl rfl (evp1 (ev_t rfl)) rfl rfl (by kernel_rfl) ?_)
            intro b11 w31 hb11 F72
            refine ⟨(((F72.erase 3).erase 2).erase 1).drop1, ?_⟩
            refine Hops.two 3 11 rfl rfl (by kernel_rfl) ?_ ?_
            · skip
              refine (One.append (enc := pCells) pa F72 1 rfl sl46 zero52 rfl rfl (fun _ => rfl) rfl rfl rfl rfl (ev_t rfl) (ev_t rfl) (rpsW_p (F72.get 7 rfl)) (fun _ _ => rfl) (by simp; omega) (by simp; omega) ?_)
              intro u8 w32 hu8 F73
              refine ⟨(((F73.erase 3).erase 2).erase 1).drop1, ?_⟩
              change Fr _ _ [_, _, blk _ _ [_, _, _, _, _], _, blk _ _ [_, _, _, _, _], _, blk _ _ [_, _, _, _, _], _] _ at F73
              refine Hops.two 6 11 rfl rfl (by kernel_rfl) ?_ ?_
              · skip
                refine (One.append (enc := pCells) [⟨true, ⟨#[97]⟩, 0⟩] F73 1 rfl sl46 zero52 rfl rfl (fun _ => rfl) rfl rfl rfl rfl (ev_t rfl) (ev_t rfl) ((blk_rep (enc := pCells) (sz := 3) (xs := [⟨true, ⟨#[97]⟩, 0⟩]) (fun _ => rfl) (by simpa using F73.get 0 rfl) (by simp) (by simp)).weak fun _ _ => trivial) (fun _ _ => rfl) (by simp; omega) (by simp; omega) ?_)
                intro v8 w33 hv8 F74
                refine ⟨(((F74.erase 3).erase 2).erase 1).drop1, ?_⟩
                change Fr _ _ [_, _, blk _ _ [_, _, _, _, _], _, blk _ _ [_, _, _, _, _], _, blk _ _ [_, _, _, _, _], _] _ at F74
                refine Hops.two 7 11 rfl rfl (by kernel_rfl) ?_ ?_
                · skip
                  refine (One.call rfl rfl rfl (ent_f rfl (evl2 (ev_t rfl) (ev_t rfl)) (enters en25)) (pathGet_ct ta (pa ++ [⟨true, ⟨#[97]⟩, 0⟩]) (snocK hpka (by decide)) _ _ _ (rps_get (rpsW_t (F74.get 7 rfl)) 0 rfl) (ownP (F74.get 1 rfl)) hda.fit (by omega)) (fun e w34 hw34 => ?_))
                  rw [← hRb] at hw34
                  obtain ⟨e7, E7, rfl, C34, hE7, hEb7⟩ := hw34
                  obtain ⟨A3e7, c3e7, A4e7, c4e7, hxe7⟩ := rep_x hE7.rep
                  subst hxe7
                  have F75 := F74.new C34 (sep E7 (Rb.getD zeroT) (x5 (Rb.getD zeroT).kind (Rb.getD zeroT).num (Rb.getD zeroT).str (.slice A3e7 (Rb.getD zeroT).keys.length c3e7) (.slice A4e7 (Rb.getD zeroT).list.length c4e7)).val) hE7 hEb7
                  refine ⟨_, rfl, ?_⟩
                  refine ⟨((((F75.erase 4).erase 3).erase 2).erase 1).drop1, ?_⟩
                  refine Hops.take 8 rfl (by kernel_rfl) (fun _ _ _ h => h) rfl rfl rfl ((((F75.erase 4).erase 3).erase 2).erase 1).drop1 (fun w F => (yld_move rfl (ev_t rfl))) ?_
                  refine Hops.take 9 rfl (by kernel_rfl) (fun _ _ _ h => h) rfl rfl rfl ((((F75.erase 4).erase 3).erase 2).erase 1).drop1 (fun w F => (yld_extract rfl (ev_t rfl) rfl)) ?_
                  refine Hops.take 10 rfl (by kernel_rfl) (fun _ _ _ h => h) rfl rfl rfl ((((F75.erase 4).erase 3).erase 2).erase 1).drop1 (fun w F => (yld_extract rfl (ev_t rfl) rfl)) ?_
                  refine Hops.one 11 rfl (by kernel_rfl) (One.alloc F75 zero31 rfl rfl rfl rfl ?_)
                  intro b12 w35 hb12 F76
                  refine ⟨(((((F76.erase 5).erase 4).erase 3).erase 2).erase 1).drop1, ?_⟩
                  change Fr _ _ [blk _ _ [_, _, _, _, _], _, _, _, blk _ _ [_, _, _, _, _], _, blk _ _ [_, _, _, _, _], _, blk _ _ [_, _, _, _, _], _] _ at F76
                  refine Hops.one 12 rfl (by kernel_rfl) (One.storeN (vs := [_, _, _, _, _]) F76 0 rfl sz31 rfl rfl rfl (ev_t rfl) (ev_t rfl) rfl rfl (Sep.one (x := (x5 (Rb.getD zeroT).kind (Rb.getD zeroT).num (Rb.getD zeroT).str (.slice A3e7 (Rb.getD zeroT).keys.length c3e7) (.slice A4e7 (Rb.getD zeroT).list.length c4e7))) (F76.get 1 rfl)) ?_)
                  intro w36 F77
                  refine ⟨(((((F77.erase 5).erase 4).erase 3).erase 2).erase 1).drop1, ?_⟩
                  change Fr _ _ [blk _ _ [_, _, _, _, _], _, _, _, blk _ _ [_, _, _, _, _], _, blk _ _ [_, _, _, _, _], _, blk _ _ [_, _, _, _, _], _] _ at F77
                  refine Hops.one 13 rfl (by kernel_rfl) (One.val rfl rfl rfl (yld_assign rfl (ev_t rfl)) ?_)
                  refine ⟨(((((F77.erase 5).erase 4).erase 3).erase 2).erase 1).drop1, ?_⟩
                  refine Hops.nil (by kernel_rfl) fun a hS => ?_
                  have F78 := F77.pull 9 rfl
                  have F79 := F78.pull 9 rfl
                  have F80 := F79.pull 9 rfl
                  have F81 := F80.pull 9 rfl
                  have F82 := F81.pull 5 rfl
                  have F83 := F82.pull 5 rfl
                  have F84 := F83.erase 6
                  have F85 := F84.erase 6
                  have F86 := F85.erase 6
                  have F87 := F86.erase 6
                  exact hK11 (b12, (x5 (Rb.getD zeroT).kind (Rb.getD zeroT).num (Rb.getD zeroT).str (.slice A3e7 (Rb.getD zeroT).keys.length c3e7) (.slice A4e7 (Rb.getD zeroT).list.length c4e7)), E7) _ a (hS.sub ⟨rfl, rfl, rfl, rfl, rfl, trivial⟩) F87
                · skip
                  refine (One.alloc F74 zero31 rfl rfl rfl rfl ?_)
                  intro b13 w37 hb13 F88
                  refine ⟨((((F88.erase 4).erase 3).erase 2).erase 1).drop1, ?_⟩
                  change Fr _ _ [blk _ _ [_, _, _, _, _], _, _, blk _ _ [_, _, _, _, _], _, blk _ _ [_, _, _, _, _], _, blk _ _ [_, _, _, _, _], _] _ at F88
                  refine Hops.one 7 rfl (by kernel_rfl) (One.call rfl rfl rfl (ent_f rfl (evl2 (ev_t rfl) (ev_t rfl)) (enters en25)) (pathGet_ct ta (pa ++ [⟨true, ⟨#[97]⟩, 0⟩]) (snocK hpka (by decide)) _ _ _ (rps_get (rpsW_t (F88.get 8 rfl)) 0 rfl) (ownP (F88.get 2 rfl)) hda.fit (by omega)) (fun e w38 hw38 => ?_))
                  rw [← hRb] at hw38
                  obtain ⟨e8, E8, rfl, C38, hE8, hEb8⟩ := hw38
                  obtain ⟨A3e8, c3e8, A4e8, c4e8, hxe8⟩ := rep_x hE8.rep
                  subst hxe8
                  have F89 := F88.new C38 (sep E8 (Rb.getD zeroT) (x5 (Rb.getD zeroT).kind (Rb.getD zeroT).num (Rb.getD zeroT).str (.slice A3e8 (Rb.getD zeroT).keys.length c3e8) (.slice A4e8 (Rb.getD zeroT).list.length c4e8)).val) hE8 hEb8
                  refine ⟨_, rfl, ?_⟩
                  refine ⟨(((((F89.erase 5).erase 4).erase 3).erase 2).erase 1).drop1, ?_⟩
                  refine Hops.take 8 rfl (by kernel_rfl) (fun _ _ _ h => h) rfl rfl rfl (((((F89.erase 5).erase 4).erase 3).erase 2).erase 1).drop1 (fun w F => (yld_move rfl (ev_t rfl))) ?_
                  refine Hops.take 9 rfl (by kernel_rfl) (fun _ _ _ h => h) rfl rfl rfl (((((F89.erase 5).erase 4).erase 3).erase 2).erase 1).drop1 (fun w F => (yld_extract rfl (ev_t rfl) rfl)) ?_
                  refine Hops.take 10 rfl (by kernel_rfl) (fun _ _ _ h => h) rfl rfl rfl (((((F89.erase 5).erase 4).erase 3).erase 2).erase 1).drop1 (fun w F => (yld_extract rfl (ev_t rfl) rfl)) ?_
                  refine Hops.one 12 rfl (by kernel_rfl) (One.storeN (vs := [_, _, _, _, _]) F89 1 rfl sz31 rfl rfl rfl (ev_t rfl) (ev_t rfl) rfl rfl (Sep.one (x := (x5 (Rb.getD zeroT).kind (Rb.getD zeroT).num (Rb.getD zeroT).str (.slice A3e8 (Rb.getD zeroT).keys.length c3e8) (.slice A4e8 (Rb.getD zeroT).list.length c4e8))) (F89.get 0 rfl)) ?_)
                  intro w39 F90
                  refine ⟨(((((F90.erase 5).erase 4).erase 3).erase 2).erase 1).drop1, ?_⟩
                  change Fr _ _ [_, blk _ _ [_, _, _, _, _], _, _, blk _ _ [_, _, _, _, _], _, blk _ _ [_, _, _, _, _], _, blk _ _ [_, _, _, _, _], _] _ at F90
                  refine Hops.one 13 rfl (by kernel_rfl) (One.val rfl rfl rfl (yld_assign rfl (ev_t rfl)) ?_)
                  refine ⟨(((((F90.erase 5).erase 4).erase 3).erase 2).erase 1).drop1, ?_⟩
                  refine Hops.nil (by kernel_rfl) fun a hS => ?_
                  have F91 := F90.pull 9 rfl
                  have F92 := F91.pull 9 rfl
                  have F93 := F92.pull 9 rfl
                  have F94 := F93.pull 9 rfl
                  have F95 := F94.pull 4 rfl
                  have F96 := F95.pull 5 rfl
                  have F97 := F96.erase 6
                  have F98 := F97.erase 6
                  have F99 := F98.erase 6
                  have F100 := F99.erase 6
                  exact hK11 (b13, (x5 (Rb.getD zeroT).kind (Rb.getD zeroT).num (Rb.getD zeroT).str (.slice A3e8 (Rb.getD zeroT).keys.length c3e8) (.slice A4e8 (Rb.getD zeroT).list.length c4e8)), E8) _ a (hS.sub ⟨rfl, rfl, rfl, rfl, rfl, trivial⟩) F100
              · skip
                refine (One.alloc F73 zero31 rfl rfl rfl rfl ?_)
                intro b14 w40 hb14 F101
                refine ⟨((((F101.erase 4).erase 3).erase 2).erase 1).drop1, ?_⟩
                change Fr _ _ [blk _ _ [_, _, _, _, _], _, _, blk _ _ [_, _, _, _, _], _, blk _ _ [_, _, _, _, _], _, blk _ _ [_, _, _, _, _], _] _ at F101
                refine Hops.one 6 rfl (by kernel_rfl) (One.append (enc := pCells) [⟨true, ⟨#[97]⟩, 0⟩] F101 2 rfl sl46 zero52 rfl rfl (fun _ => rfl) rfl rfl rfl rfl (ev_t rfl) (ev_t rfl) ((blk_rep (enc := pCells) (sz := 3) (xs := [⟨true, ⟨#[97]⟩, 0⟩]) (fun _ => rfl) (by simpa using F101.get 1 rfl) (by simp) (by simp)).weak fun _ _ => trivial) (fun _ _ => rfl) (by simp; omega) (by simp; omega) ?_)
                intro v8 w41 hv8 F102
                refine ⟨((((F102.erase 4).erase 3).erase 2).erase 1).drop1, ?_⟩
                change Fr _ _ [blk _ _ [_, _, _, _, _], _, _, blk _ _ [_, _, _, _, _], _, blk _ _ [_, _, _, _, _], _, blk _ _ [_, _, _, _, _], _] _ at F102
                refine Hops.one 7 rfl (by kernel_rfl) (One.call rfl rfl rfl (ent_f rfl (evl2 (ev_t rfl) (ev_t rfl)) (enters en25)) (pathGet_ct ta (pa ++ [⟨true, ⟨#[97]⟩, 0⟩]) (snocK hpka (by decide)) _ _ _ (rps_get (rpsW_t (F102.get 8 rfl)) 0 rfl) (ownP (F102.get 2 rfl)) hda.fit (by omega)) (fun e w42 hw42 => ?_))
                rw [← hRb] at hw42
                obtain ⟨e9, E9, rfl, C42, hE9, hEb9⟩ := hw42
                obtain ⟨A3e9, c3e9, A4e9, c4e9, hxe9⟩ := rep_x hE9.rep
                subst hxe9
                have F103 := F102.new C42 (sep E9 (Rb.getD zeroT) (x5 (Rb.getD zeroT).kind (Rb.getD zeroT).num (Rb.getD zeroT).str (.slice A3e9 (Rb.getD zeroT).keys.length c3e9) (.slice A4e9 (Rb.getD zeroT).list.length c4e9)).val) hE9 hEb9
                refine ⟨_, rfl, ?_⟩
                refine ⟨(((((F103.erase 5).erase 4).erase 3).erase 2).erase 1).drop1, ?_⟩
                refine Hops.take 8 rfl (by kernel_rfl) (fun _ _ _ h => h) rfl rfl rfl (((((F103.erase 5).erase 4).erase 3).erase 2).erase 1).drop1 (fun w F => (yld_move rfl (ev_t rfl))) ?_
                refine Hops.take 9 rfl (by kernel_rfl) (fun _ _ _ h => h) rfl rfl rfl (((((F103.erase 5).erase 4).erase 3).erase 2).erase 1).drop1 (fun w F => (yld_extract rfl (ev_t rfl) rfl)) ?_
                refine Hops.take 10 rfl (by kernel_rfl) (fun _ _ _ h => h) rfl rfl rfl (((((F103.erase 5).erase 4).erase 3).erase 2).erase 1).drop1 (fun w F => (yld_extract rfl (ev_t rfl) rfl)) ?_
                refine Hops.one 12 rfl (by kernel_rfl) (One.storeN (vs := [_, _, _, _, _]) F103 1 rfl sz31 rfl rfl rfl (ev_t rfl) (ev_t rfl) rfl rfl (Sep.one (x := (x5 (Rb.getD zeroT).kind (Rb.getD zeroT).num (Rb.getD zeroT).str (.slice A3e9 (Rb.getD zeroT).keys.length c3e9) (.slice A4e9 (Rb.getD zeroT).list.length c4e9))) (F103.get 0 rfl)) ?_)
                intro w43 F104
                refine ⟨(((((F104.erase 5).erase 4).erase 3).erase 2).erase 1).drop1, ?_⟩
                change Fr _ _ [_, blk _ _ [_, _, _, _, _], _, _, blk _ _ [_, _, _, _, _], _, blk _ _ [_, _, _, _, _], _, blk _ _ [_, _, _, _, _], _] _ at F104
                refine Hops.one 13 rfl (by kernel_rfl) (One.val rfl rfl rfl (yld_assign rfl (ev_t rfl)) ?_)
                refine ⟨(((((F104.erase 5).erase 4).erase 3).erase 2).erase 1).drop1, ?_⟩
                refine Hops.nil (by kernel_rfl) fun a hS => ?_
                have F105 := F104.pull 9 rfl
                have F106 := F105.pull 9 rfl
                have F107 := F106.pull 9 rfl
                have F108 := F107.pull 9 rfl
                have F109 := F108.pull 4 rfl
                have F110 := F109.pull 5 rfl
                have F111 := F110.erase 6
                have F112 := F111.erase 6
                have F113 := F112.erase 6
                have F114 := F113.erase 6
                exact hK11 (b14, (x5 (Rb.getD zeroT).kind (Rb.getD zeroT).num (Rb.getD zeroT).str (.slice A3e9 (Rb.getD zeroT).keys.length c3e9) (.slice A4e9 (Rb.getD zeroT).list.length c4e9)), E9) _ a (hS.sub ⟨rfl, rfl, rfl, rfl, rfl, trivial⟩) F114
            · skip
              refine (One.alloc F72 zero31 rfl rfl rfl rfl ?_)
              intro b15 w44 hb15 F115
              refine ⟨((((F115.erase 4).erase 3).erase 2).erase 1).drop1, ?_⟩
              change Fr _ _ [blk _ _ [_, _, _, _, _], _, _, blk _ _ [_, _, _, _, _], _, blk _ _ [_, _, _, _, _], _, blk _ _ [_, _, _, _, _], _] _ at F115
              refine Hops.one 3 rfl (by kernel_rfl) (One.append (enc := pCells) pa F115 2 rfl sl46 zero52 rfl rfl (fun _ => rfl) rfl rfl rfl rfl (ev_t rfl) (ev_t rfl) (rpsW_p (F115.get 8 rfl)) (fun _ _ => rfl) (by simp; omega) (by simp; omega) ?_)
              intro u8 w45 hu8 F116
              refine ⟨((((F116.erase 4).erase 3).erase 2).erase 1).drop1, ?_⟩
              change Fr _ _ [blk _ _ [_, _, _, _, _], _, _, blk _ _ [_, _, _, _, _], _, blk _ _ [_, _, _, _, _], _, blk _ _ [_, _, _, _, _], _] _ at F116
              refine Hops.one 6 rfl (by kernel_rfl) (One.append (enc := pCells) [⟨true, ⟨#[97]⟩, 0⟩] F116 2 rfl sl46 zero52 rfl rfl (fun _ => rfl) rfl rfl rfl rfl (ev_t rfl) (ev_t rfl) ((blk_rep (enc := pCells) (sz := 3) (xs := [⟨true, ⟨#[97]⟩, 0⟩]) (fun _ => rfl) (by simpa using F116.get 1 rfl) (by simp) (by simp)).weak fun _ _ => trivial) (fun _ _ => rfl) (by simp; omega) (by simp; omega) ?_)
              intro v8 w46 hv8 F117
              refine ⟨((((F117.erase 4).erase 3).erase 2).erase 1).drop1, ?_⟩
              change Fr _ _ [blk _ _ [_, _, _, _, _], _, _, blk _ _ [_, _, _, _, _], _, blk _ _ [_, _, _, _, _], _, blk _ _ [_, _, _, _, _], _] _ at F117
              refine Hops.one 7 rfl (by kernel_rfl) (One.call rfl rfl rfl (ent_f rfl (evl2 (ev_t rfl) (ev_t rfl)) (enters en25)) (pathGet_ct ta (pa ++ [⟨true, ⟨#[97]⟩, 0⟩]) (snocK hpka (by decide)) _ _ _ (rps_get (rpsW_t (F117.get 8 rfl)) 0 rfl) (ownP (F117.get 2 rfl)) hda.fit (by omega)) (fun e w47 hw47 => ?_))
              rw [← hRb] at hw47
              obtain ⟨e10, E10, rfl, C47, hE10, hEb10⟩ := hw47
              obtain ⟨A3e10, c3e10, A4e10, c4e10, hxe10⟩ := rep_x hE10.rep
              subst hxe10
              have F118 := F117.new C47 (sep E10 (Rb.getD zeroT) (x5 (Rb.getD zeroT).kind (Rb.getD zeroT).num (Rb.getD zeroT).str (.slice A3e10 (Rb.getD zeroT).keys.length c3e10) (.slice A4e10 (Rb.getD zeroT).list.length c4e10)).val) hE10 hEb10
              refine ⟨_, rfl, ?_⟩
              refine ⟨(((((F118.erase 5).erase 4).erase 3).erase 2).erase 1).drop1, ?_⟩
              refine Hops.take 8 rfl (by kernel_rfl) (fun _ _ _ h => h) rfl rfl rfl (((((F118.erase 5).erase 4).erase 3).erase 2).erase 1).drop1 (fun w F => (yld_move rfl (ev_t rfl))) ?_
              refine Hops.take 9 rfl (by kernel_rfl) (fun _ _ _ h => h) rfl rfl rfl (((((F118.erase 5).erase 4).erase 3).erase 2).erase 1).drop1 (fun w F => (yld_extract rfl (ev_t rfl) rfl)) ?_
              refine Hops.take 10 rfl (by kernel_rfl) (fun _ _ _ h => h) rfl rfl rfl (((((F118.erase 5).erase 4).erase 3).erase 2).erase 1).drop1 (fun w F => (yld_extract rfl (ev_t rfl) rfl)) ?_
              refine Hops.one 12 rfl (by kernel_rfl) (One.storeN (vs := [_, _, _, _, _]) F118 1 rfl sz31 rfl rfl rfl (ev_t rfl) (ev_t rfl) rfl rfl (Sep.one (x := (x5 (Rb.getD zeroT).kind (Rb.getD zeroT).num (Rb.getD zeroT).str (.slice A3e10 (Rb.getD zeroT).keys.length c3e10) (.slice A4e10 (Rb.getD zeroT).list.length c4e10))) (F118.get 0 rfl)) ?_)
              intro w48 F119
              refine ⟨(((((F119.erase 5).erase 4).erase 3).erase 2).erase 1).drop1, ?_⟩
              change Fr _ _ [_, blk _ _ [_, _, _, _, _], _, _, blk _ _ [_, _, _, _, _], _, blk _ _ [_, _, _, _, _], _, blk _ _ [_, _, _, _, _], _] _ at F119
              refine Hops.one 13 rfl (by kernel_rfl) (One.val rfl rfl rfl (yld_assign rfl (ev_t rfl)) ?_)
              refine ⟨(((((F119.erase 5).erase 4).erase 3).erase 2).erase 1).drop1, ?_⟩
              refine Hops.nil (by kernel_rfl) fun a hS => ?_
              have F120 := F119.pull 9 rfl
              have F121 := F120.pull 9 rfl
              have F122 := F121.pull 9 rfl
              have F123 := F122.pull 9 rfl
              have F124 := F123.pull 4 rfl
              have F125 := F124.pull 5 rfl
              have F126 := F125.erase 6
              have F127 := F126.erase 6
              have F128 := F127.erase 6
              have F129 := F128.erase 6
              exact hK11 (b15, (x5 (Rb.getD zeroT).kind (Rb.getD zeroT).num (Rb.getD zeroT).str (.slice A3e10 (Rb.getD zeroT).keys.length c3e10) (.slice A4e10 (Rb.getD zeroT).list.length c4e10)), E10) _ a (hS.sub ⟨rfl, rfl, rfl, rfl, rfl, trivial⟩) F129
          · skip
            refine (One.alloc F13 zero31 rfl rfl rfl rfl ?_)
            intro b16 w49 hb16 F130
            refine ⟨(((F130.erase 3).erase 2).erase 1).drop1, ?_⟩
            change Fr _ _ [blk _ _ [_, _, _, _, _], _, blk _ _ [_, _, _, _, _], _, blk _ _ [_, _, _, _, _], _, blk _ _ [_, _, _, _, _], _] _ at F130
            refine Hops.two 3 5 rfl rfl (by kernel_rfl) ?_ ?_
            · skip
              refine (One.append (enc := pCells) pa F130 1 rfl sl46 zero52 rfl rfl (fun _ => rfl) rfl rfl rfl rfl (ev_t rfl) (ev_t rfl) (rpsW_p (F130.get 7 rfl)) (fun _ _ => rfl) (by simp; omega) (by simp; omega) ?_)
              intro u8 w50 hu8 F131
              refine ⟨(((F131.erase 3).erase 2).erase 1).drop1, ?_⟩
              change Fr _ _ [blk _ _ [_, _, _, _, _], _, blk _ _ [_, _, _, _, _], _, blk _ _ [_, _, _, _, _], _, blk _ _ [_, _, _, _, _], _] _ at F131
              refine Hops.one 5 rfl (by kernel_rfl) (One.buildSlice (cells := (pCells ⟨true, ⟨#[97]⟩, 0⟩)) F131 sl46 zero52 rfl rfl rfl rfl (evp1 (ev_t rfl)) rfl rfl (by kernel_rfl) ?_)
              intro b17 w51 hb17 F132
              refine ⟨((((F132.erase 4).erase 3).erase 2).erase 1).drop1, ?_⟩
              refine Hops.one 6 rfl (by kernel_rfl) (One.append (enc := pCells) [⟨true, ⟨#[97]⟩, 0⟩] F132 2 rfl sl46 zero52 rfl rfl (fun _ => rfl) rfl rfl rfl rfl (ev_t rfl) (ev_t rfl) ((blk_rep (enc := pCells) (sz := 3) (xs := [⟨true, ⟨#[97]⟩, 0⟩]) (fun _ => rfl) (by simpa using F132.get 0 rfl) (by simp) (by simp)).weak fun _ _ => trivial) (fun _ _ => rfl) (by simp; omega) (by simp; omega) ?_)
              intro v8 w52 hv8 F133
              refine ⟨((((F133.erase 4).erase 3).erase 2).erase 1).drop1, ?_⟩
              change Fr _ _ [_, blk _ _ [_, _, _, _, _], _, blk _ _ [_, _, _, _, _], _, blk _ _ [_, _, _, _, _], _, blk _ _ [_, _, _, _, _], _] _ at F133
              refine Hops.one 7 rfl (by kernel_rfl) (One.call rfl rfl rfl (ent_f rfl (evl2 (ev_t rfl) (ev_t rfl)) (enters en25)) (pathGet_ct ta (pa ++ [⟨true, ⟨#[97]⟩, 0⟩]) (snocK hpka (by decide)) _ _ _ (rps_get (rpsW_t (F133.get 8 rfl)) 0 rfl) (ownP (F133.get 2 rfl)) hda.fit (by omega)) (fun e w53 hw53 => ?_))
              rw [← hRb] at hw53
              obtain ⟨e11, E11, rfl, C53, hE11, hEb11⟩ := hw53
              obtain ⟨A3e11, c3e11, A4e11, c4e11, hxe11⟩ := rep_x hE11.rep
              subst hxe11
              have F134 := F133.new C53 (sep E11 (Rb.getD zeroT) (x5 (Rb.getD zeroT).kind (Rb.getD zeroT).num (Rb.getD zeroT).str (.slice A3e11 (Rb.getD zeroT).keys.length c3e11) (.slice A4e11 (Rb.getD zeroT).list.length c4e11)).val) hE11 hEb11
              refine ⟨_, rfl, ?_⟩
              refine ⟨(((((F134.erase 5).erase 4).erase 3).erase 2).erase 1).drop1, ?_⟩
              refine Hops.take 8 rfl (by kernel_rfl) (fun _ _ _ h => h) rfl rfl rfl (((((F134.erase 5).erase 4).erase 3).erase 2).erase 1).drop1 (fun w F => (yld_move rfl (ev_t rfl))) ?_
              refine Hops.take 9 rfl (by kernel_rfl) (fun _ _ _ h => h) rfl rfl rfl (((((F134.erase 5).erase 4).erase 3).erase 2).erase 1).drop1 (fun w F => (yld_extract rfl (ev_t rfl) rfl)) ?_
              refine Hops.take 10 rfl (by kernel_rfl) (fun _ _ _ h => h) rfl rfl rfl (((((F134.erase 5).erase 4).erase 3).erase 2).erase 1).drop1 (fun w F => (yld_extract rfl (ev_t rfl) rfl)) ?_
              refine Hops.one 12 rfl (by kernel_rfl) (One.storeN (vs := [_, _, _, _, _]) F134 2 rfl sz31 rfl rfl rfl (ev_t rfl) (ev_t rfl) rfl rfl (Sep.one (x := (x5 (Rb.getD zeroT).kind (Rb.getD zeroT).num (Rb.getD zeroT).str (.slice A3e11 (Rb.getD zeroT).keys.length c3e11) (.slice A4e11 (Rb.getD zeroT).list.length c4e11))) (F134.get 0 rfl)) ?_)
              intro w54 F135
              refine ⟨(((((F135.erase 5).erase 4).erase 3).erase 2).erase 1).drop1, ?_⟩
              change Fr _ _ [_, _, blk _ _ [_, _, _, _, _], _, blk _ _ [_, _, _, _, _], _, blk _ _ [_, _, _, _, _], _, blk _ _ [_, _, _, _, _], _] _ at F135
              refine Hops.one 13 rfl (by kernel_rfl) (One.val rfl rfl rfl (yld_assign rfl (ev_t rfl)) ?_)
              refine ⟨(((((F135.erase 5).erase 4).erase 3).erase 2).erase 1).drop1, ?_⟩
              refine Hops.nil (by kernel_rfl) fun a hS => ?_
              have F136 := F135.pull 9 rfl
              have F137 := F136.pull 9 rfl
              have F138 := F137.pull 9 rfl
              have F139 := F138.pull 9 rfl
              have F140 := F139.pull 4 rfl
              have F141 := F140.pull 6 rfl
              have F142 := F141.erase 6
              have F143 := F142.erase 6
              have F144 := F143.erase 6
              have F145 := F144.erase 6
              exact hK11 (b16, (x5 (Rb.getD zeroT).kind (Rb.getD zeroT).num (Rb.getD zeroT).str (.slice A3e11 (Rb.getD zeroT).keys.length c3e11) (.slice A4e11 (Rb.getD zeroT).list.length c4e11)), E11) _ a (hS.sub ⟨rfl, rfl, rfl, rfl, rfl, trivial⟩) F145
            · skip
              refine (One.buildSlice (cells := (pCells ⟨true, ⟨#[97]⟩, 0⟩)) F130 sl46 zero52 rfl rfl rfl rfl (evp1 (ev_t rfl)) rfl rfl (by kernel_rfl) ?_)
              intro b18 w55 hb18 F146
              refine ⟨((((F146.erase 4).erase 3).erase 2).erase 1).drop1, ?_⟩
              refine Hops.one 3 rfl (by kernel_rfl) (One.append (enc := pCells) pa F146 2 rfl sl46 zero52 rfl rfl (fun _ => rfl) rfl rfl rfl rfl (ev_t rfl) (ev_t rfl) (rpsW_p (F146.get 8 rfl)) (fun _ _ => rfl) (by simp; omega) (by simp; omega) ?_)
              intro u8 w56 hu8 F147
              refine ⟨((((F147.erase 4).erase 3).erase 2).erase 1).drop1, ?_⟩
              change Fr _ _ [_, blk _ _ [_, _, _, _, _], _, blk _ _ [_, _, _, _, _], _, blk _ _ [_, _, _, _, _], _, blk _ _ [_, _, _, _, _], _] _ at F147
              refine Hops.one 6 rfl (by kernel_rfl) (One.append (enc := pCells) [⟨true, ⟨#[97]⟩, 0⟩] F147 2 rfl sl46 zero52 rfl rfl (fun _ => rfl) rfl rfl rfl rfl (ev_t rfl) (ev_t rfl) ((blk_rep (enc := pCells) (sz := 3) (xs := [⟨true, ⟨#[97]⟩, 0⟩]) (fun _ => rfl) (by simpa using F147.get 0 rfl) (by simp) (by simp)).weak fun _ _ => trivial) (fun _ _ => rfl) (by simp; omega) (by simp; omega) ?_)
              intro v8 w57 hv8 F148
              refine ⟨((((F148.erase 4).erase 3).erase 2).erase 1).drop1, ?_⟩
              change Fr _ _ [_, blk _ _ [_, _, _, _, _], _, blk _ _ [_, _, _, _, _], _, blk _ _ [_, _, _, _, _], _, blk _ _ [_, _, _, _, _], _] _ at F148
              refine Hops.one 7 rfl (by kernel_rfl) (One.call rfl rfl rfl (ent_f rfl (evl2 (ev_t rfl) (ev_t rfl)) (enters en25)) (pathGet_ct ta (pa ++ [⟨true, ⟨#[97]⟩, 0⟩]) (snocK hpka (by decide)) _ _ _ (rps_get (rpsW_t (F148.get 8 rfl)) 0 rfl) (ownP (F148.get 2 rfl)) hda.fit (by omega)) (fun e w58 hw58 => ?_))
              rw [← hRb] at hw58
              obtain ⟨e12, E12, rfl, C58, hE12, hEb12⟩ := hw58
              obtain ⟨A3e12, c3e12, A4e12, c4e12, hxe12⟩ := rep_x hE12.rep
              subst hxe12
              have F149 := F148.new C58 (sep E12 (Rb.getD zeroT) (x5 (Rb.getD zeroT).kind (Rb.getD zeroT).num (Rb.getD zeroT).str (.slice A3e12 (Rb.getD zeroT).keys.length c3e12) (.slice A4e12 (Rb.getD zeroT).list.length c4e12)).val) hE12 hEb12
              refine ⟨_, rfl, ?_⟩
              refine ⟨(((((F149.erase 5).erase 4).erase 3).erase 2).erase 1).drop1, ?_⟩
              refine Hops.take 8 rfl (by kernel_rfl) (fun _ _ _ h => h) rfl rfl rfl (((((F149.erase 5).erase 4).erase 3).erase 2).erase 1).drop1 (fun w F => (yld_move rfl (ev_t rfl))) ?_
              refine Hops.take 9 rfl (by kernel_rfl) (fun _ _ _ h => h) rfl rfl rfl (((((F149.erase 5).erase 4).erase 3).erase 2).erase 1).drop1 (fun w F => (yld_extract rfl (ev_t rfl) rfl)) ?_
              refine Hops.take 10 rfl (by kernel_rfl) (fun _ _ _ h => h) rfl rfl rfl (((((F149.erase 5).erase 4).erase 3).erase 2).erase 1).drop1 (fun w F => (yld_extract rfl (ev_t rfl) rfl)) ?_
              refine Hops.one 12 rfl (by kernel_rfl) (One.storeN (vs := [_, _, _, _, _]) F149 2 rfl sz31 rfl rfl rfl (ev_t rfl) (ev_t rfl) rfl rfl (Sep.one (x := (x5 (Rb.getD zeroT).kind (Rb.getD zeroT).num (Rb.getD zeroT).str (.slice A3e12 (Rb.getD zeroT).keys.length c3e12) (.slice A4e12 (Rb.getD zeroT).list.length c4e12))) (F149.get 0 rfl)) ?_)
              intro w59 F150
              refine ⟨(((((F150.erase 5).erase 4).erase 3).erase 2).erase 1).drop1, ?_⟩
              change Fr _ _ [_, _, blk _ _ [_, _, _, _, _], _, blk _ _ [_, _, _, _, _], _, blk _ _ [_, _, _, _, _], _, blk _ _ [_, _, _, _, _], _] _ at F150
              refine Hops.one 13 rfl (by kernel_rfl) (One.val rfl rfl rfl (yld_assign rfl (ev_t rfl)) ?_)
              refine ⟨(((((F150.erase 5).erase 4).erase 3).erase 2).erase 1).drop1, ?_⟩
              refine Hops.nil (by kernel_rfl) fun a hS => ?_
              have F151 := F150.pull 9 rfl
              have F152 := F151.pull 9 rfl
              have F153 := F152.pull 9 rfl
              have F154 := F153.pull 9 rfl
              have F155 := F154.pull 4 rfl
              have F156 := F155.pull 6 rfl
              have F157 := F156.erase 6
              have F158 := F157.erase 6
              have F159 := F158.erase 6
              have F160 := F159.erase 6
              exact hK11 (b16, (x5 (Rb.getD zeroT).kind (Rb.getD zeroT).num (Rb.getD zeroT).str (.slice A3e12 (Rb.getD zeroT).keys.length c3e12) (.slice A4e12 (Rb.getD zeroT).list.length c4e12)), E12) _ a (hS.sub ⟨rfl, rfl, rfl, rfl, rfl, trivial⟩) F160
        · skip
          refine (One.buildSlice (cells := (pCells ⟨true, ⟨#[97]⟩, 0⟩)) F12 sl46 zero52 rfl rfl rfl rfl (evp1 (ev_t rfl)) rfl rfl (by kernel_rfl) ?_)
          intro b19 w60 hb19 F161
          refine ⟨((F161.erase 2).erase 1).drop1, ?_⟩
          refine Hops.two 1 11 rfl rfl (by kernel_rfl) ?_ ?_
          · skip
            refine (One.buildNil pCells F161 sl46 rfl rfl rfl rfl ?_)
            intro b20 w61 hb20 F162
            refine ⟨(((F162.erase 3).erase 2).erase 1).drop1, ?_⟩
            refine Hops.two 3 11 rfl rfl (by kernel_rfl) ?_ ?_
            · skip
              refine (One.append (enc := pCells) pa F162 0 rfl sl46 zero52 rfl rfl (fun _ => rfl) rfl rfl rfl rfl (ev_t rfl) (ev_t rfl) (rpsW_p (F162.get 7 rfl)) (fun _ _ => rfl) (by simp; omega) (by simp; omega) ?_)
              intro u8 w62 hu8 F163
              refine ⟨(((F163.erase 3).erase 2).erase 1).drop1, ?_⟩
              change Fr _ _ [_, _, blk _ _ [_, _, _, _, _], _, blk _ _ [_, _, _, _, _], _, blk _ _ [_, _, _, _, _], _] _ at F163
              refine Hops.two 6 11 rfl rfl (by kernel_rfl) ?_ ?_
              · skip
                refine (One.append (enc := pCells) [⟨true, ⟨#[97]⟩, 0⟩] F163 0 rfl sl46 zero52 rfl rfl (fun _ => rfl) rfl rfl rfl rfl (ev_t rfl) (ev_t rfl) ((blk_rep (enc := pCells) (sz := 3) (xs := [⟨true, ⟨#[97]⟩, 0⟩]) (fun _ => rfl) (by simpa using F163.get 1 rfl) (by simp) (by simp)).weak fun _ _ => trivial) (fun _ _ => rfl) (by simp; omega) (by simp; omega) ?_)
                intro v8 w63 hv8 F164
                refine ⟨(((F164.erase 3).erase 2).erase 1).drop1, ?_⟩
                change Fr _ _ [_, _, blk _ _ [_, _, _, _, _], _, blk _ _ [_, _, _, _, _], _, blk _ _ [_, _, _, _, _], _] _ at F164
                refine Hops.two 7 11 rfl rfl (by kernel_rfl) ?_ ?_
                · skip
                  refine (One.call rfl rfl rfl (ent_f rfl (evl2 (ev_t rfl) (ev_t rfl)) (enters en25)) (pathGet_ct ta (pa ++ [⟨true, ⟨#[97]⟩, 0⟩]) (snocK hpka (by decide)) _ _ _ (rps_get (rpsW_t (F164.get 7 rfl)) 0 rfl) (ownP (F164.get 0 rfl)) hda.fit (by omega)) (fun e w64 hw64 => ?_))
                  rw [← hRb] at hw64
                  obtain ⟨e13, E13, rfl, C64, hE13, hEb13⟩ := hw64
                  obtain ⟨A3e13, c3e13, A4e13, c4e13, hxe13⟩ := rep_x hE13.rep
                  subst hxe13
                  have F165 := F164.new C64 (sep E13 (Rb.getD zeroT) (x5 (Rb.getD zeroT).kind (Rb.getD zeroT).num (Rb.getD zeroT).str (.slice A3e13 (Rb.getD zeroT).keys.length c3e13) (.slice A4e13 (Rb.getD zeroT).list.length c4e13)).val) hE13 hEb13
                  refine ⟨_, rfl, ?_⟩
                  refine ⟨((((F165.erase 4).erase 3).erase 2).erase 1).drop1, ?_⟩
                  refine Hops.take 8 rfl (by kernel_rfl) (fun _ _ _ h => h) rfl rfl rfl ((((F165.erase 4).erase 3).erase 2).erase 1).drop1 (fun w F => (yld_move rfl (ev_t rfl))) ?_
                  refine Hops.take 9 rfl (by kernel_rfl) (fun _ _ _ h => h) rfl rfl rfl ((((F165.erase 4).erase 3).erase 2).erase 1).drop1 (fun w F => (yld_extract rfl (ev_t rfl) rfl)) ?_
                  refine Hops.take 10 rfl (by kernel_rfl) (fun _ _ _ h => h) rfl rfl rfl ((((F165.erase 4).erase 3).erase 2).erase 1).drop1 (fun w F => (yld_extract rfl (ev_t rfl) rfl)) ?_
                  refine Hops.one 11 rfl (by kernel_rfl) (One.alloc F165 zero31 rfl rfl rfl rfl ?_)
                  intro b21 w65 hb21 F166
                  refine ⟨(((((F166.erase 5).erase 4).erase 3).erase 2).erase 1).drop1, ?_⟩
                  change Fr _ _ [blk _ _ [_, _, _, _, _], _, _, _, blk _ _ [_, _, _, _, _], _, blk _ _ [_, _, _, _, _], _, blk _ _ [_, _, _, _, _], _] _ at F166
                  refine Hops.one 12 rfl (by kernel_rfl) (One.storeN (vs := [_, _, _, _, _]) F166 0 rfl sz31 rfl rfl rfl (ev_t rfl) (ev_t rfl) rfl rfl (Sep.one (x := (x5 (Rb.getD zeroT).kind (Rb.getD zeroT).num (Rb.getD zeroT).str (.slice A3e13 (Rb.getD zeroT).keys.length c3e13) (.slice A4e13 (Rb.getD zeroT).list.length c4e13))) (F166.get 1 rfl)) ?_)
                  intro w66 F167
                  refine ⟨(((((F167.erase 5).erase 4).erase 3).erase 2).erase 1).drop1, ?_⟩
                  change Fr _ _ [blk _ _ [_, _, _, _, _], _, _, _, blk _ _ [_, _, _, _, _], _, blk _ _ [_, _, _, _, _], _, blk _ _ [_, _, _, _, _], _] _ at F167
                  refine Hops.one 13 rfl (by kernel_rfl) (One.val rfl rfl rfl (yld_assign rfl (ev_t rfl)) ?_)
                  refine ⟨(((((F167.erase 5).erase 4).erase 3).erase 2).erase 1).drop1, ?_⟩
                  refine Hops.nil (by kernel_rfl) fun a hS => ?_
                  have F168 := F167.pull 9 rfl
                  have F169 := F168.pull 9 rfl
                  have F170 := F169.pull 9 rfl
                  have F171 := F170.pull 9 rfl
                  have F172 := F171.pull 5 rfl
                  have F173 := F172.pull 5 rfl
                  have F174 := F173.erase 6
                  have F175 := F174.erase 6
                  have F176 := F175.erase 6
                  have F177 := F176.erase 6
                  exact hK11 (b21, (x5 (Rb.getD zeroT).kind (Rb.getD zeroT).num (Rb.getD zeroT).str (.slice A3e13 (Rb.getD zeroT).keys.length c3e13) (.slice A4e13 (Rb.getD zeroT).list.length c4e13)), E13) _ a (hS.sub ⟨rfl, rfl, rfl, rfl, rfl, trivial⟩) F177
                · skip
                  refine (One.alloc F164 zero31 rfl rfl rfl rfl ?_)
                  intro b22 w67 hb22 F178
                  refine ⟨((((F178.erase 4).erase 3).erase 2).erase 1).drop1, ?_⟩
                  change Fr _ _ [blk _ _ [_, _, _, _, _], _, _, blk _ _ [_, _, _, _, _], _, blk _ _ [_, _, _, _, _], _, blk _ _ [_, _, _, _, _], _] _ at F178
                  refine Hops.one 7 rfl (by kernel_rfl) (One.call rfl rfl rfl (ent_f rfl (evl2 (ev_t rfl) (ev_t rfl)) (enters en25)) (pathGet_ct ta (pa ++ [⟨true, ⟨#[97]⟩, 0⟩]) (snocK hpka (by decide)) _ _ _ (rps_get (rpsW_t (F178.get 8 rfl)) 0 rfl) (ownP (F178.get 1 rfl)) hda.fit (by omega)) (fun e w68 hw68 => ?_))
                  rw [← hRb] at hw68
                  obtain ⟨e14, E14, rfl, C68, hE14, hEb14⟩ := hw68
                  obtain ⟨A3e14, c3e14, A4e14, c4e14, hxe14⟩ := rep_x hE14.rep
                  subst hxe14
                  have F179 := F178.new C68 (sep E14 (Rb.getD zeroT) (x5 (Rb.getD zeroT).kind (Rb.getD zeroT).num (Rb.getD zeroT).str (.slice A3e14 (Rb.getD zeroT).keys.length c3e14) (.slice A4e14 (Rb.getD zeroT).list.length c4e14)).val) hE14 hEb14
                  refine ⟨_, rfl, ?_⟩
                  refine ⟨(((((F179.erase 5).erase 4).erase 3).erase 2).erase 1).drop1, ?_⟩
                  refine Hops.take 8 rfl (by kernel_rfl) (fun _ _ _ h => h) rfl rfl rfl (((((F179.erase 5).erase 4).erase 3).erase 2).erase 1).drop1 (fun w F => (yld_move rfl (ev_t rfl))) ?_
                  refine Hops.take 9 rfl (by kernel_rfl) (fun _ _ _ h => h) rfl rfl rfl (((((F179.erase 5).erase 4).erase 3).erase 2).erase 1).drop1 (fun w F => (yld_extract rfl (ev_t rfl) rfl)) ?_
                  refine Hops.take 10 rfl (by kernel_rfl) (fun _ _ _ h => h) rfl rfl rfl (((((F179.erase 5).erase 4).erase 3).erase 2).erase 1).drop1 (fun w F => (yld_extract rfl (ev_t rfl) rfl)) ?_
                  refine Hops.one 12 rfl (by kernel_rfl) (One.storeN (vs := [_, _, _, _, _]) F179 1 rfl sz31 rfl rfl rfl (ev_t rfl) (ev_t rfl) rfl rfl (Sep.one (x := (x5 (Rb.getD zeroT).kind (Rb.getD zeroT).num (Rb.getD zeroT).str (.slice A3e14 (Rb.getD zeroT).keys.length c3e14) (.slice A4e14 (Rb.getD zeroT).list.length c4e14))) (F179.get 0 rfl)) ?_)
                  intro w69 F180
                  refine ⟨(((((F180.erase 5).erase 4).erase 3).erase 2).erase 1).drop1, ?_⟩
                  change Fr _ _ [_, blk _ _ [_, _, _, _, _], _, _, blk _ _ [_, _, _, _, _], _, blk _ _ [_, _, _, _, _], _, blk _ _ [_, _, _, _, _], _] _ at F180
                  refine Hops.one 13 rfl (by kernel_rfl) (One.val rfl rfl rfl (yld_assign rfl (ev_t rfl)) ?_)
                  refine ⟨(((((F180.erase 5).erase 4).erase 3).erase 2).erase 1).drop1, ?_⟩
                  refine Hops.nil (by kernel_rfl) fun a hS => ?_
                  have F181 := F180.pull 9 rfl
                  have F182 := F181.pull 9 rfl
                  have F183 := F182.pull 9 rfl
                  have F184 := F183.pull 9 rfl
                  have F185 := F184.pull 4 rfl
                  have F186 := F185.pull 5 rfl
                  have F187 := F186.erase 6
                  have F188 := F187.erase 6
                  have F189 := F188.erase 6
                  have F190 := F189.erase 6
                  exact hK11 (b22, (x5 (Rb.getD zeroT).kind (Rb.getD zeroT).num (Rb.getD zeroT).str (.slice A3e14 (Rb.getD zeroT).keys.length c3e14) (.slice A4e14 (Rb.getD zeroT).list.length c4e14)), E14) _ a (hS.sub ⟨rfl, rfl, rfl, rfl, rfl, trivial⟩) F190
              · skip
                refine (One.alloc F163 zero31 rfl rfl rfl rfl ?_)
                intro b23 w70 hb23 F191
                refine ⟨((((F191.erase 4).erase 3).erase 2).erase 1).drop1, ?_⟩
                change Fr _ _ [blk _ _ [_, _, _, _, _], _, _, blk _ _ [_, _, _, _, _], _, blk _ _ [_, _, _, _, _], _, blk _ _ [_, _, _, _, _], _] _ at F191
                refine Hops.one 6 rfl (by kernel_rfl) (One.append (enc := pCells) [⟨true, ⟨#[97]⟩, 0⟩] F191 1 rfl sl46 zero52 rfl rfl (fun _ => rfl) rfl rfl rfl rfl (ev_t rfl) (ev_t rfl) ((blk_rep (enc := pCells) (sz := 3) (xs := [⟨true, ⟨#[97]⟩, 0⟩]) (fun _ => rfl) (by simpa using F191.get 2 rfl) (by simp) (by simp)).weak fun _ _ => trivial) (fun _ _ => rfl) (by simp; omega) (by simp; omega) ?_)
                intro v8 w71 hv8 F192
                refine ⟨((((F192.erase 4).erase 3).erase 2).erase 1).drop1, ?_⟩
                change Fr _ _ [blk _ _ [_, _, _, _, _], _, _, blk _ _ [_, _, _, _, _], _, blk _ _ [_, _, _, _, _], _, blk _ _ [_, _, _, _, _], _] _ at F192
                refine Hops.one 7 rfl (by kernel_rfl) (One.call rfl rfl rfl (ent_f rfl (evl2 (ev_t rfl) (ev_t rfl)) (enters en25)) (pathGet_ct ta (pa ++ [⟨true, ⟨#[97]⟩, 0⟩]) (snocK hpka (by decide)) _ _ _ (rps_get (rpsW_t (F192.get 8 rfl)) 0 rfl) (ownP (F192.get 1 rfl)) hda.fit (by omega)) (fun e w72 hw72 => ?_))
                rw [← hRb] at hw72
                obtain ⟨e15, E15, rfl, C72, hE15, hEb15⟩ := hw72
                obtain ⟨A3e15, c3e15, A4e15, c4e15, hxe15⟩ := rep_x hE15.rep
                subst hxe15
                have F193 := F192.new C72 (sep E15 (Rb.getD zeroT) (x5 (Rb.getD zeroT).kind (Rb.getD zeroT).num (Rb.getD zeroT).str (.slice A3e15 (Rb.getD zeroT).keys.length c3e15) (.slice A4e15 (Rb.getD zeroT).list.length c4e15)).val) hE15 hEb15
                refine ⟨_, rfl, ?_⟩
                refine ⟨(((((F193.erase 5).erase 4).erase 3).erase 2).erase 1).drop1, ?_⟩
                refine Hops.take 8 rfl (by kernel_rfl) (fun _ _ _ h => h) rfl rfl rfl (((((F193.erase 5).erase 4).erase 3).erase 2).erase 1).drop1 (fun w F => (yld_move rfl (ev_t rfl))) ?_
                refine Hops.take 9 rfl (by kernel_rfl) (fun _ _ _ h => h) rfl rfl rfl (((((F193.erase 5).erase 4).erase 3).erase 2).erase 1).drop1 (fun w F => (yld_extract rfl (ev_t rfl) rfl)) ?_
                refine Hops.take 10 rfl (by kernel_rfl) (fun _ _ _ h => h) rfl rfl rfl (((((F193.erase 5).erase 4).erase 3).erase 2).erase 1).drop1 (fun w F => (yld_extract rfl (ev_t rfl) rfl)) ?_
                refine Hops.one 12 rfl (by kernel_rfl) (One.storeN (vs := [_, _, _, _, _]) F193 1 rfl sz31 rfl rfl rfl (ev_t rfl) (ev_t rfl) rfl rfl (Sep.one (x := (x5 (Rb.getD zeroT).kind (Rb.getD zeroT).num (Rb.getD zeroT).str (.slice A3e15 (Rb.getD zeroT).keys.length c3e15) (.slice A4e15 (Rb.getD zeroT).list.length c4e15))) (F193.get 0 rfl)) ?_)
                intro w73 F194
                refine ⟨(((((F194.erase 5).erase 4).erase 3).erase 2).erase 1).drop1, ?_⟩
                change Fr _ _ [_, blk _ _ [_, _, _, _, _], _, _, blk _ _ [_, _, _, _, _], _, blk _ _ [_, _, _, _, _], _, blk _ _ [_, _, _, _, _], _] _ at F194
                refine Hops.one 13 rfl (by kernel_rfl) (One.val rfl rfl rfl (yld_assign rfl (ev_t rfl)) ?_)
                refine ⟨(((((F194.erase 5).erase 4).erase 3).erase 2).erase 1).drop1, ?_⟩
                refine Hops.nil (by kernel_rfl) fun a hS => ?_
                have F195 := F194.pull 9 rfl
                have F196 := F195.pull 9 rfl
                have F197 := F196.pull 9 rfl
                have F198 := F197.pull 9 rfl
                have F199 := F198.pull 4 rfl
                have F200 := F199.pull 5 rfl
                have F201 := F200.erase 6
                have F202 := F201.erase 6
                have F203 := F202.erase 6
                have F204 := F203.erase 6
                exact hK11 (b23, (x5 (Rb.getD zeroT).kind (Rb.getD zeroT).num (Rb.getD zeroT).str (.slice A3e15 (Rb.getD zeroT).keys.length c3e15) (.slice A4e15 (Rb.getD zeroT).list.length c4e15)), E15) _ a (hS.sub ⟨rfl, rfl, rfl, rfl, rfl, trivial⟩) F204
            · skip
              refine (One.alloc F162 zero31 rfl rfl rfl rfl ?_)
              intro b24 w74 hb24 F205
              refine ⟨((((F205.erase 4).erase 3).erase 2).erase 1).drop1, ?_⟩
              change Fr _ _ [blk _ _ [_, _, _, _, _], _, _, blk _ _ [_, _, _, _, _], _, blk _ _ [_, _, _, _, _], _, blk _ _ [_, _, _, _, _], _] _ at F205
              refine Hops.one 3 rfl (by kernel_rfl) (One.append (enc := pCells) pa F205 1 rfl sl46 zero52 rfl rfl (fun _ => rfl) rfl rfl rfl rfl (ev_t rfl) (ev_t rfl) (rpsW_p (F205.get 8 rfl)) (fun _ _ => rfl) (by simp; omega) (by simp; omega) ?_)
              intro u8 w75 hu8 F206
              refine ⟨((((F206.erase 4).erase 3).erase 2).erase 1).drop1, ?_⟩
              change Fr _ _ [blk _ _ [_, _, _, _, _], _, _, blk _ _ [_, _, _, _, _], _, blk _ _ [_, _, _, _, _], _, blk _ _ [_, _, _, _, _], _] _ at F206
              refine Hops.one 6 rfl (by kernel_rfl) (One.append (enc := pCells) [⟨true, ⟨#[97]⟩, 0⟩] F206 1 rfl sl46 zero52 rfl rfl (fun _ => rfl) rfl rfl rfl rfl (ev_t rfl) (ev_t rfl) ((blk_rep (enc := pCells) (sz := 3) (xs := [⟨true, ⟨#[97]⟩, 0⟩]) (fun _ => rfl) (by simpa using F206.get 2 rfl) (by simp) (by simp)).weak fun _ _ => trivial) (fun _ _ => rfl) (by simp; omega) (by simp; omega) ?_)
              intro v8 w76 hv8 F207
              refine ⟨((((F207.erase 4).erase 3).erase 2).erase 1).drop1, ?_⟩
              change Fr _ _ [blk _ _ [_, _, _, _, _], _, _, blk _ _ [_, _, _, _, _], _, blk _ _ [_, _, _, _, _], _, blk _ _ [_, _, _, _, _], _] _ at F207
              refine Hops.one 7 rfl (by kernel_rfl) (One.call rfl rfl rfl (ent_f rfl (evl2 (ev_t rfl) (ev_t rfl)) (enters en25)) (pathGet_ct ta (pa ++ [⟨true, ⟨#[97]⟩, 0⟩]) (snocK hpka (by decide)) _ _ _ (rps_get (rpsW_t (F207.get 8 rfl)) 0 rfl) (ownP (F207.get 1 rfl)) hda.fit (by omega)) (fun e w77 hw77 => ?_))
              rw [← hRb] at hw77
              obtain ⟨e16, E16, rfl, C77, hE16, hEb16⟩ := hw77
              obtain ⟨A3e16, c3e16, A4e16, c4e16, hxe16⟩ := rep_x hE16.rep
              subst hxe16
              have F208 := F207.new C77 (sep E16 (Rb.getD zeroT) (x5 (Rb.getD zeroT).kind (Rb.getD zeroT).num (Rb.getD zeroT).str (.slice A3e16 (Rb.getD zeroT).keys.length c3e16) (.slice A4e16 (Rb.getD zeroT).list.length c4e16)).val) hE16 hEb16
              refine ⟨_, rfl, ?_⟩
              refine ⟨(((((F208.erase 5).erase 4).erase 3).erase 2).erase 1).drop1, ?_⟩
              refine Hops.take 8 rfl (by kernel_rfl) (fun _ _ _ h => h) rfl rfl rfl (((((F208.erase 5).erase 4).erase 3).erase 2).erase 1).drop1 (fun w F => (yld_move rfl (ev_t rfl))) ?_
              refine Hops.take 9 rfl (by kernel_rfl) (fun _ _ _ h => h) rfl rfl rfl (((((F208.erase 5).erase 4).erase 3).erase 2).erase 1).drop1 (fun w F => (yld_extract rfl (ev_t rfl) rfl)) ?_
              refine Hops.take 10 rfl (by kernel_rfl) (fun _ _ _ h => h) rfl rfl rfl (((((F208.erase 5).erase 4).erase 3).erase 2).erase 1).drop1 (fun w F => (yld_extract rfl (ev_t rfl) rfl)) ?_
              refine Hops.one 12 rfl (by kernel_rfl) (One.storeN (vs := [_, _, _, _, _]) F208 1 rfl sz31 rfl rfl rfl (ev_t rfl) (ev_t rfl) rfl rfl (Sep.one (x := (x5 (Rb.getD zeroT).kind (Rb.getD zeroT).num (Rb.getD zeroT).str (.slice A3e16 (Rb.getD zeroT).keys.length c3e16) (.slice A4e16 (Rb.getD zeroT).list.length c4e16))) (F208.get 0 rfl)) ?_)
              intro w78 F209
              refine ⟨(((((F209.erase 5).erase 4).erase 3).erase 2).erase 1).drop1, ?_⟩
              change Fr _ _ [_, blk _ _ [_, _, _, _, _], _, _, blk _ _ [_, _, _, _, _], _, blk _ _ [_, _, _, _, _], _, blk _ _ [_, _, _, _, _], _] _ at F209
              refine Hops.one 13 rfl (by kernel_rfl) (One.val rfl rfl rfl (yld_assign rfl (ev_t rfl)) ?_)
              refine ⟨(((((F209.erase 5).erase 4).erase 3).erase 2).erase 1).drop1, ?_⟩
              refine Hops.nil (by kernel_rfl) fun a hS => ?_
              have F210 := F209.pull 9 rfl
              have F211 := F210.pull 9 rfl
              have F212 := F211.pull 9 rfl
              have F213 := F212.pull 9 rfl
              have F214 := F213.pull 4 rfl
              have F215 := F214.pull 5 rfl
              have F216 := F215.erase 6
              have F217 := F216.erase 6
              have F218 := F217.erase 6
              have F219 := F218.erase 6
              exact hK11 (b24, (x5 (Rb.getD zeroT).kind (Rb.getD zeroT).num (Rb.getD zeroT).str (.slice A3e16 (Rb.getD zeroT).keys.length c3e16) (.slice A4e16 (Rb.getD zeroT).list.length c4e16)), E16) _ a (hS.sub ⟨rfl, rfl, rfl, rfl, rfl, trivial⟩) F219
          · skip
            refine (One.alloc F161 zero31 rfl rfl rfl rfl ?_)
            intro b25 w79 hb25 F220
            refine ⟨(((F220.erase 3).erase 2).erase 1).drop1, ?_⟩
            change Fr _ _ [blk _ _ [_, _, _, _, _], _, blk _ _ [_, _, _, _, _], _, blk _ _ [_, _, _, _, _], _, blk _ _ [_, _, _, _, _], _] _ at F220
            refine Hops.one 1 rfl (by kernel_rfl) (One.buildNil pCells F220 sl46 rfl rfl rfl rfl ?_)
            intro b26 w80 hb26 F221
            refine ⟨((((F221.erase 4).erase 3).erase 2).erase 1).drop1, ?_⟩
            refine Hops.one 3 rfl (by kernel_rfl) (One.append (enc := pCells) pa F221 0 rfl sl46 zero52 rfl rfl (fun _ => rfl) rfl rfl rfl rfl (ev_t rfl) (ev_t rfl) (rpsW_p (F221.get 8 rfl)) (fun _ _ => rfl) (by simp; omega) (by simp; omega) ?_)
            intro u8 w81 hu8 F222
            refine ⟨((((F222.erase 4).erase 3).erase 2).erase 1).drop1, ?_⟩
            change Fr _ _ [_, blk _ _ [_, _, _, _, _], _, blk _ _ [_, _, _, _, _], _, blk _ _ [_, _, _, _, _], _, blk _ _ [_, _, _, _, _], _] _ at F222
            refine Hops.one 6 rfl (by kernel_rfl) (One.append (enc := pCells) [⟨true, ⟨#[97]⟩, 0⟩] F222 0 rfl sl46 zero52 rfl rfl (fun _ => rfl) rfl rfl rfl rfl (ev_t rfl) (ev_t rfl) ((blk_rep (enc := pCells) (sz := 3) (xs := [⟨true, ⟨#[97]⟩, 0⟩]) (fun _ => rfl) (by simpa using F222.get 2 rfl) (by simp) (by simp)).weak fun _ _ => trivial) (fun _ _ => rfl) (by simp; omega) (by simp; omega) ?_)
            intro v8 w82 hv8 F223
            refine ⟨((((F223.erase 4).erase 3).erase 2).erase 1).drop1, ?_⟩
            change Fr _ _ [_, blk _ _ [_, _, _, _, _], _, blk _ _ [_, _, _, _, _], _, blk _ _ [_, _, _, _, _], _, blk _ _ [_, _, _, _, _], _] _ at F223
            refine Hops.one 7 rfl (by kernel_rfl) (One.call rfl rfl rfl (ent_f rfl (evl2 (ev_t rfl) (ev_t rfl)) (enters en25)) (pathGet_ct ta (pa ++ [⟨true, ⟨#[97]⟩, 0⟩]) (snocK hpka (by decide)) _ _ _ (rps_get (rpsW_t (F223.get 8 rfl)) 0 rfl) (ownP (F223.get 0 rfl)) hda.fit (by omega)) (fun e w83 hw83 => ?_))
            rw [← hRb] at hw83
            obtain ⟨e17, E17, rfl, C83, hE17, hEb17⟩ := hw83
            obtain ⟨A3e17, c3e17, A4e17, c4e17, hxe17⟩ := rep_x hE17.rep
            subst hxe17
            have F224 := F223.new C83 (sep E17 (Rb.getD zeroT) (x5 (Rb.getD zeroT).kind (Rb.getD zeroT).num (Rb.getD zeroT).str (.slice A3e17 (Rb.getD zeroT).keys.length c3e17) (.slice A4e17 (Rb.getD zeroT).list.length c4e17)).val) hE17 hEb17
            refine ⟨_, rfl, ?_⟩
            refine ⟨(((((F224.erase 5).erase 4).erase 3).erase 2).erase 1).drop1, ?_⟩
            refine Hops.take 8 rfl (by kernel_rfl) (fun _ _ _ h => h) rfl rfl rfl (((((F224.erase 5).erase 4).erase 3).erase 2).erase 1).drop1 (fun w F => (yld_move rfl (ev_t rfl))) ?_
            refine Hops.take 9 rfl (by kernel_rfl) (fun _ _ _ h => h) rfl rfl rfl (((((F224.erase 5).erase 4).erase 3).erase 2).erase 1).drop1 (fun w F => (yld_extract rfl (ev_t rfl) rfl)) ?_
            refine Hops.take 10 rfl (by kernel_rfl) (fun _ _ _ h => h) rfl rfl rfl (((((F224.erase 5).erase 4).erase 3).erase 2).erase 1).drop1 (fun w F => (yld_extract rfl (ev_t rfl) rfl)) ?_
            refine Hops.one 12 rfl (by kernel_rfl) (One.storeN (vs := [_, _, _, _, _]) F224 2 rfl sz31 rfl rfl rfl (ev_t rfl) (ev_t rfl) rfl rfl (Sep.one (x := (x5 (Rb.getD zeroT).kind (Rb.getD zeroT).num (Rb.getD zeroT).str (.slice A3e17 (Rb.getD zeroT).keys.length c3e17) (.slice A4e17 (Rb.getD zeroT).list.length c4e17))) (F224.get 0 rfl)) ?_)
            intro w84 F225
            refine ⟨(((((F225.erase 5).erase 4).erase 3).erase 2).erase 1).drop1, ?_⟩
            change Fr _ _ [_, _, blk _ _ [_, _, _, _, _], _, blk _ _ [_, _, _, _, _], _, blk _ _ [_, _, _, _, _], _, blk _ _ [_, _, _, _, _], _] _ at F225
            refine Hops.one 13 rfl (by kernel_rfl) (One.val rfl rfl rfl (yld_assign rfl (ev_t rfl)) ?_)
            refine ⟨(((((F225.erase 5).erase 4).erase 3).erase 2).erase 1).drop1, ?_⟩
            refine Hops.nil (by kernel_rfl) fun a hS => ?_
            have F226 := F225.pull 9 rfl
            have F227 := F226.pull 9 rfl
            have F228 := F227.pull 9 rfl
            have F229 := F228.pull 9 rfl
            have F230 := F229.pull 4 rfl
            have F231 := F230.pull 6 rfl
            have F232 := F231.erase 6
            have F233 := F232.erase 6
            have F234 := F233.erase 6
            have F235 := F234.erase 6
            exact hK11 (b25, (x5 (Rb.getD zeroT).kind (Rb.getD zeroT).num (Rb.getD zeroT).str (.slice A3e17 (Rb.getD zeroT).keys.length c3e17) (.slice A4e17 (Rb.getD zeroT).list.length c4e17)), E17) _ a (hS.sub ⟨rfl, rfl, rfl, rfl, rfl, trivial⟩) F235
        · skip
          refine (One.alloc F12 zero31 rfl rfl rfl rfl ?_)
          intro b27 w85 hb27 F236
          refine ⟨((F236.erase 2).erase 1).drop1, ?_⟩
          change Fr _ _ [blk _ _ [_, _, _, _, _], blk _ _ [_, _, _, _, _], _, blk _ _ [_, _, _, _, _], _, blk _ _ [_, _, _, _, _], _] _ at F236
          refine Hops.two 1 5 rfl rfl (by kernel_rfl) ?_ ?_
          · skip
            refine (One.buildNil pCells F236 sl46 rfl rfl rfl rfl ?_)
            intro b28 w86 hb28 F237
            refine ⟨(((F237.erase 3).erase 2).erase 1).drop1, ?_⟩
            refine Hops.two 3 5 rfl rfl (by kernel_rfl) ?_ ?_
            · skip
              refine (One.append (enc := pCells) pa F237 0 rfl sl46 zero52 rfl rfl (fun _ => rfl) rfl rfl rfl rfl (ev_t rfl) (ev_t rfl) (rpsW_p (F237.get 7 rfl)) (fun _ _ => rfl) (by simp; omega) (by simp; omega) ?_)
              intro u8 w87 hu8 F238
              refine ⟨(((F238.erase 3).erase 2).erase 1).drop1, ?_⟩
              change Fr _ _ [_, blk _ _ [_, _, _, _, _], blk _ _ [_, _, _, _, _], _, blk _ _ [_, _, _, _, _], _, blk _ _ [_, _, _, _, _], _] _ at F238
              refine Hops.one 5 rfl (by kernel_rfl) (One.buildSlice (cells := (pCells ⟨true, ⟨#[97]⟩, 0⟩)) F238 sl46 zero52 rfl rfl rfl rfl (evp1 (ev_t rfl)) rfl rfl (by kernel_rfl) ?_)
              intro b29 w88 hb29 F239
              refine ⟨((((F239.erase 4).erase 3).erase 2).erase 1).drop1, ?_⟩
              refine Hops.one 6 rfl (by kernel_rfl) (One.append (enc := pCells) [⟨true, ⟨#[97]⟩, 0⟩] F239 1 rfl sl46 zero52 rfl rfl (fun _ => rfl) rfl rfl rfl rfl (ev_t rfl) (ev_t rfl) ((blk_rep (enc := pCells) (sz := 3) (xs := [⟨true, ⟨#[97]⟩, 0⟩]) (fun _ => rfl) (by simpa using F239.get 0 rfl) (by simp) (by simp)).weak fun _ _ => trivial) (fun _ _ => rfl) (by simp; omega) (by simp; omega) ?_)
              intro v8 w89 hv8 F240
              refine ⟨((((F240.erase 4).erase 3).erase 2).erase 1).drop1, ?_⟩
              change Fr _ _ [_, _, blk _ _ [_, _, _, _, _], blk _ _ [_, _, _, _, _], _, blk _ _ [_, _, _, _, _], _, blk _ _ [_, _, _, _, _], _] _ at F240
              refine Hops.one 7 rfl (by kernel_rfl) (One.call rfl rfl rfl (ent_f rfl (evl2 (ev_t rfl) (ev_t rfl)) (enters en25)) (pathGet_ct ta (pa ++ [⟨true, ⟨#[97]⟩, 0⟩]) (snocK hpka (by decide)) _ _ _ (rps_get (rpsW_t (F240.get 8 rfl)) 0 rfl) (ownP (F240.get 1 rfl)) hda.fit (by omega)) (fun e w90 hw90 => ?_))
              rw [← hRb] at hw90
              obtain ⟨e18, E18, rfl, C90, hE18, hEb18⟩ := hw90
              obtain ⟨A3e18, c3e18, A4e18, c4e18, hxe18⟩ := rep_x hE18.rep
              subst hxe18
              have F241 := F240.new C90 (sep E18 (Rb.getD zeroT) (x5 (Rb.getD zeroT).kind (Rb.getD zeroT).num (Rb.getD zeroT).str (.slice A3e18 (Rb.getD zeroT).keys.length c3e18) (.slice A4e18 (Rb.getD zeroT).list.length c4e18)).val) hE18 hEb18
              refine ⟨_, rfl, ?_⟩
              refine ⟨(((((F241.erase 5).erase 4).erase 3).erase 2).erase 1).drop1, ?_⟩
              refine Hops.take 8 rfl (by kernel_rfl) (fun _ _ _ h => h) rfl rfl rfl (((((F241.erase 5).erase 4).erase 3).erase 2).erase 1).drop1 (fun w F => (yld_move rfl (ev_t rfl))) ?_
              refine Hops.take 9 rfl (by kernel_rfl) (fun _ _ _ h => h) rfl rfl rfl (((((F241.erase 5).erase 4).erase 3).erase 2).erase 1).drop1 (fun w F => (yld_extract rfl (ev_t rfl) rfl)) ?_
              refine Hops.take 10 rfl (by kernel_rfl) (fun _ _ _ h => h) rfl rfl rfl (((((F241.erase 5).erase 4).erase 3).erase 2).erase 1).drop1 (fun w F => (yld_extract rfl (ev_t rfl) rfl)) ?_
              refine Hops.one 12 rfl (by kernel_rfl) (One.storeN (vs := [_, _, _, _, _]) F241 3 rfl sz31 rfl rfl rfl (ev_t rfl) (ev_t rfl) rfl rfl (Sep.one (x := (x5 (Rb.getD zeroT).kind (Rb.getD zeroT).num (Rb.getD zeroT).str (.slice A3e18 (Rb.getD zeroT).keys.length c3e18) (.slice A4e18 (Rb.getD zeroT).list.length c4e18))) (F241.get 0 rfl)) ?_)
              intro w91 F242
              refine ⟨(((((F242.erase 5).erase 4).erase 3).erase 2).erase 1).drop1, ?_⟩
              change Fr _ _ [_, _, _, blk _ _ [_, _, _, _, _], blk _ _ [_, _, _, _, _], _, blk _ _ [_, _, _, _, _], _, blk _ _ [_, _, _, _, _], _] _ at F242
              refine Hops.one 13 rfl (by kernel_rfl) (One.val rfl rfl rfl (yld_assign rfl (ev_t rfl)) ?_)
              refine ⟨(((((F242.erase 5).erase 4).erase 3).erase 2).erase 1).drop1, ?_⟩
              refine Hops.nil (by kernel_rfl) fun a hS => ?_
              have F243 := F242.pull 9 rfl
              have F244 := F243.pull 9 rfl
              have F245 := F244.pull 9 rfl
              have F246 := F245.pull 9 rfl
              have F247 := F246.pull 4 rfl
              have F248 := F247.pull 7 rfl
              have F249 := F248.erase 6
              have F250 := F249.erase 6
              have F251 := F250.erase 6
              have F252 := F251.erase 6
              exact hK11 (b27, (x5 (Rb.getD zeroT).kind (Rb.getD zeroT).num (Rb.getD zeroT).str (.slice A3e18 (Rb.getD zeroT).keys.length c3e18) (.slice A4e18 (Rb.getD zeroT).list.length c4e18)), E18) _ a (hS.sub ⟨rfl, rfl, rfl, rfl, rfl, trivial⟩) F252
            · skip
              refine (One.buildSlice (cells := (pCells ⟨true, ⟨#[97]⟩, 0⟩)) F237 sl46 zero52 rfl rfl rfl rfl (evp1 (ev_t rfl)) rfl rfl (by kernel_rfl) ?_)
              intro b30 w92 hb30 F253
              refine ⟨((((F253.erase 4).erase 3).erase 2).erase 1).drop1, ?_⟩
              refine Hops.one 3 rfl (by kernel_rfl) (One.append (enc := pCells) pa F253 1 rfl sl46 zero52 rfl rfl (fun _ => rfl) rfl rfl rfl rfl (ev_t rfl) (ev_t rfl) (rpsW_p (F253.get 8 rfl)) (fun _ _ => rfl) (by simp; omega) (by simp; omega) ?_)
              intro u8 w93 hu8 F254
              refine ⟨((((F254.erase 4).erase 3).erase 2).erase 1).drop1, ?_⟩
              change Fr _ _ [_, _, blk _ _ [_, _, _, _, _], blk _ _ [_, _, _, _, _], _, blk _ _ [_, _, _, _, _], _, blk _ _ [_, _, _, _, _], _] _ at F254
              refine Hops.one 6 rfl (by kernel_rfl) (One.append (enc := pCells) [⟨true, ⟨#[97]⟩, 0⟩] F254 1 rfl sl46 zero52 rfl rfl (fun _ => rfl) rfl rfl rfl rfl (ev_t rfl) (ev_t rfl) ((blk_rep (enc := pCells) (sz := 3) (xs := [⟨true, ⟨#[97]⟩, 0⟩]) (fun _ => rfl) (by simpa using F254.get 0 rfl) (by simp) (by simp)).weak fun _ _ => trivial) (fun _ _ => rfl) (by simp; omega) (by simp; omega) ?_)
              intro v8 w94 hv8 F255
              refine ⟨((((F255.erase 4).erase 3).erase 2).erase 1).drop1, ?_⟩
              change Fr _ _ [_, _, blk _ _ [_, _, _, _, _], blk _ _ [_, _, _, _, _], _, blk _ _ [_, _, _, _, _], _, blk _ _ [_, _, _, _, _], _] _ at F255
              refine Hops.one 7 rfl (by kernel_rfl) (One.call rfl rfl rfl (ent_f rfl (evl2 (ev_t rfl) (ev_t rfl)) (enters en25)) (pathGet_ct ta (pa ++ [⟨true, ⟨#[97]⟩, 0⟩]) (snocK hpka (by decide)) _ _ _ (rps_get (rpsW_t (F255.get 8 rfl)) 0 rfl) (ownP (F255.get 1 rfl)) hda.fit (by omega)) (fun e w95 hw95 => ?_))
              rw [← hRb] at hw95
              obtain ⟨e19, E19, rfl, C95, hE19, hEb19⟩ := hw95
              obtain ⟨A3e19, c3e19, A4e19, c4e19, hxe19⟩ := rep_x hE19.rep
              subst hxe19
              have F256 := F255.new C95 (sep E19 (Rb.getD zeroT) (x5 (Rb.getD zeroT).kind (Rb.getD zeroT).num (Rb.getD zeroT).str (.slice A3e19 (Rb.getD zeroT).keys.length c3e19) (.slice A4e19 (Rb.getD zeroT).list.length c4e19)).val) hE19 hEb19
              refine ⟨_, rfl, ?_⟩
              refine ⟨(((((F256.erase 5).erase 4).erase 3).erase 2).erase 1).drop1, ?_⟩
              refine Hops.take 8 rfl (by kernel_rfl) (fun _ _ _ h => h) rfl rfl rfl (((((F256.erase 5).erase 4).erase 3).erase 2).erase 1).drop1 (fun w F => (yld_move rfl (ev_t rfl))) ?_
              refine Hops.take 9 rfl (by kernel_rfl) (fun _ _ _ h => h) rfl rfl rfl (((((F256.erase 5).erase 4).erase 3).erase 2).erase 1).drop1 (fun w F => (yld_extract rfl (ev_t rfl) rfl)) ?_
              refine Hops.take 10 rfl (by kernel_rfl) (fun _ _ _ h => h) rfl rfl rfl (((((F256.erase 5).erase 4).erase 3).erase 2).erase 1).drop1 (fun w F => (yld_extract rfl (ev_t rfl) rfl)) ?_
              refine Hops.one 12 rfl (by kernel_rfl) (One.storeN (vs := [_, _, _, _, _]) F256 3 rfl sz31 rfl rfl rfl (ev_t rfl) (ev_t rfl) rfl rfl (Sep.one (x := (x5 (Rb.getD zeroT).kind (Rb.getD zeroT).num (Rb.getD zeroT).str (.slice A3e19 (Rb.getD zeroT).keys.length c3e19) (.slice A4e19 (Rb.getD zeroT).list.length c4e19))) (F256.get 0 rfl)) ?_)
              intro w96 F257
              refine ⟨(((((F257.erase 5).erase 4).erase 3).erase 2).erase 1).drop1, ?_⟩
              change Fr _ _ [_, _, _, blk _ _ [_, _, _, _, _], blk _ _ [_, _, _, _, _], _, blk _ _ [_, _, _, _, _], _, blk _ _ [_, _, _, _, _], _] _ at F257
              refine Hops.one 13 rfl (by kernel_rfl) (One.val rfl rfl rfl (yld_assign rfl (ev_t rfl)) ?_)
              refine ⟨(((((F257.erase 5).erase 4).erase 3).erase 2).erase 1).drop1, ?_⟩
              refine Hops.nil (by kernel_rfl) fun a hS => ?_
              have F258 := F257.pull 9 rfl
              have F259 := F258.pull 9 rfl
              have F260 := F259.pull 9 rfl
              have F261 := F260.pull 9 rfl
              have F262 := F261.pull 4 rfl
              have F263 := F262.pull 7 rfl
              have F264 := F263.erase 6
              have F265 := F264.erase 6
              have F266 := F265.erase 6
              have F267 := F266.erase 6
              exact hK11 (b27, (x5 (Rb.getD zeroT).kind (Rb.getD zeroT).num (Rb.getD zeroT).str (.slice A3e19 (Rb.getD zeroT).keys.length c3e19) (.slice A4e19 (Rb.getD zeroT).list.length c4e19)), E19) _ a (hS.sub ⟨rfl, rfl, rfl, rfl, rfl, trivial⟩) F267
          · skip
            refine (One.buildSlice (cells := (pCells ⟨true, ⟨#[97]⟩, 0⟩)) F236 sl46 zero52 rfl rfl rfl rfl (evp1 (ev_t rfl)) rfl rfl (by kernel_rfl) ?_)
            intro b31 w97 hb31 F268
            refine ⟨(((F268.erase 3).erase 2).erase 1).drop1, ?_⟩
            refine Hops.one 1 rfl (by kernel_rfl) (One.buildNil pCells F268 sl46 rfl rfl rfl rfl ?_)
            intro b32 w98 hb32 F269
            refine ⟨((((F269.erase 4).erase 3).erase 2).erase 1).drop1, ?_⟩
            refine Hops.one 3 rfl (by kernel_rfl) (One.append (enc := pCells) pa F269 0 rfl sl46 zero52 rfl rfl (fun _ => rfl) rfl rfl rfl rfl (ev_t rfl) (ev_t rfl) (rpsW_p (F269.get 8 rfl)) (fun _ _ => rfl) (by simp; omega) (by simp; omega) ?_)
            intro u8 w99 hu8 F270
            refine ⟨((((F270.erase 4).erase 3).erase 2).erase 1).drop1, ?_⟩
            change Fr _ _ [_, _, blk _ _ [_, _, _, _, _], blk _ _ [_, _, _, _, _], _, blk _ _ [_, _, _, _, _], _, blk _ _ [_, _, _, _, _], _] _ at F270
            refine Hops.one 6 rfl (by kernel_rfl) (One.append (enc := pCells) [⟨true, ⟨#[97]⟩, 0⟩] F270 0 rfl sl46 zero52 rfl rfl (fun _ => rfl) rfl rfl rfl rfl (ev_t rfl) (ev_t rfl) ((blk_rep (enc := pCells) (sz := 3) (xs := [⟨true, ⟨#[97]⟩, 0⟩]) (fun _ => rfl) (by simpa using F270.get 1 rfl) (by simp) (by simp)).weak fun _ _ => trivial) (fun _ _ => rfl) (by simp; omega) (by simp; omega) ?_)
            intro v8 w100 hv8 F271
            refine ⟨((((F271.erase 4).erase 3).erase 2).erase 1).drop1, ?_⟩
            change Fr _ _ [_, _, blk _ _ [_, _, _, _, _], blk _ _ [_, _, _, _, _], _, blk _ _ [_, _, _, _, _], _, blk _ _ [_, _, _, _, _], _] _ at F271
            refine Hops.one 7 rfl (by kernel_rfl) (One.call rfl rfl rfl (ent_f rfl (evl2 (ev_t rfl) (ev_t rfl)) (enters en25)) (pathGet_ct ta (pa ++ [⟨true, ⟨#[97]⟩, 0⟩]) (snocK hpka (by decide)) _ _ _ (rps_get (rpsW_t (F271.get 8 rfl)) 0 rfl) (ownP (F271.get 0 rfl)) hda.fit (by omega)) (fun e w101 hw101 => ?_))
            rw [← hRb] at hw101
            obtain ⟨e20, E20, rfl, C101, hE20, hEb20⟩ := hw101
            obtain ⟨A3e20, c3e20, A4e20, c4e20, hxe20⟩ := rep_x hE20.rep
            subst hxe20
            have F272 := F271.new C101 (sep E20 (Rb.getD zeroT) (x5 (Rb.getD zeroT).kind (Rb.getD zeroT).num (Rb.getD zeroT).str (.slice A3e20 (Rb.getD zeroT).keys.length c3e20) (.slice A4e20 (Rb.getD zeroT).list.length c4e20)).val) hE20 hEb20
            refine ⟨_, rfl, ?_⟩
            refine ⟨(((((F272.erase 5).erase 4).erase 3).erase 2).erase 1).drop1, ?_⟩
            refine Hops.take 8 rfl (by kernel_rfl) (fun _ _ _ h => h) rfl rfl rfl (((((F272.erase 5).erase 4).erase 3).erase 2).erase 1).drop1 (fun w F => (yld_move rfl (ev_t rfl))) ?_
            refine Hops.take 9 rfl (by kernel_rfl) (fun _ _ _ h => h) rfl rfl rfl (((((F272.erase 5).erase 4).erase 3).erase 2).erase 1).drop1 (fun w F => (yld_extract rfl (ev_t rfl) rfl)) ?_
            refine Hops.take 10 rfl (by kernel_rfl) (fun _ _ _ h => h) rfl rfl rfl (((((F272.erase 5).erase 4).erase 3).erase 2).erase 1).drop1 (fun w F => (yld_extract rfl (ev_t rfl) rfl)) ?_
            refine Hops.one 12 rfl (by kernel_rfl) (One.storeN (vs := [_, _, _, _, _]) F272 3 rfl sz31 rfl rfl rfl (ev_t rfl) (ev_t rfl) rfl rfl (Sep.one (x := (x5 (Rb.getD zeroT).kind (Rb.getD zeroT).num (Rb.getD zeroT).str (.slice A3e20 (Rb.getD zeroT).keys.length c3e20) (.slice A4e20 (Rb.getD zeroT).list.length c4e20))) (F272.get 0 rfl)) ?_)
            intro w102 F273
            refine ⟨(((((F273.erase 5).erase 4).erase 3).erase 2).erase 1).drop1, ?_⟩
            change Fr _ _ [_, _, _, blk _ _ [_, _, _, _, _], blk _ _ [_, _, _, _, _], _, blk _ _ [_, _, _, _, _], _, blk _ _ [_, _, _, _, _], _] _ at F273
            refine Hops.one 13 rfl (by kernel_rfl) (One.val rfl rfl rfl (yld_assign rfl (ev_t rfl)) ?_)
            refine ⟨(((((F273.erase 5).erase 4).erase 3).erase 2).erase 1).drop1, ?_⟩
            refine Hops.nil (by kernel_rfl) fun a hS => ?_
            have F274 := F273.pull 9 rfl
            have F275 := F274.pull 9 rfl
            have F276 := F275.pull 9 rfl
            have F277 := F276.pull 9 rfl
            have F278 := F277.pull 4 rfl
            have F279 := F278.pull 7 rfl
            have F280 := F279.erase 6
            have F281 := F280.erase 6
            have F282 := F281.erase 6
            have F283 := F282.erase 6
            exact hK11 (b27, (x5 (Rb.getD zeroT).kind (Rb.getD zeroT).num (Rb.getD zeroT).str (.slice A3e20 (Rb.getD zeroT).keys.length c3e20) (.slice A4e20 (Rb.getD zeroT).list.length c4e20)), E20) _ a (hS.sub ⟨rfl, rfl, rfl, rfl, rfl, trivial⟩) F283
      · skip
        intro i w103 hW
        obtain ⟨bb9, xb, Gb⟩ := i
        have F284 := hW
        dsimp only at *
        obtain ⟨A3b, c3b, A4b, c4b, hxb⟩ := rep_x (F284.get 1 rfl).rep
        subst hxb
        refine Cod.cut (fun i : Nat × V5 × (Nat → Prop) => [(3, true, .pointer (some ⟨b1, 0, none⟩)), (4, true, .slice Apa pa.length cpa), (5, true, .pointer (some ⟨b2, 0, none⟩)), (9, true, .pointer (some ⟨bb9, 0, none⟩)), (10, true, .bool Rb.isSome), (11, true, .pointer (some ⟨i.1, 0, none⟩)), (12, true, .bool Rc.isSome)]) (fun i w' => Fr No w [blk i.1 31 (enc5 i.2.1), sep i.2.2 (Rc.getD zeroT) i.2.1.val, blk bb9 31 (enc5 (x5 (Rb.getD zeroT).kind (Rb.getD zeroT).num (Rb.getD zeroT).str (.slice A3b (Rb.getD zeroT).keys.length c3b) (.slice A4b (Rb.getD zeroT).list.length c4b))), sep Gb (Rb.getD zeroT) (x5 (Rb.getD zeroT).kind (Rb.getD zeroT).num (Rb.getD zeroT).str (.slice A3b (Rb.getD zeroT).keys.length c3b) (.slice A4b (Rb.getD zeroT).list.length c4b)).val, blk b2 31 (enc5 (x5 (R1.getD zeroT).kind (R1.getD zeroT).num (R1.getD zeroT).str (.slice A3e1 (R1.getD zeroT).keys.length c3e1) (.slice A4e1 (R1.getD zeroT).list.length c4e1))), sep E1 (R1.getD zeroT) (x5 (R1.getD zeroT).kind (R1.getD zeroT).num (R1.getD zeroT).str (.slice A3e1 (R1.getD zeroT).keys.length c3e1) (.slice A4e1 (R1.getD zeroT).list.length c4e1)).val, blk b1 31 (enc5 (x5 ta.kind ta.num ta.str (.slice A3a ta.keys.length c3a) (.slice A4a ta.list.length c4a))), rpsW Grsa [(ta, (x5 ta.kind ta.num ta.str (.slice A3a ta.keys.length c3a) (.slice A4a ta.list.length c4a)).val)] pa (.slice Apa pa.length cpa)] w') (fun K12 hK12 => ?_) ?_
        · skip
          have F285 := F284.drew
          refine Cod.draw (C_of F285) (by kernel_rfl) ?_
          refine Hops.take 0 rfl (by kernel_rfl) (fun _ _ _ h => h) rfl rfl rfl F285 (fun w F => (yld_loadN ag31 rfl (ev_t rfl) (fun _ => F.range (m := 5) (cs' := [_, _, _, _, _]) 4 rfl rfl) rfl)) ?_
          refine Hops.take 2 rfl (by kernel_rfl) (fun _ _ _ h => h) rfl rfl rfl F285 (fun w F => (yld_move rfl (ev_t rfl))) ?_
          refine Hops.take 4 rfl (by kernel_rfl) (fun _ _ _ h => h) rfl rfl rfl F285 (fun w F => (yld_build (cells := [.bool false, .string ⟨#[]⟩, .int .i64 (-1)]) rfl (evp1 ev_c) (by kernel_rfl))) ?_
          refine Hops.three 1 5 11 rfl rfl rfl (by kernel_rfl) ?_ ?_ ?_
          · skip
            refine (One.buildNil pCells F285 sl46 rfl rfl rfl rfl ?_)
            intro b33 w104 hb33 F286
            refine ⟨F286.drop1, ?_⟩
            refine Hops.three 3 5 11 rfl rfl rfl (by kernel_rfl) ?_ ?_ ?_
            · skip
              refine (One.append (enc := pCells) pa F286 0 rfl sl46 zero52 rfl rfl (fun _ => rfl) rfl rfl rfl rfl (ev_t rfl) (ev_t rfl) (rpsW_p (F286.get 6 rfl)) (fun _ _ => rfl) (by simp; omega) (by simp; omega) ?_)
              intro u9 w105 hu9 F287
              refine ⟨F287.drop1, ?_⟩
              change Fr _ _ [_, blk _ _ [_, _, _, _, _], _, blk _ _ [_, _, _, _, _], _, blk _ _ [_, _, _, _, _], _] _ at F287
              refine Hops.two 5 11 rfl rfl (by kernel_rfl) ?_ ?_
              · skip
                refine (One.buildSlice (cells := (pCells ⟨false, ⟨#[]⟩, -1⟩)) F287 sl46 zero52 rfl rfl rfl rfl (evp1 (ev_t rfl)) rfl rfl (by kernel_rfl) ?_)
                intro b34 w106 hb34 F288
                refine ⟨(F288.erase 1).drop1, ?_⟩
                refine Hops.two 6 11 rfl rfl (by kernel_rfl) ?_ ?_
                · skip
                  refine (One.append (enc := pCells) [⟨false, ⟨#[]⟩, -1⟩] F288 1 rfl sl46 zero52 rfl rfl (fun _ => rfl) rfl rfl rfl rfl (ev_t rfl) (ev_t rfl) ((blk_rep (enc := pCells) (sz := 3) (xs := [⟨false, ⟨#[]⟩, -1⟩]) (fun _ => rfl) (by simpa using F288.get 0 rfl) (by simp) (by simp)).weak fun _ _ => trivial) (fun _ _ => rfl) (by simp; omega) (by simp; omega) ?_)
                  intro v9 w107 hv9 F289
                  refine ⟨(F289.erase 1).drop1, ?_⟩
                  change Fr _ _ [_, _, blk _ _ [_, _, _, _, _], _, blk _ _ [_, _, _, _, _], _, blk _ _ [_, _, _, _, _], _] _ at F289
                  refine Hops.two 7 11 rfl rfl (by kernel_rfl) ?_ ?_
                  · skip
                    refine (One.call rfl rfl rfl (ent_f rfl (evl2 (ev_t rfl) (ev_t rfl)) (enters en25)) (pathGet_ct ta (pa ++ [⟨false, ⟨#[]⟩, -1⟩]) (snocK hpka (by decide)) _ _ _ (rps_get (rpsW_t (F289.get 7 rfl)) 0 rfl) (ownP (F289.get 1 rfl)) hda.fit (by omega)) (fun e w108 hw108 => ?_))
                    rw [← hRc] at hw108
                    obtain ⟨e21, E21, rfl, C108, hE21, hEb21⟩ := hw108
                    obtain ⟨A3e21, c3e21, A4e21, c4e21, hxe21⟩ := rep_x hE21.rep
                    subst hxe21
                    have F290 := F289.new C108 (sep E21 (Rc.getD zeroT) (x5 (Rc.getD zeroT).kind (Rc.getD zeroT).num (Rc.getD zeroT).str (.slice A3e21 (Rc.getD zeroT).keys.length c3e21) (.slice A4e21 (Rc.getD zeroT).list.length c4e21)).val) hE21 hEb21
                    refine ⟨_, rfl, ?_⟩
                    refine ⟨((F290.erase 2).erase 1).drop1, ?_⟩
                    refine Hops.take 8 rfl (by kernel_rfl) (fun _ _ _ h => h) rfl rfl rfl ((F290.erase 2).erase 1).drop1 (fun w F => (yld_move rfl (ev_t rfl))) ?_
                    refine Hops.take 9 rfl (by kernel_rfl) (fun _ _ _ h => h) rfl rfl rfl ((F290.erase 2).erase 1).drop1 (fun w F => (yld_extract rfl (ev_t rfl) rfl)) ?_
                    refine Hops.take 10 rfl (by kernel_rfl) (fun _ _ _ h => h) rfl rfl rfl ((F290.erase 2).erase 1).drop1 (fun w F => (yld_extract rfl (ev_t rfl) rfl)) ?_
                    refine Hops.one 11 rfl (by kernel_rfl) (One.alloc F290 zero31 rfl rfl rfl rfl ?_)
                    intro b35 w109 hb35 F291
                    refine ⟨(((F291.erase 3).erase 2).erase 1).drop1, ?_⟩
                    change Fr _ _ [blk _ _ [_, _, _, _, _], _, _, _, blk _ _ [_, _, _, _, _], _, blk _ _ [_, _, _, _, _], _, blk _ _ [_, _, _, _, _], _] _ at F291
                    refine Hops.one 12 rfl (by kernel_rfl) (One.storeN (vs := [_, _, _, _, _]) F291 0 rfl sz31 rfl rfl rfl (ev_t rfl) (ev_t rfl) rfl rfl (Sep.one (x := (x5 (Rc.getD zeroT).kind (Rc.getD zeroT).num (Rc.getD zeroT).str (.slice A3e21 (Rc.getD zeroT).keys.length c3e21) (.slice A4e21 (Rc.getD zeroT).list.length c4e21))) (F291.get 1 rfl)) ?_)
                    intro w110 F292
                    refine ⟨(((F292.erase 3).erase 2).erase 1).drop1, ?_⟩
                    change Fr _ _ [blk _ _ [_, _, _, _, _], _, _, _, blk _ _ [_, _, _, _, _], _, blk _ _ [_, _, _, _, _], _, blk _ _ [_, _, _, _, _], _] _ at F292
                    refine Hops.one 13 rfl (by kernel_rfl) (One.val rfl rfl rfl (yld_assign rfl (ev_t rfl)) ?_)
                    refine ⟨(((F292.erase 3).erase 2).erase 1).drop1, ?_⟩
                    refine Hops.nil (by kernel_rfl) fun a hS => ?_
                    have F293 := F292.pull 9 rfl
                    have F294 := F293.pull 9 rfl
                    have F295 := F294.pull 9 rfl
                    have F296 := F295.pull 9 rfl
                    have F297 := F296.pull 9 rfl
                    have F298 := F297.pull 9 rfl
                    have F299 := F298.pull 7 rfl
                    have F300 := F299.pull 7 rfl
                    have F301 := F300.erase 8
                    have F302 := F301.erase 8
                    exact hK12 (b35, (x5 (Rc.getD zeroT).kind (Rc.getD zeroT).num (Rc.getD zeroT).str (.slice A3e21 (Rc.getD zeroT).keys.length c3e21) (.slice A4e21 (Rc.getD zeroT).list.length c4e21)), E21) _ a (hS.sub ⟨rfl, rfl, rfl, rfl, rfl, rfl, rfl, trivial⟩) F302
                  · skip
                    refine (One.alloc F289 zero31 rfl rfl rfl rfl ?_)
                    intro b36 w111 hb36 F303
                    refine ⟨((F303.erase 2).erase 1).drop1, ?_⟩
                    change Fr _ _ [blk _ _ [_, _, _, _, _], _, _, blk _ _ [_, _, _, _, _], _, blk _ _ [_, _, _, _, _], _, blk _ _ [_, _, _, _, _], _] _ at F303
                    refine Hops.one 7 rfl (by kernel_rfl) (One.call rfl rfl rfl (ent_f rfl (evl2 (ev_t rfl) (ev_t rfl)) (enters en25)) (pathGet_ct ta (pa ++ [⟨false, ⟨#[]⟩, -1⟩]) (snocK hpka (by decide)) _ _ _ (rps_get (rpsW_t (F303.get 8 rfl)) 0 rfl) (ownP (F303.get 2 rfl)) hda.fit (by omega)) (fun e w112 hw112 => ?_))
                    rw [← hRc] at hw112
                    obtain ⟨e22, E22, rfl, C112, hE22, hEb22⟩ := hw112
                    obtain ⟨A3e22, c3e22, A4e22, c4e22, hxe22⟩ := rep_x hE22.rep
                    subst hxe22
                    have F304 := F303.new C112 (sep E22 (Rc.getD zeroT) (x5 (Rc.getD zeroT).kind (Rc.getD zeroT).num (Rc.getD zeroT).str (.slice A3e22 (Rc.getD zeroT).keys.length c3e22) (.slice A4e22 (Rc.getD zeroT).list.length c4e22)).val) hE22 hEb22
                    refine ⟨_, rfl, ?_⟩
                    refine ⟨(((F304.erase 3).erase 2).erase 1).drop1, ?_⟩
                    refine Hops.take 8 rfl (by kernel_rfl) (fun _ _ _ h => h) rfl rfl rfl (((F304.erase 3).erase 2).erase 1).drop1 (fun w F => (yld_move rfl (ev_t rfl))) ?_
                    refine Hops.take 9 rfl (by kernel_rfl) (fun _ _ _ h => h) rfl rfl rfl (((F304.erase 3).erase 2).erase 1).drop1 (fun w F => (yld_extract rfl (ev_t rfl) rfl)) ?_
                    refine Hops.take 10 rfl (by kernel_rfl) (fun _ _ _ h => h) rfl rfl rfl (((F304.erase 3).erase 2).erase 1).drop1 (fun w F => (yld_extract rfl (ev_t rfl) rfl)) ?_
                    refine Hops.one 12 rfl (by kernel_rfl) (One.storeN (vs := [_, _, _, _, _]) F304 1 rfl sz31 rfl rfl rfl (ev_t rfl) (ev_t rfl) rfl rfl (Sep.one (x := (x5 (Rc.getD zeroT).kind (Rc.getD zeroT).num (Rc.getD zeroT).str (.slice A3e22 (Rc.getD zeroT).keys.length c3e22) (.slice A4e22 (Rc.getD zeroT).list.length c4e22))) (F304.get 0 rfl)) ?_)
                    intro w113 F305
                    refine ⟨(((F305.erase 3).erase 2).erase 1).drop1, ?_⟩
                    change Fr _ _ [_, blk _ _ [_, _, _, _, _], _, _, blk _ _ [_, _, _, _, _], _, blk _ _ [_, _, _, _, _], _, blk _ _ [_, _, _, _, _], _] _ at F305
                    refine Hops.one 13 rfl (by kernel_rfl) (One.val rfl rfl rfl (yld_assign rfl (ev_t rfl)) ?_)
                    refine ⟨(((F305.erase 3).erase 2).erase 1).drop1, ?_⟩
                    refine Hops.nil (by kernel_rfl) fun a hS => ?_
                    have F306 := F305.pull 9 rfl
                    have F307 := F306.pull 9 rfl
                    have F308 := F307.pull 9 rfl
                    have F309 := F308.pull 9 rfl
                    have F310 := F309.pull 9 rfl
                    have F311 := F310.pull 9 rfl
                    have F312 := F311.pull 6 rfl
                    have F313 := F312.pull 7 rfl
                    have F314 := F313.erase 8
                    have F315 := F314.erase 8
                    exact hK12 (b36, (x5 (Rc.getD zeroT).kind (Rc.getD zeroT).num (Rc.getD zeroT).str (.slice A3e22 (Rc.getD zeroT).keys.length c3e22) (.slice A4e22 (Rc.getD zeroT).list.length c4e22)), E22) _ a (hS.sub ⟨rfl, rfl, rfl, rfl, rfl, rfl, rfl, trivial⟩) F315
                · skip
                  refine (One.alloc F288 zero31 rfl rfl rfl rfl ?_)
                  intro b37 w114 hb37 F316
                  refine ⟨((F316.erase 2).erase 1).drop1, ?_⟩
                  change Fr _ _ [blk _ _ [_, _, _, _, _], _, _, blk _ _ [_, _, _, _, _], _, blk _ _ [_, _, _, _, _], _, blk _ _ [_, _, _, _, _], _] _ at F316
                  refine Hops.one 6 rfl (by kernel_rfl) (One.append (enc := pCells) [⟨false, ⟨#[]⟩, -1⟩] F316 2 rfl sl46 zero52 rfl rfl (fun _ => rfl) rfl rfl rfl rfl (ev_t rfl) (ev_t rfl) ((blk_rep (enc := pCells) (sz := 3) (xs := [⟨false, ⟨#[]⟩, -1⟩]) (fun _ => rfl) (by simpa using F316.get 1 rfl) (by simp) (by simp)).weak fun _ _ => trivial) (fun _ _ => rfl) (by simp; omega) (by simp; omega) ?_)
                  intro v9 w115 hv9 F317
                  refine ⟨((F317.erase 2).erase 1).drop1, ?_⟩
                  change Fr _ _ [blk _ _ [_, _, _, _, _], _, _, blk _ _ [_, _, _, _, _], _, blk _ _ [_, _, _, _, _], _, blk _ _ [_, _, _, _, _], _] _ at F317
                  refine Hops.one 7 rfl (by kernel_rfl) (One.call rfl rfl rfl (ent_f rfl (evl2 (ev_t rfl) (ev_t rfl)) (enters en25)) (pathGet_ct ta (pa ++ [⟨false, ⟨#[]⟩, -1⟩]) (snocK hpka (by decide)) _ _ _ (rps_get (rpsW_t (F317.get 8 rfl)) 0 rfl) (ownP (F317.get 2 rfl)) hda.fit (by omega)) (fun e w116 hw116 => ?_))
                  rw [← hRc] at hw116
                  obtain ⟨e23, E23, rfl, C116, hE23, hEb23⟩ := hw116
                  obtain ⟨A3e23, c3e23, A4e23, c4e23, hxe23⟩ := rep_x hE23.rep
                  subst hxe23
                  have F318 := F317.new C116 (sep E23 (Rc.getD zeroT) (x5 (Rc.getD zeroT).kind (Rc.getD zeroT).num (Rc.getD zeroT).str (.slice A3e23 (Rc.getD zeroT).keys.length c3e23) (.slice A4e23 (Rc.getD zeroT).list.length c4e23)).val) hE23 hEb23
                  refine ⟨_, rfl, ?_⟩
                  refine ⟨(((F318.erase 3).erase 2).erase 1).drop1, ?_⟩
                  refine Hops.take 8 rfl (by kernel_rfl) (fun _ _ _ h => h) rfl rfl rfl (((F318.erase 3).erase 2).erase 1).drop1 (fun w F => (yld_move rfl (ev_t rfl))) ?_
                  refine Hops.take 9 rfl (by kernel_rfl) (fun _ _ _ h => h) rfl rfl rfl (((F318.erase 3).erase 2).erase 1).drop1 (fun w F => (yld_extract rfl (ev_t rfl) rfl)) ?_
                  refine Hops.take 10 rfl (by kernel_rfl) (fun _ _ _ h => h) rfl rfl rfl (((F318.erase 3).erase 2).erase 1).drop1 (fun w F => (yld_extract rfl (ev_t rfl) rfl)) ?_
                  refine Hops.one 12 rfl (by kernel_rfl) (One.storeN (vs := [_, _, _, _, _]) F318 1 rfl sz31 rfl rfl rfl (ev_t rfl) (ev_t rfl) rfl rfl (Sep.one (x := (x5 (Rc.getD zeroT).kind (Rc.getD zeroT).num (Rc.getD zeroT).str (.slice A3e23 (Rc.getD zeroT).keys.length c3e23) (.slice A4e23 (Rc.getD zeroT).list.length c4e23))) (F318.get 0 rfl)) ?_)
                  intro w117 F319
                  refine ⟨(((F319.erase 3).erase 2).erase 1).drop1, ?_⟩
                  change Fr _ _ [_, blk _ _ [_, _, _, _, _], _, _, blk _ _ [_, _, _, _, _], _, blk _ _ [_, _, _, _, _], _, blk _ _ [_, _, _, _, _], _] _ at F319
                  refine Hops.one 13 rfl (by kernel_rfl) (One.val rfl rfl rfl (yld_assign rfl (ev_t rfl)) ?_)
                  refine ⟨(((F319.erase 3).erase 2).erase 1).drop1, ?_⟩
                  refine Hops.nil (by kernel_rfl) fun a hS => ?_
                  have F320 := F319.pull 9 rfl
                  have F321 := F320.pull 9 rfl
                  have F322 := F321.pull 9 rfl
                  have F323 := F322.pull 9 rfl
                  have F324 := F323.pull 9 rfl
                  have F325 := F324.pull 9 rfl
                  have F326 := F325.pull 6 rfl
                  have F327 := F326.pull 7 rfl
                  have F328 := F327.erase 8
                  have F329 := F328.erase 8
                  exact hK12 (b37, (x5 (Rc.getD zeroT).kind (Rc.getD zeroT).num (Rc.getD zeroT).str (.slice A3e23 (Rc.getD zeroT).keys.length c3e23) (.slice A4e23 (Rc.getD zeroT).list.length c4e23)), E23) _ a (hS.sub ⟨rfl, rfl, rfl, rfl, rfl, rfl, rfl, trivial⟩) F329
              · skip
                refine (One.alloc F287 zero31 rfl rfl rfl rfl ?_)
                intro b38 w118 hb38 F330
                refine ⟨(F330.erase 1).drop1, ?_⟩
                change Fr _ _ [blk _ _ [_, _, _, _, _], _, blk _ _ [_, _, _, _, _], _, blk _ _ [_, _, _, _, _], _, blk _ _ [_, _, _, _, _], _] _ at F330
                refine Hops.one 5 rfl (by kernel_rfl) (One.buildSlice (cells := (pCells ⟨false, ⟨#[]⟩, -1⟩)) F330 sl46 zero52 rfl rfl rfl rfl (evp1 (ev_t rfl)) rfl rfl (by kernel_rfl) ?_)
                intro b39 w119 hb39 F331
                refine ⟨((F331.erase 2).erase 1).drop1, ?_⟩
                refine Hops.one 6 rfl (by kernel_rfl) (One.append (enc := pCells) [⟨false, ⟨#[]⟩, -1⟩] F331 2 rfl sl46 zero52 rfl rfl (fun _ => rfl) rfl rfl rfl rfl (ev_t rfl) (ev_t rfl) ((blk_rep (enc := pCells) (sz := 3) (xs := [⟨false, ⟨#[]⟩, -1⟩]) (fun _ => rfl) (by simpa using F331.get 0 rfl) (by simp) (by simp)).weak fun _ _ => trivial) (fun _ _ => rfl) (by simp; omega) (by simp; omega) ?_)
                intro v9 w120 hv9 F332
                refine ⟨((F332.erase 2).erase 1).drop1, ?_⟩
                change Fr _ _ [_, blk _ _ [_, _, _, _, _], _, blk _ _ [_, _, _, _, _], _, blk _ _ [_, _, _, _, _], _, blk _ _ [_, _, _, _, _], _] _ at F332
                refine Hops.one 7 rfl (by kernel_rfl) (One.call rfl rfl rfl (ent_f rfl (evl2 (ev_t rfl) (ev_t rfl)) (enters en25)) (pathGet_ct ta (pa ++ [⟨false, ⟨#[]⟩, -1⟩]) (snocK hpka (by decide)) _ _ _ (rps_get (rpsW_t (F332.get 8 rfl)) 0 rfl) (ownP (F332.get 2 rfl)) hda.fit (by omega)) (fun e w121 hw121 => ?_))
                rw [← hRc] at hw121
                obtain ⟨e24, E24, rfl, C121, hE24, hEb24⟩ := hw121
                obtain ⟨A3e24, c3e24, A4e24, c4e24, hxe24⟩ := rep_x hE24.rep
                subst hxe24
                have F333 := F332.new C121 (sep E24 (Rc.getD zeroT) (x5 (Rc.getD zeroT).kind (Rc.getD zeroT).num (Rc.getD zeroT).str (.slice A3e24 (Rc.getD zeroT).keys.length c3e24) (.slice A4e24 (Rc.getD zeroT).list.length c4e24)).val) hE24 hEb24
                refine ⟨_, rfl, ?_⟩
                refine ⟨(((F333.erase 3).erase 2).erase 1).drop1, ?_⟩
                refine Hops.take 8 rfl (by kernel_rfl) (fun _ _ _ h => h) rfl rfl rfl (((F333.erase 3).erase 2).erase 1).drop1 (fun w F => (yld_move rfl (ev_t rfl))) ?_
                refine Hops.take 9 rfl (by kernel_rfl) (fun _ _ _ h => h) rfl rfl rfl (((F333.erase 3).erase 2).erase 1).drop1 (fun w F => (yld_extract rfl (ev_t rfl) rfl)) ?_
                refine Hops.take 10 rfl (by kernel_rfl) (fun _ _ _ h => h) rfl rfl rfl (((F333.erase 3).erase 2).erase 1).drop1 (fun w F => (yld_extract rfl (ev_t rfl) rfl)) ?_
                refine Hops.one 12 rfl (by kernel_rfl) (One.storeN (vs := [_, _, _, _, _]) F333 2 rfl sz31 rfl rfl rfl (ev_t rfl) (ev_t rfl) rfl rfl (Sep.one (x := (x5 (Rc.getD zeroT).kind (Rc.getD zeroT).num (Rc.getD zeroT).str (.slice A3e24 (Rc.getD zeroT).keys.length c3e24) (.slice A4e24 (Rc.getD zeroT).list.length c4e24))) (F333.get 0 rfl)) ?_)
                intro w122 F334
                refine ⟨(((F334.erase 3).erase 2).erase 1).drop1, ?_⟩
                change Fr _ _ [_, _, blk _ _ [_, _, _, _, _], _, blk _ _ [_, _, _, _, _], _, blk _ _ [_, _, _, _, _], _, blk _ _ [_, _, _, _, _], _] _ at F334
                refine Hops.one 13 rfl (by kernel_rfl) (One.val rfl rfl rfl (yld_assign rfl (ev_t rfl)) ?_)
                refine ⟨(((F334.erase 3).erase 2).erase 1).drop1, ?_⟩
                refine Hops.nil (by kernel_rfl) fun a hS => ?_
                have F335 := F334.pull 9 rfl
                have F336 := F335.pull 9 rfl
                have F337 := F336.pull 9 rfl
                have F338 := F337.pull 9 rfl
                have F339 := F338.pull 9 rfl
                have F340 := F339.pull 9 rfl
                have F341 := F340.pull 6 rfl
                have F342 := F341.pull 8 rfl
                have F343 := F342.erase 8
                have F344 := F343.erase 8
                exact hK12 (b38, (x5 (Rc.getD zeroT).kind (Rc.getD zeroT).num (Rc.getD zeroT).str (.slice A3e24 (Rc.getD zeroT).keys.length c3e24) (.slice A4e24 (Rc.getD zeroT).list.length c4e24)), E24) _ a (hS.sub ⟨rfl, rfl, rfl, rfl, rfl, rfl, rfl, trivial⟩) F344
            · skip
              refine (One.buildSlice (cells := (pCells ⟨false, ⟨#[]⟩, -1⟩)) F286 sl46 zero52 rfl rfl rfl rfl (evp1 (ev_t rfl)) rfl rfl (by kernel_rfl) ?_)
              intro b40 w123 hb40 F345
              refine ⟨(F345.erase 1).drop1, ?_⟩
              refine Hops.two 3 11 rfl rfl (by kernel_rfl) ?_ ?_
              · skip
                refine (One.append (enc := pCells) pa F345 1 rfl sl46 zero52 rfl rfl (fun _ => rfl) rfl rfl rfl rfl (ev_t rfl) (ev_t rfl) (rpsW_p (F345.get 7 rfl)) (fun _ _ => rfl) (by simp; omega) (by simp; omega) ?_)
                intro u9 w124 hu9 F346
                refine ⟨(F346.erase 1).drop1, ?_⟩
                change Fr _ _ [_, _, blk _ _ [_, _, _, _, _], _, blk _ _ [_, _, _, _, _], _, blk _ _ [_, _, _, _, _], _] _ at F346
                refine Hops.two 6 11 rfl rfl (by kernel_rfl) ?_ ?_
                · skip
                  refine (One.append (enc := pCells) [⟨false, ⟨#[]⟩, -1⟩] F346 1 rfl sl46 zero52 rfl rfl (fun _ => rfl) rfl rfl rfl rfl (ev_t rfl) (ev_t rfl) ((blk_rep (enc := pCells) (sz := 3) (xs := [⟨false, ⟨#[]⟩, -1⟩]) (fun _ => rfl) (by simpa using F346.get 0 rfl) (by simp) (by simp)).weak fun _ _ => trivial) (fun _ _ => rfl) (by simp; omega) (by simp; omega) ?_)
                  intro v9 w125 hv9 F347
                  refine ⟨(F347.erase 1).drop1, ?_⟩
                  change Fr _ _ [_, _, blk _ _ [_, _, _, _, _], _, blk _ _ [_, _, _, _, _], _, blk _ _ [_, _, _, _, _], _] _ at F347
                  refine Hops.two 7 11 rfl rfl (by kernel_rfl) ?_ ?_
                  · skip
                    refine (One.call rfl rfl rfl (ent_f rfl (evl2 (ev_t rfl) (ev_t rfl)) (enters en25)) (pathGet_ct ta (pa ++ [⟨false, ⟨#[]⟩, -1⟩]) (snocK hpka (by decide)) _ _ _ (rps_get (rpsW_t (F347.get 7 rfl)) 0 rfl) (ownP (F347.get 1 rfl)) hda.fit (by omega)) (fun e w126 hw126 => ?_))
                    rw [← hRc] at hw126
                    obtain ⟨e25, E25, rfl, C126, hE25, hEb25⟩ := hw126
                    obtain ⟨A3e25, c3e25, A4e25, c4e25, hxe25⟩ := rep_x hE25.rep
                    subst hxe25
                    have F348 := F347.new C126 (sep E25 (Rc.getD zeroT) (x5 (Rc.getD zeroT).kind (Rc.getD zeroT).num (Rc.getD zeroT).str (.slice A3e25 (Rc.getD zeroT).keys.length c3e25) (.slice A4e25 (Rc.getD zeroT).list.length c4e25)).val) hE25 hEb25
                    refine ⟨_, rfl, ?_⟩
                    refine ⟨((F348.erase 2).erase 1).drop1, ?_⟩
                    refine Hops.take 8 rfl (by kernel_rfl) (fun _ _ _ h => h) rfl rfl rfl ((F348.erase 2).erase 1).drop1 (fun w F => (yld_move rfl (ev_t rfl))) ?_
                    refine Hops.take 9 rfl (by kernel_rfl) (fun _ _ _ h => h) rfl rfl rfl ((F348.erase 2).erase 1).drop1 (fun w F => (yld_extract rfl (ev_t rfl) rfl)) ?_
                    refine Hops.take 10 rfl (by kernel_rfl) (fun _ _ _ h => h) rfl rfl rfl ((F348.erase 2).erase 1).drop1 (fun w F => (yld_extract rfl (ev_t rfl) rfl)) ?_
                    refine Hops.one 11 rfl (by kernel_rfl) (One.alloc F348 zero31 rfl rfl rfl rfl ?_)
                    intro b41 w127 hb41 F349
                    refine ⟨(((F349.erase 3).erase 2).erase 1).drop1, ?_⟩
                    change Fr _ _ [blk _ _ [_, _, _, _, _], _, _, _, blk _ _ [_, _, _, _, _], _, blk _ _ [_, _, _, _, _], _, blk _ _ [_, _, _, _, _], _] _ at F349
                    refine Hops.one 12 rfl (by kernel_rfl) (One.storeN (vs := [_, _, _, _, _]) F349 0 rfl sz31 rfl rfl rfl (ev_t rfl) (ev_t rfl) rfl rfl (Sep.one (x := (x5 (Rc.getD zeroT).kind (Rc.getD zeroT).num (Rc.getD zeroT).str (.slice A3e25 (Rc.getD zeroT).keys.length c3e25) (.slice A4e25 (Rc.getD zeroT).list.length c4e25))) (F349.get 1 rfl)) ?_)
                    intro w128 F350
                    refine ⟨(((F350.erase 3).erase 2).erase 1).drop1, ?_⟩
                    change Fr _ _ [blk _ _ [_, _, _, _, _], _, _, _, blk _ _ [_, _, _, _, _], _, blk _ _ [_, _, _, _, _], _, blk _ _ [_, _, _, _, _], _] _ at F350
                    refine Hops.one 13 rfl (by kernel_rfl) (One.val rfl rfl rfl (yld_assign rfl (ev_t rfl)) ?_)
                    refine ⟨(((F350.erase 3).erase 2).erase 1).drop1, ?_⟩
                    refine Hops.nil (by kernel_rfl) fun a hS => ?_
                    have F351 := F350.pull 9 rfl
                    have F352 := F351.pull 9 rfl
                    have F353 := F352.pull 9 rfl
                    have F354 := F353.pull 9 rfl
                    have F355 := F354.pull 9 rfl
                    have F356 := F355.pull 9 rfl
                    have F357 := F356.pull 7 rfl
                    have F358 := F357.pull 7 rfl
                    have F359 := F358.erase 8
                    have F360 := F359.erase 8
                    exact hK12 (b41, (x5 (Rc.getD zeroT).kind (Rc.getD zeroT).num (Rc.getD zeroT).str (.slice A3e25 (Rc.getD zeroT).keys.length c3e25) (.slice A4e25 (Rc.getD zeroT).list.length c4e25)), E25) _ a (hS.sub ⟨rfl, rfl, rfl, rfl, rfl, rfl, rfl, trivial⟩) F360
                  · skip
                    refine (One.alloc F347 zero31 rfl rfl rfl rfl ?_)
                    intro b42 w129 hb42 F361
                    refine ⟨((F361.erase 2).erase 1).drop1, ?_⟩
                    change Fr _ _ [blk _ _ [_, _, _, _, _], _, _, blk _ _ [_, _, _, _, _], _, blk _ _ [_, _, _, _, _], _, blk _ _ [_, _, _, _, _], _] _ at F361
                    refine Hops.one 7 rfl (by kernel_rfl) (One.call rfl rfl rfl (ent_f rfl (evl2 (ev_t rfl) (ev_t rfl)) (enters en25)) (pathGet_ct ta (pa ++ [⟨false, ⟨#[]⟩, -1⟩]) (snocK hpka (by decide)) _ _ _ (rps_get (rpsW_t (F361.get 8 rfl)) 0 rfl) (ownP (F361.get 2 rfl)) hda.fit (by omega)) (fun e w130 hw130 => ?_))
                    rw [← hRc] at hw130
                    obtain ⟨e26, E26, rfl, C130, hE26, hEb26⟩ := hw130
                    obtain ⟨A3e26, c3e26, A4e26, c4e26, hxe26⟩ := rep_x hE26.rep
                    subst hxe26
                    have F362 := F361.new C130 (sep E26 (Rc.getD zeroT) (x5 (Rc.getD zeroT).kind (Rc.getD zeroT).num (Rc.getD zeroT).str (.slice A3e26 (Rc.getD zeroT).keys.length c3e26) (.slice A4e26 (Rc.getD zeroT).list.length c4e26)).val) hE26 hEb26
                    refine ⟨_, rfl, ?_⟩
                    refine ⟨(((F362.erase 3).erase 2).erase 1).drop1, ?_⟩
                    refine Hops.take 8 rfl (by kernel_rfl) (fun _ _ _ h => h) rfl rfl rfl (((F362.erase 3).erase 2).erase 1).drop1 (fun w F => (yld_move rfl (ev_t rfl))) ?_
                    refine Hops.take 9 rfl (by kernel_rfl) (fun _ _ _ h => h) rfl rfl rfl (((F362.erase 3).erase 2).erase 1).drop1 (fun w F => (yld_extract rfl (ev_t rfl) rfl)) ?_
                    refine Hops.take 10 rfl (by kernel_rfl) (fun _ _ _ h => h) rfl rfl rfl (((F362.erase 3).erase 2).erase 1).drop1 (fun w F => (yld_extract rfl (ev_t rfl) rfl)) ?_
                    refine Hops.one 12 rfl (by kernel_rfl) (One.storeN (vs := [_, _, _, _, _]) F362 1 rfl sz31 rfl rfl rfl (ev_t rfl) (ev_t rfl) rfl rfl (Sep.one (x := (x5 (Rc.getD zeroT).kind (Rc.getD zeroT).num (Rc.getD zeroT).str (.slice A3e26 (Rc.getD zeroT).keys.length c3e26) (.slice A4e26 (Rc.getD zeroT).list.length c4e26))) (F362.get 0 rfl)) ?_)
                    intro w131 F363
                    refine ⟨(((F363.erase 3).erase 2).erase 1).drop1, ?_⟩
                    change Fr _ _ [_, blk _ _ [_, _, _, _, _], _, _, blk _ _ [_, _, _, _, _], _, blk _ _ [_, _, _, _, _], _, blk _ _ [_, _, _, _, _], _] _ at F363
                    refine Hops.one 13 rfl (by kernel_rfl) (One.val rfl rfl rfl (yld_assign rfl (ev_t rfl)) ?_)
                    refine ⟨(((F363.erase 3).erase 2).erase 1).drop1, ?_⟩
                    refine Hops.nil (by kernel_rfl) fun a hS => ?_
                    have F364 := F363.pull 9 rfl
                    have F365 := F364.pull 9 rfl
                    have F366 := F365.pull 9 rfl
                    have F367 := F366.pull 9 rfl
                    have F368 := F367.pull 9 rfl
                    have F369 := F368.pull 9 rfl
                    have F370 := F369.pull 6 rfl
                    have F371 := F370.pull 7 rfl
                    have F372 := F371.erase 8
                    have F373 := F372.erase 8
                    exact hK12 (b42, (x5 (Rc.getD zeroT).kind (Rc.getD zeroT).num (Rc.getD zeroT).str (.slice A3e26 (Rc.getD zeroT).keys.length c3e26) (.slice A4e26 (Rc.getD zeroT).list.length c4e26)), E26) _ a (hS.sub ⟨rfl, rfl, rfl, rfl, rfl, rfl, rfl, trivial⟩) F373
                · skip
                  refine (One.alloc F346 zero31 rfl rfl rfl rfl ?_)
                  intro b43 w132 hb43 F374
                  refine ⟨((F374.erase 2).erase 1).drop1, ?_⟩
                  change Fr _ _ [blk _ _ [_, _, _, _, _], _, _, blk _ _ [_, _, _, _, _], _, blk _ _ [_, _, _, _, _], _, blk _ _ [_, _, _, _, _], _] _ at F374
                  refine Hops.one 6 rfl (by kernel_rfl) (One.append (enc := pCells) [⟨false, ⟨#[]⟩, -1⟩] F374 2 rfl sl46 zero52 rfl rfl (fun _ => rfl) rfl rfl rfl rfl (ev_t rfl) (ev_t rfl) ((blk_rep (enc := pCells) (sz := 3) (xs := [⟨false, ⟨#[]⟩, -1⟩]) (fun _ => rfl) (by simpa using F374.get 1 rfl) (by simp) (by simp)).weak fun _ _ => trivial) (fun _ _ => rfl) (by simp; omega) (by simp; omega) ?_)
                  intro v9 w133 hv9 F375
                  refine ⟨((F375.erase 2).erase 1).drop1, ?_⟩
                  change Fr _ _ [blk _ _ [_, _, _, _, _], _, _, blk _ _ [_, _, _, _, _], _, blk _ _ [_, _, _, _, _], _, blk _ _ [_, _, _, _, _], _] _ at F375
                  refine Hops.one 7 rfl (by kernel_rfl) (One.call rfl rfl rfl (ent_f rfl (evl2 (ev_t rfl) (ev_t rfl)) (enters en25)) (pathGet_ct ta (pa ++ [⟨false, ⟨#[]⟩, -1⟩]) (snocK hpka (by decide)) _ _ _ (rps_get (rpsW_t (F375.get 8 rfl)) 0 rfl) (ownP (F375.get 2 rfl)) hda.fit (by omega)) (fun e w134 hw134 => ?_))
                  rw [← hRc] at hw134
                  obtain ⟨e27, E27, rfl, C134, hE27, hEb27⟩ := hw134
                  obtain ⟨A3e27, c3e27, A4e27, c4e27, hxe27⟩ := rep_x hE27.rep
                  subst hxe27
                  have F376 := F375.new C134 (sep E27 (Rc.getD zeroT) (x5 (Rc.getD zeroT).kind (Rc.getD zeroT).num (Rc.getD zeroT).str (.slice A3e27 (Rc.getD zeroT).keys.length c3e27) (.slice A4e27 (Rc.getD zeroT).list.length c4e27)).val) hE27 hEb27
                  refine ⟨_, rfl, ?_⟩
                  refine ⟨(((F376.erase 3).erase 2).erase 1).drop1, ?_⟩
                  refine Hops.take 8 rfl (by kernel_rfl) (fun _ _ _ h => h) rfl rfl rfl (((F376.erase 3).erase 2).erase 1).drop1 (fun w F => (yld_move rfl (ev_t rfl))) ?_
                  refine Hops.take 9 rfl (by kernel_rfl) (fun _ _ _ h => h) rfl rfl rfl (((F376.erase 3).erase 2).erase 1).drop1 (fun w F => (yld_extract rfl (ev_t rfl) rfl)) ?_
                  refine Hops.take 10 rfl (by kernel_rfl) (fun _ _ _ h => h) rfl rfl rfl (((F376.erase 3).erase 2).erase 1).drop1 (fun w F => (yld_extract rfl (ev_t rfl) rfl)) ?_
                  refine Hops.one 12 rfl (by kernel_rfl) (One.storeN (vs := [_, _, _, _, _]) F376 1 rfl sz31 rfl rfl rfl (ev_t rfl) (ev_t rfl) rfl rfl (Sep.one (x := (x5 (Rc.getD zeroT).kind (Rc.getD zeroT).num (Rc.getD zeroT).str (.slice A3e27 (Rc.getD zeroT).keys.length c3e27) (.slice A4e27 (Rc.getD zeroT).list.length c4e27))) (F376.get 0 rfl)) ?_)
                  intro w135 F377
                  refine ⟨(((F377.erase 3).erase 2).erase 1).drop1, ?_⟩
                  change Fr _ _ [_, blk _ _ [_, _, _, _, _], _, _, blk _ _ [_, _, _, _, _], _, blk _ _ [_, _, _, _, _], _, blk _ _ [_, _, _, _, _], _] _ at F377
                  refine Hops.one 13 rfl (by kernel_rfl) (One.val rfl rfl rfl (yld_assign rfl (ev_t rfl)) ?_)
                  refine ⟨(((F377.erase 3).erase 2).erase 1).drop1, ?_⟩
                  refine Hops.nil (by kernel_rfl) fun a hS => ?_
                  have F378 := F377.pull 9 rfl
                  have F379 := F378.pull 9 rfl
                  have F380 := F379.pull 9 rfl
                  have F381 := F380.pull 9 rfl
                  have F382 := F381.pull 9 rfl
                  have F383 := F382.pull 9 rfl
                  have F384 := F383.pull 6 rfl
                  have F385 := F384.pull 7 rfl
                  have F386 := F385.erase 8
                  have F387 := F386.erase 8
                  exact hK12 (b43, (x5 (Rc.getD zeroT).kind (Rc.getD zeroT).num (Rc.getD zeroT).str (.slice A3e27 (Rc.getD zeroT).keys.length c3e27) (.slice A4e27 (Rc.getD zeroT).list.length c4e27)), E27) _ a (hS.sub ⟨rfl, rfl, rfl, rfl, rfl, rfl, rfl, trivial⟩) F387
              · skip
                refine (One.alloc F345 zero31 rfl rfl rfl rfl ?_)
                intro b44 w136 hb44 F388
                refine ⟨((F388.erase 2).erase 1).drop1, ?_⟩
                change Fr _ _ [blk _ _ [_, _, _, _, _], _, _, blk _ _ [_, _, _, _, _], _, blk _ _ [_, _, _, _, _], _, blk _ _ [_, _, _, _, _], _] _ at F388
                refine Hops.one 3 rfl (by kernel_rfl) (One.append (enc := pCells) pa F388 2 rfl sl46 zero52 rfl rfl (fun _ => rfl) rfl rfl rfl rfl (ev_t rfl) (ev_t rfl) (rpsW_p (F388.get 8 rfl)) (fun _ _ => rfl) (by simp; omega) (by simp; omega) ?_)
                intro u9 w137 hu9 F389
                refine ⟨((F389.erase 2).erase 1).drop1, ?_⟩
                change Fr _ _ [blk _ _ [_, _, _, _, _], _, _, blk _ _ [_, _, _, _, _], _, blk _ _ [_, _, _, _, _], _, blk _ _ [_, _, _, _, _], _] _ at F389
                refine Hops.one 6 rfl (by kernel_rfl) (One.append (enc := pCells) [⟨false, ⟨#[]⟩, -1⟩] F389 2 rfl sl46 zero52 rfl rfl (fun _ => rfl) rfl rfl rfl rfl (ev_t rfl) (ev_t rfl) ((blk_rep (enc := pCells) (sz := 3) (xs := [⟨false, ⟨#[]⟩, -1⟩]) (fun _ => rfl) (by simpa using F389.get 1 rfl) (by simp) (by simp)).weak fun _ _ => trivial) (fun _ _ => rfl) (by simp; omega) (by simp; omega) ?_)
                intro v9 w138 hv9 F390
                refine ⟨((F390.erase 2).erase 1).drop1, ?_⟩
                change Fr _ _ [blk _ _ [_, _, _, _, _], _, _, blk _ _ [_, _, _, _, _], _, blk _ _ [_, _, _, _, _], _, blk _ _ [_, _, _, _, _], _] _ at F390
                refine Hops.one 7 rfl (by kernel_rfl) (One.call rfl rfl rfl (ent_f rfl (evl2 (ev_t rfl) (ev_t rfl)) (enters en25)) (pathGet_ct ta (pa ++ [⟨false, ⟨#[]⟩, -1⟩]) (snocK hpka (by decide)) _ _ _ (rps_get (rpsW_t (F390.get 8 rfl)) 0 rfl) (ownP (F390.get 2 rfl)) hda.fit (by omega)) (fun e w139 hw139 => ?_))
                rw [← hRc] at hw139
                obtain ⟨e28, E28, rfl, C139, hE28, hEb28⟩ := hw139
                obtain ⟨A3e28, c3e28, A4e28, c4e28, hxe28⟩ := rep_x hE28.rep
                subst hxe28
                have F391 := F390.new C139 (sep E28 (Rc.getD zeroT) (x5 (Rc.getD zeroT).kind (Rc.getD zeroT).num (Rc.getD zeroT).str (.slice A3e28 (Rc.getD zeroT).keys.length c3e28) (.slice A4e28 (Rc.getD zeroT).list.length c4e28)).val) hE28 hEb28
                refine ⟨_, rfl, ?_⟩
                refine ⟨(((F391.erase 3).erase 2).erase 1).drop1, ?_⟩
                refine Hops.take 8 rfl (by kernel_rfl) (fun _ _ _ h => h) rfl rfl rfl (((F391.erase 3).erase 2).erase 1).drop1 (fun w F => (yld_move rfl (ev_t rfl))) ?_
                refine Hops.take 9 rfl (by kernel_rfl) (fun _ _ _ h => h) rfl rfl rfl (((F391.erase 3).erase 2).erase 1).drop1 (fun w F => (yld_extract rfl (ev_t rfl) rfl)) ?_
                refine Hops.take 10 rfl (by kernel_rfl) (fun _ _ _ h => h) rfl rfl rfl (((F391.erase 3).erase 2).erase 1).drop1 (fun w F => (yld_extract rfl (ev_t rfl) rfl)) ?_
                refine Hops.one 12 rfl (by kernel_rfl) (One.storeN (vs := [_, _, _, _, _]) F391 1 rfl sz31 rfl rfl rfl (ev_t rfl) (ev_t rfl) rfl rfl (Sep.one (x := (x5 (Rc.getD zeroT).kind (Rc.getD zeroT).num (Rc.getD zeroT).str (.slice A3e28 (Rc.getD zeroT).keys.length c3e28) (.slice A4e28 (Rc.getD zeroT).list.length c4e28))) (F391.get 0 rfl)) ?_)
                intro w140 F392
                refine ⟨(((F392.erase 3).erase 2).erase 1).drop1, ?_⟩
                change Fr _ _ [_, blk _ _ [_, _, _, _, _], _, _, blk _ _ [_, _, _, _, _], _, blk _ _ [_, _, _, _, _], _, blk _ _ [_, _, _, _, _], _] _ at F392
                refine Hops.one 13 rfl (by kernel_rfl) (One.val rfl rfl rfl (yld_assign rfl (ev_t rfl)) ?_)
                refine ⟨(((F392.erase 3).erase 2).erase 1).drop1, ?_⟩
                refine Hops.nil (by kernel_rfl) fun a hS => ?_
                have F393 := F392.pull 9 rfl
                have F394 := F393.pull 9 rfl
                have F395 := F394.pull 9 rfl
                have F396 := F395.pull 9 rfl
                have F397 := F396.pull 9 rfl
                have F398 := F397.pull 9 rfl
                have F399 := F398.pull 6 rfl
                have F400 := F399.pull 7 rfl
                have F401 := F400.erase 8
                have F402 := F401.erase 8
                exact hK12 (b44, (x5 (Rc.getD zeroT).kind (Rc.getD zeroT).num (Rc.getD zeroT).str (.slice A3e28 (Rc.getD zeroT).keys.length c3e28) (.slice A4e28 (Rc.getD zeroT).list.length c4e28)), E28) _ a (hS.sub ⟨rfl, rfl, rfl, rfl, rfl, rfl, rfl, trivial⟩) F402
            · skip
              refine (One.alloc F286 zero31 rfl rfl rfl rfl ?_)
              intro b45 w141 hb45 F403
              refine ⟨(F403.erase 1).drop1, ?_⟩
              change Fr _ _ [blk _ _ [_, _, _, _, _], _, blk _ _ [_, _, _, _, _], _, blk _ _ [_, _, _, _, _], _, blk _ _ [_, _, _, _, _], _] _ at F403
              refine Hops.two 3 5 rfl rfl (by kernel_rfl) ?_ ?_
              · skip
                refine (One.append (enc := pCells) pa F403 1 rfl sl46 zero52 rfl rfl (fun _ => rfl) rfl rfl rfl rfl (ev_t rfl) (ev_t rfl) (rpsW_p (F403.get 7 rfl)) (fun _ _ => rfl) (by simp; omega) (by simp; omega) ?_)
                intro u9 w142 hu9 F404
                refine ⟨(F404.erase 1).drop1, ?_⟩
                change Fr _ _ [blk _ _ [_, _, _, _, _], _, blk _ _ [_, _, _, _, _], _, blk _ _ [_, _, _, _, _], _, blk _ _ [_, _, _, _, _], _] _ at F404
                refine Hops.one 5 rfl (by kernel_rfl) (One.buildSlice (cells := (pCells ⟨false, ⟨#[]⟩, -1⟩)) F404 sl46 zero52 rfl rfl rfl rfl (evp1 (ev_t rfl)) rfl rfl (by kernel_rfl) ?_)
                intro b46 w143 hb46 F405
                refine ⟨((F405.erase 2).erase 1).drop1, ?_⟩
                refine Hops.one 6 rfl (by kernel_rfl) (One.append (enc := pCells) [⟨false, ⟨#[]⟩, -1⟩] F405 2 rfl sl46 zero52 rfl rfl (fun _ => rfl) rfl rfl rfl rfl (ev_t rfl) (ev_t rfl) ((blk_rep (enc := pCells) (sz := 3) (xs := [⟨false, ⟨#[]⟩, -1⟩]) (fun _ => rfl) (by simpa using F405.get 0 rfl) (by simp) (by simp)).weak fun _ _ => trivial) (fun _ _ => rfl) (by simp; omega) (by simp; omega) ?_)
                intro v9 w144 hv9 F406
                refine ⟨((F406.erase 2).erase 1).drop1, ?_⟩
                change Fr _ _ [_, blk _ _ [_, _, _, _, _], _, blk _ _ [_, _, _, _, _], _, blk _ _ [_, _, _, _, _], _, blk _ _ [_, _, _, _, _], _] _ at F406
                refine Hops.one 7 rfl (by kernel_rfl) (One.call rfl rfl rfl (ent_f rfl (evl2 (ev_t rfl) (ev_t rfl)) (enters en25)) (pathGet_ct ta (pa ++ [⟨false, ⟨#[]⟩, -1⟩]) (snocK hpka (by decide)) _ _ _ (rps_get (rpsW_t (F406.get 8 rfl)) 0 rfl) (ownP (F406.get 2 rfl)) hda.fit (by omega)) (fun e w145 hw145 => ?_))
                rw [← hRc] at hw145
                obtain ⟨e29, E29, rfl, C145, hE29, hEb29⟩ := hw145
                obtain ⟨A3e29, c3e29, A4e29, c4e29, hxe29⟩ := rep_x hE29.rep
                subst hxe29
                have F407 := F406.new C145 (sep E29 (Rc.getD zeroT) (x5 (Rc.getD zeroT).kind (Rc.getD zeroT).num (Rc.getD zeroT).str (.slice A3e29 (Rc.getD zeroT).keys.length c3e29) (.slice A4e29 (Rc.getD zeroT).list.length c4e29)).val) hE29 hEb29
                refine ⟨_, rfl, ?_⟩
                refine ⟨(((F407.erase 3).erase 2).erase 1).drop1, ?_⟩
                refine Hops.take 8 rfl (by kernel_rfl) (fun _ _ _ h => h) rfl rfl rfl (((F407.erase 3).erase 2).erase 1).drop1 (fun w F => (yld_move rfl (ev_t rfl))) ?_
                refine Hops.take 9 rfl (by kernel_rfl) (fun _ _ _ h => h) rfl rfl rfl (((F407.erase 3).erase 2).erase 1).drop1 (fun w F => (yld_extract rfl (ev_t rfl) rfl)) ?_
                refine Hops.take 10 rfl (by kernel_rfl) (fun _ _ _ h => h) rfl rfl rfl (((F407.erase 3).erase 2).erase 1).drop1 (fun w F => (yld_extract rfl (ev_t rfl) rfl)) ?_
                refine Hops.one 12 rfl (by kernel_rfl) (One.storeN (vs := [_, _, _, _, _]) F407 2 rfl sz31 rfl rfl rfl (ev_t rfl) (ev_t rfl) rfl rfl (Sep.one (x := (x5 (Rc.getD zeroT).kind (Rc.getD zeroT).num (Rc.getD zeroT).str (.slice A3e29 (Rc.getD zeroT).keys.length c3e29) (.slice A4e29 (Rc.getD zeroT).list.length c4e29))) (F407.get 0 rfl)) ?_)
                intro w146 F408
                refine ⟨(((F408.erase 3).erase 2).erase 1).drop1, ?_⟩
                change Fr _ _ [_, _, blk _ _ [_, _, _, _, _], _, blk _ _ [_, _, _, _, _], _, blk _ _ [_, _, _, _, _], _, blk _ _ [_, _, _, _, _], _] _ at F408
                refine Hops.one 13 rfl (by kernel_rfl) (One.val rfl rfl rfl (yld_assign rfl (ev_t rfl)) ?_)
                refine ⟨(((F408.erase 3).erase 2).erase 1).drop1, ?_⟩
                refine Hops.nil (by kernel_rfl) fun a hS => ?_
                have F409 := F408.pull 9 rfl
                have F410 := F409.pull 9 rfl
                have F411 := F410.pull 9 rfl
                have F412 := F411.pull 9 rfl
                have F413 := F412.pull 9 rfl
                have F414 := F413.pull 9 rfl
                have F415 := F414.pull 6 rfl
                have F416 := F415.pull 8 rfl
                have F417 := F416.erase 8
                have F418 := F417.erase 8
                exact hK12 (b45, (x5 (Rc.getD zeroT).kind (Rc.getD zeroT).num (Rc.getD zeroT).str (.slice A3e29 (Rc.getD zeroT).keys.length c3e29) (.slice A4e29 (Rc.getD zeroT).list.length c4e29)), E29) _ a (hS.sub ⟨rfl, rfl, rfl, rfl, rfl, rfl, rfl, trivial⟩) F418
              · skip
                refine (One.buildSlice (cells := (pCells ⟨false, ⟨#[]⟩, -1⟩)) F403 sl46 zero52 rfl rfl rfl rfl (evp1 (ev_t rfl)) rfl rfl (by kernel_rfl) ?_)
                intro b47 w147 hb47 F419
                refine ⟨((F419.erase 2).erase 1).drop1, ?_⟩
                refine Hops.one 3 rfl (by kernel_rfl) (One.append (enc := pCells) pa F419 2 rfl sl46 zero52 rfl rfl (fun _ => rfl) rfl rfl rfl rfl (ev_t rfl) (ev_t rfl) (rpsW_p (F419.get 8 rfl)) (fun _ _ => rfl) (by simp; omega) (by simp; omega) ?_)
                intro u9 w148 hu9 F420
                refine ⟨((F420.erase 2).erase 1).drop1, ?_⟩
                change Fr _ _ [_, blk _ _ [_, _, _, _, _], _, blk _ _ [_, _, _, _, _], _, blk _ _ [_, _, _, _, _], _, blk _ _ [_, _, _, _, _], _] _ at F420
                refine Hops.one 6 rfl (by kernel_rfl) (One.append (enc := pCells) [⟨false, ⟨#[]⟩, -1⟩] F420 2 rfl sl46 zero52 rfl rfl (fun _ => rfl) rfl rfl rfl rfl (ev_t rfl) (ev_t rfl) ((blk_rep (enc := pCells) (sz := 3) (xs := [⟨false, ⟨#[]⟩, -1⟩]) (fun _ => rfl) (by simpa using F420.get 0 rfl) (by simp) (by simp)).weak fun _ _ => trivial) (fun _ _ => rfl) (by simp; omega) (by simp; omega) ?_)
                intro v9 w149 hv9 F421
                refine ⟨((F421.erase 2).erase 1).drop1, ?_⟩
                change Fr _ _ [_, blk _ _ [_, _, _, _, _], _, blk _ _ [_, _, _, _, _], _, blk _ _ [_, _, _, _, _], _, blk _ _ [_, _, _, _, _], _] _ at F421
                refine Hops.one 7 rfl (by kernel_rfl) (One.call rfl rfl rfl (ent_f rfl (evl2 (ev_t rfl) (ev_t rfl)) (enters en25)) (pathGet_ct ta (pa ++ [⟨false, ⟨#[]⟩, -1⟩]) (snocK hpka (by decide)) _ _ _ (rps_get (rpsW_t (F421.get 8 rfl)) 0 rfl) (ownP (F421.get 2 rfl)) hda.fit (by omega)) (fun e w150 hw150 => ?_))
                rw [← hRc] at hw150
                obtain ⟨e30, E30, rfl, C150, hE30, hEb30⟩ := hw150
                obtain ⟨A3e30, c3e30, A4e30, c4e30, hxe30⟩ := rep_x hE30.rep
                subst hxe30
                have F422 := F421.new C150 (sep E30 (Rc.getD zeroT) (x5 (Rc.getD zeroT).kind (Rc.getD zeroT).num (Rc.getD zeroT).str (.slice A3e30 (Rc.getD zeroT).keys.length c3e30) (.slice A4e30 (Rc.getD zeroT).list.length c4e30)).val) hE30 hEb30
                refine ⟨_, rfl, ?_⟩
                refine ⟨(((F422.erase 3).erase 2).erase 1).drop1, ?_⟩
                refine Hops.take 8 rfl (by kernel_rfl) (fun _ _ _ h => h) rfl rfl rfl (((F422.erase 3).erase 2).erase 1).drop1 (fun w F => (yld_move rfl (ev_t rfl))) ?_
                refine Hops.take 9 rfl (by kernel_rfl) (fun _ _ _ h => h) rfl rfl rfl (((F422.erase 3).erase 2).erase 1).drop1 (fun w F => (yld_extract rfl (ev_t rfl) rfl)) ?_
                refine Hops.take 10 rfl (by kernel_rfl) (fun _ _ _ h => h) rfl rfl rfl (((F422.erase 3).erase 2).erase 1).drop1 (fun w F => (yld_extract rfl (ev_t rfl) rfl)) ?_
                refine Hops.one 12 rfl (by kernel_rfl) (One.storeN (vs := [_, _, _, _, _]) F422 2 rfl sz31 rfl rfl rfl (ev_t rfl) (ev_t rfl) rfl rfl (Sep.one (x := (x5 (Rc.getD zeroT).kind (Rc.getD zeroT).num (Rc.getD zeroT).str (.slice A3e30 (Rc.getD zeroT).keys.length c3e30) (.slice A4e30 (Rc.getD zeroT).list.length c4e30))) (F422.get 0 rfl)) ?_)
                intro w151 F423
                refine ⟨(((F423.erase 3).erase 2).erase 1).drop1, ?_⟩
                change Fr _ _ [_, _, blk _ _ [_, _, _, _, _], _, blk _ _ [_, _, _, _, _], _, blk _ _ [_, _, _, _, _], _, blk _ _ [_, _, _, _, _], _] _ at F423
                refine Hops.one 13 rfl (by kernel_rfl) (One.val rfl rfl rfl (yld_assign rfl (ev_t rfl)) ?_)
                refine ⟨(((F423.erase 3).erase 2).erase 1).drop1, ?_⟩
                refine Hops.nil (by kernel_rfl) fun a hS => ?_
                have F424 := F423.pull 9 rfl
                have F425 := F424.pull 9 rfl
                have F426 := F425.pull 9 rfl
                have F427 := F426.pull 9 rfl
                have F428 := F427.pull 9 rfl
                have F429 := F428.pull 9 rfl
                have F430 := F429.pull 6 rfl
                have F431 := F430.pull 8 rfl
                have F432 := F431.erase 8
                have F433 := F432.erase 8
                exact hK12 (b45, (x5 (Rc.getD zeroT).kind (Rc.getD zeroT).num (Rc.getD zeroT).str (.slice A3e30 (Rc.getD zeroT).keys.length c3e30) (.slice A4e30 (Rc.getD zeroT).list.length c4e30)), E30) _ a (hS.sub ⟨rfl, rfl, rfl, rfl, rfl, rfl, rfl, trivial⟩) F433
          · skip
            refine (One.buildSlice (cells := (pCells ⟨false, ⟨#[]⟩, -1⟩)) F285 sl46 zero52 rfl rfl rfl rfl (evp1 (ev_t rfl)) rfl rfl (by kernel_rfl) ?_)
            intro b48 w152 hb48 F434
            refine ⟨F434.drop1, ?_⟩
            refine Hops.two 1 11 rfl rfl (by kernel_rfl) ?_ ?_
            · skip
              refine (One.buildNil pCells F434 sl46 rfl rfl rfl rfl ?_)
              intro b49 w153 hb49 F435
              refine ⟨(F435.erase 1).drop1, ?_⟩
              refine Hops.two 3 11 rfl rfl (by kernel_rfl) ?_ ?_
              · skip
                refine (One.append (enc := pCells) pa F435 0 rfl sl46 zero52 rfl rfl (fun _ => rfl) rfl rfl rfl rfl (ev_t rfl) (ev_t rfl) (rpsW_p (F435.get 7 rfl)) (fun _ _ => rfl) (by simp; omega) (by simp; omega) ?_)
                intro u9 w154 hu9 F436
                refine ⟨(F436.erase 1).drop1, ?_⟩
                change Fr _ _ [_, _, blk _ _ [_, _, _, _, _], _, blk _ _ [_, _, _, _, _], _, blk _ _ [_, _, _, _, _], _] _ at F436
                refine Hops.two 6 11 rfl rfl (by kernel_rfl) ?_ ?_
                · skip
                  refine (One.append (enc := pCells) [⟨false, ⟨#[]⟩, -1⟩] F436 0 rfl sl46 zero52 rfl rfl (fun _ => rfl) rfl rfl rfl rfl (ev_t rfl) (ev_t rfl) ((blk_rep (enc := pCells) (sz := 3) (xs := [⟨false, ⟨#[]⟩, -1⟩]) (fun _ => rfl) (by simpa using F436.get 1 rfl) (by simp) (by simp)).weak fun _ _ => trivial) (fun _ _ => rfl) (by simp; omega) (by simp; omega) ?_)
                  intro v9 w155 hv9 F437
                  refine ⟨(F437.erase 1).drop1, ?_⟩
                  change Fr _ _ [_, _, blk _ _ [_, _, _, _, _], _, blk _ _ [_, _, _, _, _], _, blk _ _ [_, _, _, _, _], _] _ at F437
                  refine Hops.two 7 11 rfl rfl (by kernel_rfl) ?_ ?_
                  · skip
                    refine (One.call rfl rfl rfl (ent_f rfl (evl2 (ev_t rfl) (ev_t rfl)) (enters en25)) (pathGet_ct ta (pa ++ [⟨false, ⟨#[]⟩, -1⟩]) (snocK hpka (by decide)) _ _ _ (rps_get (rpsW_t (F437.get 7 rfl)) 0 rfl) (ownP (F437.get 0 rfl)) hda.fit (by omega)) (fun e w156 hw156 => ?_))
                    rw [← hRc] at hw156
                    obtain ⟨e31, E31, rfl, C156, hE31, hEb31⟩ := hw156
                    obtain ⟨A3e31, c3e31, A4e31, c4e31, hxe31⟩ := rep_x hE31.rep
                    subst hxe31
                    have F438 := F437.new C156 (sep E31 (Rc.getD zeroT) (x5 (Rc.getD zeroT).kind (Rc.getD zeroT).num (Rc.getD zeroT).str (.slice A3e31 (Rc.getD zeroT).keys.length c3e31) (.slice A4e31 (Rc.getD zeroT).list.length c4e31)).val) hE31 hEb31
                    refine ⟨_, rfl, ?_⟩
                    refine ⟨((F438.erase 2).erase 1).drop1, ?_⟩
                    refine Hops.take 8 rfl (by kernel_rfl) (fun _ _ _ h => h) rfl rfl rfl ((F438.erase 2).erase 1).drop1 (fun w F => (yld_move rfl (ev_t rfl))) ?_
                    refine Hops.take 9 rfl (by kernel_rfl) (fun _ _ _ h => h) rfl rfl rfl ((F438.erase 2).erase 1).drop1 (fun w F => (yld_extract rfl (ev_t rfl) rfl)) ?_
                    refine Hops.take 10 rfl (by kernel_rfl) (fun _ _ _ h => h) rfl rfl rfl ((F438.erase 2).erase 1).drop1 (fun w F => (yld_extract rfl (ev_t rfl) rfl)) ?_
                    refine Hops.one 11 rfl (by kernel_rfl) (One.alloc F438 zero31 rfl rfl rfl rfl ?_)
                    intro b50 w157 hb50 F439
                    refine ⟨(((F439.erase 3).erase 2).erase 1).drop1, ?_⟩
                    change Fr _ _ [blk _ _ [_, _, _, _, _], _, _, _, blk _ _ [_, _, _, _, _], _, blk _ _ [_, _, _, _, _], _, blk _ _ [_, _, _, _, _], _] _ at F439
                    refine Hops.one 12 rfl (by kernel_rfl) (One.storeN (vs := [_, _, _, _, _]) F439 0 rfl sz31 rfl rfl rfl (ev_t rfl) (ev_t rfl) rfl rfl (Sep.one (x := (x5 (Rc.getD zeroT).kind (Rc.getD zeroT).num (Rc.getD zeroT).str (.slice A3e31 (Rc.getD zeroT).keys.length c3e31) (.slice A4e31 (Rc.getD zeroT).list.length c4e31))) (F439.get 1 rfl)) ?_)
                    intro w158 F440
                    refine ⟨(((F440.erase 3).erase 2).erase 1).drop1, ?_⟩
                    change Fr _ _ [blk _ _ [_, _, _, _, _], _, _, _, blk _ _ [_, _, _, _, _], _, blk _ _ [_, _, _, _, _], _, blk _ _ [_, _, _, _, _], _] _ at F440
                    refine Hops.one 13 rfl (by kernel_rfl) (One.val rfl rfl rfl (yld_assign rfl (ev_t rfl)) ?_)
                    refine ⟨(((F440.erase 3).erase 2).erase 1).drop1, ?_⟩
                    refine Hops.nil (by kernel_rfl) fun a hS => ?_
                    have F441 := F440.pull 9 rfl
                    have F442 := F441.pull 9 rfl
                    have F443 := F442.pull 9 rfl
                    have F444 := F443.pull 9 rfl
                    have F445 := F444.pull 9 rfl
                    have F446 := F445.pull 9 rfl
                    have F447 := F446.pull 7 rfl
                    have F448 := F447.pull 7 rfl
                    have F449 := F448.erase 8
                    have F450 := F449.erase 8
                    exact hK12 (b50, (x5 (Rc.getD zeroT).kind (Rc.getD zeroT).num (Rc.getD zeroT).str (.slice A3e31 (Rc.getD zeroT).keys.length c3e31) (.slice A4e31 (Rc.getD zeroT).list.length c4e31)), E31) _ a (hS.sub ⟨rfl, rfl, rfl, rfl, rfl, rfl, rfl, trivial⟩) F450
                  · skip
                    refine (One.alloc F437 zero31 rfl rfl rfl rfl ?_)
                    intro b51 w159 hb51 F451
                    refine ⟨((F451.erase 2).erase 1).drop1, ?_⟩
                    change Fr _ _ [blk _ _ [_, _, _, _, _], _, _, blk _ _ [_, _, _, _, _], _, blk _ _ [_, _, _, _, _], _, blk _ _ [_, _, _, _, _], _] _ at F451
                    refine Hops.one 7 rfl (by kernel_rfl) (One.call rfl rfl rfl (ent_f rfl (evl2 (ev_t rfl) (ev_t rfl)) (enters en25)) (pathGet_ct ta (pa ++ [⟨false, ⟨#[]⟩, -1⟩]) (snocK hpka (by decide)) _ _ _ (rps_get (rpsW_t (F451.get 8 rfl)) 0 rfl) (ownP (F451.get 1 rfl)) hda.fit (by omega)) (fun e w160 hw160 => ?_))
                    rw [← hRc] at hw160
                    obtain ⟨e32, E32, rfl, C160, hE32, hEb32⟩ := hw160
                    obtain ⟨A3e32, c3e32, A4e32, c4e32, hxe32⟩ := rep_x hE32.rep
                    subst hxe32
                    have F452 := F451.new C160 (sep E32 (Rc.getD zeroT) (x5 (Rc.getD zeroT).kind (Rc.getD zeroT).num (Rc.getD zeroT).str (.slice A3e32 (Rc.getD zeroT).keys.length c3e32) (.slice A4e32 (Rc.getD zeroT).list.length c4e32)).val) hE32 hEb32
                    refine ⟨_, rfl, ?_⟩
                    refine ⟨(((F452.erase 3).erase 2).erase 1).drop1, ?_⟩
                    refine Hops.take 8 rfl (by kernel_rfl) (fun _ _ _ h => h) rfl rfl rfl (((F452.erase 3).erase 2).erase 1).drop1 (fun w F => (yld_move rfl (ev_t rfl))) ?_
                    refine Hops.take 9 rfl (by kernel_rfl) (fun _ _ _ h => h) rfl rfl rfl (((F452.erase 3).erase 2).erase 1).drop1 (fun w F => (yld_extract rfl (ev_t rfl) rfl)) ?_
                    refine Hops.take 10 rfl (by kernel_rfl) (fun _ _ _ h => h) rfl rfl rfl (((F452.erase 3).erase 2).erase 1).drop1 (fun w F => (yld_extract rfl (ev_t rfl) rfl)) ?_
                    refine Hops.one 12 rfl (by kernel_rfl) (One.storeN (vs := [_, _, _, _, _]) F452 1 rfl sz31 rfl rfl rfl (ev_t rfl) (ev_t rfl) rfl rfl (Sep.one (x := (x5 (Rc.getD zeroT).kind (Rc.getD zeroT).num (Rc.getD zeroT).str (.slice A3e32 (Rc.getD zeroT).keys.length c3e32) (.slice A4e32 (Rc.getD zeroT).list.length c4e32))) (F452.get 0 rfl)) ?_)
                    intro w161 F453
                    refine ⟨(((F453.erase 3).erase 2).erase 1).drop1, ?_⟩
                    change Fr _ _ [_, blk _ _ [_, _, _, _, _], _, _, blk _ _ [_, _, _, _, _], _, blk _ _ [_, _, _, _, _], _, blk _ _ [_, _, _, _, _], _] _ at F453
                    refine Hops.one 13 rfl (by kernel_rfl) (One.val rfl rfl rfl (yld_assign rfl (ev_t rfl)) ?_)
                    refine ⟨(((F453.erase 3).erase 2).erase 1).drop1, ?_⟩
                    refine Hops.nil (by kernel_rfl) fun a hS => ?_
                    have F454 := F453.pull 9 rfl
                    have F455 := F454.pull 9 rfl
                    have F456 := F455.pull 9 rfl
                    have F457 := F456.pull 9 rfl
                    have F458 := F457.pull 9 rfl
                    have F459 := F458.pull 9 rfl
                    have F460 := F459.pull 6 rfl
                    have F461 := F460.pull 7 rfl
                    have F462 := F461.erase 8
                    have F463 := F462.erase 8
                    exact hK12 (b51, (x5 (Rc.getD zeroT).kind (Rc.getD zeroT).num (Rc.getD zeroT).str (.slice A3e32 (Rc.getD zeroT).keys.length c3e32) (.slice A4e32 (Rc.getD zeroT).list.length c4e32)), E32) _ a (hS.sub ⟨rfl, rfl, rfl, rfl, rfl, rfl, rfl, trivial⟩) F463
                · skip
                  refine (One.alloc F436 zero31 rfl rfl rfl rfl ?_)
                  intro b52 w162 hb52 F464
                  refine ⟨((F464.erase 2).erase 1).drop1, ?_⟩
                  change Fr _ _ [blk _ _ [_, _, _, _, _], _, _, blk _ _ [_, _, _, _, _], _, blk _ _ [_, _, _, _, _], _, blk _ _ [_, _, _, _, _], _] _ at F464
                  refine Hops.one 6 rfl (by kernel_rfl) (One.append (enc := pCells) [⟨false, ⟨#[]⟩, -1⟩] F464 1 rfl sl46 zero52 rfl rfl (fun _ => rfl) rfl rfl rfl rfl (ev_t rfl) (ev_t rfl) ((blk_rep (enc := pCells) (sz := 3) (xs := [⟨false, ⟨#[]⟩, -1⟩]) (fun _ => rfl) (by simpa using F464.get 2 rfl) (by simp) (by simp)).weak fun _ _ => trivial) (fun _ _ => rfl) (by simp; omega) (by simp; omega) ?_)
                  intro v9 w163 hv9 F465
                  refine ⟨((F465.erase 2).erase 1).drop1, ?_⟩
                  change Fr _ _ [blk _ _ [_, _, _, _, _], _, _, blk _ _ [_, _, _, _, _], _, blk _ _ [_, _, _, _, _], _, blk _ _ [_, _, _, _, _], _] _ at F465
                  refine Hops.one 7 rfl (by kernel_rfl) (One.call rfl rfl rfl (ent_f rfl (evl2 (ev_t rfl) (ev_t rfl)) (enters en25)) (pathGet_ct ta (pa ++ [⟨false, ⟨#[]⟩, -1⟩]) (snocK hpka (by decide)) _ _ _ (rps_get (rpsW_t (F465.get 8 rfl)) 0 rfl) (ownP (F465.get 1 rfl)) hda.fit (by omega)) (fun e w164 hw164 => ?_))
                  rw [← hRc] at hw164
                  obtain ⟨e33, E33, rfl, C164, hE33, hEb33⟩ := hw164
                  obtain ⟨A3e33, c3e33, A4e33, c4e33, hxe33⟩ := rep_x hE33.rep
                  subst hxe33
                  have F466 := F465.new C164 (sep E33 (Rc.getD zeroT) (x5 (Rc.getD zeroT).kind (Rc.getD zeroT).num (Rc.getD zeroT).str (.slice A3e33 (Rc.getD zeroT).keys.length c3e33) (.slice A4e33 (Rc.getD zeroT).list.length c4e33)).val) hE33 hEb33
                  refine ⟨_, rfl, ?_⟩
                  refine ⟨(((F466.erase 3).erase 2).erase 1).drop1, ?_⟩
                  refine Hops.take 8 rfl (by kernel_rfl) (fun _ _ _ h => h) rfl rfl rfl (((F466.erase 3).erase 2).erase 1).drop1 (fun w F => (yld_move rfl (ev_t rfl))) ?_
                  refine Hops.take 9 rfl (by kernel_rfl) (fun _ _ _ h => h) rfl rfl rfl (((F466.erase 3).erase 2).erase 1).drop1 (fun w F => (yld_extract rfl (ev_t rfl) rfl)) ?_
                  refine Hops.take 10 rfl (by kernel_rfl) (fun _ _ _ h => h) rfl rfl rfl (((F466.erase 3).erase 2).erase 1).drop1 (fun w F => (yld_extract rfl (ev_t rfl) rfl)) ?_
                  refine Hops.one 12 rfl (by kernel_rfl) (One.storeN (vs := [_, _, _, _, _]) F466 1 rfl sz31 rfl rfl rfl (ev_t rfl) (ev_t rfl) rfl rfl (Sep.one (x := (x5 (Rc.getD zeroT).kind (Rc.getD zeroT).num (Rc.getD zeroT).str (.slice A3e33 (Rc.getD zeroT).keys.length c3e33) (.slice A4e33 (Rc.getD zeroT).list.length c4e33))) (F466.get 0 rfl)) ?_)
                  intro w165 F467
                  refine ⟨(((F467.erase 3).erase 2).erase 1).drop1, ?_⟩
                  change Fr _ _ [_, blk _ _ [_, _, _, _, _], _, _, blk _ _ [_, _, _, _, _], _, blk _ _ [_, _, _, _, _], _, blk _ _ [_, _, _, _, _], _] _ at F467
                  refine Hops.one 13 rfl (by kernel_rfl) (One.val rfl rfl rfl (yld_assign rfl (ev_t rfl)) ?_)
                  refine ⟨(((F467.erase 3).erase 2).erase 1).drop1, ?_⟩
                  refine Hops.nil (by kernel_rfl) fun a hS => ?_
                  have F468 := F467.pull 9 rfl
                  have F469 := F468.pull 9 rfl
                  have F470 := F469.pull 9 rfl
                  have F471 := F470.pull 9 rfl
                  have F472 := F471.pull 9 rfl
                  have F473 := F472.pull 9 rfl
                  have F474 := F473.pull 6 rfl
                  have F475 := F474.pull 7 rfl
                  have F476 := F475.erase 8
                  have F477 := F476.erase 8
                  exact hK12 (b52, (x5 (Rc.getD zeroT).kind (Rc.getD zeroT).num (Rc.getD zeroT).str (.slice A3e33 (Rc.getD zeroT).keys.length c3e33) (.slice A4e33 (Rc.getD zeroT).list.length c4e33)), E33) _ a (hS.sub ⟨rfl, rfl, rfl, rfl, rfl, rfl, rfl, trivial⟩) F477
              · skip
                refine (One.alloc F435 zero31 rfl rfl rfl rfl ?_)
                intro b53 w166 hb53 F478
                refine ⟨((F478.erase 2).erase 1).drop1, ?_⟩
                change Fr _ _ [blk _ _ [_, _, _, _, _], _, _, blk _ _ [_, _, _, _, _], _, blk _ _ [_, _, _, _, _], _, blk _ _ [_, _, _, _, _], _] _ at F478
                refine Hops.one 3 rfl (by kernel_rfl) (One.append (enc := pCells) pa F478 1 rfl sl46 zero52 rfl rfl (fun _ => rfl) rfl rfl rfl rfl (ev_t rfl) (ev_t rfl) (rpsW_p (F478.get 8 rfl)) (fun _ _ => rfl) (by simp; omega) (by simp; omega) ?_)
                intro u9 w167 hu9 F479
                refine ⟨((F479.erase 2).erase 1).drop1, ?_⟩
                change Fr _ _ [blk _ _ [_, _, _, _, _], _, _, blk _ _ [_, _, _, _, _], _, blk _ _ [_, _, _, _, _], _, blk _ _ [_, _, _, _, _], _] _ at F479
                refine Hops.one 6 rfl (by kernel_rfl) (One.append (enc := pCells) [⟨false, ⟨#[]⟩, -1⟩] F479 1 rfl sl46 zero52 rfl rfl (fun _ => rfl) rfl rfl rfl rfl (ev_t rfl) (ev_t rfl) ((blk_rep (enc := pCells) (sz := 3) (xs := [⟨false, ⟨#[]⟩, -1⟩]) (fun _ => rfl) (by simpa using F479.get 2 rfl) (by simp) (by simp)).weak fun _ _ => trivial) (fun _ _ => rfl) (by simp; omega) (by simp; omega) ?_)
                intro v9 w168 hv9 F480
                refine ⟨((F480.erase 2).erase 1).drop1, ?_⟩
                change Fr _ _ [blk _ _ [_, _, _, _, _], _, _, blk _ _ [_, _, _, _, _], _, blk _ _ [_, _, _, _, _], _, blk _ _ [_, _, _, _, _], _] _ at F480
                refine Hops.one 7 rfl (by kernel_rfl) (One.call rfl rfl rfl (ent_f rfl (evl2 (ev_t rfl) (ev_t rfl)) (enters en25)) (pathGet_ct ta (pa ++ [⟨false, ⟨#[]⟩, -1⟩]) (snocK hpka (by decide)) _ _ _ (rps_get (rpsW_t (F480.get 8 rfl)) 0 rfl) (ownP (F480.get 1 rfl)) hda.fit (by omega)) (fun e w169 hw169 => ?_))
                rw [← hRc] at hw169
                obtain ⟨e34, E34, rfl, C169, hE34, hEb34⟩ := hw169
                obtain ⟨A3e34, c3e34, A4e34, c4e34, hxe34⟩ := rep_x hE34.rep
                subst hxe34
                have F481 := F480.new C169 (sep E34 (Rc.getD zeroT) (x5 (Rc.getD zeroT).kind (Rc.getD zeroT).num (Rc.getD zeroT).str (.slice A3e34 (Rc.getD zeroT).keys.length c3e34) (.slice A4e34 (Rc.getD zeroT).list.length c4e34)).val) hE34 hEb34
                refine ⟨_, rfl, ?_⟩
                refine ⟨(((F481.erase 3).erase 2).erase 1).drop1, ?_⟩
                refine Hops.take 8 rfl (by kernel_rfl) (fun _ _ _ h => h) rfl rfl rfl (((F481.erase 3).erase 2).erase 1).drop1 (fun w F => (yld_move rfl (ev_t rfl))) ?_
                refine Hops.take 9 rfl (by kernel_rfl) (fun _ _ _ h => h) rfl rfl rfl (((F481.erase 3).erase 2).erase 1).drop1 (fun w F => (yld_extract rfl (ev_t rfl) rfl)) ?_
                refine Hops.take 10 rfl (by kernel_rfl) (fun _ _ _ h => h) rfl rfl rfl (((F481.erase 3).erase 2).erase 1).drop1 (fun w F => (yld_extract rfl (ev_t rfl) rfl)) ?_
                refine Hops.one 12 rfl (by kernel_rfl) (One.storeN (vs := [_, _, _, _, _]) F481 1 rfl sz31 rfl rfl rfl (ev_t rfl) (ev_t rfl) rfl rfl (Sep.one (x := (x5 (Rc.getD zeroT).kind (Rc.getD zeroT).num (Rc.getD zeroT).str (.slice A3e34 (Rc.getD zeroT).keys.length c3e34) (.slice A4e34 (Rc.getD zeroT).list.length c4e34))) (F481.get 0 rfl)) ?_)
                intro w170 F482
                refine ⟨(((F482.erase 3).erase 2).erase 1).drop1, ?_⟩
                change Fr _ _ [_, blk _ _ [_, _, _, _, _], _, _, blk _ _ [_, _, _, _, _], _, blk _ _ [_, _, _, _, _], _, blk _ _ [_, _, _, _, _], _] _ at F482
                refine Hops.one 13 rfl (by kernel_rfl) (One.val rfl rfl rfl (yld_assign rfl (ev_t rfl)) ?_)
                refine ⟨(((F482.erase 3).erase 2).erase 1).drop1, ?_⟩
                refine Hops.nil (by kernel_rfl) fun a hS => ?_
                have F483 := F482.pull 9 rfl
                have F484 := F483.pull 9 rfl
                have F485 := F484.pull 9 rfl
                have F486 := F485.pull 9 rfl
                have F487 := F486.pull 9 rfl
                have F488 := F487.pull 9 rfl
                have F489 := F488.pull 6 rfl
                have F490 := F489.pull 7 rfl
                have F491 := F490.erase 8
                have F492 := F491.erase 8
                exact hK12 (b53, (x5 (Rc.getD zeroT).kind (Rc.getD zeroT).num (Rc.getD zeroT).str (.slice A3e34 (Rc.getD zeroT).keys.length c3e34) (.slice A4e34 (Rc.getD zeroT).list.length c4e34)), E34) _ a (hS.sub ⟨rfl, rfl, rfl, rfl, rfl, rfl, rfl, trivial⟩) F492
            · skip
              refine (One.alloc F434 zero31 rfl rfl rfl rfl ?_)
              intro b54 w171 hb54 F493
              refine ⟨(F493.erase 1).drop1, ?_⟩
              change Fr _ _ [blk _ _ [_, _, _, _, _], _, blk _ _ [_, _, _, _, _], _, blk _ _ [_, _, _, _, _], _, blk _ _ [_, _, _, _, _], _] _ at F493
              refine Hops.one 1 rfl (by kernel_rfl) (One.buildNil pCells F493 sl46 rfl rfl rfl rfl ?_)
              intro b55 w172 hb55 F494
              refine ⟨((F494.erase 2).erase 1).drop1, ?_⟩
              refine Hops.one 3 rfl (by kernel_rfl) (One.append (enc := pCells) pa F494 0 rfl sl46 zero52 rfl rfl (fun _ => rfl) rfl rfl rfl rfl (ev_t rfl) (ev_t rfl) (rpsW_p (F494.get 8 rfl)) (fun _ _ => rfl) (by simp; omega) (by simp; omega) ?_)
              intro u9 w173 hu9 F495
              refine ⟨((F495.erase 2).erase 1).drop1, ?_⟩
              change Fr _ _ [_, blk _ _ [_, _, _, _, _], _, blk _ _ [_, _, _, _, _], _, blk _ _ [_, _, _, _, _], _, blk _ _ [_, _, _, _, _], _] _ at F495
              refine Hops.one 6 rfl (by kernel_rfl) (One.append (enc := pCells) [⟨false, ⟨#[]⟩, -1⟩] F495 0 rfl sl46 zero52 rfl rfl (fun _ => rfl) rfl rfl rfl rfl (ev_t rfl) (ev_t rfl) ((blk_rep (enc := pCells) (sz := 3) (xs := [⟨false, ⟨#[]⟩, -1⟩]) (fun _ => rfl) (by simpa using F495.get 2 rfl) (by simp) (by simp)).weak fun _ _ => trivial) (fun _ _ => rfl) (by simp; omega) (by simp; omega) ?_)
              intro v9 w174 hv9 F496
              refine ⟨((F496.erase 2).erase 1).drop1, ?_⟩
              change Fr _ _ [_, blk _ _ [_, _, _, _, _], _, blk _ _ [_, _, _, _, _], _, blk _ _ [_, _, _, _, _], _, blk _ _ [_, _, _, _, _], _] _ at F496
              refine Hops.one 7 rfl (by kernel_rfl) (One.call rfl rfl rfl (ent_f rfl (evl2 (ev_t rfl) (ev_t rfl)) (enters en25)) (pathGet_ct ta (pa ++ [⟨false, ⟨#[]⟩, -1⟩]) (snocK hpka (by decide)) _ _ _ (rps_get (rpsW_t (F496.get 8 rfl)) 0 rfl) (ownP (F496.get 0 rfl)) hda.fit (by omega)) (fun e w175 hw175 => ?_))
              rw [← hRc] at hw175
              obtain ⟨e35, E35, rfl, C175, hE35, hEb35⟩ := hw175
              obtain ⟨A3e35, c3e35, A4e35, c4e35, hxe35⟩ := rep_x hE35.rep
              subst hxe35
              have F497 := F496.new C175 (sep E35 (Rc.getD zeroT) (x5 (Rc.getD zeroT).kind (Rc.getD zeroT).num (Rc.getD zeroT).str (.slice A3e35 (Rc.getD zeroT).keys.length c3e35) (.slice A4e35 (Rc.getD zeroT).list.length c4e35)).val) hE35 hEb35
              refine ⟨_, rfl, ?_⟩
              refine ⟨(((F497.erase 3).erase 2).erase 1).drop1, ?_⟩
              refine Hops.take 8 rfl (by kernel_rfl) (fun _ _ _ h => h) rfl rfl rfl (((F497.erase 3).erase 2).erase 1).drop1 (fun w F => (yld_move rfl (ev_t rfl))) ?_
              refine Hops.take 9 rfl (by kernel_rfl) (fun _ _ _ h => h) rfl rfl rfl (((F497.erase 3).erase 2).erase 1).drop1 (fun w F => (yld_extract rfl (ev_t rfl) rfl)) ?_
              refine Hops.take 10 rfl (by kernel_rfl) (fun _ _ _ h => h) rfl rfl rfl (((F497.erase 3).erase 2).erase 1).drop1 (fun w F => (yld_extract rfl (ev_t rfl) rfl)) ?_
              refine Hops.one 12 rfl (by kernel_rfl) (One.storeN (vs := [_, _, _, _, _]) F497 2 rfl sz31 rfl rfl rfl (ev_t rfl) (ev_t rfl) rfl rfl (Sep.one (x := (x5 (Rc.getD zeroT).kind (Rc.getD zeroT).num (Rc.getD zeroT).str (.slice A3e35 (Rc.getD zeroT).keys.length c3e35) (.slice A4e35 (Rc.getD zeroT).list.length c4e35))) (F497.get 0 rfl)) ?_)
              intro w176 F498
              refine ⟨(((F498.erase 3).erase 2).erase 1).drop1, ?_⟩
              change Fr _ _ [_, _, blk _ _ [_, _, _, _, _], _, blk _ _ [_, _, _, _, _], _, blk _ _ [_, _, _, _, _], _, blk _ _ [_, _, _, _, _], _] _ at F498
              refine Hops.one 13 rfl (by kernel_rfl) (One.val rfl rfl rfl (yld_assign rfl (ev_t rfl)) ?_)
              refine ⟨(((F498.erase 3).erase 2).erase 1).drop1, ?_⟩
              refine Hops.nil (by kernel_rfl) fun a hS => ?_
              have F499 := F498.pull 9 rfl
              have F500 := F499.pull 9 rfl
              have F501 := F500.pull 9 rfl
              have F502 := F501.pull 9 rfl
              have F503 := F502.pull 9 rfl
              have F504 := F503.pull 9 rfl
              have F505 := F504.pull 6 rfl
              have F506 := F505.pull 8 rfl
              have F507 := F506.erase 8
              have F508 := F507.erase 8
              exact hK12 (b54, (x5 (Rc.getD zeroT).kind (Rc.getD zeroT).num (Rc.getD zeroT).str (.slice A3e35 (Rc.getD zeroT).keys.length c3e35) (.slice A4e35 (Rc.getD zeroT).list.length c4e35)), E35) _ a (hS.sub ⟨rfl, rfl, rfl, rfl, rfl, rfl, rfl, trivial⟩) F508
          · skip
            refine (One.alloc F285 zero31 rfl rfl rfl rfl ?_)
            intro b56 w177 hb56 F509
            refine ⟨F509.drop1, ?_⟩
            change Fr _ _ [blk _ _ [_, _, _, _, _], blk _ _ [_, _, _, _, _], _, blk _ _ [_, _, _, _, _], _, blk _ _ [_, _, _, _, _], _] _ at F509
            refine Hops.two 1 5 rfl rfl (by kernel_rfl) ?_ ?_
            · skip
              refine (One.buildNil pCells F509 sl46 rfl rfl rfl rfl ?_)
              intro b57 w178 hb57 F510
              refine ⟨(F510.erase 1).drop1, ?_⟩
              refine Hops.two 3 5 rfl rfl (by kernel_rfl) ?_ ?_
              · skip
                refine (One.append (enc := pCells) pa F510 0 rfl sl46 zero52 rfl rfl (fun _ => rfl) rfl rfl rfl rfl (ev_t rfl) (ev_t rfl) (rpsW_p (F510.get 7 rfl)) (fun _ _ => rfl) (by simp; omega) (by simp; omega) ?_)
                intro u9 w179 hu9 F511
                refine ⟨(F511.erase 1).drop1, ?_⟩
                change Fr _ _ [_, blk _ _ [_, _, _, _, _], blk _ _ [_, _, _, _, _], _, blk _ _ [_, _, _, _, _], _, blk _ _ [_, _, _, _, _], _] _ at F511
                refine Hops.one 5 rfl (by kernel_rfl) (One.buildSlice (cells := (pCells ⟨false, ⟨#[]⟩, -1⟩)) F511 sl46 zero52 rfl rfl rfl rfl (evp1 (ev_t rfl)) rfl rfl (by kernel_rfl) ?_)
                intro b58 w180 hb58 F512
                refine ⟨((F512.erase 2).erase 1).drop1, ?_⟩
                refine Hops.one 6 rfl (by kernel_rfl) (One.append (enc := pCells) [⟨false, ⟨#[]⟩, -1⟩] F512 1 rfl sl46 zero52 rfl rfl (fun _ => rfl) rfl rfl rfl rfl (ev_t rfl) (ev_t rfl) ((blk_rep (enc := pCells) (sz := 3) (xs := [⟨false, ⟨#[]⟩, -1⟩]) (fun _ => rfl) (by simpa using F512.get 0 rfl) (by simp) (by simp)).weak fun _ _ => trivial) (fun _ _ => rfl) (by simp; omega) (by simp; omega) ?_)
                intro v9 w181 hv9 F513
                refine ⟨((F513.erase 2).erase 1).drop1, ?_⟩
                change Fr _ _ [_, _, blk _ _ [_, _, _, _, _], blk _ _ [_, _, _, _, _], _, blk _ _ [_, _, _, _, _], _, blk _ _ [_, _, _, _, _], _] _ at F513
                refine Hops.one 7 rfl (by kernel_rfl) (One.call rfl rfl rfl (ent_f rfl (evl2 (ev_t rfl) (ev_t rfl)) (enters en25)) (pathGet_ct ta (pa ++ [⟨false, ⟨#[]⟩, -1⟩]) (snocK hpka (by decide)) _ _ _ (rps_get (rpsW_t (F513.get 8 rfl)) 0 rfl) (ownP (F513.get 1 rfl)) hda.fit (by omega)) (fun e w182 hw182 => ?_))
                rw [← hRc] at hw182
                obtain ⟨e36, E36, rfl, C182, hE36, hEb36⟩ := hw182
                obtain ⟨A3e36, c3e36, A4e36, c4e36, hxe36⟩ := rep_x hE36.rep
                subst hxe36
                have F514 := F513.new C182 (sep E36 (Rc.getD zeroT) (x5 (Rc.getD zeroT).kind (Rc.getD zeroT).num (Rc.getD zeroT).str (.slice A3e36 (Rc.getD zeroT).keys.length c3e36) (.slice A4e36 (Rc.getD zeroT).list.length c4e36)).val) hE36 hEb36
                refine ⟨_, rfl, ?_⟩
                refine ⟨(((F514.erase 3).erase 2).erase 1).drop1, ?_⟩
                refine Hops.take 8 rfl (by kernel_rfl) (fun _ _ _ h => h) rfl rfl rfl (((F514.erase 3).erase 2).erase 1).drop1 (fun w F => (yld_move rfl (ev_t rfl))) ?_
                refine Hops.take 9 rfl (by kernel_rfl) (fun _ _ _ h => h) rfl rfl rfl (((F514.erase 3).erase 2).erase 1).drop1 (fun w F => (yld_extract rfl (ev_t rfl) rfl)) ?_
                refine Hops.take 10 rfl (by kernel_rfl) (fun _ _ _ h => h) rfl rfl rfl (((F514.erase 3).erase 2).erase 1).drop1 (fun w F => (yld_extract rfl (ev_t rfl) rfl)) ?_
                refine Hops.one 12 rfl (by kernel_rfl) (One.storeN (vs := [_, _, _, _, _]) F514 3 rfl sz31 rfl rfl rfl (ev_t rfl) (ev_t rfl) rfl rfl (Sep.one (x := (x5 (Rc.getD zeroT).kind (Rc.getD zeroT).num (Rc.getD zeroT).str (.slice A3e36 (Rc.getD zeroT).keys.length c3e36) (.slice A4e36 (Rc.getD zeroT).list.length c4e36))) (F514.get 0 rfl)) ?_)
                intro w183 F515
                refine ⟨(((F515.erase 3).erase 2).erase 1).drop1, ?_⟩
                change Fr _ _ [_, _, _, blk _ _ [_, _, _, _, _], blk _ _ [_, _, _, _, _], _, blk _ _ [_, _, _, _, _], _, blk _ _ [_, _, _, _, _], _] _ at F515
                refine Hops.one 13 rfl (by kernel_rfl) (One.val rfl rfl rfl (yld_assign rfl (ev_t rfl)) ?_)
                refine ⟨(((F515.erase 3).erase 2).erase 1).drop1, ?_⟩
                refine Hops.nil (by kernel_rfl) fun a hS => ?_
                have F516 := F515.pull 9 rfl
                have F517 := F516.pull 9 rfl
                have F518 := F517.pull 9 rfl
                have F519 := F518.pull 9 rfl
                have F520 := F519.pull 9 rfl
                have F521 := F520.pull 9 rfl
                have F522 := F521.pull 6 rfl
                have F523 := F522.pull 9 rfl
                have F524 := F523.erase 8
                have F525 := F524.erase 8
                exact hK12 (b56, (x5 (Rc.getD zeroT).kind (Rc.getD zeroT).num (Rc.getD zeroT).str (.slice A3e36 (Rc.getD zeroT).keys.length c3e36) (.slice A4e36 (Rc.getD zeroT).list.length c4e36)), E36) _ a (hS.sub ⟨rfl, rfl, rfl, rfl, rfl, rfl, rfl, trivial⟩) F525
              · skip
                refine (One.buildSlice (cells := (pCells ⟨false, ⟨#[]⟩, -1⟩)) F510 sl46 zero52 rfl rfl rfl rfl (evp1 (ev_t rfl)) rfl rfl (by kernel_rfl) ?_)
                intro b59 w184 hb59 F526
                refine ⟨((F526.erase 2).erase 1).drop1, ?_⟩
                refine Hops.one 3 rfl (by kernel_rfl) (One.append (enc := pCells) pa F526 1 rfl sl46 zero52 rfl rfl (fun _ => rfl) rfl rfl rfl rfl (ev_t rfl) (ev_t rfl) (rpsW_p (F526.get 8 rfl)) (fun _ _ => rfl) (by simp; omega) (by simp; omega) ?_)
                intro u9 w185 hu9 F527
                refine ⟨((F527.erase 2).erase 1).drop1, ?_⟩
                change Fr _ _ [_, _, blk _ _ [_, _, _, _, _], blk _ _ [_, _, _, _, _], _, blk _ _ [_, _, _, _, _], _, blk _ _ [_, _, _, _, _], _] _ at F527
                refine Hops.one 6 rfl (by kernel_rfl) (One.append (enc := pCells) [⟨false, ⟨#[]⟩, -1⟩] F527 1 rfl sl46 zero52 rfl rfl (fun _ => rfl) rfl rfl rfl rfl (ev_t rfl) (ev_t rfl) ((blk_rep (enc := pCells) (sz := 3) (xs := [⟨false, ⟨#[]⟩, -1⟩]) (fun _ => rfl) (by simpa using F527.get 0 rfl) (by simp) (by simp)).weak fun _ _ => trivial) (fun _ _ => rfl) (by simp; omega) (by simp; omega) ?_)
                intro v9 w186 hv9 F528
                refine ⟨((F528.erase 2).erase 1).drop1, ?_⟩
                change Fr _ _ [_, _, blk _ _ [_, _, _, _, _], blk _ _ [_, _, _, _, _], _, blk _ _ [_, _, _, _, _], _, blk _ _ [_, _, _, _, _], _] _ at F528
                refine Hops.one 7 rfl (by kernel_rfl) (One.call rfl rfl rfl (ent_f rfl (evl2 (ev_t rfl) (ev_t rfl)) (enters en25)) (pathGet_ct ta (pa ++ [⟨false, ⟨#[]⟩, -1⟩]) (snocK hpka (by decide)) _ _ _ (rps_get (rpsW_t (F528.get 8 rfl)) 0 rfl) (ownP (F528.get 1 rfl)) hda.fit (by omega)) (fun e w187 hw187 => ?_))
                rw [← hRc] at hw187
                obtain ⟨e37, E37, rfl, C187, hE37, hEb37⟩ := hw187
                obtain ⟨A3e37, c3e37, A4e37, c4e37, hxe37⟩ := rep_x hE37.rep
                subst hxe37
                have F529 := F528.new C187 (sep E37 (Rc.getD zeroT) (x5 (Rc.getD zeroT).kind (Rc.getD zeroT).num (Rc.getD zeroT).str (.slice A3e37 (Rc.getD zeroT).keys.length c3e37) (.slice A4e37 (Rc.getD zeroT).list.length c4e37)).val) hE37 hEb37
                refine ⟨_, rfl, ?_⟩
                refine ⟨(((F529.erase 3).erase 2).erase 1).drop1, ?_⟩
                refine Hops.take 8 rfl (by kernel_rfl) (fun _ _ _ h => h) rfl rfl rfl (((F529.erase 3).erase 2).erase 1).drop1 (fun w F => (yld_move rfl (ev_t rfl))) ?_
                refine Hops.take 9 rfl (by kernel_rfl) (fun _ _ _ h => h) rfl rfl rfl (((F529.erase 3).erase 2).erase 1).drop1 (fun w F => (yld_extract rfl (ev_t rfl) rfl)) ?_
                refine Hops.take 10 rfl (by kernel_rfl) (fun _ _ _ h => h) rfl rfl rfl (((F529.erase 3).erase 2).erase 1).drop1 (fun w F => (yld_extract rfl (ev_t rfl) rfl)) ?_
                refine Hops.one 12 rfl (by kernel_rfl) (One.storeN (vs := [_, _, _, _, _]) F529 3 rfl sz31 rfl rfl rfl (ev_t rfl) (ev_t rfl) rfl rfl (Sep.one (x := (x5 (Rc.getD zeroT).kind (Rc.getD zeroT).num (Rc.getD zeroT).str (.slice A3e37 (Rc.getD zeroT).keys.length c3e37) (.slice A4e37 (Rc.getD zeroT).list.length c4e37))) (F529.get 0 rfl)) ?_)
                intro w188 F530
                refine ⟨(((F530.erase 3).erase 2).erase 1).drop1, ?_⟩
                change Fr _ _ [_, _, _, blk _ _ [_, _, _, _, _], blk _ _ [_, _, _, _, _], _, blk _ _ [_, _, _, _, _], _, blk _ _ [_, _, _, _, _], _] _ at F530
                refine Hops.one 13 rfl (by kernel_rfl) (One.val rfl rfl rfl (yld_assign rfl (ev_t rfl)) ?_)
                refine ⟨(((F530.erase 3).erase 2).erase 1).drop1, ?_⟩
                refine Hops.nil (by kernel_rfl) fun a hS => ?_
                have F531 := F530.pull 9 rfl
                have F532 := F531.pull 9 rfl
                have F533 := F532.pull 9 rfl
                have F534 := F533.pull 9 rfl
                have F535 := F534.pull 9 rfl
                have F536 := F535.pull 9 rfl
                have F537 := F536.pull 6 rfl
                have F538 := F537.pull 9 rfl
                have F539 := F538.erase 8
                have F540 := F539.erase 8
                exact hK12 (b56, (x5 (Rc.getD zeroT).kind (Rc.getD zeroT).num (Rc.getD zeroT).str (.slice A3e37 (Rc.getD zeroT).keys.length c3e37) (.slice A4e37 (Rc.getD zeroT).list.length c4e37)), E37) _ a (hS.sub ⟨rfl, rfl, rfl, rfl, rfl, rfl, rfl, trivial⟩) F540
            · skip
              refine (One.buildSlice (cells := (pCells ⟨false, ⟨#[]⟩, -1⟩)) F509 sl46 zero52 rfl rfl rfl rfl (evp1 (ev_t rfl)) rfl rfl (by kernel_rfl) ?_)
              intro b60 w189 hb60 F541
              refine ⟨(F541.erase 1).drop1, ?_⟩
              refine Hops.one 1 rfl (by kernel_rfl) (One.buildNil pCells F541 sl46 rfl rfl rfl rfl ?_)
              intro b61 w190 hb61 F542
              refine ⟨((F542.erase 2).erase 1).drop1, ?_⟩
              refine Hops.one 3 rfl (by kernel_rfl) (One.append (enc := pCells) pa F542 0 rfl sl46 zero52 rfl rfl (fun _ => rfl) rfl rfl rfl rfl (ev_t rfl) (ev_t rfl) (rpsW_p (F542.get 8 rfl)) (fun _ _ => rfl) (by simp; omega) (by simp; omega) ?_)
              intro u9 w191 hu9 F543
              refine ⟨((F543.erase 2).erase 1).drop1, ?_⟩
              change Fr _ _ [_, _, blk _ _ [_, _, _, _, _], blk _ _ [_, _, _, _, _], _, blk _ _ [_, _, _, _, _], _, blk _ _ [_, _, _, _, _], _] _ at F543
              refine Hops.one 6 rfl (by kernel_rfl) (One.append (enc := pCells) [⟨false, ⟨#[]⟩, -1⟩] F543 0 rfl sl46 zero52 rfl rfl (fun _ => rfl) rfl rfl rfl rfl (ev_t rfl) (ev_t rfl) ((blk_rep (enc := pCells) (sz := 3) (xs := [⟨false, ⟨#[]⟩, -1⟩]) (fun _ => rfl) (by simpa using F543.get 1 rfl) (by simp) (by simp)).weak fun _ _ => trivial) (fun _ _ => rfl) (by simp; omega) (by simp; omega) ?_)
              intro v9 w192 hv9 F544
              refine ⟨((F544.erase 2).erase 1).drop1, ?_⟩
              change Fr _ _ [_, _, blk _ _ [_, _, _, _, _], blk _ _ [_, _, _, _, _], _, blk _ _ [_, _, _, _, _], _, blk _ _ [_, _, _, _, _], _] _ at F544
              refine Hops.one 7 rfl (by kernel_rfl) (One.call rfl rfl rfl (ent_f rfl (evl2 (ev_t rfl) (ev_t rfl)) (enters en25)) (pathGet_ct ta (pa ++ [⟨false, ⟨#[]⟩, -1⟩]) (snocK hpka (by decide)) _ _ _ (rps_get (rpsW_t (F544.get 8 rfl)) 0 rfl) (ownP (F544.get 0 rfl)) hda.fit (by omega)) (fun e w193 hw193 => ?_))
              rw [← hRc] at hw193
              obtain ⟨e38, E38, rfl, C193, hE38, hEb38⟩ := hw193
              obtain ⟨A3e38, c3e38, A4e38, c4e38, hxe38⟩ := rep_x hE38.rep
              subst hxe38
              have F545 := F544.new C193 (sep E38 (Rc.getD zeroT) (x5 (Rc.getD zeroT).kind (Rc.getD zeroT).num (Rc.getD zeroT).str (.slice A3e38 (Rc.getD zeroT).keys.length c3e38) (.slice A4e38 (Rc.getD zeroT).list.length c4e38)).val) hE38 hEb38
              refine ⟨_, rfl, ?_⟩
              refine ⟨(((F545.erase 3).erase 2).erase 1).drop1, ?_⟩
              refine Hops.take 8 rfl (by kernel_rfl) (fun _ _ _ h => h) rfl rfl rfl (((F545.erase 3).erase 2).erase 1).drop1 (fun w F => (yld_move rfl (ev_t rfl))) ?_
              refine Hops.take 9 rfl (by kernel_rfl) (fun _ _ _ h => h) rfl rfl rfl (((F545.erase 3).erase 2).erase 1).drop1 (fun w F => (yld_extract rfl (ev_t rfl) rfl)) ?_
              refine Hops.take 10 rfl (by kernel_rfl) (fun _ _ _ h => h) rfl rfl rfl (((F545.erase 3).erase 2).erase 1).drop1 (fun w F => (yld_extract rfl (ev_t rfl) rfl)) ?_
              refine Hops.one 12 rfl (by kernel_rfl) (One.storeN (vs := [_, _, _, _, _]) F545 3 rfl sz31 rfl rfl rfl (ev_t rfl) (ev_t rfl) rfl rfl (Sep.one (x := (x5 (Rc.getD zeroT).kind (Rc.getD zeroT).num (Rc.getD zeroT).str (.slice A3e38 (Rc.getD zeroT).keys.length c3e38) (.slice A4e38 (Rc.getD zeroT).list.length c4e38))) (F545.get 0 rfl)) ?_)
              intro w194 F546
              refine ⟨(((F546.erase 3).erase 2).erase 1).drop1, ?_⟩
              change Fr _ _ [_, _, _, blk _ _ [_, _, _, _, _], blk _ _ [_, _, _, _, _], _, blk _ _ [_, _, _, _, _], _, blk _ _ [_, _, _, _, _], _] _ at F546
              refine Hops.one 13 rfl (by kernel_rfl) (One.val rfl rfl rfl (yld_assign rfl (ev_t rfl)) ?_)
              refine ⟨(((F546.erase 3).erase 2).erase 1).drop1, ?_⟩
              refine Hops.nil (by kernel_rfl) fun a hS => ?_
              have F547 := F546.pull 9 rfl
              have F548 := F547.pull 9 rfl
              have F549 := F548.pull 9 rfl
              have F550 := F549.pull 9 rfl
              have F551 := F550.pull 9 rfl
              have F552 := F551.pull 9 rfl
              have F553 := F552.pull 6 rfl
              have F554 := F553.pull 9 rfl
              have F555 := F554.erase 8
              have F556 := F555.erase 8
              exact hK12 (b56, (x5 (Rc.getD zeroT).kind (Rc.getD zeroT).num (Rc.getD zeroT).str (.slice A3e38 (Rc.getD zeroT).keys.length c3e38) (.slice A4e38 (Rc.getD zeroT).list.length c4e38)), E38) _ a (hS.sub ⟨rfl, rfl, rfl, rfl, rfl, rfl, rfl, trivial⟩) F556
        · skip
          intro i w195 hW
          obtain ⟨bb11, xc, Gc⟩ := i
          have F557 := hW
          dsimp only at *
          obtain ⟨A3c, c3c, A4c, c4c, hxc⟩ := rep_x (F557.get 1 rfl).rep
          subst hxc
          refine Cod.seq fun K13 hK13 => ?_
          refine Cod.region ?_
          refine Ops.step (One.val rfl rfl rfl (yld_loadN ag31 rfl (ev_t rfl) (fun _ => F557.range (m := 5) (cs' := [_, _, _, _, _]) 4 rfl rfl) rfl) ?_)
          refine Ops.step (One.call rfl rfl rfl (ent_f rfl (evl2 (ev_t rfl) ev_c) (enters en28)) (partGet_ct (R1.getD zeroT) ⟨#[97]⟩ (by decide) _ _ (F557.get 5 rfl).rep (okT_fit hO1) (okT_w hO1)) (fun e w196 hw196 => ?_))
          obtain ⟨R2, hR2⟩ : ∃ R, R = partGetR (R1.getD zeroT) ⟨#[97]⟩ := ⟨_, rfl⟩
          have hO2 : okT (R2.getD zeroT) = true := by rw [hR2]; exact partGetR_ok (R1.getD zeroT) ⟨#[97]⟩
          rw [← hR2] at hw196
          obtain ⟨e39, E39, rfl, C196, hE39, hEb39⟩ := hw196
          obtain ⟨A3e39, c3e39, A4e39, c4e39, hxe39⟩ := rep_x hE39.rep
          subst hxe39
          have F558 := F557.new C196 (sep E39 (R2.getD zeroT) (x5 (R2.getD zeroT).kind (R2.getD zeroT).num (R2.getD zeroT).str (.slice A3e39 (R2.getD zeroT).keys.length c3e39) (.slice A4e39 (R2.getD zeroT).list.length c4e39)).val) hE39 hEb39
          refine ⟨_, rfl, ?_⟩
          refine Ops.step (One.val rfl rfl rfl (yld_move rfl (ev_t rfl)) ?_)
          refine Ops.step (One.val rfl rfl rfl (yld_extract rfl (ev_t rfl) rfl) ?_)
          refine Ops.step (One.val rfl rfl rfl (yld_extract rfl (ev_t rfl) rfl) ?_)
          refine Ops.step (One.alloc F558 zero31 rfl rfl rfl rfl ?_)
          intro b62 w197 hb62 F559
          change Fr _ _ [blk _ _ [_, _, _, _, _], _, blk _ _ [_, _, _, _, _], _, blk _ _ [_, _, _, _, _], _, blk _ _ [_, _, _, _, _], _, blk _ _ [_, _, _, _, _], _] _ at F559
          refine Ops.step (One.storeN (vs := [_, _, _, _, _]) F559 0 rfl sz31 rfl rfl rfl (ev_t rfl) (ev_t rfl) rfl rfl (Sep.one (x := (x5 (R2.getD zeroT).kind (R2.getD zeroT).num (R2.getD zeroT).str (.slice A3e39 (R2.getD zeroT).keys.length c3e39) (.slice A4e39 (R2.getD zeroT).list.length c4e39))) (F559.get 1 rfl)) ?_)
          intro w198 F560
          change Fr _ _ [blk _ _ [_, _, _, _, _], _, blk _ _ [_, _, _, _, _], _, blk _ _ [_, _, _, _, _], _, blk _ _ [_, _, _, _, _], _, blk _ _ [_, _, _, _, _], _] _ at F560
          refine Ops.step (One.val rfl rfl rfl (yld_assign rfl (ev_t rfl)) ?_)
          refine Ops.nil fun a hS => ?_
          refine hK13 _ _ ?_ a hS
          refine Cod.seq fun K14 hK14 => ?_
          refine Cod.region ?_
          refine Ops.step (One.val rfl rfl rfl (yld_loadN ag31 rfl (ev_t rfl) (fun _ => F560.range (m := 5) (cs' := [_, _, _, _, _]) 6 rfl rfl) rfl) ?_)
          refine Ops.step (One.call rfl rfl rfl (ent_f rfl (evl2 (ev_t rfl) ev_c) (enters en29)) (partAt_ct (R1.getD zeroT) (-1) (by omega) _ _ (F560.get 7 rfl).rep (okT_fit hO1) (okT_w hO1)) (fun e w199 hw199 => ?_))
          obtain ⟨R3, hR3⟩ : ∃ R, R = partAtR (R1.getD zeroT) (-1) := ⟨_, rfl⟩
          have hO3 : okT (R3.getD zeroT) = true := by rw [hR3]; exact partAtR_ok (R1.getD zeroT) (-1)
          rw [← hR3] at hw199
          obtain ⟨e40, E40, rfl, C199, hE40, hEb40⟩ := hw199
          obtain ⟨A3e40, c3e40, A4e40, c4e40, hxe40⟩ := rep_x hE40.rep
          subst hxe40
          have F561 := F560.new C199 (sep E40 (R3.getD zeroT) (x5 (R3.getD zeroT).kind (R3.getD zeroT).num (R3.getD zeroT).str (.slice A3e40 (R3.getD zeroT).keys.length c3e40) (.slice A4e40 (R3.getD zeroT).list.length c4e40)).val) hE40 hEb40
          refine ⟨_, rfl, ?_⟩
          refine Ops.step (One.val rfl rfl rfl (yld_move rfl (ev_t rfl)) ?_)
          refine Ops.step (One.val rfl rfl rfl (yld_extract rfl (ev_t rfl) rfl) ?_)
          refine Ops.step (One.val rfl rfl rfl (yld_extract rfl (ev_t rfl) rfl) ?_)
          refine Ops.step (One.alloc F561 zero31 rfl rfl rfl rfl ?_)
          intro b63 w200 hb63 F562
          change Fr _ _ [blk _ _ [_, _, _, _, _], _, blk _ _ [_, _, _, _, _], _, blk _ _ [_, _, _, _, _], _, blk _ _ [_, _, _, _, _], _, blk _ _ [_, _, _, _, _], _, blk _ _ [_, _, _, _, _], _] _ at F562
          refine Ops.step (One.storeN (vs := [_, _, _, _, _]) F562 0 rfl sz31 rfl rfl rfl (ev_t rfl) (ev_t rfl) rfl rfl (Sep.one (x := (x5 (R3.getD zeroT).kind (R3.getD zeroT).num (R3.getD zeroT).str (.slice A3e40 (R3.getD zeroT).keys.length c3e40) (.slice A4e40 (R3.getD zeroT).list.length c4e40))) (F562.get 1 rfl)) ?_)
          intro w201 F563
          change Fr _ _ [blk _ _ [_, _, _, _, _], _, blk _ _ [_, _, _, _, _], _, blk _ _ [_, _, _, _, _], _, blk _ _ [_, _, _, _, _], _, blk _ _ [_, _, _, _, _], _, blk _ _ [_, _, _, _, _], _] _ at F563
          refine Ops.step (One.val rfl rfl rfl (yld_assign rfl (ev_t rfl)) ?_)
          refine Ops.nil fun a hS => ?_
          refine hK14 _ _ ?_ a hS
          refine Cod.seq fun K15 hK15 => ?_
          refine Cod.seq fun K16 hK16 => ?_
          refine Cod.region ?_
          refine Ops.step (One.val rfl rfl rfl (yld_move rfl (ev_t rfl)) ?_)
          refine Ops.step (One.val rfl rfl rfl (yld_move rfl (ev_t rfl)) ?_)
          refine Ops.step (One.val rfl rfl rfl (yld_bneq Try.underlying4 rfl (ev_t rfl) (ev_t rfl)) ?_)
          refine Ops.step (One.val rfl rfl rfl (yld_move rfl (ev_t rfl)) ?_)
          refine Ops.step (One.val (gd_some rfl rfl) rfl rfl (yld_move rfl (ev_t rfl)) ?_)
          refine Ops.step (One.val (gd_some rfl rfl) rfl rfl (yld_move rfl (ev_t rfl)) ?_)
          refine Ops.step (One.val (gd_some rfl rfl) rfl rfl (yld_bneq Try.underlying4 rfl (ev_g rfl) (ev_g rfl)) ?_)
          refine Ops.step (One.val rfl rfl rfl (yld_or rfl (ev_t rfl) (ev_g rfl)) ?_)
          refine Ops.step (One.val rfl rfl rfl (yld_move rfl (ev_t rfl)) ?_)
          refine Ops.step (One.val (gd_some rfl rfl) rfl rfl (yld_move rfl (ev_t rfl)) ?_)
          refine Ops.step (One.val (gd_some rfl rfl) rfl rfl (yld_move rfl (ev_g rfl)) ?_)
          refine Ops.step (One.val (gd_some rfl rfl) rfl rfl (yld_loadN ag31 rfl (ev_t rfl) (fun _ => F563.range (m := 5) (cs' := [_, _, _, _, _]) 6 rfl rfl) rfl) ?_)
          refine Ops.step (One.val (gd_some rfl rfl) rfl rfl (yld_loadN ag31 rfl (ev_t rfl) (fun _ => F563.range (m := 5) (cs' := [_, _, _, _, _]) 2 rfl rfl) rfl) ?_)
          refine Ops.step (One.gcall (R := Chg No w201) (gd_some rfl rfl) rfl rfl (ent_f rfl (evl2 (ev_g rfl) (ev_g rfl)) (enters en27)) (Chg.refl _ _) (fun hg => valSame_ct (Rb.getD zeroT) (R2.getD zeroT) _ _ _ (F563.get 7 rfl).rep (F563.get 3 rfl).rep) ?_)
          intro w202 C202
          have F564 := F563.call C202
          refine Ops.step (One.val (gd_some rfl rfl) rfl rfl (yld_not rfl (ev_g rfl)) ?_)
          refine Ops.step (One.val (gd_some rfl rfl) rfl rfl (yld_and rfl (ev_g rfl) (ev_g rfl)) ?_)
          refine Ops.step (One.val rfl rfl rfl (yld_or rfl (ev_t rfl) (ev_g rfl)) ?_)
          refine Ops.step (One.val rfl rfl rfl (yld_move rfl (ev_t rfl)) ?_)
          refine Ops.step (One.val (gd_some rfl rfl) rfl rfl (yld_move rfl (ev_t rfl)) ?_)
          refine Ops.step (One.val (gd_some rfl rfl) rfl rfl (yld_move rfl (ev_g rfl)) ?_)
          refine Ops.step (One.val (gd_some rfl rfl) rfl rfl (yld_loadN ag31 rfl (ev_t rfl) (fun _ => F564.range (m := 5) (cs' := [_, _, _, _, _]) 4 rfl rfl) rfl) ?_)
          refine Ops.step (One.val (gd_some rfl rfl) rfl rfl (yld_loadN ag31 rfl (ev_t rfl) (fun _ => F564.range (m := 5) (cs' := [_, _, _, _, _]) 0 rfl rfl) rfl) ?_)
          refine Ops.step (One.gcall (R := Chg No w202) (gd_some rfl rfl) rfl rfl (ent_f rfl (evl2 (ev_g rfl) (ev_g rfl)) (enters en27)) (Chg.refl _ _) (fun hg => valSame_ct (Rc.getD zeroT) (R3.getD zeroT) _ _ _ (F564.get 5 rfl).rep (F564.get 1 rfl).rep) ?_)
          intro w203 C203
          have F565 := F564.call C203
          refine Ops.step (One.val (gd_some rfl rfl) rfl rfl (yld_not rfl (ev_g rfl)) ?_)
          refine Ops.step (One.val (gd_some rfl rfl) rfl rfl (yld_and rfl (ev_g rfl) (ev_g rfl)) ?_)
          refine Ops.step (One.val rfl rfl rfl (yld_or rfl (ev_t rfl) (ev_g rfl)) ?_)
          refine Ops.nil fun a hS => ?_
          refine hK16 _ _ ?_ a hS
          refine Cod.cond rfl (fun hc120 => ?_) (fun hc120 => ?_)
          · skip
            exact (by obtain ⟨q1, ho⟩ := longer hR1 hsome hlt (by decide) hRb; obtain ⟨q2, -⟩ := longer hR1 hsome hlt (by decide) hRc; rw [q1, q2, stepA ho hR2, stepB ho hR3] at hc120; simp at hc120)
          · skip
            skip
            refine Cod.skip fun a hS => ?_
            refine hK15 _ _ ?_ a hS
            refine Cod.seq fun K17 hK17 => ?_
            refine Cod.region ?_
            refine Ops.step (One.val rfl rfl rfl (yld_field fi31_0 rfl (ev_t rfl)) ?_)
            refine Ops.step (One.val rfl rfl rfl (yld_load1 on3 rfl (ev_t rfl) (fun _ => F565.cell 8 rfl rfl)) ?_)
            refine Ops.step (One.val rfl rfl rfl (yld_neq rfl (ev_t rfl) ev_c) ?_)
            refine Ops.step (One.val rfl rfl rfl (yld_move rfl (ev_t rfl)) ?_)
            refine Ops.step (One.val (gd_some rfl rfl) rfl rfl (yld_move rfl (ev_t rfl)) ?_)
            refine Ops.step (One.val (gd_some rfl rfl) rfl rfl (yld_move rfl (ev_g rfl)) ?_)
            refine Ops.step (One.val (gd_some rfl rfl) rfl rfl (yld_move rfl (ev_t rfl)) ?_)
            refine Ops.step (One.val (gd_some rfl rfl) rfl rfl (yld_and rfl (ev_g rfl) (ev_g rfl)) ?_)
            refine Ops.step (One.val (gd_some rfl rfl) rfl rfl (yld_move rfl (ev_g rfl)) ?_)
            refine Ops.step (One.val (gd_some rfl rfl) rfl rfl (yld_field fi31_0 rfl (ev_t rfl)) ?_)
            refine Ops.step (One.val (gd_some rfl rfl) rfl rfl (yld_load1 on3 rfl (ev_g rfl) (fun _ => F565.cell 6 rfl rfl)) ?_)
            refine Ops.step (One.val (gd_some rfl rfl) rfl rfl (yld_eql rfl (ev_g rfl) ev_c) ?_)
            refine Ops.step (One.val (gd_some rfl rfl) rfl rfl (yld_and rfl (ev_g rfl) (ev_g rfl)) ?_)
            refine Ops.step (One.val (gd_some rfl rfl) rfl rfl (yld_move rfl (ev_g rfl)) ?_)
            refine Ops.step (One.val (gd_some rfl rfl) rfl rfl (yld_field fi31_0 rfl (ev_t rfl)) ?_)
            refine Ops.step (One.val (gd_some rfl rfl) rfl rfl (yld_load1 on3 rfl (ev_g rfl) (fun _ => F565.cell 4 rfl rfl)) ?_)
            refine Ops.step (One.val (gd_some rfl rfl) rfl rfl (yld_eql rfl (ev_g rfl) ev_c) ?_)
            refine Ops.step (One.val (gd_some rfl rfl) rfl rfl (yld_and rfl (ev_g rfl) (ev_g rfl)) ?_)
            refine Ops.step (One.val rfl rfl rfl (yld_or rfl (ev_t rfl) (ev_g rfl)) ?_)
            refine Ops.step (One.val rfl rfl rfl (yld_assign rfl (ev_t rfl)) ?_)
            refine Ops.nil fun a hS => ?_
            refine hK17 _ _ ?_ a hS
            refine Cod.ret fun a hS => ?_
            try simp only [Exit.then, Exit.inBlock]
            obtain ⟨q1, ho⟩ := longer hR1 hsome hlt (by decide) hRb
            obtain ⟨q2, -⟩ := longer hR1 hsome hlt (by decide) hRc
            exact ret1 (t := 2) rfl hS rfl ⟨ret_b (by rw [q1, q2]; exact fin0), F565.chg⟩


theorem ownKnob_none : ownKnob Try.prog.godebug = none := by kernel_rfl
theorem params_ok : ∀ t ∈ Try.f5.params.toList, Try.prog.readableRec t = true ∧ t < Try.prog.types.size := by
  rw [Try.params5]
  intro t ht
  simp only [List.mem_cons, List.not_mem_nil, or_false] at ht
  rcases ht with rfl <;> exact ⟨by kernel_rfl, of_decide_eq_true (by kernel_rfl)⟩
set_option maxRecDepth 100000 in
theorem lifted (os : Os) (started : os.Started) (H : Type) (enc : TypeId × Value → H) :
    ReturnsInHanded {} Try.checked os 5 .any (Rows.fnPathOneSpec.pre6 enc Try.prog Try.f5 Rows.fnPathOneRow.domain false) (Rows.fnPathOneSpec.post enc Try.prog Try.f5 false true false false) := by
  refine returnsInHanded_of_change (C := Try.checked) ownKnob_none started (by kernel_rfl) Try.func5
    (ChangeSpec.witness6 (enc := enc) (C := Try.checked) false ⟨#[], #[.slice none 0 0], []⟩ 8 (by kernel_rfl) (by kernel_rfl) (by kernel_rfl) (by kernel_rfl)) ?_
  intro W base args ds gs before hval0 hW hcnd _
  have hval : ∀ (j : Nat) t v, Try.f5.params[j]? = some t → args[j]? = some v → Value.okWide Try.prog W .any base t v := hval0
  have hW' := hW
  obtain ⟨p, q, hA0, hV, rfl, hfz, hnd⟩ := hW
  have hA : DataW.TrodAll enc Try.prog W 0 (fun _ => true) true Try.f5.params.toList args.toList ds p := hA0
  rw [Try.params5] at hA hval
  obtain ⟨v0, d0, rfl, rfl, h0⟩ := trodAll_one hA
  obtain ⟨rfl, rfl⟩ := trodVars_none hV
  obtain ⟨code, hp⟩ := open_bytes (hval 0 _ v0 rfl rfl) h0
  refine (walk code v0 W hp).mono fun e W' ⟨he, hc⟩ => ?_
  subst he
  exact ⟨_, rfl, post_chg laidOut rfl params_ok hW' (fun _ _ _ => (trodAll_cons_mk (shut_bool Try.underlying4 _) trodAll_mk0)) rfl rfl hc (ok_one (by kernel_rfl) rfl (okWide_bool_mk Try.underlying4 _))⟩

theorem over : Rows.fnPathOneRow.holds Try.pinned (OpenSpec.ofChange Rows.fnPathOneSpec) :=
  OpenClaim.holds_of_wide 5 Try.f5 rfl rfl rfl rfl rfl rfl rfl ⟨rfl, rfl, rfl, rfl, rfl⟩ rfl rfl rfl rfl rfl (by kernel_rfl) Try.func5 (by kernel_rfl)
    (of_decide_eq_true (by kernel_rfl)) (by unfold Func.isWrapper; first | (rw [if_pos (by decide +kernel)]; kernel_rfl) | (rw [if_neg (by decide +kernel)]; exact ⟨rfl, rfl⟩))
    (fun os started H enc _ => lifted os started H enc)

/-- The statement. -/
theorem proved : Rows.FnPathOneSaid := over
#print axioms proved

end GPathOne
end Go.Proofs.Ytodbflfelimppaa.Eng
