/- The walk of the program's PathRead: a way, as its text tells it. -/
import Derived.Test.YtpfkcblhojkaiaaDoorRdM
import Derived.Test.YtpfkcblhojkaiaaDoorPTxt
namespace Go.Proofs.YtpfkcblhojkaiaaDoor.Eng
open Go.RowKit
set_option linter.unusedVariables false
set_option linter.unusedSimpArgs false
set_option maxHeartbeats 1000000


theorem rdI_dot {t : ByteArray} {j n : Nat} (h : hd (t.data.toList.drop j) 46 = true) (hn : upN [46, 91] (t.data.toList.drop (j + 1)) = n) : rdI (t.data.toList.drop j) = some (⟨true, t.extract (j + 1) (j + 1 + n), 0⟩, 1 + n) := by
  unfold rdI
  rw [if_pos h, List.drop_drop, hn]
  congr 3
  refine data_inj ?_
  rw [bs_list, ext_list]
  congr 1
  omega
theorem rdI_num {t : ByteArray} {j n : Nat} {z : Int} (h : hd (t.data.toList.drop j) 46 = false) (h2 : hd (t.data.toList.drop j) 91 = true) (hn : upN [93] (t.data.toList.drop (j + 1)) = n) (hz : atoiV (t.extract (j + 1) (j + 1 + n)).data.toList = z) : rdI (t.data.toList.drop j) = some (⟨false, ⟨#[]⟩, z⟩, 1 + n + (if hd (t.data.toList.drop (j + 1 + n)) 93 = true then 1 else 0)) := by
  unfold rdI
  rw [if_neg (by rw [h]; simp), if_pos h2, List.drop_drop, hn, List.drop_drop, show j + (1 + n) = j + 1 + n by omega]
  rw [ext_list, show j + 1 + n - (j + 1) = n by omega] at hz
  rw [hz]
theorem rdI_none {t : ByteArray} {j : Nat} (h : hd (t.data.toList.drop j) 46 = false) (h2 : hd (t.data.toList.drop j) 91 = false) : rdI (t.data.toList.drop j) = none := by
  unfold rdI
  rw [if_neg (by rw [h]; simp), if_neg (by rw [h2]; simp)]
theorem upN_le (e l : List UInt8) : upN e l ≤ l.length := runN_le _ l
theorem hd_lt {t : ByteArray} {j : Nat} {c : UInt8} (h : hd (t.data.toList.drop j) c = true) : j + 1 ≤ t.size := by
  obtain ⟨r, hr⟩ := hd_cons h
  have h2 := congrArg List.length hr
  rw [List.length_drop, txt_len, List.length_cons] at h2
  omega

set_option maxRecDepth 100000 in
theorem read_ct (t : ByteArray) (ht : t.size ≤ 1048576) (w : World) (hT : PowTab w) (hE : Errs w) : Calls Tryd.prog 23 #[.string t] w (ReadEnd t w) := by
  refine enter Tryd.func23 rfl rfl rfl ?_
  have F0 := Fr.start w
  refine Cod.seq fun K1 hK1 => ?_
  refine Cod.region ?_
  refine Ops.step (One.val rfl rfl rfl (yld_assign rfl ev_c) ?_)
  refine Ops.step (One.val rfl rfl rfl (yld_assign rfl ev_c) ?_)
  refine Ops.nil fun a hS => ?_
  refine hK1 _ _ ?_ a hS
  refine Cod.seq fun K2 hK2 => ?_
  refine Cod.seq fun K3 hK3 => ?_
  refine Cod.region ?_
  refine Ops.step (One.val rfl rfl rfl (yld_move rfl (ev_t rfl)) ?_)
  refine Ops.step (One.val rfl rfl rfl (yld_seql rfl (ev_t rfl) ev_c) ?_)
  refine Ops.step (One.val rfl rfl rfl (yld_move rfl (ev_t rfl)) ?_)
  refine Ops.step (One.val (gd_some rfl rfl) rfl rfl (yld_move rfl (ev_t rfl)) ?_)
  refine Ops.step (One.val (gd_some rfl rfl) rfl rfl (yld_slen st9 rfl (ev_g rfl)) ?_)
  refine Ops.step (One.val (gd_some rfl rfl) rfl rfl (yld_gtr rfl (ev_g rfl) ev_c) ?_)
  refine Ops.step (One.val rfl rfl rfl (yld_or rfl (ev_t rfl) (ev_g rfl)) ?_)
  refine Ops.nil fun a hS => ?_
  refine hK3 _ _ ?_ a hS
  refine Cod.cond rfl (fun hc14 => ?_) (fun hc14 => ?_)
  · skip
    have hno : Gone t := by
      have hc := hc14
      rcases Nat.lt_or_ge 120 t.size with h | h
      · exact gone_long h
      · rw [decide_eq_false (by omega : ¬ (120 : Int) < (t.size : Int)), Bool.or_false] at hc
        have e : t = ⟨#[]⟩ := of_decide_eq_true hc
        exact gone_empty (by rw [e]; rfl)
    refine Cod.seq fun K4 hK4 => ?_
    refine Cod.region ?_
    refine Ops.step (One.buildNil pCells F0 sl44 rfl rfl rfl rfl ?_)
    intro b1 w1 hb1 F1
    refine Ops.step (One.val rfl rfl rfl (yld_assign rfl (ev_t rfl)) ?_)
    refine Ops.step (One.val rfl rfl rfl (yld_assign rfl ev_c) ?_)
    refine Ops.nil fun a hS => ?_
    refine hK4 _ _ ?_ a hS
    refine Cod.ret fun a hS => ?_
    try simp only [Exit.then, Exit.inBlock]
    exact ret2 (t := 2) (u := 3) rfl hS rfl rfl (ReadEnd.gone F1 0 rfl hno)
  · skip
    obtain ⟨h120, hpos⟩ : t.size ≤ 120 ∧ 0 < t.size := by
      have hc := hc14
      rw [Bool.or_eq_false_iff] at hc
      obtain ⟨hc1, hc2⟩ := hc
      have h2 := of_decide_eq_false hc2
      have h1 := of_decide_eq_false hc1
      refine ⟨by omega, ?_⟩
      rcases Nat.eq_zero_or_pos t.size with h | h
      · exact absurd (data_inj (show t.data.toList = [] from List.eq_nil_of_length_eq_zero (by rw [txt_len]; exact h))) h1
      · exact h
    refine Cod.skip fun a hS => ?_
    refine hK2 _ _ ?_ a hS
    refine Cod.seq fun K5 hK5 => ?_
    refine Cod.region ?_
    refine Ops.step (One.buildNil pCells F0 sl44 rfl rfl rfl rfl ?_)
    intro b2 w2 hb2 F2
    refine Ops.step (One.val rfl rfl rfl (yld_assign rfl (ev_t rfl)) ?_)
    refine Ops.nil fun a hS => ?_
    refine hK5 _ _ ?_ a hS
    refine Cod.seq fun K6 hK6 => ?_
    refine Cod.region ?_
    refine Ops.step (One.val rfl rfl rfl (yld_move rfl (ev_t rfl)) ?_)
    refine Ops.step (One.val rfl rfl rfl (yld_build (cells := [.string t, .int .i64 ((0 : Nat) : Int)]) rfl (evp1 (ev_t rfl)) (by kernel_rfl)) ?_)
    refine Ops.step (One.box F2 rfl rfl rfl rfl (ev_t rfl) ?_)
    intro b3 w3 hb3 F3
    change Fr _ _ [blk _ _ [_, _], _] _ at F3
    refine Ops.step (One.val rfl rfl rfl (yld_assign rfl (ev_t rfl)) ?_)
    refine Ops.nil fun a hS => ?_
    refine hK6 _ _ ?_ a hS
    refine Cod.seq fun K7 hK7 => ?_
    refine Cod.region ?_
    refine Ops.step (One.val rfl rfl rfl (yld_move rfl (ev_t rfl)) ?_)
    refine Ops.step (One.call rfl rfl rfl (ent_f rfl (evl2 (ev_t rfl) ev_c) (enters en54)) (skip_ct 36 t 0 _ _ (F3.get 0 rfl) (Nat.zero_le _) ht) (fun e w4 hw4 => ?_))
    obtain ⟨rfl, C4, hb5⟩ := hw4
    have F4 := F3.upd 0 rfl C4 (fun _ hk => .inl hk) (rdr _ t _) hb5 (fun _ hk => .inl hk)
    change Fr _ _ [_, _] _ at F4
    refine ⟨_, rfl, ?_⟩
    refine Ops.nil fun a hS => ?_
    refine hK7 _ _ ?_ a hS
    refine Cod.seq fun K8 hK8 => ?_
    refine Cod.block ?_
    have F5 := F4.pull 0 rfl
    have F6 := F5.pull 1 rfl
    refine Cod.loop (fun i : Nat × List Stp × Value => [(0, true, .string t), (4, true, i.2.2), (5, true, .pointer (some ⟨b3, 0, none⟩))]) (fun i w' => i.1 ≤ t.size ∧ i.2.1.length ≤ i.1 ∧ keysLe i.2.1 120 ∧ Pre t i.2.1 i.1 ∧ Fr No w [own 61 3 i.2.2 i.2.1.length (i.2.1.flatMap pCells), rdr b3 t i.1] w') (fun i => t.size - i.1) (if hd (t.data.toList.drop 0) 36 = true then 0 + 1 else 0, [], .slice (some ⟨b2, 0, none⟩) 0 0) ⟨rfl, rfl, rfl, trivial⟩ ⟨Nat.le_trans (show (if hd (t.data.toList.drop 0) 36 = true then 0 + 1 else 0) ≤ 1 by split <;> decide) hpos, Nat.zero_le _, keysLe.nil _, Pre.start t, F6⟩ ?_
    intro i w5 hW K9 hK9
    obtain ⟨j, p, pv⟩ := i
    obtain ⟨hjs, hpl, hpk, hpre, F7⟩ := hW
    dsimp only at *
    obtain ⟨pA, pm, pc, rfl⟩ := own_form (F7.get 0 rfl)
    obtain rfl := own_len (F7.get 0 rfl) rfl
    refine Cod.seq fun K10 hK10 => ?_
    refine Cod.seq fun K11 hK11 => ?_
    refine Cod.region ?_
    refine Ops.step (One.val rfl rfl rfl (yld_move rfl (ev_t rfl)) ?_)
    refine Ops.step (One.val rfl rfl rfl (yld_nilCheck rfl (ev_t rfl)) ?_)
    refine Ops.step (One.val rfl rfl rfl (yld_field fi85_1 rfl (ev_t rfl)) ?_)
    refine Ops.step (One.val rfl rfl rfl (yld_load1 on3 rfl (ev_t rfl) (fun _ => F7.cell 1 rfl rfl)) ?_)
    refine Ops.step (One.val rfl rfl rfl (yld_move rfl (ev_t rfl)) ?_)
    refine Ops.step (One.val rfl rfl rfl (yld_slen st9 rfl (ev_t rfl)) ?_)
    refine Ops.step (One.val rfl rfl rfl (yld_lss rfl (ev_t rfl) (ev_t rfl)) ?_)
    refine Ops.step (One.val rfl rfl rfl (yld_move rfl (ev_t rfl)) ?_)
    refine Ops.step (One.val (gd_some rfl rfl) rfl rfl (yld_move rfl (ev_t rfl)) ?_)
    refine Ops.step (One.val (gd_some rfl rfl) rfl rfl (yld_len sl44 rfl (ev_g rfl)) ?_)
    refine Ops.step (One.val (gd_some rfl rfl) rfl rfl (yld_leq rfl (ev_g rfl) ev_c) ?_)
    refine Ops.step (One.val rfl rfl rfl (yld_and rfl (ev_t rfl) (ev_g rfl)) ?_)
    refine Ops.nil fun a hS => ?_
    refine hK11 _ _ ?_ a hS
    refine Cod.cond rfl (fun hc33 => ?_) (fun hc33 => ?_)
    · skip
      obtain ⟨hj, hp6⟩ : j < t.size ∧ p.length ≤ 6 := by
        have hc := hc33
        simp at hc
        omega
      refine Cod.skip fun a hS => ?_
      refine hK10 _ _ ?_ a hS
      refine Cod.block ?_
      refine Cod.block ?_
      refine Cod.seq fun K12 hK12 => ?_
      refine Cod.region ?_
      refine Ops.step (One.val rfl rfl rfl (yld_move rfl (ev_t rfl)) ?_)
      refine Ops.step (One.call rfl rfl rfl (ent_f rfl (evl2 (ev_t rfl) ev_c) (enters en54)) (skip_ct 46 t j _ _ (F7.get 1 rfl) hjs ht) (fun e w6 hw6 => ?_))
      obtain ⟨rfl, C6, hb8⟩ := hw6
      have F8 := F7.upd 1 rfl C6 (fun _ hk => .inl hk) (rdr _ t _) hb8 (fun _ hk => .inl hk)
      change Fr _ _ [_, _] _ at F8
      refine ⟨_, rfl, ?_⟩
      refine Ops.step (One.val rfl rfl rfl (yld_assign rfl (ev_t rfl)) ?_)
      refine Ops.nil fun a hS => ?_
      refine hK12 _ _ ?_ a hS
      refine Cod.cond rfl (fun hc35 => ?_) (fun hc35 => ?_)
      · skip
        have h46 := hc35
        rw [if_pos h46] at F8
        have hj1 := hd_lt h46
        obtain ⟨n1, hn1⟩ : ∃ n, upN [46, 91] (t.data.toList.drop (j + 1)) = n := ⟨_, rfl⟩
        have hn1l := upN_le [46, 91] (t.data.toList.drop (j + 1))
        rw [hn1, List.length_drop, txt_len] at hn1l
        have hst0 := rdI_dot h46 hn1
        refine Cod.region ?_
        refine Ops.step (One.val rfl rfl rfl (yld_move rfl (ev_t rfl)) ?_)
        refine Ops.step (One.val rfl rfl rfl (yld_move rfl (ev_t rfl)) ?_)
        refine Ops.step (One.call rfl rfl rfl (ent_f rfl (evl2 (ev_t rfl) ev_c) (enters en55)) (upToN_ct ⟨#[46, 91]⟩ [46, 91] rfl t (j + 1) n1 _ hn1 _ (F8.get 1 rfl) hj1 ht) (fun e w7 hw7 => ?_))
        obtain ⟨rfl, C7, hb9⟩ := hw7
        have F9 := F8.upd 1 rfl C7 (fun _ hk => .inl hk) (rdr _ t _) hb9 (fun _ hk => .inl hk)
        change Fr _ _ [_, _] _ at F9
        refine ⟨_, rfl, ?_⟩
        refine Ops.step (One.val rfl rfl rfl (yld_build (cells := (pCells (⟨true, t.extract (j + 1) (j + 1 + n1), 0⟩ : Stp))) rfl (evp2 ev_c (ev_t rfl)) (by kernel_rfl)) ?_)
        refine Ops.step (One.buildSlice (cells := (pCells (⟨true, t.extract (j + 1) (j + 1 + n1), 0⟩ : Stp))) F9 sl44 zero61 rfl rfl rfl rfl (evp1 (ev_t rfl)) rfl rfl (by kernel_rfl) ?_)
        intro b4 w8 hb4 F10
        refine Ops.step (One.append (enc := pCells) [(⟨true, t.extract (j + 1) (j + 1 + n1), 0⟩ : Stp)] F10 1 rfl sl44 zero61 rfl rfl (fun _ => rfl) rfl rfl rfl rfl (ev_t rfl) (ev_t rfl) ((blk_rep (enc := pCells) (sz := 3) (xs := [(⟨true, t.extract (j + 1) (j + 1 + n1), 0⟩ : Stp)]) (fun _ => rfl) (by simpa using F10.get 0 rfl) (by simp) (by simp)).weak fun _ _ => trivial) (fun _ _ => rfl) (by simp; omega) (by simp; omega) ?_)
        intro u9 w9 hu9 F11
        change Fr _ _ [_, _, blk _ _ [_, _]] _ at F11
        refine Ops.step (One.val rfl rfl rfl (yld_assign rfl (ev_t rfl)) ?_)
        refine Ops.nil fun a hS => ?_
        have F12 := F11.pull 2 rfl
        have F13 := F12.pull 2 rfl
        have F14 := F13.erase 2
        have hnx := hpre.next reads_impl hj hst0
        have hkl := rdI_le hst0
        rw [List.length_drop, txt_len] at hkl
        have e2 := (show j + (1 + n1) = j + 1 + n1 by omega)
        rw [e2] at hnx
        exact hK9 (j + 1 + n1, p ++ [(⟨true, t.extract (j + 1) (j + 1 + n1), 0⟩ : Stp)], _) _ a (hS.sub ⟨rfl, rfl, rfl, trivial⟩) ⟨by show j + 1 + n1 ≤ _; omega, by simp; omega, hpk.snoc (Nat.le_trans hkl.2.2 (by omega)), hnx, F14⟩ (by show t.size - (j + 1 + n1) < t.size - j; omega)
      · skip
        have h46 := hc35
        rw [if_neg (by rw [h46]; simp)] at F8
        refine Cod.seq fun K13 hK13 => ?_
        refine Cod.region ?_
        refine Ops.step (One.val rfl rfl rfl (yld_move rfl (ev_t rfl)) ?_)
        refine Ops.step (One.call rfl rfl rfl (ent_f rfl (evl2 (ev_t rfl) ev_c) (enters en54)) (skip_ct 91 t j _ _ (F8.get 1 rfl) hjs ht) (fun e w10 hw10 => ?_))
        obtain ⟨rfl, C10, hb10⟩ := hw10
        have F15 := F8.upd 1 rfl C10 (fun _ hk => .inl hk) (rdr _ t _) hb10 (fun _ hk => .inl hk)
        change Fr _ _ [_, _] _ at F15
        refine ⟨_, rfl, ?_⟩
        refine Ops.step (One.val rfl rfl rfl (yld_assign rfl (ev_t rfl)) ?_)
        refine Ops.nil fun a hS => ?_
        refine hK13 _ _ ?_ a hS
        refine Cod.cond rfl (fun hc44 => ?_) (fun hc44 => ?_)
        · skip
          have h91 := hc44
          rw [if_pos h91] at F15
          have hj1 := hd_lt h91
          obtain ⟨n2, hn2⟩ : ∃ n, upN [93] (t.data.toList.drop (j + 1)) = n := ⟨_, rfl⟩
          have hn2l := upN_le [93] (t.data.toList.drop (j + 1))
          rw [hn2, List.length_drop, txt_len] at hn2l
          obtain ⟨z, hz⟩ : ∃ z, atoiV (t.extract (j + 1) (j + 1 + n2)).data.toList = z := ⟨_, rfl⟩
          have hst0 := rdI_num h46 h91 hn2 hz
          refine Cod.seq fun K14 hK14 => ?_
          refine Cod.region ?_
          refine Ops.step (One.val rfl rfl rfl (yld_move rfl (ev_t rfl)) ?_)
          refine Ops.step (One.call rfl rfl rfl (ent_f rfl (evl2 (ev_t rfl) ev_c) (enters en55)) (upToN_ct ⟨#[93]⟩ [93] rfl t (j + 1) n2 _ hn2 _ (F15.get 1 rfl) hj1 ht) (fun e w11 hw11 => ?_))
          obtain ⟨rfl, C11, hb11⟩ := hw11
          have F16 := F15.upd 1 rfl C11 (fun _ hk => .inl hk) (rdr _ t _) hb11 (fun _ hk => .inl hk)
          change Fr _ _ [_, _] _ at F16
          refine ⟨_, rfl, ?_⟩
          refine Ops.step (One.call rfl rfl rfl (ent_f rfl (evl1 (ev_t rfl)) (enters en56)) (atoi_ct (t.extract (j + 1) (j + 1 + n2)) (by rw [ByteArray.size_extract]; omega) _ (hE.chg F16.chg)) (fun e w12 hw12 => ?_))
          obtain ⟨ev, rfl, C12⟩ := hw12
          rw [hz]
          have F17 := F16.call C12
          refine ⟨_, rfl, ?_⟩
          refine Ops.step (One.val rfl rfl rfl (yld_move rfl (ev_t rfl)) ?_)
          refine Ops.step (One.val rfl rfl rfl (yld_extract rfl (ev_t rfl) rfl) ?_)
          refine Ops.step (One.val rfl rfl rfl (yld_extract rfl (ev_t rfl) rfl) ?_)
          refine Ops.step (One.val rfl rfl rfl (yld_assign rfl (ev_t rfl)) ?_)
          refine Ops.step (One.val rfl rfl rfl (yld_assign rfl (ev_t rfl)) ?_)
          refine Ops.nil fun a hS => ?_
          refine hK14 _ _ ?_ a hS
          refine Cod.seq fun K15 hK15 => ?_
          refine Cod.region ?_
          refine Ops.step (One.val rfl rfl rfl (yld_move rfl (ev_t rfl)) ?_)
          refine Ops.step (One.call rfl rfl rfl (ent_f rfl (evl2 (ev_t rfl) ev_c) (enters en54)) (skip_ct 93 t (j + 1 + n2) _ _ (F17.get 1 rfl) (by omega) ht) (fun e w13 hw13 => ?_))
          obtain ⟨rfl, C13, hb12⟩ := hw13
          have F18 := F17.upd 1 rfl C13 (fun _ hk => .inl hk) (rdr _ t _) hb12 (fun _ hk => .inl hk)
          change Fr _ _ [_, _] _ at F18
          refine ⟨_, rfl, ?_⟩
          refine Ops.nil fun a hS => ?_
          refine hK15 _ _ ?_ a hS
          refine Cod.region ?_
          refine Ops.step (One.val rfl rfl rfl (yld_move rfl (ev_t rfl)) ?_)
          refine Ops.step (One.val rfl rfl rfl (yld_move rfl (ev_t rfl)) ?_)
          refine Ops.step (One.val rfl rfl rfl (yld_build (cells := (pCells (⟨false, ⟨#[]⟩, z⟩ : Stp))) rfl (evp1 (ev_t rfl)) (by kernel_rfl)) ?_)
          refine Ops.step (One.buildSlice (cells := (pCells (⟨false, ⟨#[]⟩, z⟩ : Stp))) F18 sl44 zero61 rfl rfl rfl rfl (evp1 (ev_t rfl)) rfl rfl (by kernel_rfl) ?_)
          intro b5 w14 hb5 F19
          refine Ops.step (One.append (enc := pCells) [(⟨false, ⟨#[]⟩, z⟩ : Stp)] F19 1 rfl sl44 zero61 rfl rfl (fun _ => rfl) rfl rfl rfl rfl (ev_t rfl) (ev_t rfl) ((blk_rep (enc := pCells) (sz := 3) (xs := [(⟨false, ⟨#[]⟩, z⟩ : Stp)]) (fun _ => rfl) (by simpa using F19.get 0 rfl) (by simp) (by simp)).weak fun _ _ => trivial) (fun _ _ => rfl) (by simp; omega) (by simp; omega) ?_)
          intro u13 w15 hu13 F20
          change Fr _ _ [_, _, blk _ _ [_, _]] _ at F20
          refine Ops.step (One.val rfl rfl rfl (yld_assign rfl (ev_t rfl)) ?_)
          refine Ops.nil fun a hS => ?_
          have F21 := F20.pull 2 rfl
          have F22 := F21.pull 2 rfl
          have F23 := F22.erase 2
          have hnx := hpre.next reads_impl hj hst0
          have hkl := rdI_le hst0
          rw [List.length_drop, txt_len] at hkl
          have e2 := (show j + (1 + n2 + (if hd (t.data.toList.drop (j + 1 + n2)) 93 = true then 1 else 0)) = (if hd (t.data.toList.drop (j + 1 + n2)) 93 = true then j + 1 + n2 + 1 else j + 1 + n2) by split <;> omega)
          rw [e2] at hnx
          exact hK9 ((if hd (t.data.toList.drop (j + 1 + n2)) 93 = true then j + 1 + n2 + 1 else j + 1 + n2), p ++ [(⟨false, ⟨#[]⟩, z⟩ : Stp)], _) _ a (hS.sub ⟨rfl, rfl, rfl, trivial⟩) ⟨by show (if hd (t.data.toList.drop (j + 1 + n2)) 93 = true then j + 1 + n2 + 1 else j + 1 + n2) ≤ _; omega, by simp; omega, hpk.snoc (Nat.le_trans hkl.2.2 (by omega)), hnx, F23⟩ (by show t.size - ((if hd (t.data.toList.drop (j + 1 + n2)) 93 = true then j + 1 + n2 + 1 else j + 1 + n2)) < t.size - j; omega)
        · skip
          have h91 := hc44
          have hno : Gone t := hpre.stuck reads_impl hj (rdI_none h46 h91)
          refine Cod.seq fun K16 hK16 => ?_
          refine Cod.region ?_
          refine Ops.step (One.buildNil pCells F15 sl44 rfl rfl rfl rfl ?_)
          intro b6 w16 hb6 F24
          refine Ops.step (One.val rfl rfl rfl (yld_assign rfl (ev_t rfl)) ?_)
          refine Ops.step (One.val rfl rfl rfl (yld_assign rfl ev_c) ?_)
          refine Ops.nil fun a hS => ?_
          refine hK16 _ _ ?_ a hS
          refine Cod.ret fun a hS => ?_
          try simp only [Exit.then, Exit.inBlock]
          exact ret2 (t := 2) (u := 3) rfl hS rfl rfl (ReadEnd.gone F24 0 rfl hno)
    · skip
      have hend : t.size ≤ j ∨ 6 < p.length := by
        have hc := hc33
        simp at hc
        omega
      refine Cod.exit fun a hS => ?_
      simp only [Exit.then, Exit.inBlock, ↓reduceIte]
      refine hK8 _ _ ?_ a hS
      refine Cod.seq fun K17 hK17 => ?_
      refine Cod.seq fun K18 hK18 => ?_
      refine Cod.region ?_
      refine Ops.step (One.val rfl rfl rfl (yld_move rfl (ev_t rfl)) ?_)
      refine Ops.step (One.call rfl rfl rfl (ent_f rfl (evl1 (ev_t rfl)) (enters en20)) (pathText_ct p (hpk.up (by decide)) _ _ (ownP (F7.get 0 rfl)) (hT.chg F7.chg)) (fun e w17 hw17 => ?_))
      obtain ⟨rfl, C17⟩ := hw17
      have F25 := F7.call C17
      refine ⟨_, rfl, ?_⟩
      refine Ops.step (One.val rfl rfl rfl (yld_move rfl (ev_t rfl)) ?_)
      refine Ops.step (One.val rfl rfl rfl (yld_sneq rfl (ev_t rfl) (ev_t rfl)) ?_)
      refine Ops.nil fun a hS => ?_
      refine hK18 _ _ ?_ a hS
      refine Cod.cond rfl (fun hc63 => ?_) (fun hc63 => ?_)
      · skip
        have hlast := hpre.last hpos hend
        have hne : pathTxt p ≠ t := by
          have hc := hc63
          simpa using hc
        rw [if_neg hne] at hlast
        refine Cod.seq fun K19 hK19 => ?_
        refine Cod.region ?_
        refine Ops.step (One.buildNil pCells F25 sl44 rfl rfl rfl rfl ?_)
        intro b7 w18 hb7 F26
        refine Ops.step (One.val rfl rfl rfl (yld_assign rfl (ev_t rfl)) ?_)
        refine Ops.step (One.val rfl rfl rfl (yld_assign rfl ev_c) ?_)
        refine Ops.nil fun a hS => ?_
        refine hK19 _ _ ?_ a hS
        refine Cod.ret fun a hS => ?_
        try simp only [Exit.then, Exit.inBlock]
        exact ret2 (t := 2) (u := 3) rfl hS rfl rfl (ReadEnd.gone F26 0 rfl hlast)
      · skip
        have hlast := hpre.last hpos hend
        have heq : pathTxt p = t := by
          have hc := hc63
          simpa using hc
        rw [if_pos heq] at hlast
        refine Cod.skip fun a hS => ?_
        refine hK17 _ _ ?_ a hS
        refine Cod.seq fun K20 hK20 => ?_
        refine Cod.region ?_
        refine Ops.step (One.val rfl rfl rfl (yld_move rfl (ev_t rfl)) ?_)
        refine Ops.step (One.val rfl rfl rfl (yld_assign rfl (ev_t rfl)) ?_)
        refine Ops.step (One.val rfl rfl rfl (yld_assign rfl ev_c) ?_)
        refine Ops.nil fun a hS => ?_
        refine hK20 _ _ ?_ a hS
        refine Cod.ret fun a hS => ?_
        try simp only [Exit.then, Exit.inBlock]
        exact ret2 (t := 2) (u := 3) rfl hS rfl rfl (ReadEnd.found F25 0 rfl hlast)

end Go.Proofs.YtpfkcblhojkaiaaDoor.Eng
