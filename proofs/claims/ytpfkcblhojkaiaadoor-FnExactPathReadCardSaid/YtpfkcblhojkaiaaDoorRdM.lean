/- Walks of the program's reader of bytes, and what the library's functions give that it calls. -/
import Derived.Test.YtpfkcblhojkaiaaDoorRdS
import Derived.Test.YtpfkcblhojkaiaaDoorLaiT
namespace Go.Proofs.YtpfkcblhojkaiaaDoor.Eng
open Go.RowKit
set_option linter.unusedVariables false
set_option linter.unusedSimpArgs false
set_option maxHeartbeats 1000000


theorem Chg.same {X : Nat → Prop} {w w' : World} (h : w' = w) : Chg X w w' := by rw [h]; exact Chg.refl _ _
theorem hasP_ct (s : ByteArray) (c : UInt8) (w : World) : Calls Tryd.prog 89 #[.string s, .string ⟨#[c]⟩] w fun e w' => e = .returned (.bool (hd s.data.toList c)) ∧ Chg No w w' :=
  (Tryd.strings_HasPrefix s ⟨#[c]⟩ w).mono fun e w' ⟨he, hw⟩ => ⟨by
    rw [he]
    refine ret_b ?_
    rw [Bool.eq_iff_iff, hd_iff]
    unfold Lib.hasPrefix
    show [c].isPrefixOf _ = true ↔ _
    cases s.data.toList with
    | nil => simp
    | cons x l =>
      rw [List.isPrefixOf_cons_cons, show ([] : List UInt8).isPrefixOf l = true from rfl, Bool.and_true, beq_iff_eq, List.head?_cons, Option.some.injEq]
      exact eq_comm, Chg.same hw⟩
theorem idx_ct (s : ByteArray) (c : Int) (w : World) : Calls Tryd.prog 90 #[.string s, .int .u8 c] w fun e w' => e = .returned (.int .i64 (Lib.indexByte s.data.toList c.toNat.toUInt8)) ∧ Chg No w w' :=
  (Tryd.strings_IndexByte s c w).mono fun e w' ⟨he, hw⟩ => ⟨he, Chg.same hw⟩
/-- What the library's two errors are holds no matter: each is there. -/
def ErrAt (w : World) (n : Nat) : Prop := ∃ ev, w.cell? ⟨n, 0, none⟩ = some ev ∧ (ev = .nilIface ∨ ∃ te pe, ev = .iface te pe)
def Errs (w : World) : Prop := ErrAt w 1 ∧ ErrAt w 2
theorem ErrAt.chg {w w' : World} {n : Nat} (h : ErrAt w n) (hc : Chg No w w') : ErrAt w' n := by
  obtain ⟨ev, h1, h2⟩ := h
  exact ⟨ev, hc.cell h1 id, h2⟩
theorem Errs.chg {w w' : World} (h : Errs w) (hc : Chg No w w') : Errs w' := ⟨h.1.chg hc, h.2.chg hc⟩
theorem Chg.bytes (w : World) (e : TypeId) (s : ByteArray) : Chg No w (Lib.bytesWorld w e s) := ⟨rfl, rfl, rfl, by rw [Lib.bytesWorld_size]; omega, fun j hj _ => Lib.bytesWorld_at_old w e s j hj⟩
theorem atoi_ct (s : ByteArray) (hs : s.size ≤ 1048576) (w : World) (he : Errs w) : Calls Tryd.prog 56 #[.string s] w fun e w' => ∃ ev, e = .returned (.tuple #[.int .i64 (atoiV s.data.toList), ev]) ∧ Chg No w w' := by
  obtain ⟨⟨e1, h1, h1'⟩, e2, h2, h2'⟩ := he
  by_cases hok : ∃ v, Lib.atoiAll s.data.toList = .ok v
  · obtain ⟨v, h⟩ := hok
    have hz : atoiV s.data.toList = v := by unfold atoiV; rw [h]
    rw [hz]
    exact (Tryd.strconv_Atoi_ok s (by omega) v h w).mono fun e w' ⟨hr, hw⟩ => ⟨_, hr, hw.elim Chg.same fun ⟨t, ht⟩ => by rw [ht]; exact Chg.bytes w 5 t⟩
  · by_cases hr : Lib.atoiAll s.data.toList = .range
    · have hz : atoiV s.data.toList = Lib.atoiSat s.data.toList := by unfold atoiV; rw [hr]
      rw [hz]
      exact (Tryd.strconv_Atoi_range s (by omega) hr e2 w h2 h2').mono fun e w' ⟨N, hr, _, _, hb⟩ => ⟨_, hr, Chg.ofBelow hb⟩
    · have hno : ∀ v, Lib.atoiAll s.data.toList ≠ .ok v := fun v e => hok ⟨v, e⟩
      have hz : atoiV s.data.toList = 0 := by
        unfold atoiV
        revert hno hr
        cases Lib.atoiAll s.data.toList with
        | ok v => exact fun _ h => absurd rfl (h v)
        | range => exact fun h _ => absurd rfl h
        | _ => exact fun _ _ => rfl
      rw [hz]
      exact (Tryd.strconv_Atoi_syntax s (by omega) hno hr e1 w h1 h1').mono fun e w' ⟨N, he, _, _, hb⟩ => ⟨_, he, Chg.ofBelow hb⟩
/-- Where the program's reader stands. -/
abbrev rdr (b : Nat) (t : ByteArray) (k : Nat) : Res := blk b 85 [.string t, .int .i64 (k : Int)]
theorem drop_txt {t : ByteArray} {k : Nat} (hk : k ≤ t.size) : (t.extract k t.size).data.toList = t.data.toList.drop k := by
  rw [ext_list, List.take_of_length_le]
  rw [List.length_drop, txt_len]
  exact Nat.le_refl _

set_option maxRecDepth 100000 in
theorem skip_ct (c : UInt8) (t : ByteArray) (k bb : Nat) (w : World) (h : (rdr bb t k).is w) (hk : k ≤ t.size) (hs : t.size ≤ 1048576) : Calls Tryd.prog 54 #[.pointer (some ⟨bb, 0, none⟩), .string ⟨#[c]⟩] w fun e w' => e = .returned (.bool (hd (t.data.toList.drop k) c)) ∧ Chg (· = bb) w w' ∧ (rdr bb t (if hd (t.data.toList.drop k) c = true then k + 1 else k)).is w' := by
  have hc1 : (⟨#[c]⟩ : ByteArray).size = 1 := rfl
  refine enter Tryd.func54 rfl rfl rfl ?_
  have F0 := Fr.borrow h
  refine Cod.seq fun K1 hK1 => ?_
  refine Cod.region ?_
  refine Ops.step (One.val rfl rfl rfl (yld_assign rfl ev_c) ?_)
  refine Ops.nil fun a hS => ?_
  refine hK1 _ _ ?_ a hS
  refine Cod.seq fun K2 hK2 => ?_
  refine Cod.seq fun K3 hK3 => ?_
  have F1 := F0.drew
  refine Cod.draw (C_of F1) (by kernel_rfl) ?_
  refine Hops.take 0 rfl (by kernel_rfl) (fun _ _ _ h => h) rfl rfl rfl F1 (fun w F => (yld_move rfl (ev_t rfl))) ?_
  refine Hops.take 1 rfl (by kernel_rfl) (fun _ _ _ h => h) rfl rfl rfl F1 (fun w F => (yld_nilCheck rfl (ev_t rfl))) ?_
  refine Hops.take 2 rfl (by kernel_rfl) (fun _ _ _ h => h) rfl rfl rfl F1 (fun w F => (yld_field fi85_0 rfl (ev_t rfl))) ?_
  refine Hops.take 3 rfl (by kernel_rfl) (fun _ _ _ h => h) rfl rfl rfl F1 (fun w F => (yld_load1 on9 rfl (ev_t rfl) (fun _ => F.cell 0 rfl rfl))) ?_
  refine Hops.take 4 rfl (by kernel_rfl) (fun _ _ _ h => h) rfl rfl rfl F1 (fun w F => (yld_move rfl (ev_t rfl))) ?_
  refine Hops.take 5 rfl (by kernel_rfl) (fun _ _ _ h => h) rfl rfl rfl F1 (fun w F => (yld_nilCheck rfl (ev_t rfl))) ?_
  refine Hops.take 6 rfl (by kernel_rfl) (fun _ _ _ h => h) rfl rfl rfl F1 (fun w F => (yld_field fi85_1 rfl (ev_t rfl))) ?_
  refine Hops.take 7 rfl (by kernel_rfl) (fun _ _ _ h => h) rfl rfl rfl F1 (fun w F => (yld_load1 on3 rfl (ev_t rfl) (fun _ => F.cell 0 rfl rfl))) ?_
  refine Hops.take 8 rfl (by kernel_rfl) (fun _ _ _ h => h) rfl rfl rfl F1 (fun w F => (yld_slcSL (l := k) st9 rfl (ev_t rfl) (ev_t rfl) (fun _ => hk))) ?_
  refine Hops.take 9 rfl (by kernel_rfl) (fun _ _ _ h => h) rfl rfl rfl F1 (fun w F => (yld_move rfl (ev_t rfl))) ?_
  refine Hops.one 10 rfl (by kernel_rfl) (One.call rfl rfl rfl (ent_f rfl (evl2 (ev_t rfl) (ev_t rfl)) (enters en89)) (hasP_ct (t.extract k t.size) c _) (fun e w1 hw1 => ?_))
  obtain ⟨rfl, C1⟩ := hw1
  rw [drop_txt hk]
  have F2 := F1.call C1
  refine ⟨_, rfl, ?_⟩
  refine ⟨F2, ?_⟩
  refine Hops.nil (by kernel_rfl) fun a hS => ?_
  refine hK3 _ _ ?_ a hS
  refine Cod.cond rfl (fun hc15 => ?_) (fun hc15 => ?_)
  · skip
    have hh := hc15
    refine Cod.seq fun K4 hK4 => ?_
    refine Cod.region ?_
    refine Ops.step (One.val rfl rfl rfl (yld_move rfl (ev_t rfl)) ?_)
    refine Ops.step (One.val rfl rfl rfl (yld_nilCheck rfl (ev_t rfl)) ?_)
    refine Ops.step (One.val rfl rfl rfl (yld_field fi85_1 rfl (ev_t rfl)) ?_)
    refine Ops.step (One.val rfl rfl rfl (yld_load1 on3 rfl (ev_t rfl) (fun _ => F2.cell 0 rfl rfl)) ?_)
    refine Ops.step (One.val rfl rfl rfl (yld_move rfl (ev_t rfl)) ?_)
    refine Ops.step (One.val rfl rfl rfl (yld_slen st9 rfl (ev_t rfl)) ?_)
    refine Ops.step (One.val rfl rfl rfl (yld_add rfl (ev_t rfl) (ev_t rfl) (fun _ => by omega)) ?_)
    refine Ops.step (One.val rfl rfl rfl (yld_nilCheck rfl (ev_t rfl)) ?_)
    refine Ops.step (One.val rfl rfl rfl (yld_field fi85_1 rfl (ev_t rfl)) ?_)
    refine Ops.step (One.store1 F2 0 rfl sz3 rfl rfl rfl (ev_t rfl) rfl (ev_t rfl) rfl ?_)
    intro w2 F3
    change Fr _ _ [blk _ _ [_, _]] _ at F3
    refine Ops.nil fun a hS => ?_
    refine hK4 _ _ ?_ a hS
    refine Cod.seq fun K5 hK5 => ?_
    refine Cod.region ?_
    refine Ops.step (One.val rfl rfl rfl (yld_assign rfl ev_c) ?_)
    refine Ops.nil fun a hS => ?_
    refine hK5 _ _ ?_ a hS
    refine Cod.ret fun a hS => ?_
    try simp only [Exit.then, Exit.inBlock]
    have he : ((k : Int) + ((⟨#[c]⟩ : ByteArray).size : Int)) = ((k + 1 : Nat) : Int) := by omega
    rw [he] at F3
    exact ret1 (t := 4) rfl hS rfl ⟨by rw [hh], F3.chg, by rw [if_pos hh]; exact F3.get 0 rfl⟩
  · skip
    have hh := hc15
    refine Cod.skip fun a hS => ?_
    refine hK2 _ _ ?_ a hS
    refine Cod.seq fun K6 hK6 => ?_
    refine Cod.region ?_
    refine Ops.step (One.val rfl rfl rfl (yld_assign rfl ev_c) ?_)
    refine Ops.nil fun a hS => ?_
    refine hK6 _ _ ?_ a hS
    refine Cod.ret fun a hS => ?_
    try simp only [Exit.then, Exit.inBlock]
    exact ret1 (t := 4) rfl hS rfl ⟨by rw [hh], F2.chg, by rw [if_neg (by rw [hh]; simp)]; exact F2.get 0 rfl⟩

set_option maxRecDepth 100000 in
theorem upTo_ct (ends t : ByteArray) (k bb : Nat) (w : World) (h : (rdr bb t k).is w) (hk : k ≤ t.size) (hs : t.size ≤ 1048576) : Calls Tryd.prog 55 #[.pointer (some ⟨bb, 0, none⟩), .string ends] w fun e w' => e = .returned (.string (t.extract k (k + upN ends.data.toList (t.data.toList.drop k)))) ∧ Chg (· = bb) w w' ∧ (rdr bb t (k + upN ends.data.toList (t.data.toList.drop k))).is w' := by
  refine enter Tryd.func55 rfl rfl rfl ?_
  have F0 := Fr.borrow h
  refine Cod.seq fun K1 hK1 => ?_
  refine Cod.region ?_
  refine Ops.step (One.val rfl rfl rfl (yld_assign rfl ev_c) ?_)
  refine Ops.nil fun a hS => ?_
  refine hK1 _ _ ?_ a hS
  refine Cod.seq fun K2 hK2 => ?_
  refine Cod.region ?_
  refine Ops.step (One.val rfl rfl rfl (yld_move rfl (ev_t rfl)) ?_)
  refine Ops.step (One.val rfl rfl rfl (yld_nilCheck rfl (ev_t rfl)) ?_)
  refine Ops.step (One.val rfl rfl rfl (yld_field fi85_1 rfl (ev_t rfl)) ?_)
  refine Ops.step (One.val rfl rfl rfl (yld_load1 on3 rfl (ev_t rfl) (fun _ => F0.cell 0 rfl rfl)) ?_)
  refine Ops.step (One.val rfl rfl rfl (yld_assign rfl (ev_t rfl)) ?_)
  refine Ops.nil fun a hS => ?_
  refine hK2 _ _ ?_ a hS
  refine Cod.seq fun K3 hK3 => ?_
  refine Cod.block ?_
  refine Cod.loop (fun i : Nat => [(0, true, .pointer (some ⟨bb, 0, none⟩)), (1, true, .string ends), (5, true, .int .i64 (k : Int))]) (fun i w' => k ≤ i ∧ i ≤ t.size ∧ upN ends.data.toList (t.data.toList.drop k) = (i - k) + upN ends.data.toList (t.data.toList.drop i) ∧ Fr (· = bb) w [rdr bb t i] w') (fun i => t.size - i) k ⟨rfl, rfl, rfl, trivial⟩ ⟨Nat.le_refl _, hk, by omega, F0⟩ ?_
  intro i w1 hW K4 hK4
  obtain ⟨hki, his, hrun, F1⟩ := hW
  refine Cod.seq fun K5 hK5 => ?_
  refine Cod.seq fun K6 hK6 => ?_
  have F2 := F1.drew
  refine Cod.draw (C_of F2) (by kernel_rfl) ?_
  refine Hops.take 0 rfl (by kernel_rfl) (fun _ _ _ h => h) rfl rfl rfl F2 (fun w F => (yld_move rfl (ev_t rfl))) ?_
  refine Hops.take 1 rfl (by kernel_rfl) (fun _ _ _ h => h) rfl rfl rfl F2 (fun w F => (yld_nilCheck rfl (ev_t rfl))) ?_
  refine Hops.take 2 rfl (by kernel_rfl) (fun _ _ _ h => h) rfl rfl rfl F2 (fun w F => (yld_field fi85_1 rfl (ev_t rfl))) ?_
  refine Hops.take 3 rfl (by kernel_rfl) (fun _ _ _ h => h) rfl rfl rfl F2 (fun w F => (yld_load1 on3 rfl (ev_t rfl) (fun _ => F.cell 0 rfl rfl))) ?_
  refine Hops.take 4 rfl (by kernel_rfl) (fun _ _ _ h => h) rfl rfl rfl F2 (fun w F => (yld_move rfl (ev_t rfl))) ?_
  refine Hops.take 5 rfl (by kernel_rfl) (fun _ _ _ h => h) rfl rfl rfl F2 (fun w F => (yld_nilCheck rfl (ev_t rfl))) ?_
  refine Hops.take 6 rfl (by kernel_rfl) (fun _ _ _ h => h) rfl rfl rfl F2 (fun w F => (yld_field fi85_0 rfl (ev_t rfl))) ?_
  refine Hops.take 7 rfl (by kernel_rfl) (fun _ _ _ h => h) rfl rfl rfl F2 (fun w F => (yld_load1 on9 rfl (ev_t rfl) (fun _ => F.cell 0 rfl rfl))) ?_
  refine Hops.take 8 rfl (by kernel_rfl) (fun _ _ _ h => h) rfl rfl rfl F2 (fun w F => (yld_slen st9 rfl (ev_t rfl))) ?_
  refine Hops.take 9 rfl (by kernel_rfl) (fun _ _ _ h => h) rfl rfl rfl F2 (fun w F => (yld_lss rfl (ev_t rfl) (ev_t rfl))) ?_
  refine Hops.take 10 rfl (by kernel_rfl) (fun _ _ _ h => h) rfl rfl rfl F2 (fun w F => (yld_move rfl (ev_t rfl))) ?_
  refine Hops.take 11 rfl (by kernel_rfl) (fun _ _ _ h => h) (gd_some rfl rfl) rfl rfl F2 (fun w F => (yld_move rfl (ev_t rfl))) ?_
  refine Hops.take 12 rfl (by kernel_rfl) (fun _ _ _ h => h) (gd_some rfl rfl) rfl rfl F2 (fun w F => (yld_move rfl (ev_t rfl))) ?_
  refine Hops.take 13 rfl (by kernel_rfl) (fun _ _ _ h => h) (gd_some rfl rfl) rfl rfl F2 (fun w F => (yld_nilCheck rfl (ev_g rfl))) ?_
  refine Hops.take 14 rfl (by kernel_rfl) (fun _ _ _ h => h) (gd_some rfl rfl) rfl rfl F2 (fun w F => (yld_field fi85_0 rfl (ev_g rfl))) ?_
  refine Hops.take 15 rfl (by kernel_rfl) (fun _ _ _ h => h) (gd_some rfl rfl) rfl rfl F2 (fun w F => (yld_load1 on9 rfl (ev_g rfl) (fun _ => F.cell 0 rfl rfl))) ?_
  refine Hops.take 16 rfl (by kernel_rfl) (fun _ _ _ h => h) (gd_some rfl rfl) rfl rfl F2 (fun w F => (yld_move rfl (ev_t rfl))) ?_
  refine Hops.take 17 rfl (by kernel_rfl) (fun _ _ _ h => h) (gd_some rfl rfl) rfl rfl F2 (fun w F => (yld_nilCheck rfl (ev_g rfl))) ?_
  refine Hops.take 18 rfl (by kernel_rfl) (fun _ _ _ h => h) (gd_some rfl rfl) rfl rfl F2 (fun w F => (yld_field fi85_1 rfl (ev_g rfl))) ?_
  refine Hops.take 19 rfl (by kernel_rfl) (fun _ _ _ h => h) (gd_some rfl rfl) rfl rfl F2 (fun w F => (yld_load1 on3 rfl (ev_g rfl) (fun _ => F.cell 0 rfl rfl))) ?_
  refine Hops.take 20 rfl (by kernel_rfl) (fun _ _ _ h => h) (gd_some rfl rfl) rfl rfl F2 (fun w F => (yld_sindexG i st9 rfl (ev_g rfl) (ev_g rfl) (fun hg => by simp [gof] at hg; omega))) ?_
  refine Hops.one 21 rfl (by kernel_rfl) (One.gcall (R := Chg No w1.drew) (gd_some rfl rfl) rfl rfl (ent_f rfl (evl2 (ev_g rfl) (ev_g rfl)) (enters en90)) (Chg.refl _ _) (fun hg => idx_ct ends (byteAt t i) _) ?_)
  intro w2 C2
  have F3 := F2.call C2
  refine ⟨F3, ?_⟩
  refine Hops.take 22 rfl (by kernel_rfl) (fun _ _ _ h => h) (gd_some rfl rfl) rfl rfl F3 (fun w F => (yld_lss rfl (ev_g rfl) ev_c)) ?_
  refine Hops.take 23 rfl (by kernel_rfl) (fun _ _ _ h => h) rfl rfl rfl F3 (fun w F => (yld_and rfl (ev_t rfl) (ev_g rfl))) ?_
  refine Hops.nil (by kernel_rfl) fun a hS => ?_
  refine hK6 _ _ ?_ a hS
  refine Cod.cond rfl (fun hc33 => ?_) (fun hc33 => ?_)
  · skip
    have hi : i < t.size := by
      have h := hc33
      simp at h
      omega
    obtain ⟨c, hdc, hbc⟩ := drop_cons hi
    have hcc : (byteAt t i).toNat.toUInt8 = c := by rw [hbc, Int.toNat_natCast]; exact UInt8.ofNat_toNat
    have hgo : (!ends.data.toList.contains c) = true := by
      have h := hc33
      rw [hcc, idxB, Bool.and_eq_true] at h
      exact h.2
    have hrun2 : upN ends.data.toList (t.data.toList.drop i) = 1 + upN ends.data.toList (t.data.toList.drop (i + 1)) := by
      rw [hdc]
      exact runN_cons hgo
    refine Cod.skip fun a hS => ?_
    refine hK5 _ _ ?_ a hS
    refine Cod.block ?_
    refine Cod.region ?_
    refine Ops.step (One.val rfl rfl rfl (yld_move rfl (ev_t rfl)) ?_)
    refine Ops.step (One.val rfl rfl rfl (yld_nilCheck rfl (ev_t rfl)) ?_)
    refine Ops.step (One.val rfl rfl rfl (yld_field fi85_1 rfl (ev_t rfl)) ?_)
    refine Ops.step (One.val rfl rfl rfl (yld_load1 on3 rfl (ev_t rfl) (fun _ => F3.cell 0 rfl rfl)) ?_)
    refine Ops.step (One.val rfl rfl rfl (yld_inc rfl (ev_t rfl) (fun _ => by omega)) ?_)
    refine Ops.step (One.val rfl rfl rfl (yld_nilCheck rfl (ev_t rfl)) ?_)
    refine Ops.step (One.val rfl rfl rfl (yld_field fi85_1 rfl (ev_t rfl)) ?_)
    refine Ops.step (One.store1 F3 0 rfl sz3 rfl rfl rfl (ev_t rfl) rfl (ev_t rfl) rfl ?_)
    intro w3 F4
    change Fr _ _ [blk _ _ [_, _]] _ at F4
    refine Ops.nil fun a hS => ?_
    exact hK4 (i + 1) _ a (hS.sub ⟨rfl, rfl, rfl, trivial⟩) ⟨by omega, by omega, by omega, F4⟩ (by omega)
  · skip
    have hend : upN ends.data.toList (t.data.toList.drop i) = 0 := by
      rcases Nat.lt_or_ge i t.size with hi | hi
      · obtain ⟨c, hdc, hbc⟩ := drop_cons hi
        have hcc : (byteAt t i).toNat.toUInt8 = c := by rw [hbc, Int.toNat_natCast]; exact UInt8.ofNat_toNat
        rw [hdc]
        refine runN_stop ?_
        have h := hc33
        rw [hcc, idxB, decide_eq_true (by omega), Bool.true_and] at h
        exact h
      · rw [drop_end hi]
        rfl
    obtain rfl : i = k + upN ends.data.toList (t.data.toList.drop k) := by omega
    refine Cod.exit fun a hS => ?_
    simp only [Exit.then, Exit.inBlock, ↓reduceIte]
    refine hK3 _ _ ?_ a hS
    refine Cod.seq fun K7 hK7 => ?_
    have F5 := F3.drew
    refine Cod.draw (C_of F5) (by kernel_rfl) ?_
    refine Hops.take 0 rfl (by kernel_rfl) (fun _ _ _ h => h) rfl rfl rfl F5 (fun w F => (yld_move rfl (ev_t rfl))) ?_
    refine Hops.take 1 rfl (by kernel_rfl) (fun _ _ _ h => h) rfl rfl rfl F5 (fun w F => (yld_nilCheck rfl (ev_t rfl))) ?_
    refine Hops.take 2 rfl (by kernel_rfl) (fun _ _ _ h => h) rfl rfl rfl F5 (fun w F => (yld_field fi85_0 rfl (ev_t rfl))) ?_
    refine Hops.take 3 rfl (by kernel_rfl) (fun _ _ _ h => h) rfl rfl rfl F5 (fun w F => (yld_load1 on9 rfl (ev_t rfl) (fun _ => F.cell 0 rfl rfl))) ?_
    refine Hops.take 4 rfl (by kernel_rfl) (fun _ _ _ h => h) rfl rfl rfl F5 (fun w F => (yld_move rfl (ev_t rfl))) ?_
    refine Hops.take 5 rfl (by kernel_rfl) (fun _ _ _ h => h) rfl rfl rfl F5 (fun w F => (yld_move rfl (ev_t rfl))) ?_
    refine Hops.take 6 rfl (by kernel_rfl) (fun _ _ _ h => h) rfl rfl rfl F5 (fun w F => (yld_nilCheck rfl (ev_t rfl))) ?_
    refine Hops.take 7 rfl (by kernel_rfl) (fun _ _ _ h => h) rfl rfl rfl F5 (fun w F => (yld_field fi85_1 rfl (ev_t rfl))) ?_
    refine Hops.take 8 rfl (by kernel_rfl) (fun _ _ _ h => h) rfl rfl rfl F5 (fun w F => (yld_load1 on3 rfl (ev_t rfl) (fun _ => F.cell 0 rfl rfl))) ?_
    refine Hops.take 9 rfl (by kernel_rfl) (fun _ _ _ h => h) rfl rfl rfl F5 (fun w F => (yld_slcS st9 rfl (ev_t rfl) (ev_t rfl) (ev_t rfl) (by omega) (by omega))) ?_
    refine Hops.one 10 rfl (by kernel_rfl) (One.val rfl rfl rfl (yld_assign rfl (ev_t rfl)) ?_)
    refine ⟨F5, ?_⟩
    refine Hops.nil (by kernel_rfl) fun a hS => ?_
    refine hK7 _ _ ?_ a hS
    refine Cod.ret fun a hS => ?_
    try simp only [Exit.then, Exit.inBlock]
    exact ret1 (t := 4) rfl hS rfl ⟨rfl, F5.chg, F5.get 0 rfl⟩


theorem upToN_ct (ends : ByteArray) (l : List UInt8) (hl : ends.data.toList = l) (t : ByteArray) (k n bb : Nat) (hn : upN l (t.data.toList.drop k) = n) (w : World) (h : (rdr bb t k).is w) (hk : k ≤ t.size) (hs : t.size ≤ 1048576) : Calls Tryd.prog 55 #[.pointer (some ⟨bb, 0, none⟩), .string ends] w fun e w' => e = .returned (.string (t.extract k (k + n))) ∧ Chg (· = bb) w w' ∧ (rdr bb t (k + n)).is w' := by
  subst hl
  subst hn
  exact upTo_ct ends t k bb w h hk hs

end Go.Proofs.YtpfkcblhojkaiaaDoor.Eng
