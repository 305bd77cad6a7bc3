/- Walks of the reader that draws: a number below a bound, one of a list; a drawn tree without parts. -/
import Derived.Test.YtpfkcblhojkaiaaDoorRd
namespace Go.Proofs.YtpfkcblhojkaiaaDoor.Eng
open Go.RowKit
set_option linter.unusedVariables false
set_option linter.unusedSimpArgs false
set_option maxHeartbeats 1000000

set_option maxRecDepth 100000 in
theorem pick_ct (n : Nat) (bb : Nat) (cv : Value) (lim : Nat) (w : World) (hcode : Code bb w cv) (hr : (rd bb cv lim).is w) (hlim : lim ≤ 1099511627776) (hn : 1 ≤ n ∧ n ≤ 1000000) :
    Calls Tryd.prog 95 #[.pointer (some ⟨bb, 0, none⟩), .int .i64 (n : Int)] w fun e w' => ∃ r : Nat, e = .returned (.int .i64 (r : Int)) ∧ Chg (· = bb) w w' ∧ (rd bb cv (lim + 1)).is w' ∧ r < n := by
  obtain ⟨code, hcd⟩ := id hcode
  obtain ⟨p, hp, hbk⟩ := id hr
  obtain ⟨A, c, rfl, hcl⟩ := hcd.open
  have hbk' : (blk bb 118 [.slice A code.length c, .int .i64 (p : Int)]).is w := hbk
  refine enter Tryd.func95 rfl rfl rfl ?_
  have F0 := Fr.borrow hbk'
  refine Cod.seq fun K1 hK1 => ?_
  refine Cod.region ?_
  refine Ops.step (One.val rfl rfl rfl (yld_assign rfl ev_c) ?_)
  refine Ops.nil fun a hS => ?_
  refine hK1 _ _ ?_ a hS
  refine Cod.seq fun K2 hK2 => ?_
  refine Cod.region ?_
  refine Ops.step (One.val rfl rfl rfl (yld_move rfl (ev_t rfl)) ?_)
  refine Ops.step (One.val rfl rfl rfl (yld_move rfl (ev_t rfl)) ?_)
  refine Ops.step (One.val rfl rfl rfl (yld_nilCheck rfl (ev_t rfl)) ?_)
  refine Ops.step (One.val rfl rfl rfl (yld_field fi118_1 rfl (ev_t rfl)) ?_)
  refine Ops.step (One.val rfl rfl rfl (yld_load1 on3 rfl (ev_t rfl) (fun _ => F0.cell 0 rfl rfl)) ?_)
  refine Ops.step (One.val rfl rfl rfl (yld_inc rfl (ev_t rfl) (fun _ => by omega)) ?_)
  refine Ops.step (One.val rfl rfl rfl (yld_nilCheck rfl (ev_t rfl)) ?_)
  refine Ops.step (One.val rfl rfl rfl (yld_field fi118_1 rfl (ev_t rfl)) ?_)
  refine Ops.step (One.store1 F0 0 rfl sz3 rfl rfl rfl (ev_t rfl) rfl (ev_t rfl) rfl ?_)
  intro w1 F1
  change Fr _ _ [blk _ _ [_, _]] _ at F1
  refine Ops.nil fun a hS => ?_
  refine hK2 _ _ ?_ a hS
  refine Cod.seq fun K3 hK3 => ?_
  refine Cod.seq fun K4 hK4 => ?_
  refine Cod.region ?_
  refine Ops.step (One.val rfl rfl rfl (yld_move rfl (ev_t rfl)) ?_)
  refine Ops.step (One.val rfl rfl rfl (yld_lss rfl (ev_t rfl) ev_c) ?_)
  refine Ops.step (One.val rfl rfl rfl (yld_move rfl (ev_t rfl)) ?_)
  refine Ops.step (One.val (gd_some rfl rfl) rfl rfl (yld_move rfl (ev_t rfl)) ?_)
  refine Ops.step (One.val (gd_some rfl rfl) rfl rfl (yld_nilCheck rfl (ev_g rfl)) ?_)
  refine Ops.step (One.val (gd_some rfl rfl) rfl rfl (yld_field fi118_0 rfl (ev_g rfl)) ?_)
  refine Ops.step (One.val (gd_some rfl rfl) rfl rfl (yld_load1 on57 rfl (ev_g rfl) (fun _ => F1.cell 0 rfl rfl)) ?_)
  refine Ops.step (One.val (gd_some rfl rfl) rfl rfl (yld_len sl57 rfl (ev_g rfl)) ?_)
  refine Ops.step (One.val (gd_some rfl rfl) rfl rfl (yld_eql rfl (ev_g rfl) ev_c) ?_)
  refine Ops.step (One.val rfl rfl rfl (yld_or rfl (ev_t rfl) (ev_g rfl)) ?_)
  refine Ops.nil fun a hS => ?_
  refine hK4 _ _ ?_ a hS
  refine Cod.cond rfl (fun hc24 => ?_) (fun hc24 => ?_)
  · skip
    skip
    refine Cod.seq fun K5 hK5 => ?_
    refine Cod.region ?_
    refine Ops.step (One.val rfl rfl rfl (yld_assign rfl ev_c) ?_)
    refine Ops.nil fun a hS => ?_
    refine hK5 _ _ ?_ a hS
    refine Cod.ret fun a hS => ?_
    try simp only [Exit.then, Exit.inBlock]
    exact ret1 (t := 4) rfl hS rfl ⟨0, rfl, F1.chg, ⟨p + 1, by omega, F1.get 0 rfl⟩, by omega⟩
  · skip
    have hm : 0 < code.length := by
      rcases Nat.eq_zero_or_pos code.length with h | h
      · simp [h] at hc24
      · exact h
    refine Cod.skip fun a hS => ?_
    refine hK3 _ _ ?_ a hS
    refine Cod.seq fun K6 hK6 => ?_
    refine Cod.region ?_
    refine Ops.step (One.val rfl rfl rfl (yld_move rfl (ev_t rfl)) ?_)
    refine Ops.step (One.val rfl rfl rfl (yld_nilCheck rfl (ev_t rfl)) ?_)
    refine Ops.step (One.val rfl rfl rfl (yld_field fi118_1 rfl (ev_t rfl)) ?_)
    refine Ops.step (One.val rfl rfl rfl (yld_load1 on3 rfl (ev_t rfl) (fun _ => F1.cell 0 rfl rfl)) ?_)
    refine Ops.step (One.val rfl rfl rfl (yld_sub rfl (ev_t rfl) ev_c (fun _ => by omega)) ?_)
    refine Ops.step (One.val rfl rfl rfl (yld_assign rfl (ev_t rfl)) ?_)
    refine Ops.nil fun a hS => ?_
    refine hK6 _ _ ?_ a hS
    refine Cod.seq fun K7 hK7 => ?_
    refine Cod.seq fun K8 hK8 => ?_
    have hk : ((p + 1 : Nat) : Int) - 1 = (p : Int) := by omega
    rw [hk]
    refine Cod.region ?_
    refine Ops.step (One.val rfl rfl rfl (yld_move rfl (ev_t rfl)) ?_)
    refine Ops.step (One.val rfl rfl rfl (yld_move rfl (ev_t rfl)) ?_)
    refine Ops.step (One.val rfl rfl rfl (yld_nilCheck rfl (ev_t rfl)) ?_)
    refine Ops.step (One.val rfl rfl rfl (yld_field fi118_0 rfl (ev_t rfl)) ?_)
    refine Ops.step (One.val rfl rfl rfl (yld_load1 on57 rfl (ev_t rfl) (fun _ => F1.cell 0 rfl rfl)) ?_)
    refine Ops.step (One.val rfl rfl rfl (yld_len sl57 rfl (ev_t rfl)) ?_)
    refine Ops.step (One.val rfl rfl rfl (yld_lss rfl (ev_t rfl) (ev_t rfl)) ?_)
    refine Ops.nil fun a hS => ?_
    refine hK8 _ _ ?_ a hS
    refine Cod.cond rfl (fun hc36 => ?_) (fun hc36 => ?_)
    · skip
      have hpl : p < code.length := by simpa using hc36
      obtain ⟨b, o, rfl, hF, hr1⟩ := hcd.at p hpl
      obtain ⟨q, hq, hq2⟩ : ∃ q : Nat, q = code[p].toNat ∧ q < 256 := ⟨_, rfl, code[p].toNat_lt⟩
      have hr1 : w.rangeAt b (o + p * 1) [.int .u8 (q : Int)] := by rw [hq]; exact hr1
      refine Cod.seq fun K9 hK9 => ?_
      refine Cod.region ?_
      refine Ops.step (One.val rfl rfl rfl (yld_move rfl (ev_t rfl)) ?_)
      refine Ops.step (One.val rfl rfl rfl (yld_nilCheck rfl (ev_t rfl)) ?_)
      refine Ops.step (One.val rfl rfl rfl (yld_field fi118_0 rfl (ev_t rfl)) ?_)
      refine Ops.step (One.val rfl rfl rfl (yld_load1 on57 rfl (ev_t rfl) (fun _ => F1.cell 0 rfl rfl)) ?_)
      refine Ops.step (One.val rfl rfl rfl (yld_move rfl (ev_t rfl)) ?_)
      refine Ops.step (One.val rfl rfl rfl (yld_indexN sl57 rfl (ev_t rfl) (ev_t rfl) (fun _ => by omega)) ?_)
      refine Ops.step (One.val rfl rfl rfl (yld_load1 on5 rfl (ev_t rfl) (fun _ => rangeAt_cell (rng_chg hr1 F1.chg hF) (j := 0) rfl)) ?_)
      refine Ops.step (One.val rfl rfl rfl (yld_convI Tryd.underlying5 Tryd.underlying3 rfl (ev_t rfl) (by omega)) ?_)
      refine Ops.step (One.val rfl rfl rfl (yld_move rfl (ev_t rfl)) ?_)
      refine Ops.step (One.val rfl rfl rfl (yld_rem rfl (ev_t rfl) (ev_t rfl) (by omega)) ?_)
      refine Ops.step (One.val rfl rfl rfl (yld_assign rfl (ev_t rfl)) ?_)
      refine Ops.nil fun a hS => ?_
      refine hK9 _ _ ?_ a hS
      refine Cod.ret fun a hS => ?_
      try simp only [Exit.then, Exit.inBlock]
      exact ret1 (t := 4) rfl hS rfl ⟨q % n, rfl, F1.chg, ⟨p + 1, by omega, F1.get 0 rfl⟩, Nat.mod_lt _ (by omega)⟩
    · skip
      have hi1 : p % code.length < code.length := Nat.mod_lt _ hm
      have hi2 : (p * 7 + 3) % code.length < code.length := Nat.mod_lt _ hm
      obtain ⟨b, o, rfl, hF, hr1⟩ := hcd.at _ hi1
      obtain ⟨b2, o2, e2, hF2, hr2⟩ := hcd.at _ hi2
      obtain ⟨rfl, rfl⟩ : b = b2 ∧ o = o2 := by simpa using e2
      obtain ⟨q1, hq1, hq1b⟩ : ∃ q : Nat, q = (code[p % code.length]).toNat ∧ q < 256 := ⟨_, rfl, UInt8.toNat_lt _⟩
      obtain ⟨q2, hq2, hq2b⟩ : ∃ q : Nat, q = (code[(p * 7 + 3) % code.length]).toNat ∧ q < 256 := ⟨_, rfl, UInt8.toNat_lt _⟩
      have hr1 : w.rangeAt b (o + p % code.length * 1) [.int .u8 (q1 : Int)] := by rw [hq1]; exact hr1
      have hr2 : w.rangeAt b (o + (p * 7 + 3) % code.length * 1) [.int .u8 (q2 : Int)] := by rw [hq2]; exact hr2
      obtain ⟨dq, hdq, hdp⟩ : ∃ dq : Nat, p / code.length = dq ∧ dq ≤ p := ⟨_, rfl, Nat.div_le_self _ _⟩
      refine Cod.skip fun a hS => ?_
      refine hK7 _ _ ?_ a hS
      refine Cod.seq fun K10 hK10 => ?_
      have F2 := F1.drew
      refine Cod.draw (C_of F2) (by kernel_rfl) ?_
      refine Hops.take 0 rfl (by kernel_rfl) (fun _ _ _ h => h) rfl rfl rfl F2 (fun w F => (yld_move rfl (ev_t rfl))) ?_
      refine Hops.take 1 rfl (by kernel_rfl) (fun _ _ _ h => h) rfl rfl rfl F2 (fun w F => (yld_nilCheck rfl (ev_t rfl))) ?_
      refine Hops.take 2 rfl (by kernel_rfl) (fun _ _ _ h => h) rfl rfl rfl F2 (fun w F => (yld_field fi118_0 rfl (ev_t rfl))) ?_
      refine Hops.take 3 rfl (by kernel_rfl) (fun _ _ _ h => h) rfl rfl rfl F2 (fun w F => (yld_load1 on57 rfl (ev_t rfl) (fun _ => F.cell 0 rfl rfl))) ?_
      refine Hops.take 4 rfl (by kernel_rfl) (fun _ _ _ h => h) rfl rfl rfl F2 (fun w F => (yld_move rfl (ev_t rfl))) ?_
      refine Hops.take 5 rfl (by kernel_rfl) (fun _ _ _ h => h) rfl rfl rfl F2 (fun w F => (yld_move rfl (ev_t rfl))) ?_
      refine Hops.take 6 rfl (by kernel_rfl) (fun _ _ _ h => h) rfl rfl rfl F2 (fun w F => (yld_nilCheck rfl (ev_t rfl))) ?_
      refine Hops.take 7 rfl (by kernel_rfl) (fun _ _ _ h => h) rfl rfl rfl F2 (fun w F => (yld_field fi118_0 rfl (ev_t rfl))) ?_
      refine Hops.take 8 rfl (by kernel_rfl) (fun _ _ _ h => h) rfl rfl rfl F2 (fun w F => (yld_load1 on57 rfl (ev_t rfl) (fun _ => F.cell 0 rfl rfl))) ?_
      refine Hops.take 9 rfl (by kernel_rfl) (fun _ _ _ h => h) rfl rfl rfl F2 (fun w F => (yld_len sl57 rfl (ev_t rfl))) ?_
      refine Hops.take 10 rfl (by kernel_rfl) (fun _ _ _ h => h) rfl rfl rfl F2 (fun w F => (yld_rem rfl (ev_t rfl) (ev_t rfl) (by omega))) ?_
      refine Hops.take 11 rfl (by kernel_rfl) (fun _ _ _ h => h) rfl rfl rfl F2 (fun w F => (yld_indexN sl57 rfl (ev_t rfl) (ev_t rfl) (fun _ => by omega))) ?_
      refine Hops.take 12 rfl (by kernel_rfl) (fun _ _ _ h => h) rfl rfl rfl F2 (fun w F => (yld_load1 on5 rfl (ev_t rfl) (fun _ => rangeAt_cell (rng_chg hr1 F.chg hF) (j := 0) rfl))) ?_
      refine Hops.take 13 rfl (by kernel_rfl) (fun _ _ _ h => h) rfl rfl rfl F2 (fun w F => (yld_convI Tryd.underlying5 Tryd.underlying3 rfl (ev_t rfl) (by omega))) ?_
      refine Hops.take 14 rfl (by kernel_rfl) (fun _ _ _ h => h) rfl rfl rfl F2 (fun w F => (yld_mul rfl (ev_t rfl) ev_c (fun _ => by omega))) ?_
      refine Hops.take 15 rfl (by kernel_rfl) (fun _ _ _ h => h) rfl rfl rfl F2 (fun w F => (yld_move rfl (ev_t rfl))) ?_
      refine Hops.take 16 rfl (by kernel_rfl) (fun _ _ _ h => h) rfl rfl rfl F2 (fun w F => (yld_nilCheck rfl (ev_t rfl))) ?_
      refine Hops.take 17 rfl (by kernel_rfl) (fun _ _ _ h => h) rfl rfl rfl F2 (fun w F => (yld_field fi118_0 rfl (ev_t rfl))) ?_
      refine Hops.take 18 rfl (by kernel_rfl) (fun _ _ _ h => h) rfl rfl rfl F2 (fun w F => (yld_load1 on57 rfl (ev_t rfl) (fun _ => F.cell 0 rfl rfl))) ?_
      refine Hops.take 19 rfl (by kernel_rfl) (fun _ _ _ h => h) rfl rfl rfl F2 (fun w F => (yld_move rfl (ev_t rfl))) ?_
      refine Hops.take 20 rfl (by kernel_rfl) (fun _ _ _ h => h) rfl rfl rfl F2 (fun w F => (yld_mul rfl (ev_t rfl) ev_c (fun _ => by omega))) ?_
      refine Hops.take 21 rfl (by kernel_rfl) (fun _ _ _ h => h) rfl rfl rfl F2 (fun w F => (yld_add rfl (ev_t rfl) ev_c (fun _ => by omega))) ?_
      refine Hops.take 22 rfl (by kernel_rfl) (fun _ _ _ h => h) rfl rfl rfl F2 (fun w F => (yld_move rfl (ev_t rfl))) ?_
      refine Hops.take 23 rfl (by kernel_rfl) (fun _ _ _ h => h) rfl rfl rfl F2 (fun w F => (yld_nilCheck rfl (ev_t rfl))) ?_
      refine Hops.take 24 rfl (by kernel_rfl) (fun _ _ _ h => h) rfl rfl rfl F2 (fun w F => (yld_field fi118_0 rfl (ev_t rfl))) ?_
      refine Hops.take 25 rfl (by kernel_rfl) (fun _ _ _ h => h) rfl rfl rfl F2 (fun w F => (yld_load1 on57 rfl (ev_t rfl) (fun _ => F.cell 0 rfl rfl))) ?_
      refine Hops.take 26 rfl (by kernel_rfl) (fun _ _ _ h => h) rfl rfl rfl F2 (fun w F => (yld_len sl57 rfl (ev_t rfl))) ?_
      refine Hops.take 27 rfl (by kernel_rfl) (fun _ _ _ h => h) rfl rfl rfl F2 (fun w F => (yld_remI (p * 7 + 3) code.length rfl (ev_t rfl) (ev_t rfl) (by omega) rfl (by omega))) ?_
      refine Hops.take 28 rfl (by kernel_rfl) (fun _ _ _ h => h) rfl rfl rfl F2 (fun w F => (yld_indexN sl57 rfl (ev_t rfl) (ev_t rfl) (fun _ => by omega))) ?_
      refine Hops.take 29 rfl (by kernel_rfl) (fun _ _ _ h => h) rfl rfl rfl F2 (fun w F => (yld_load1 on5 rfl (ev_t rfl) (fun _ => rangeAt_cell (rng_chg hr2 F.chg hF) (j := 0) rfl))) ?_
      refine Hops.take 30 rfl (by kernel_rfl) (fun _ _ _ h => h) rfl rfl rfl F2 (fun w F => (yld_convI Tryd.underlying5 Tryd.underlying3 rfl (ev_t rfl) (by omega))) ?_
      refine Hops.take 31 rfl (by kernel_rfl) (fun _ _ _ h => h) rfl rfl rfl F2 (fun w F => (yld_mul rfl (ev_t rfl) ev_c (fun _ => by omega))) ?_
      refine Hops.take 32 rfl (by kernel_rfl) (fun _ _ _ h => h) rfl rfl rfl F2 (fun w F => (yld_add rfl (ev_t rfl) (ev_t rfl) (fun _ => by omega))) ?_
      refine Hops.take 33 rfl (by kernel_rfl) (fun _ _ _ h => h) rfl rfl rfl F2 (fun w F => (yld_move rfl (ev_t rfl))) ?_
      refine Hops.take 34 rfl (by kernel_rfl) (fun _ _ _ h => h) rfl rfl rfl F2 (fun w F => (yld_mul rfl (ev_t rfl) ev_c (fun _ => by omega))) ?_
      refine Hops.take 35 rfl (by kernel_rfl) (fun _ _ _ h => h) rfl rfl rfl F2 (fun w F => (yld_add rfl (ev_t rfl) (ev_t rfl) (fun _ => by omega))) ?_
      refine Hops.take 36 rfl (by kernel_rfl) (fun _ _ _ h => h) rfl rfl rfl F2 (fun w F => (yld_move rfl (ev_t rfl))) ?_
      refine Hops.take 37 rfl (by kernel_rfl) (fun _ _ _ h => h) rfl rfl rfl F2 (fun w F => (yld_move rfl (ev_t rfl))) ?_
      refine Hops.take 38 rfl (by kernel_rfl) (fun _ _ _ h => h) rfl rfl rfl F2 (fun w F => (yld_nilCheck rfl (ev_t rfl))) ?_
      refine Hops.take 39 rfl (by kernel_rfl) (fun _ _ _ h => h) rfl rfl rfl F2 (fun w F => (yld_field fi118_0 rfl (ev_t rfl))) ?_
      refine Hops.take 40 rfl (by kernel_rfl) (fun _ _ _ h => h) rfl rfl rfl F2 (fun w F => (yld_load1 on57 rfl (ev_t rfl) (fun _ => F.cell 0 rfl rfl))) ?_
      refine Hops.take 41 rfl (by kernel_rfl) (fun _ _ _ h => h) rfl rfl rfl F2 (fun w F => (yld_len sl57 rfl (ev_t rfl))) ?_
      refine Hops.take 42 rfl (by kernel_rfl) (fun _ _ _ h => h) rfl rfl rfl F2 (fun w F => (yld_quoQ p code.length dq hdq rfl (ev_t rfl) (ev_t rfl) rfl rfl (by omega) (by omega))) ?_
      refine Hops.take 43 rfl (by kernel_rfl) (fun _ _ _ h => h) rfl rfl rfl F2 (fun w F => (yld_mul rfl (ev_t rfl) ev_c (fun _ => by omega))) ?_
      refine Hops.take 44 rfl (by kernel_rfl) (fun _ _ _ h => h) rfl rfl rfl F2 (fun w F => (yld_add rfl (ev_t rfl) (ev_t rfl) (fun _ => by omega))) ?_
      refine Hops.one 45 rfl (by kernel_rfl) (One.val rfl rfl rfl (yld_assign rfl (ev_t rfl)) ?_)
      refine ⟨F2, ?_⟩
      refine Hops.nil (by kernel_rfl) fun a hS => ?_
      refine hK10 _ _ ?_ a hS
      refine Cod.seq fun K11 hK11 => ?_
      obtain ⟨x, hx⟩ : ∃ x : Nat, (q1 : Int) * 131 + (q2 : Int) * 1117 + (p : Int) * 29 + (dq : Int) * 53 = (x : Int) := ⟨q1 * 131 + q2 * 1117 + p * 29 + dq * 53, by omega⟩
      have hxb : x ≤ 1000000000000000000 := by omega
      have hxd : x / 64 ≤ x := Nat.div_le_self _ _
      rw [hx]
      refine Cod.region ?_
      refine Ops.step (One.val rfl rfl rfl (yld_move rfl (ev_t rfl)) ?_)
      refine Ops.step (One.val rfl rfl rfl (yld_move rfl (ev_t rfl)) ?_)
      refine Ops.step (One.val rfl rfl rfl (yld_quoI x 64 rfl (ev_t rfl) ev_c rfl rfl (by omega) (by omega)) ?_)
      refine Ops.step (One.val rfl rfl rfl (yld_xor rfl (ev_t rfl) (ev_t rfl) (by omega) (by omega)) ?_)
      refine Ops.step (One.val rfl rfl rfl (yld_assign rfl (ev_t rfl)) ?_)
      refine Ops.nil fun a hS => ?_
      refine hK11 _ _ ?_ a hS
      refine Cod.seq fun K12 hK12 => ?_
      refine Cod.region ?_
      refine Ops.step (One.val rfl rfl rfl (yld_move rfl (ev_t rfl)) ?_)
      refine Ops.step (One.val rfl rfl rfl (yld_move rfl (ev_t rfl)) ?_)
      refine Ops.step (One.val rfl rfl rfl (yld_rem rfl (ev_t rfl) (ev_t rfl) (by omega)) ?_)
      refine Ops.step (One.val rfl rfl rfl (yld_assign rfl (ev_t rfl)) ?_)
      refine Ops.nil fun a hS => ?_
      refine hK12 _ _ ?_ a hS
      refine Cod.ret fun a hS => ?_
      try simp only [Exit.then, Exit.inBlock]
      exact ret1 (t := 4) rfl hS rfl ⟨(x ^^^ x / 64) % n, rfl, F2.chg, ⟨p + 1, by omega, F2.get 0 rfl⟩, Nat.mod_lt _ (by omega)⟩

set_option maxRecDepth 100000 in
theorem rof_ct (xs : List ByteArray) (bb : Nat) (cv lv : Value) (lim : Nat) (w : World) (hcode : Code bb w cv) (hr : (rd bb cv lim).is w) (hl : RepE sCells 1 (fun k => k ≠ bb) w xs lv) (hlim : lim ≤ 1099511627776) (h0 : 0 < xs.length) (h1 : xs.length ≤ 1000000) :
    Calls Tryd.prog 99 #[.pointer (some ⟨bb, 0, none⟩), lv] w fun e w' => ∃ s, s ∈ xs ∧ e = .returned (.string s) ∧ Chg (· = bb) w w' ∧ (rd bb cv (lim + 1)).is w' := by
  obtain ⟨A, c, rfl, hcl⟩ := hl.open
  refine enter Tryd.func99 rfl rfl rfl ?_
  have F0 := Fr.lend (rd bb cv lim) hr
  refine Cod.seq fun K1 hK1 => ?_
  refine Cod.region ?_
  refine Ops.step (One.val rfl rfl rfl (yld_assign rfl ev_c) ?_)
  refine Ops.nil fun a hS => ?_
  refine hK1 _ _ ?_ a hS
  refine Cod.seq fun K2 hK2 => ?_
  refine Cod.region ?_
  refine Ops.step (One.val rfl rfl rfl (yld_move rfl (ev_t rfl)) ?_)
  refine Ops.step (One.val rfl rfl rfl (yld_move rfl (ev_t rfl)) ?_)
  refine Ops.step (One.val rfl rfl rfl (yld_move rfl (ev_t rfl)) ?_)
  refine Ops.step (One.val rfl rfl rfl (yld_len sl22 rfl (ev_t rfl)) ?_)
  refine Ops.step (One.call rfl rfl rfl (ent_f rfl (evl2 (ev_t rfl) (ev_t rfl)) (enters en95)) (pick_ct xs.length bb cv _ _ (hcode.keep F0.chg) (F0.get 0 rfl) (by omega) (by omega)) (fun e w1 hw1 => ?_))
  obtain ⟨r, rfl, C1, hrd, hrn⟩ := hw1
  have F1 := F0.upd 0 rfl C1 (fun _ hk => .inl hk) (rd bb cv _) hrd (fun _ hk => .inl hk)
  change Fr _ _ [_] _ at F1
  obtain ⟨b, o, rfl, hF, hrr⟩ := hl.at r hrn
  refine ⟨_, rfl, ?_⟩
  refine Ops.step (One.val rfl rfl rfl (yld_indexN sl22 rfl (ev_t rfl) (ev_t rfl) (fun _ => by omega)) ?_)
  refine Ops.step (One.val rfl rfl rfl (yld_load1 on9 rfl (ev_t rfl) (fun _ => rangeAt_cell (rng_chg hrr F1.chg hF) (j := 0) rfl)) ?_)
  refine Ops.step (One.val rfl rfl rfl (yld_assign rfl (ev_t rfl)) ?_)
  refine Ops.nil fun a hS => ?_
  refine hK2 _ _ ?_ a hS
  refine Cod.ret fun a hS => ?_
  try simp only [Exit.then, Exit.inBlock]
  exact ret1 (t := 4) rfl hS rfl ⟨xs[r], List.getElem_mem _, rfl, F1.chg, F1.get 0 rfl⟩

set_option maxRecDepth 100000 in
theorem rnum_ct (xs : List Int) (bb : Nat) (cv lv : Value) (lim : Nat) (w : World) (hcode : Code bb w cv) (hr : (rd bb cv lim).is w) (hl : RepE jCells 1 (fun k => k ≠ bb) w xs lv) (hlim : lim ≤ 1099511627776) (h0 : 0 < xs.length) (h1 : xs.length ≤ 1000000) :
    Calls Tryd.prog 98 #[.pointer (some ⟨bb, 0, none⟩), lv] w fun e w' => ∃ s, s ∈ xs ∧ e = .returned (.int .i64 s) ∧ Chg (· = bb) w w' ∧ (rd bb cv (lim + 1)).is w' := by
  obtain ⟨A, c, rfl, hcl⟩ := hl.open
  refine enter Tryd.func98 rfl rfl rfl ?_
  have F0 := Fr.lend (rd bb cv lim) hr
  refine Cod.seq fun K1 hK1 => ?_
  refine Cod.region ?_
  refine Ops.step (One.val rfl rfl rfl (yld_assign rfl ev_c) ?_)
  refine Ops.nil fun a hS => ?_
  refine hK1 _ _ ?_ a hS
  refine Cod.seq fun K2 hK2 => ?_
  refine Cod.region ?_
  refine Ops.step (One.val rfl rfl rfl (yld_move rfl (ev_t rfl)) ?_)
  refine Ops.step (One.val rfl rfl rfl (yld_move rfl (ev_t rfl)) ?_)
  refine Ops.step (One.val rfl rfl rfl (yld_move rfl (ev_t rfl)) ?_)
  refine Ops.step (One.val rfl rfl rfl (yld_len sl108 rfl (ev_t rfl)) ?_)
  refine Ops.step (One.call rfl rfl rfl (ent_f rfl (evl2 (ev_t rfl) (ev_t rfl)) (enters en95)) (pick_ct xs.length bb cv _ _ (hcode.keep F0.chg) (F0.get 0 rfl) (by omega) (by omega)) (fun e w1 hw1 => ?_))
  obtain ⟨r, rfl, C1, hrd, hrn⟩ := hw1
  have F1 := F0.upd 0 rfl C1 (fun _ hk => .inl hk) (rd bb cv _) hrd (fun _ hk => .inl hk)
  change Fr _ _ [_] _ at F1
  obtain ⟨b, o, rfl, hF, hrr⟩ := hl.at r hrn
  refine ⟨_, rfl, ?_⟩
  refine Ops.step (One.val rfl rfl rfl (yld_indexN sl108 rfl (ev_t rfl) (ev_t rfl) (fun _ => by omega)) ?_)
  refine Ops.step (One.val rfl rfl rfl (yld_load1 on3 rfl (ev_t rfl) (fun _ => rangeAt_cell (rng_chg hrr F1.chg hF) (j := 0) rfl)) ?_)
  refine Ops.step (One.val rfl rfl rfl (yld_assign rfl (ev_t rfl)) ?_)
  refine Ops.nil fun a hS => ?_
  refine hK2 _ _ ?_ a hS
  refine Cod.ret fun a hS => ?_
  try simp only [Exit.then, Exit.inBlock]
  exact ret1 (t := 4) rfl hS rfl ⟨xs[r], List.getElem_mem _, rfl, F1.chg, F1.get 0 rfl⟩


def leafS : List ByteArray := [⟨#[]⟩, ⟨#[97]⟩, ⟨#[98]⟩, ⟨#[97, 98]⟩, ⟨#[122, 122]⟩, ⟨#[97, 98, 99, 100, 101, 102, 103, 104, 105, 106, 107, 108]⟩]
def leafN : List Int := [0, 1, 2, 3, -1, 7, 1000000]
theorem leafS_size {s : ByteArray} (h : s ∈ leafS) : s.size ≤ 12 := by
  unfold leafS at h
  simp only [List.mem_cons, List.not_mem_nil, or_false] at h
  rcases h with rfl | rfl | rfl | rfl | rfl | rfl <;> decide
/-- A tree without parts, of a short text. -/
def LeafT (t : Tr) : Prop := ∃ k n s, t = .mk k n s [] [] ∧ s.size ≤ 12
theorem LeafT.mk {k n : Int} {s : ByteArray} (h : s.size ≤ 12) : LeafT (.mk k n s [] []) := ⟨k, n, s, rfl, h⟩
theorem LeafT.fit {t : Tr} (h : LeafT t) : t.Fit := by
  obtain ⟨k, n, s, rfl, h⟩ := h
  exact .mk (by omega) (by simp) (by simp)
theorem LeafT.wt {t : Tr} (h : LeafT t) : t.wt ≤ 12 := by
  obtain ⟨k, n, s, rfl, h⟩ := h
  rw [Tr.wt_mk]
  show s.size + (0 + 0) + (0 + 0) ≤ 12
  omega
theorem LeafT.len {t : Tr} (h : LeafT t) : t.list.length = 0 := by
  obtain ⟨k, n, s, rfl, h⟩ := h
  rfl
theorem nil_size : (⟨#[]⟩ : ByteArray).size ≤ 12 := by decide
theorem drewLeaf {bb lim lim1 : Nat} {cv : Value} {w0 w : World} {L : List Res} {k n : Int} {s : ByteArray} (F : Fr (· = bb) w0 L w) (i : Nat) (hi : L[i]? = some (rd bb cv lim1)) (hle : lim1 ≤ lim) (hs : s.size ≤ 12) : Drew bb cv lim w0 LeafT (.returned (x5 k n s (.slice none 0 0) (.slice none 0 0)).val) w := by
  obtain ⟨q, hq, hb⟩ := F.get i hi
  exact ⟨_, No, _, rfl, F.chg, ⟨q, by omega, hb⟩, sep_leaf w k n s, fun k hk => hk.elim, .mk hs⟩

set_option maxRecDepth 100000 in
theorem leaf_ct (bb : Nat) (cv : Value) (lim : Nat) (w : World) (hcode : Code bb w cv) (hr : (rd bb cv lim).is w) (hlim : lim + 2 ≤ 1099511627776) :
    Calls Tryd.prog 96 #[.pointer (some ⟨bb, 0, none⟩)] w (Drew bb cv (lim + 2) w LeafT) := by
  refine enter Tryd.func96 rfl rfl rfl ?_
  have F0 := Fr.lend (rd bb cv lim) hr
  refine Cod.seq fun K1 hK1 => ?_
  refine Cod.region ?_
  refine Ops.step (One.alloc F0 zero33 rfl rfl rfl rfl ?_)
  intro b1 w1 hb1 F1
  change Fr _ _ [blk _ _ [_, _, _, _, _], _] _ at F1
  refine Ops.nil fun a hS => ?_
  refine hK1 _ _ ?_ a hS
  refine Cod.seq fun K2 hK2 => ?_
  refine Cod.seq fun K3 hK3 => ?_
  refine Cod.region ?_
  refine Ops.step (One.val rfl rfl rfl (yld_move rfl (ev_t rfl)) ?_)
  refine Ops.step (One.call rfl rfl rfl (ent_f rfl (evl2 (ev_t rfl) ev_c) (enters en95)) (pick_ct 8 bb cv _ _ (hcode.keep F1.chg) (F1.get 1 rfl) (by omega) (by omega)) (fun e w2 hw2 => ?_))
  obtain ⟨r, rfl, C2, hrdr, hr⟩ := hw2
  have F2 := F1.upd 1 rfl C2 (fun _ hk => .inl hk) (rd bb cv _) hrdr (fun _ hk => .inl hk)
  change Fr _ _ [_, _] _ at F2
  refine ⟨_, rfl, ?_⟩
  refine Ops.nil fun a hS => ?_
  refine hK3 _ _ ?_ a hS
  refine Cod.block ?_
  refine Cod.seq fun K4 hK4 => ?_
  refine Cod.region ?_
  refine Ops.step (One.val rfl rfl rfl (yld_eql rfl (ev_t rfl) ev_c) ?_)
  refine Ops.step (One.val rfl rfl rfl (yld_assign rfl (ev_t rfl)) ?_)
  refine Ops.nil fun a hS => ?_
  refine hK4 _ _ ?_ a hS
  refine Cod.cond rfl (fun hc5 => ?_) (fun hc5 => ?_)
  · skip
    refine Cod.seq fun K5 hK5 => ?_
    refine Cod.region ?_
    refine Ops.step (One.val rfl rfl rfl (yld_move rfl (ev_t rfl)) ?_)
    refine Ops.step (One.call rfl rfl rfl (ent_f rfl (evl2 (ev_t rfl) ev_c) (enters en95)) (pick_ct 3 bb cv _ _ (hcode.keep F2.chg) (F2.get 1 rfl) (by omega) (by omega)) (fun e w3 hw3 => ?_))
    obtain ⟨r3, rfl, C3, hrdr3, hr3⟩ := hw3
    have F3 := F2.upd 1 rfl C3 (fun _ hk => .inl hk) (rd bb cv _) hrdr3 (fun _ hk => .inl hk)
    change Fr _ _ [_, _] _ at F3
    refine ⟨_, rfl, ?_⟩
    refine Ops.step (One.val rfl rfl rfl (yld_build (cells := [.int .i64 (r3 : Int), .int .i64 0, .string ⟨#[]⟩, .slice none 0 0, .slice none 0 0]) rfl (evp1 (ev_t rfl)) (by kernel_rfl)) ?_)
    refine Ops.step (One.storeN (vs := [_, _, _, _, _]) F3 0 rfl sz33 rfl rfl rfl (ev_t rfl) (ev_t rfl) rfl rfl rfl ?_)
    intro w4 F4
    change Fr _ _ [blk _ _ [_, _, _, _, _], _] _ at F4
    refine Ops.nil fun a hS => ?_
    refine hK5 _ _ ?_ a hS
    refine Cod.ret fun a hS => ?_
    try simp only [Exit.then, Exit.inBlock]
    exact retc (t := 2) (ty := 33) rfl hS ag33 rfl (F4.range (m := 5) (cs' := [_, _, _, _, _]) 0 rfl rfl) rfl (drewLeaf F4 1 rfl (by omega) nil_size)
  · skip
    refine Cod.seq fun K6 hK6 => ?_
    refine Cod.seq fun K7 hK7 => ?_
    refine Cod.region ?_
    refine Ops.step (One.val rfl rfl rfl (yld_eql rfl (ev_t rfl) ev_c) ?_)
    refine Ops.step (One.val rfl rfl rfl (yld_assign rfl (ev_t rfl)) ?_)
    refine Ops.nil fun a hS => ?_
    refine hK7 _ _ ?_ a hS
    refine Cod.cond rfl (fun hc10 => ?_) (fun hc10 => ?_)
    · skip
      refine Cod.skip fun a hS => ?_
      refine hK6 _ _ ?_ a hS
      refine Cod.cond rfl (fun hc10 => ?_) (fun hc10 => ?_)
      · skip
        refine Cod.seq fun K8 hK8 => ?_
        refine Cod.region ?_
        refine Ops.step (One.val rfl rfl rfl (yld_move rfl (ev_t rfl)) ?_)
        refine Ops.step (One.buildSlice (cells := (leafS.flatMap sCells)) F2 sl22 zero9 rfl rfl rfl rfl (evp6 ev_c ev_c ev_c ev_c ev_c ev_c) rfl rfl (by kernel_rfl) ?_)
        intro b2 w5 hb2 F5
        refine Ops.step (One.call rfl rfl rfl (ent_f rfl (evl2 (ev_t rfl) (ev_t rfl)) (enters en99)) (rof_ct leafS bb cv _ _ _ (hcode.keep F5.chg) (F5.get 2 rfl) (by have := F5.lit (enc := sCells) (sz := 1) (xs := leafS) (fun _ => rfl) 0 2 (by decide) rfl rfl (by decide); exact this) (by omega) (by decide) (by decide)) (fun e w6 hw6 => ?_))
        obtain ⟨s6, hms6, rfl, C6, hrds6⟩ := hw6
        have F6 := F5.upd 2 rfl C6 (fun _ hk => .inl hk) (rd bb cv _) hrds6 (fun _ hk => .inl hk)
        change Fr _ _ [_, _, _] _ at F6
        refine ⟨_, rfl, ?_⟩
        refine Ops.step (One.val rfl rfl rfl (yld_build (cells := [.int .i64 4, .int .i64 0, .string s6, .slice none 0 0, .slice none 0 0]) rfl (evp2 ev_c (ev_t rfl)) (by kernel_rfl)) ?_)
        refine Ops.step (One.storeN (vs := [_, _, _, _, _]) F6 1 rfl sz33 rfl rfl rfl (ev_t rfl) (ev_t rfl) rfl rfl rfl ?_)
        intro w7 F7
        change Fr _ _ [_, blk _ _ [_, _, _, _, _], _] _ at F7
        refine Ops.nil fun a hS => ?_
        refine hK8 _ _ ?_ a hS
        refine Cod.ret fun a hS => ?_
        try simp only [Exit.then, Exit.inBlock]
        exact retc (t := 2) (ty := 33) rfl hS ag33 rfl (F7.range (m := 5) (cs' := [_, _, _, _, _]) 1 rfl rfl) rfl (drewLeaf F7 2 rfl (by omega) (leafS_size hms6))
      · skip
        refine Cod.seq fun K9 hK9 => ?_
        refine Cod.region ?_
        refine Ops.step (One.val rfl rfl rfl (yld_eql rfl (ev_t rfl) ev_c) ?_)
        refine Ops.step (One.val rfl rfl rfl (yld_assign rfl (ev_t rfl)) ?_)
        refine Ops.nil fun a hS => ?_
        refine hK9 _ _ ?_ a hS
        refine Cod.cond rfl (fun hc17 => ?_) (fun hc17 => ?_)
        · skip
          refine Cod.seq fun K10 hK10 => ?_
          refine Cod.region ?_
          refine Ops.step (One.val rfl rfl rfl (yld_move rfl (ev_t rfl)) ?_)
          refine Ops.step (One.call rfl rfl rfl (ent_f rfl (evl2 (ev_t rfl) ev_c) (enters en95)) (pick_ct 2 bb cv _ _ (hcode.keep F2.chg) (F2.get 1 rfl) (by omega) (by omega)) (fun e w8 hw8 => ?_))
          obtain ⟨r8, rfl, C8, hrdr8, hr8⟩ := hw8
          have F8 := F2.upd 1 rfl C8 (fun _ hk => .inl hk) (rd bb cv _) hrdr8 (fun _ hk => .inl hk)
          change Fr _ _ [_, _] _ at F8
          refine ⟨_, rfl, ?_⟩
          refine Ops.step (One.val rfl rfl rfl (yld_add rfl ev_c (ev_t rfl) (fun _ => by omega)) ?_)
          refine Ops.step (One.val rfl rfl rfl (yld_build (cells := [.int .i64 (5 + (r8 : Int)), .int .i64 0, .string ⟨#[]⟩, .slice none 0 0, .slice none 0 0]) rfl (evp1 (ev_t rfl)) (by kernel_rfl)) ?_)
          refine Ops.step (One.storeN (vs := [_, _, _, _, _]) F8 0 rfl sz33 rfl rfl rfl (ev_t rfl) (ev_t rfl) rfl rfl rfl ?_)
          intro w9 F9
          change Fr _ _ [blk _ _ [_, _, _, _, _], _] _ at F9
          refine Ops.nil fun a hS => ?_
          refine hK10 _ _ ?_ a hS
          refine Cod.ret fun a hS => ?_
          try simp only [Exit.then, Exit.inBlock]
          exact retc (t := 2) (ty := 33) rfl hS ag33 rfl (F9.range (m := 5) (cs' := [_, _, _, _, _]) 0 rfl rfl) rfl (drewLeaf F9 1 rfl (by omega) nil_size)
        · skip
          refine Cod.skip fun a hS => ?_
          refine hK2 _ _ ?_ a hS
          refine Cod.seq fun K11 hK11 => ?_
          refine Cod.region ?_
          refine Ops.step (One.val rfl rfl rfl (yld_move rfl (ev_t rfl)) ?_)
          refine Ops.step (One.buildSlice (cells := (leafN.flatMap jCells)) F2 sl108 zero3 rfl rfl rfl rfl (evp7 ev_c ev_c ev_c ev_c ev_c ev_c ev_c) rfl rfl (by kernel_rfl) ?_)
          intro b3 w10 hb3 F10
          refine Ops.step (One.call rfl rfl rfl (ent_f rfl (evl2 (ev_t rfl) (ev_t rfl)) (enters en98)) (rnum_ct leafN bb cv _ _ _ (hcode.keep F10.chg) (F10.get 2 rfl) (by have := F10.lit (enc := jCells) (sz := 1) (xs := leafN) (fun _ => rfl) 0 2 (by decide) rfl rfl (by decide); exact this) (by omega) (by decide) (by decide)) (fun e w11 hw11 => ?_))
          obtain ⟨s9, hms9, rfl, C11, hrds9⟩ := hw11
          have F11 := F10.upd 2 rfl C11 (fun _ hk => .inl hk) (rd bb cv _) hrds9 (fun _ hk => .inl hk)
          change Fr _ _ [_, _, _] _ at F11
          refine ⟨_, rfl, ?_⟩
          refine Ops.step (One.val rfl rfl rfl (yld_build (cells := [.int .i64 3, .int .i64 s9, .string ⟨#[]⟩, .slice none 0 0, .slice none 0 0]) rfl (evp2 ev_c (ev_t rfl)) (by kernel_rfl)) ?_)
          refine Ops.step (One.storeN (vs := [_, _, _, _, _]) F11 1 rfl sz33 rfl rfl rfl (ev_t rfl) (ev_t rfl) rfl rfl rfl ?_)
          intro w12 F12
          change Fr _ _ [_, blk _ _ [_, _, _, _, _], _] _ at F12
          refine Ops.nil fun a hS => ?_
          refine hK11 _ _ ?_ a hS
          refine Cod.ret fun a hS => ?_
          try simp only [Exit.then, Exit.inBlock]
          exact retc (t := 2) (ty := 33) rfl hS ag33 rfl (F12.range (m := 5) (cs' := [_, _, _, _, _]) 1 rfl rfl) rfl (drewLeaf F12 2 rfl (by omega) nil_size)
    · skip
      refine Cod.region ?_
      refine Ops.step (One.val rfl rfl rfl (yld_eql rfl (ev_t rfl) ev_c) ?_)
      refine Ops.step (One.val rfl rfl rfl (yld_assign rfl (ev_t rfl)) ?_)
      refine Ops.nil fun a hS => ?_
      refine hK6 _ _ ?_ a hS
      refine Cod.cond rfl (fun hc10 => ?_) (fun hc10 => ?_)
      · skip
        refine Cod.seq fun K12 hK12 => ?_
        refine Cod.region ?_
        refine Ops.step (One.val rfl rfl rfl (yld_move rfl (ev_t rfl)) ?_)
        refine Ops.step (One.buildSlice (cells := (leafS.flatMap sCells)) F2 sl22 zero9 rfl rfl rfl rfl (evp6 ev_c ev_c ev_c ev_c ev_c ev_c) rfl rfl (by kernel_rfl) ?_)
        intro b4 w13 hb4 F13
        refine Ops.step (One.call rfl rfl rfl (ent_f rfl (evl2 (ev_t rfl) (ev_t rfl)) (enters en99)) (rof_ct leafS bb cv _ _ _ (hcode.keep F13.chg) (F13.get 2 rfl) (by have := F13.lit (enc := sCells) (sz := 1) (xs := leafS) (fun _ => rfl) 0 2 (by decide) rfl rfl (by decide); exact this) (by omega) (by decide) (by decide)) (fun e w14 hw14 => ?_))
        obtain ⟨s6, hms6, rfl, C14, hrds6⟩ := hw14
        have F14 := F13.upd 2 rfl C14 (fun _ hk => .inl hk) (rd bb cv _) hrds6 (fun _ hk => .inl hk)
        change Fr _ _ [_, _, _] _ at F14
        refine ⟨_, rfl, ?_⟩
        refine Ops.step (One.val rfl rfl rfl (yld_build (cells := [.int .i64 4, .int .i64 0, .string s6, .slice none 0 0, .slice none 0 0]) rfl (evp2 ev_c (ev_t rfl)) (by kernel_rfl)) ?_)
        refine Ops.step (One.storeN (vs := [_, _, _, _, _]) F14 1 rfl sz33 rfl rfl rfl (ev_t rfl) (ev_t rfl) rfl rfl rfl ?_)
        intro w15 F15
        change Fr _ _ [_, blk _ _ [_, _, _, _, _], _] _ at F15
        refine Ops.nil fun a hS => ?_
        refine hK12 _ _ ?_ a hS
        refine Cod.ret fun a hS => ?_
        try simp only [Exit.then, Exit.inBlock]
        exact retc (t := 2) (ty := 33) rfl hS ag33 rfl (F15.range (m := 5) (cs' := [_, _, _, _, _]) 1 rfl rfl) rfl (drewLeaf F15 2 rfl (by omega) (leafS_size hms6))
      · skip
        refine Cod.seq fun K13 hK13 => ?_
        refine Cod.region ?_
        refine Ops.step (One.val rfl rfl rfl (yld_eql rfl (ev_t rfl) ev_c) ?_)
        refine Ops.step (One.val rfl rfl rfl (yld_assign rfl (ev_t rfl)) ?_)
        refine Ops.nil fun a hS => ?_
        refine hK13 _ _ ?_ a hS
        refine Cod.cond rfl (fun hc17 => ?_) (fun hc17 => ?_)
        · skip
          refine Cod.seq fun K14 hK14 => ?_
          refine Cod.region ?_
          refine Ops.step (One.val rfl rfl rfl (yld_move rfl (ev_t rfl)) ?_)
          refine Ops.step (One.call rfl rfl rfl (ent_f rfl (evl2 (ev_t rfl) ev_c) (enters en95)) (pick_ct 2 bb cv _ _ (hcode.keep F2.chg) (F2.get 1 rfl) (by omega) (by omega)) (fun e w16 hw16 => ?_))
          obtain ⟨r8, rfl, C16, hrdr8, hr8⟩ := hw16
          have F16 := F2.upd 1 rfl C16 (fun _ hk => .inl hk) (rd bb cv _) hrdr8 (fun _ hk => .inl hk)
          change Fr _ _ [_, _] _ at F16
          refine ⟨_, rfl, ?_⟩
          refine Ops.step (One.val rfl rfl rfl (yld_add rfl ev_c (ev_t rfl) (fun _ => by omega)) ?_)
          refine Ops.step (One.val rfl rfl rfl (yld_build (cells := [.int .i64 (5 + (r8 : Int)), .int .i64 0, .string ⟨#[]⟩, .slice none 0 0, .slice none 0 0]) rfl (evp1 (ev_t rfl)) (by kernel_rfl)) ?_)
          refine Ops.step (One.storeN (vs := [_, _, _, _, _]) F16 0 rfl sz33 rfl rfl rfl (ev_t rfl) (ev_t rfl) rfl rfl rfl ?_)
          intro w17 F17
          change Fr _ _ [blk _ _ [_, _, _, _, _], _] _ at F17
          refine Ops.nil fun a hS => ?_
          refine hK14 _ _ ?_ a hS
          refine Cod.ret fun a hS => ?_
          try simp only [Exit.then, Exit.inBlock]
          exact retc (t := 2) (ty := 33) rfl hS ag33 rfl (F17.range (m := 5) (cs' := [_, _, _, _, _]) 0 rfl rfl) rfl (drewLeaf F17 1 rfl (by omega) nil_size)
        · skip
          refine Cod.skip fun a hS => ?_
          refine hK2 _ _ ?_ a hS
          refine Cod.seq fun K15 hK15 => ?_
          refine Cod.region ?_
          refine Ops.step (One.val rfl rfl rfl (yld_move rfl (ev_t rfl)) ?_)
          refine Ops.step (One.buildSlice (cells := (leafN.flatMap jCells)) F2 sl108 zero3 rfl rfl rfl rfl (evp7 ev_c ev_c ev_c ev_c ev_c ev_c ev_c) rfl rfl (by kernel_rfl) ?_)
          intro b5 w18 hb5 F18
          refine Ops.step (One.call rfl rfl rfl (ent_f rfl (evl2 (ev_t rfl) (ev_t rfl)) (enters en98)) (rnum_ct leafN bb cv _ _ _ (hcode.keep F18.chg) (F18.get 2 rfl) (by have := F18.lit (enc := jCells) (sz := 1) (xs := leafN) (fun _ => rfl) 0 2 (by decide) rfl rfl (by decide); exact this) (by omega) (by decide) (by decide)) (fun e w19 hw19 => ?_))
          obtain ⟨s9, hms9, rfl, C19, hrds9⟩ := hw19
          have F19 := F18.upd 2 rfl C19 (fun _ hk => .inl hk) (rd bb cv _) hrds9 (fun _ hk => .inl hk)
          change Fr _ _ [_, _, _] _ at F19
          refine ⟨_, rfl, ?_⟩
          refine Ops.step (One.val rfl rfl rfl (yld_build (cells := [.int .i64 3, .int .i64 s9, .string ⟨#[]⟩, .slice none 0 0, .slice none 0 0]) rfl (evp2 ev_c (ev_t rfl)) (by kernel_rfl)) ?_)
          refine Ops.step (One.storeN (vs := [_, _, _, _, _]) F19 1 rfl sz33 rfl rfl rfl (ev_t rfl) (ev_t rfl) rfl rfl rfl ?_)
          intro w20 F20
          change Fr _ _ [_, blk _ _ [_, _, _, _, _], _] _ at F20
          refine Ops.nil fun a hS => ?_
          refine hK15 _ _ ?_ a hS
          refine Cod.ret fun a hS => ?_
          try simp only [Exit.then, Exit.inBlock]
          exact retc (t := 2) (ty := 33) rfl hS ag33 rfl (F20.range (m := 5) (cs' := [_, _, _, _, _]) 1 rfl rfl) rfl (drewLeaf F20 2 rfl (by omega) nil_size)

end Go.Proofs.YtpfkcblhojkaiaaDoor.Eng
