/- Walks of both PathText and what they call: the text of a way. -/
import Derived.Test.YtpfkcblhojkaiaaDoorPath0
import Derived.Test.YtpfkcblhojkaiaaDoorDec
import Derived.Test.YtpfkcblhojkaiaaDoorNeg
import Derived.Test.YtpfkcblhojkaiaaDoorLaiT
namespace Go.Proofs.YtpfkcblhojkaiaaDoor.Eng
open Go.RowKit
set_option linter.unusedVariables false
set_option linter.unusedSimpArgs false
set_option maxHeartbeats 1000000


def DecOk (n : Int) : Prop := ∀ w : World, Calls Tryd.prog 85 #[.int .i64 n] w fun e w' => e = .returned (.string (itoaS n)) ∧ Chg No w w'
theorem itoaS_nat (q : Nat) : itoaS (q : Int) = ⟨(Lib.decDigits q).toArray⟩ := by
  unfold itoaS Lib.itoa
  rw [if_neg (by omega), Int.toNat_natCast]
theorem itoaS_neg {n : Int} (h : n < 0) : itoaS n = ⟨#[45]⟩ ++ itoaS (-n) := by
  obtain ⟨q, rfl⟩ : ∃ q : Nat, n = -(q : Int) := ⟨n.natAbs, by omega⟩
  rw [Int.neg_neg, itoaS_nat]
  refine (txt_eq ?_).symm
  rw [txt_app]
  unfold Lib.itoa
  rw [if_pos h, show (-(q : Int)).natAbs = q by omega]
  rfl

set_option maxRecDepth 100000 in
theorem dec_nat (q : Nat) (hq : q ≤ 1000000000) : DecOk (q : Int) := by
  intro w
  rw [itoaS_nat]
  refine enter Tryd.func85 rfl rfl rfl ?_
  have F0 := Fr.start w
  refine Cod.seq fun K1 hK1 => ?_
  refine Cod.region ?_
  refine Ops.step (One.val rfl rfl rfl (yld_assign rfl ev_c) ?_)
  refine Ops.nil fun a hS => ?_
  refine hK1 _ _ ?_ a hS
  refine Cod.seq fun K2 hK2 => ?_
  refine Cod.seq fun K3 hK3 => ?_
  refine Cod.region ?_
  refine Ops.step (One.val rfl rfl rfl (yld_move rfl (ev_t rfl)) ?_)
  refine Ops.step (One.val rfl rfl rfl (yld_lss rfl (ev_t rfl) ev_c) ?_)
  refine Ops.nil fun a hS => ?_
  refine hK3 _ _ ?_ a hS
  refine Cod.cond rfl (fun hc5 => ?_) (fun hc5 => ?_)
  · skip
    (simp at hc5; omega)
  · skip
    refine Cod.skip fun a hS => ?_
    refine hK2 _ _ ?_ a hS
    refine Cod.seq fun K4 hK4 => ?_
    refine Cod.seq fun K5 hK5 => ?_
    refine Cod.region ?_
    refine Ops.step (One.val rfl rfl rfl (yld_move rfl (ev_t rfl)) ?_)
    refine Ops.step (One.val rfl rfl rfl (yld_lss rfl (ev_t rfl) ev_c) ?_)
    refine Ops.nil fun a hS => ?_
    refine hK5 _ _ ?_ a hS
    refine Cod.cond rfl (fun hc7 => ?_) (fun hc7 => ?_)
    · skip
      (simp at hc7; omega)
    · skip
      refine Cod.skip fun a hS => ?_
      refine hK4 _ _ ?_ a hS
      refine Cod.seq fun K6 hK6 => ?_
      refine Cod.region ?_
      refine Ops.step (One.val rfl rfl rfl (yld_assign rfl ev_c) ?_)
      refine Ops.nil fun a hS => ?_
      refine hK6 _ _ ?_ a hS
      refine Cod.seq fun K7 hK7 => ?_
      refine Cod.block ?_
      refine Cod.loop (fun i : Nat × ByteArray => [(0, true, .int .i64 (i.1 : Int)), (3, true, .string i.2)]) (fun i w' => Lib.decDigits q = Lib.decDigits i.1 ++ i.2.data.toList ∧ i.1 + i.2.size ≤ q ∧ Fr No w [] w') (fun i => i.1) (q, ⟨#[]⟩) ⟨rfl, rfl, trivial⟩ ⟨by simp, Nat.le_refl _, F0⟩ ?_
      intro i w1 hW K8 hK8
      obtain ⟨r, out⟩ := i
      obtain ⟨hd, hsz, F1⟩ := hW
      dsimp only at *
      refine Cod.seq fun K9 hK9 => ?_
      refine Cod.seq fun K10 hK10 => ?_
      refine Cod.region ?_
      refine Ops.step (One.val rfl rfl rfl (yld_move rfl (ev_t rfl)) ?_)
      refine Ops.step (One.val rfl rfl rfl (yld_gtr rfl (ev_t rfl) ev_c) ?_)
      refine Ops.nil fun a hS => ?_
      refine hK10 _ _ ?_ a hS
      refine Cod.cond rfl (fun hc13 => ?_) (fun hc13 => ?_)
      · skip
        have hr0 : 9 < r := by simp at hc13; omega
        refine Cod.skip fun a hS => ?_
        refine hK9 _ _ ?_ a hS
        refine Cod.block ?_
        refine Cod.seq fun K11 hK11 => ?_
        refine Cod.region ?_
        refine Ops.step (One.val rfl rfl rfl (yld_move rfl (ev_t rfl)) ?_)
        refine Ops.step (One.val rfl rfl rfl (yld_rem rfl (ev_t rfl) ev_c (j := 10) (by omega)) ?_)
        refine Ops.step (One.val rfl rfl rfl (yld_add rfl ev_c (ev_t rfl) (fun _ => by omega)) ?_)
        refine Ops.step (One.val rfl rfl rfl (yld_conv Tryd.underlying3 Tryd.underlying5 rfl (ev_t rfl)) ?_)
        refine Ops.step (One.buildSlice (cells := [.int .u8 (IntKind.u8.wrap (48 + ((r % 10 : Nat) : Int)))]) F1 sl57 zero5 rfl rfl rfl rfl (evp1 (ev_t rfl)) rfl rfl (by kernel_rfl) ?_)
        intro b1 w2 hb1 F2
        refine Ops.step (One.val rfl rfl rfl (yld_text (l := [UInt8.ofNat (48 + r % 10)]) Tryd.underlying57 Tryd.underlying5 Tryd.underlying9 rfl (ev_t rfl) (fun _ => by
      have hd := digit (r % 10) (Nat.mod_lt _ (by omega))
      rw [List.map_cons, List.map_nil, ← hd]
      exact F2.range (m := 1) 0 rfl rfl)) ?_)
        refine Ops.step (One.val rfl rfl rfl (yld_move rfl (ev_t rfl)) ?_)
        refine Ops.step (One.val rfl rfl rfl (yld_sadd rfl (ev_t rfl) (ev_t rfl) (fun _ => by have h1 : (⟨#[UInt8.ofNat (48 + r % 10)]⟩ : ByteArray).size = 1 := rfl; have h2 : (⟨[UInt8.ofNat (48 + r % 10)].toArray⟩ : ByteArray).size = 1 := rfl; omega)) ?_)
        refine Ops.step (One.val rfl rfl rfl (yld_assign rfl (ev_t rfl)) ?_)
        refine Ops.nil fun a hS => ?_
        refine hK11 _ _ ?_ a hS
        refine Cod.region ?_
        refine Ops.step (One.val rfl rfl rfl (yld_move rfl (ev_t rfl)) ?_)
        refine Ops.step (One.val rfl rfl rfl (yld_quo rfl (ev_t rfl) ev_c (j := 10) (by omega) (by omega)) ?_)
        refine Ops.step (One.val rfl rfl rfl (yld_assign rfl (ev_t rfl)) ?_)
        refine Ops.nil fun a hS => ?_
        have hsz' : ((⟨#[UInt8.ofNat (48 + r % 10)]⟩ : ByteArray) ++ out).size = 1 + out.size := by rw [ByteArray.size_append]; rfl
        exact hK8 (r / 10, (⟨#[UInt8.ofNat (48 + r % 10)]⟩ : ByteArray) ++ out) _ a (hS.sub ⟨rfl, rfl, trivial⟩) ⟨by rw [hd, dec_step (by omega), txt_app]; simp, by show r / 10 + ((⟨#[UInt8.ofNat (48 + r % 10)]⟩ : ByteArray) ++ out).size ≤ q; omega, F2.drop1⟩ (by show r / 10 < r; omega)
      · skip
        have hr9 : r ≤ 9 := by simp at hc13; omega
        rw [Lib.decDigits_one (by omega : r < 10)] at hd
        refine Cod.exit fun a hS => ?_
        simp only [Exit.then, Exit.inBlock, ↓reduceIte]
        refine hK7 _ _ ?_ a hS
        refine Cod.seq fun K12 hK12 => ?_
        refine Cod.region ?_
        refine Ops.step (One.val rfl rfl rfl (yld_move rfl (ev_t rfl)) ?_)
        refine Ops.step (One.val rfl rfl rfl (yld_add rfl ev_c (ev_t rfl) (fun _ => by omega)) ?_)
        refine Ops.step (One.val rfl rfl rfl (yld_conv Tryd.underlying3 Tryd.underlying5 rfl (ev_t rfl)) ?_)
        refine Ops.step (One.buildSlice (cells := [.int .u8 (IntKind.u8.wrap (48 + (r : Int)))]) F1 sl57 zero5 rfl rfl rfl rfl (evp1 (ev_t rfl)) rfl rfl (by kernel_rfl) ?_)
        intro b2 w3 hb2 F3
        refine Ops.step (One.val rfl rfl rfl (yld_text (l := [UInt8.ofNat (48 + r)]) Tryd.underlying57 Tryd.underlying5 Tryd.underlying9 rfl (ev_t rfl) (fun _ => by
      have hd := digit r (by omega)
      rw [List.map_cons, List.map_nil, ← hd]
      exact F3.range (m := 1) 0 rfl rfl)) ?_)
        refine Ops.step (One.val rfl rfl rfl (yld_move rfl (ev_t rfl)) ?_)
        refine Ops.step (One.val rfl rfl rfl (yld_sadd rfl (ev_t rfl) (ev_t rfl) (fun _ => by have h2 : (⟨[UInt8.ofNat (48 + r)].toArray⟩ : ByteArray).size = 1 := rfl; omega)) ?_)
        refine Ops.step (One.val rfl rfl rfl (yld_assign rfl (ev_t rfl)) ?_)
        refine Ops.nil fun a hS => ?_
        refine hK12 _ _ ?_ a hS
        refine Cod.ret fun a hS => ?_
        try simp only [Exit.then, Exit.inBlock]
        exact ret1 (t := 2) rfl hS rfl ⟨by rw [hd]; congr 2, F3.chg⟩

set_option maxRecDepth 100000 in
theorem dec_neg (n : Int) (h0 : -1000000000 ≤ n) (h1 : n < 0) : DecOk n := by
  intro w
  refine enter Tryd.func85 rfl rfl rfl ?_
  have F0 := Fr.start w
  refine Cod.seq fun K1 hK1 => ?_
  refine Cod.region ?_
  refine Ops.step (One.val rfl rfl rfl (yld_assign rfl ev_c) ?_)
  refine Ops.nil fun a hS => ?_
  refine hK1 _ _ ?_ a hS
  refine Cod.seq fun K2 hK2 => ?_
  refine Cod.seq fun K3 hK3 => ?_
  refine Cod.region ?_
  refine Ops.step (One.val rfl rfl rfl (yld_move rfl (ev_t rfl)) ?_)
  refine Ops.step (One.val rfl rfl rfl (yld_lss rfl (ev_t rfl) ev_c) ?_)
  refine Ops.nil fun a hS => ?_
  refine hK3 _ _ ?_ a hS
  refine Cod.cond rfl (fun hc5 => ?_) (fun hc5 => ?_)
  · skip
    (simp at hc5; omega)
  · skip
    refine Cod.skip fun a hS => ?_
    refine hK2 _ _ ?_ a hS
    refine Cod.seq fun K4 hK4 => ?_
    refine Cod.seq fun K5 hK5 => ?_
    refine Cod.region ?_
    refine Ops.step (One.val rfl rfl rfl (yld_move rfl (ev_t rfl)) ?_)
    refine Ops.step (One.val rfl rfl rfl (yld_lss rfl (ev_t rfl) ev_c) ?_)
    refine Ops.nil fun a hS => ?_
    refine hK5 _ _ ?_ a hS
    refine Cod.cond rfl (fun hc7 => ?_) (fun hc7 => ?_)
    · skip
      refine Cod.seq fun K6 hK6 => ?_
      refine Cod.region ?_
      refine Ops.step (One.val rfl rfl rfl (yld_move rfl (ev_t rfl)) ?_)
      refine Ops.step (One.val rfl rfl rfl (yld_neg rfl (ev_t rfl) (fun _ => by omega)) ?_)
      refine Ops.step (One.call rfl rfl rfl (ent_f rfl (evl1 (ev_t rfl)) (enters en85)) ((show DecOk (-n) by obtain ⟨q, hq⟩ := Int.eq_ofNat_of_zero_le (show 0 ≤ -n by omega); rw [hq]; exact dec_nat q (by omega)) _) (fun e w1 hw1 => ?_))
      obtain ⟨rfl, C1⟩ := hw1
      have F1 := F0.call C1
      refine ⟨_, rfl, ?_⟩
      refine Ops.step (One.val rfl rfl rfl (yld_sadd rfl ev_c (ev_t rfl) (fun _ => by have h1 : (⟨#[45]⟩ : ByteArray).size = 1 := rfl; have h2 := itoaS_size (-n); omega)) ?_)
      refine Ops.step (One.val rfl rfl rfl (yld_assign rfl (ev_t rfl)) ?_)
      refine Ops.nil fun a hS => ?_
      refine hK6 _ _ ?_ a hS
      refine Cod.ret fun a hS => ?_
      try simp only [Exit.then, Exit.inBlock]
      exact ret1 (t := 2) rfl hS rfl ⟨by rw [itoaS_neg h1], F1.chg⟩
    · skip
      (simp at hc7; omega)


theorem l11Dec_ct (n : Int) (h0 : -1000000000 ≤ n) (h1 : n ≤ 1000000000) : DecOk n := by
  by_cases h : n < 0
  · exact dec_neg n h0 h
  · obtain ⟨q, rfl⟩ := Int.eq_ofNat_of_zero_le (show 0 ≤ n by omega)
    exact dec_nat q (by omega)
/-- The text of one step, and of a way. -/
def stpS (s : Stp) : ByteArray := if s.m = true then ⟨#[46]⟩ ++ s.key else (⟨#[91]⟩ ++ itoaS s.pl) ++ ⟨#[93]⟩
def pathS (p : List Stp) : ByteArray := p.foldl (fun out s => out ++ stpS s) ⟨#[36]⟩
def pathTxt (p : List Stp) : ByteArray := if pathOk p = true then pathS p else ⟨#[]⟩
theorem pathS_take (p : List Stp) (i : Nat) (hi : i < p.length) : pathS (p.take (i + 1)) = pathS (p.take i) ++ stpS p[i] := by
  unfold pathS
  rw [List.take_succ_eq_append_getElem hi, List.foldl_append]
  rfl
theorem stpS_size {s : Stp} (h : s.ok = true) : (stpS s).size ≤ 70 := by
  unfold Stp.ok at h
  unfold stpS
  split
  · rename_i hm
    rw [if_pos hm] at h
    have h2 := okS_size (s := s.key) (by simp at h; exact h.1)
    rw [ByteArray.size_append]
    have : (⟨#[46]⟩ : ByteArray).size = 1 := rfl
    omega
  · rename_i hm
    rw [if_neg hm] at h
    simp at h
    have h2 := itoaS_size s.pl
    have h3 : (⟨#[91]⟩ : ByteArray).size = 1 := rfl
    have h4 : (⟨#[93]⟩ : ByteArray).size = 1 := rfl
    rw [ByteArray.size_append, ByteArray.size_append]
    omega
theorem pathOk_len {p : List Stp} (h : pathOk p = true) : p.length ≤ 6 := by
  unfold pathOk at h
  simp only [Bool.and_eq_true, decide_eq_true_eq] at h
  exact h.2
theorem pathOk_in {p : List Stp} (h : pathOk p = true) (i : Nat) (hi : i < p.length) : p[i].ok = true := by
  unfold pathOk at h
  simp only [Bool.and_eq_true, List.all_eq_true] at h
  exact h.1 _ (List.getElem_mem hi)
theorem stp_pl {s : Stp} (h : s.ok = true) (hm : s.m = false) : -60 ≤ s.pl ∧ s.pl < 60 := by
  unfold Stp.ok at h
  rw [if_neg (by rw [hm]; simp)] at h
  simp at h
  omega
theorem stp_ks {s : Stp} (h : s.ok = true) (hm : s.m = true) : s.key.size ≤ 12 := by
  unfold Stp.ok at h
  rw [if_pos hm] at h
  exact okS_size (by simp at h; exact h.1)

set_option maxRecDepth 100000 in
theorem l3Text_ct (s : Stp) (hs : s.ok = true) (w : World) : Calls Tryd.prog 48 #[.agg (pCells s).toArray] w fun e w' => e = .returned (.string (stpS s)) ∧ Chg No w w' := by
  have h46 : (⟨#[46]⟩ : ByteArray).size = 1 := rfl
  have h91 : (⟨#[91]⟩ : ByteArray).size = 1 := rfl
  have h93 : (⟨#[93]⟩ : ByteArray).size = 1 := rfl
  refine enter Tryd.func48 rfl rfl rfl ?_
  have F0 := Fr.start w
  refine Cod.seq fun K1 hK1 => ?_
  refine Cod.region ?_
  refine Ops.step (One.box F0 rfl rfl rfl rfl (ev_t rfl) ?_)
  intro b1 w1 hb1 F1
  change Fr _ _ [blk _ _ [_, _, _]] _ at F1
  refine Ops.step (One.val rfl rfl rfl (yld_assign rfl ev_c) ?_)
  refine Ops.nil fun a hS => ?_
  refine hK1 _ _ ?_ a hS
  refine Cod.seq fun K2 hK2 => ?_
  refine Cod.seq fun K3 hK3 => ?_
  refine Cod.region ?_
  refine Ops.step (One.val rfl rfl rfl (yld_field fi61_0 rfl (ev_t rfl)) ?_)
  refine Ops.step (One.val rfl rfl rfl (yld_load1 on4 rfl (ev_t rfl) (fun _ => F1.cell 0 rfl rfl)) ?_)
  refine Ops.nil fun a hS => ?_
  refine hK3 _ _ ?_ a hS
  refine Cod.cond rfl (fun hc4 => ?_) (fun hc4 => ?_)
  · skip
    have hm : s.m = true := hc4
    have hk := stp_ks hs hm
    refine Cod.seq fun K4 hK4 => ?_
    refine Cod.region ?_
    refine Ops.step (One.val rfl rfl rfl (yld_field fi61_1 rfl (ev_t rfl)) ?_)
    refine Ops.step (One.val rfl rfl rfl (yld_load1 on9 rfl (ev_t rfl) (fun _ => F1.cell 0 rfl rfl)) ?_)
    refine Ops.step (One.val rfl rfl rfl (yld_sadd rfl ev_c (ev_t rfl) (fun _ => by omega)) ?_)
    refine Ops.step (One.val rfl rfl rfl (yld_assign rfl (ev_t rfl)) ?_)
    refine Ops.nil fun a hS => ?_
    refine hK4 _ _ ?_ a hS
    refine Cod.ret fun a hS => ?_
    try simp only [Exit.then, Exit.inBlock]
    exact ret1 (t := 2) rfl hS rfl ⟨by unfold stpS; rw [if_pos hm], F1.chg⟩
  · skip
    have hm : s.m = false := hc4
    have hpl := stp_pl hs hm
    have hsz := itoaS_size s.pl
    refine Cod.skip fun a hS => ?_
    refine hK2 _ _ ?_ a hS
    refine Cod.seq fun K5 hK5 => ?_
    refine Cod.region ?_
    refine Ops.step (One.val rfl rfl rfl (yld_field fi61_2 rfl (ev_t rfl)) ?_)
    refine Ops.step (One.val rfl rfl rfl (yld_load1 on3 rfl (ev_t rfl) (fun _ => F1.cell 0 rfl rfl)) ?_)
    refine Ops.step (One.call rfl rfl rfl (ent_f rfl (evl1 (ev_t rfl)) (enters en85)) (l11Dec_ct s.pl (by omega) (by omega) _) (fun e w2 hw2 => ?_))
    obtain ⟨rfl, C2⟩ := hw2
    have F2 := F1.call C2
    refine ⟨_, rfl, ?_⟩
    refine Ops.step (One.val rfl rfl rfl (yld_sadd rfl ev_c (ev_t rfl) (fun _ => by omega)) ?_)
    refine Ops.step (One.val rfl rfl rfl (yld_sadd rfl (ev_t rfl) ev_c (fun _ => by rw [ByteArray.size_append]; omega)) ?_)
    refine Ops.step (One.val rfl rfl rfl (yld_assign rfl (ev_t rfl)) ?_)
    refine Ops.nil fun a hS => ?_
    refine hK5 _ _ ?_ a hS
    refine Cod.ret fun a hS => ?_
    try simp only [Exit.then, Exit.inBlock]
    exact ret1 (t := 2) rfl hS rfl ⟨by unfold stpS; rw [if_neg (by rw [hm]; simp)], F2.chg⟩


theorem pathS_size {p : List Stp} (h : pathOk p = true) : ∀ i, i ≤ p.length → (pathS (p.take i)).size ≤ 1 + 70 * i
  | 0, _ => by simp [pathS]; exact Nat.le_refl 1
  | i + 1, hi => by
    have h1 := pathS_size h i (by omega)
    have h2 := stpS_size (pathOk_in h i (by omega))
    rw [pathS_take p i (by omega), ByteArray.size_append]
    omega

set_option maxRecDepth 100000 in
theorem specPathText_ct (p : List Stp) (hs : ∀ s ∈ p, s.key.size ≤ 9223372036854775807) (v : Value) (w : World) (hp : RepP Any w p v) : Calls Tryd.prog 18 #[v] w fun e w' => e = .returned (.string (pathTxt p)) ∧ Chg No w w' := by
  obtain ⟨A, c, rfl, hn⟩ := hp.open
  refine enter Tryd.func18 rfl rfl rfl ?_
  have F0 := Fr.start w
  refine Cod.seq fun K1 hK1 => ?_
  refine Cod.region ?_
  refine Ops.step (One.val rfl rfl rfl (yld_assign rfl ev_c) ?_)
  refine Ops.nil fun a hS => ?_
  refine hK1 _ _ ?_ a hS
  refine Cod.seq fun K2 hK2 => ?_
  refine Cod.seq fun K3 hK3 => ?_
  refine Cod.region ?_
  refine Ops.step (One.val rfl rfl rfl (yld_move rfl (ev_t rfl)) ?_)
  refine Ops.step (One.call rfl rfl rfl (ent_f rfl (evl1 (ev_t rfl)) (enters en33)) (specPathOk_ct p _ _ (hp.chg F0.chg) hs) (fun e w1 hw1 => ?_))
  obtain ⟨rfl, C1⟩ := hw1
  have F1 := F0.call C1
  refine ⟨_, rfl, ?_⟩
  refine Ops.step (One.val rfl rfl rfl (yld_not rfl (ev_t rfl)) ?_)
  refine Ops.nil fun a hS => ?_
  refine hK3 _ _ ?_ a hS
  refine Cod.cond rfl (fun hc7 => ?_) (fun hc7 => ?_)
  · skip
    have hno : pathOk p = false := by simpa using hc7
    refine Cod.seq fun K4 hK4 => ?_
    refine Cod.region ?_
    refine Ops.step (One.val rfl rfl rfl (yld_assign rfl ev_c) ?_)
    refine Ops.nil fun a hS => ?_
    refine hK4 _ _ ?_ a hS
    refine Cod.ret fun a hS => ?_
    try simp only [Exit.then, Exit.inBlock]
    exact ret1 (t := 2) rfl hS rfl ⟨by unfold pathTxt; rw [if_neg (by rw [hno]; simp)], F1.chg⟩
  · skip
    have hyes : pathOk p = true := by simpa using hc7
    have hl6 := pathOk_len hyes
    refine Cod.skip fun a hS => ?_
    refine hK2 _ _ ?_ a hS
    refine Cod.seq fun K5 hK5 => ?_
    refine Cod.region ?_
    refine Ops.step (One.val rfl rfl rfl (yld_assign rfl ev_c) ?_)
    refine Ops.nil fun a hS => ?_
    refine hK5 _ _ ?_ a hS
    refine Cod.seq fun K6 hK6 => ?_
    refine Cod.seq fun K7 hK7 => ?_
    refine Cod.region ?_
    refine Ops.step (One.val rfl rfl rfl (yld_assign rfl ev_c) ?_)
    refine Ops.nil fun a hS => ?_
    refine hK7 _ _ ?_ a hS
    refine Cod.block ?_
    refine Cod.loop (fun i : Nat => [(0, true, .slice A p.length c), (3, true, .string (pathS (p.take i))), (4, true, .int .i64 (i : Int))]) (fun i w' => i ≤ p.length ∧ Fr No w [] w') (fun i => p.length - i) 0 ⟨rfl, rfl, rfl, trivial⟩ ⟨Nat.zero_le _, F1⟩ ?_
    intro i w2 hW K8 hK8
    obtain ⟨hi, F2⟩ := hW
    refine Cod.seq fun K9 hK9 => ?_
    refine Cod.seq fun K10 hK10 => ?_
    refine Cod.region ?_
    refine Ops.step (One.val rfl rfl rfl (yld_move rfl (ev_t rfl)) ?_)
    refine Ops.step (One.val rfl rfl rfl (yld_move rfl (ev_t rfl)) ?_)
    refine Ops.step (One.val rfl rfl rfl (yld_len sl44 rfl (ev_t rfl)) ?_)
    refine Ops.step (One.val rfl rfl rfl (yld_lss rfl (ev_t rfl) (ev_t rfl)) ?_)
    refine Ops.nil fun a hS => ?_
    refine hK10 _ _ ?_ a hS
    refine Cod.cond rfl (fun hc11 => ?_) (fun hc11 => ?_)
    · skip
      have hi : i < p.length := by simpa using hc11
      obtain ⟨b, o, rfl, -, hr⟩ := hp.at i hi
      have hso := pathOk_in hyes i hi
      have hz1 := pathS_size hyes i (by omega)
      have hz2 := stpS_size hso
      refine Cod.skip fun a hS => ?_
      refine hK9 _ _ ?_ a hS
      refine Cod.seq fun K11 hK11 => ?_
      refine Cod.block ?_
      refine Cod.region ?_
      refine Ops.step (One.val rfl rfl rfl (yld_move rfl (ev_t rfl)) ?_)
      refine Ops.step (One.val rfl rfl rfl (yld_move rfl (ev_t rfl)) ?_)
      refine Ops.step (One.val rfl rfl rfl (yld_move rfl (ev_t rfl)) ?_)
      refine Ops.step (One.val rfl rfl rfl (yld_indexN sl44 rfl (ev_t rfl) (ev_t rfl) (fun _ => by omega)) ?_)
      refine Ops.step (One.val rfl rfl rfl (yld_loadN ag61 rfl (ev_t rfl) (fun _ => rng hr F2.chg) rfl) ?_)
      refine Ops.step (One.call rfl rfl rfl (ent_f rfl (evl1 (ev_t rfl)) (enters en48)) (l3Text_ct p[i] hso _) (fun e w3 hw3 => ?_))
      obtain ⟨rfl, C3⟩ := hw3
      have F3 := F2.call C3
      refine ⟨_, rfl, ?_⟩
      refine Ops.step (One.val rfl rfl rfl (yld_sadd rfl (ev_t rfl) (ev_t rfl) (fun _ => by omega)) ?_)
      refine Ops.step (One.val rfl rfl rfl (yld_assign rfl (ev_t rfl)) ?_)
      refine Ops.nil fun a hS => ?_
      refine hK11 _ _ ?_ a hS
      refine Cod.region ?_
      refine Ops.step (One.val rfl rfl rfl (yld_move rfl (ev_t rfl)) ?_)
      refine Ops.step (One.val rfl rfl rfl (yld_inc rfl (ev_t rfl) (fun _ => by omega)) ?_)
      refine Ops.step (One.val rfl rfl rfl (yld_assign rfl (ev_t rfl)) ?_)
      refine Ops.nil fun a hS => ?_
      rw [← pathS_take p i hi] at hS
      exact hK8 (i + 1) _ a (hS.sub ⟨rfl, rfl, rfl, trivial⟩) ⟨by omega, F3⟩ (by omega)
    · skip
      obtain rfl : i = p.length := by simp at hc11; omega
      rw [List.take_length]
      refine Cod.exit fun a hS => ?_
      simp only [Exit.then, Exit.inBlock, ↓reduceIte]
      refine hK6 _ _ ?_ a hS
      refine Cod.seq fun K12 hK12 => ?_
      refine Cod.region ?_
      refine Ops.step (One.val rfl rfl rfl (yld_move rfl (ev_t rfl)) ?_)
      refine Ops.step (One.val rfl rfl rfl (yld_assign rfl (ev_t rfl)) ?_)
      refine Ops.nil fun a hS => ?_
      refine hK12 _ _ ?_ a hS
      refine Cod.ret fun a hS => ?_
      try simp only [Exit.then, Exit.inBlock]
      exact ret1 (t := 2) rfl hS rfl ⟨by unfold pathTxt; rw [if_pos hyes], F2.chg⟩

set_option maxRecDepth 100000 in
theorem pathText_ct (p : List Stp) (hs : ∀ s ∈ p, s.key.size ≤ 9223372036854775807) (v : Value) (w : World) (hp : RepP Any w p v) (ht : PowTab w) : Calls Tryd.prog 20 #[v] w fun e w' => e = .returned (.string (pathTxt p)) ∧ Chg No w w' := by
  obtain ⟨A, c, rfl, hn⟩ := hp.open
  have h46 : (⟨#[46]⟩ : ByteArray).size = 1 := rfl
  have h91 : (⟨#[91]⟩ : ByteArray).size = 1 := rfl
  have h93 : (⟨#[93]⟩ : ByteArray).size = 1 := rfl
  refine enter Tryd.func20 rfl rfl rfl ?_
  have F0 := Fr.start w
  refine Cod.seq fun K1 hK1 => ?_
  refine Cod.region ?_
  refine Ops.step (One.val rfl rfl rfl (yld_assign rfl ev_c) ?_)
  refine Ops.nil fun a hS => ?_
  refine hK1 _ _ ?_ a hS
  refine Cod.seq fun K2 hK2 => ?_
  refine Cod.seq fun K3 hK3 => ?_
  refine Cod.region ?_
  refine Ops.step (One.val rfl rfl rfl (yld_move rfl (ev_t rfl)) ?_)
  refine Ops.step (One.call rfl rfl rfl (ent_f rfl (evl1 (ev_t rfl)) (enters en32)) (PathOk_ct p _ _ (hp.chg F0.chg) hs) (fun e w1 hw1 => ?_))
  obtain ⟨rfl, C1⟩ := hw1
  have F1 := F0.call C1
  refine ⟨_, rfl, ?_⟩
  refine Ops.step (One.val rfl rfl rfl (yld_not rfl (ev_t rfl)) ?_)
  refine Ops.nil fun a hS => ?_
  refine hK3 _ _ ?_ a hS
  refine Cod.cond rfl (fun hc8 => ?_) (fun hc8 => ?_)
  · skip
    have hno : pathOk p = false := by simpa using hc8
    refine Cod.seq fun K4 hK4 => ?_
    refine Cod.region ?_
    refine Ops.step (One.val rfl rfl rfl (yld_assign rfl ev_c) ?_)
    refine Ops.nil fun a hS => ?_
    refine hK4 _ _ ?_ a hS
    refine Cod.ret fun a hS => ?_
    try simp only [Exit.then, Exit.inBlock]
    exact ret1 (t := 2) rfl hS rfl ⟨by unfold pathTxt; rw [if_neg (by rw [hno]; simp)], F1.chg⟩
  · skip
    have hyes : pathOk p = true := by simpa using hc8
    have hl6 := pathOk_len hyes
    refine Cod.skip fun a hS => ?_
    refine hK2 _ _ ?_ a hS
    refine Cod.seq fun K5 hK5 => ?_
    refine Cod.region ?_
    refine Ops.step (One.val rfl rfl rfl (yld_assign rfl ev_c) ?_)
    refine Ops.nil fun a hS => ?_
    refine hK5 _ _ ?_ a hS
    refine Cod.seq fun K6 hK6 => ?_
    refine Cod.seq fun K7 hK7 => ?_
    refine Cod.region ?_
    refine Ops.step (One.val rfl rfl rfl (yld_move rfl (ev_t rfl)) ?_)
    refine Ops.step (One.val rfl rfl rfl (yld_len sl44 rfl (ev_t rfl)) ?_)
    refine Ops.step (One.val rfl rfl rfl (yld_move rfl ev_c) ?_)
    refine Ops.nil fun a hS => ?_
    refine hK7 _ _ ?_ a hS
    refine Cod.block ?_
    refine Cod.loop (fun i : Nat => [(3, true, .string (pathS (p.take i))), (9, true, .slice A p.length c), (10, true, .int .i64 (p.length : Int)), (11, true, .int .i64 (i : Int))]) (fun i w' => i ≤ p.length ∧ Fr No w [] w') (fun i => p.length - i) 0 ⟨rfl, rfl, rfl, rfl, trivial⟩ ⟨Nat.zero_le _, F1⟩ ?_
    intro i w2 hW K8 hK8
    obtain ⟨hi, F2⟩ := hW
    refine Cod.seq fun K9 hK9 => ?_
    refine Cod.region ?_
    refine Ops.step (One.val rfl rfl rfl (yld_lss rfl (ev_t rfl) (ev_t rfl)) ?_)
    refine Ops.nil fun a hS => ?_
    refine hK9 _ _ ?_ a hS
    refine Cod.seq fun K10 hK10 => ?_
    refine Cod.cond rfl (fun hc12 => ?_) (fun hc12 => ?_)
    · skip
      have hi : i < p.length := by simpa using hc12
      obtain ⟨b, o, rfl, -, hr⟩ := hp.at i hi
      have hso := pathOk_in hyes i hi
      have hz1 := pathS_size hyes i (by omega)
      have hz2 := stpS_size hso
      refine Cod.skip fun a hS => ?_
      refine hK10 _ _ ?_ a hS
      refine Cod.seq fun K11 hK11 => ?_
      refine Cod.block ?_
      refine Cod.seq fun K12 hK12 => ?_
      refine Cod.region ?_
      refine Ops.step (One.val rfl rfl rfl (yld_indexN sl44 rfl (ev_t rfl) (ev_t rfl) (fun _ => by omega)) ?_)
      refine Ops.step (One.val rfl rfl rfl (yld_loadN ag61 rfl (ev_t rfl) (fun _ => rng hr F2.chg) rfl) ?_)
      refine Ops.step (One.alloc F2 zero61 rfl rfl rfl rfl ?_)
      intro b1 w3 hb1 F3
      change Fr _ _ [blk _ _ [_, _, _]] _ at F3
      refine Ops.step (One.storeN (vs := [_, _, _]) F3 0 rfl sz61 rfl rfl rfl (ev_t rfl) (ev_t rfl) rfl rfl rfl ?_)
      intro w4 F4
      change Fr _ _ [blk _ _ [_, _, _]] _ at F4
      refine Ops.nil fun a hS => ?_
      refine hK12 _ _ ?_ a hS
      refine Cod.seq fun K13 hK13 => ?_
      refine Cod.region ?_
      refine Ops.step (One.val rfl rfl rfl (yld_field fi61_0 rfl (ev_t rfl)) ?_)
      refine Ops.step (One.val rfl rfl rfl (yld_load1 on4 rfl (ev_t rfl) (fun _ => F4.cell 0 rfl rfl)) ?_)
      refine Ops.nil fun a hS => ?_
      refine hK13 _ _ ?_ a hS
      refine Cod.cond rfl (fun hc16 => ?_) (fun hc16 => ?_)
      · skip
        have hm : p[i].m = true := hc16
        have hk := stp_ks hso hm
        have hstp : (⟨#[46]⟩ : ByteArray) ++ p[i].key = stpS p[i] := by unfold stpS; rw [if_pos hm]
        refine Cod.region ?_
        refine Ops.step (One.val rfl rfl rfl (yld_move rfl (ev_t rfl)) ?_)
        refine Ops.step (One.val rfl rfl rfl (yld_field fi61_1 rfl (ev_t rfl)) ?_)
        refine Ops.step (One.val rfl rfl rfl (yld_load1 on9 rfl (ev_t rfl) (fun _ => F4.cell 0 rfl rfl)) ?_)
        refine Ops.step (One.val rfl rfl rfl (yld_sadd rfl ev_c (ev_t rfl) (fun _ => by omega)) ?_)
        refine Ops.step (One.val rfl rfl rfl (yld_sadd rfl (ev_t rfl) (ev_t rfl) (fun _ => by rw [hstp]; omega)) ?_)
        refine Ops.step (One.val rfl rfl rfl (yld_assign rfl (ev_t rfl)) ?_)
        refine Ops.nil fun a hS => ?_
        refine hK11 _ _ ?_ a hS
        refine Cod.region ?_
        refine Ops.step (One.val rfl rfl rfl (yld_inc rfl (ev_t rfl) (fun _ => by omega)) ?_)
        refine Ops.step (One.val rfl rfl rfl (yld_move rfl (ev_t rfl)) ?_)
        refine Ops.nil fun a hS => ?_
        rw [hstp, ← pathS_take p i hi] at hS
        exact hK8 (i + 1) _ a (hS.sub ⟨rfl, rfl, rfl, rfl, trivial⟩) ⟨by omega, F4.drop1⟩ (by omega)
      · skip
        have hm : p[i].m = false := hc16
        have hpl := stp_pl hso hm
        have hsz := itoaS_size p[i].pl
        have hstp : ((⟨#[91]⟩ : ByteArray) ++ itoaS p[i].pl) ++ ⟨#[93]⟩ = stpS p[i] := by unfold stpS; rw [if_neg (by rw [hm]; simp)]
        refine Cod.region ?_
        refine Ops.step (One.val rfl rfl rfl (yld_move rfl (ev_t rfl)) ?_)
        refine Ops.step (One.val rfl rfl rfl (yld_field fi61_2 rfl (ev_t rfl)) ?_)
        refine Ops.step (One.val rfl rfl rfl (yld_load1 on3 rfl (ev_t rfl) (fun _ => F4.cell 0 rfl rfl)) ?_)
        refine Ops.step (One.call rfl rfl rfl (ent_f rfl (evl1 (ev_t rfl)) (enters en50)) (itoa_ct p[i].pl _ (by omega) (by omega) (ht.chg F4.chg)) (fun e w5 hw5 => ?_))
        obtain ⟨rfl, C5⟩ := hw5
        have F5 := F4.call C5
        refine ⟨_, rfl, ?_⟩
        refine Ops.step (One.val rfl rfl rfl (yld_sadd rfl ev_c (ev_t rfl) (fun _ => by omega)) ?_)
        refine Ops.step (One.val rfl rfl rfl (yld_sadd rfl (ev_t rfl) ev_c (fun _ => by rw [ByteArray.size_append]; omega)) ?_)
        refine Ops.step (One.val rfl rfl rfl (yld_sadd rfl (ev_t rfl) (ev_t rfl) (fun _ => by rw [hstp]; omega)) ?_)
        refine Ops.step (One.val rfl rfl rfl (yld_assign rfl (ev_t rfl)) ?_)
        refine Ops.nil fun a hS => ?_
        refine hK11 _ _ ?_ a hS
        refine Cod.region ?_
        refine Ops.step (One.val rfl rfl rfl (yld_inc rfl (ev_t rfl) (fun _ => by omega)) ?_)
        refine Ops.step (One.val rfl rfl rfl (yld_move rfl (ev_t rfl)) ?_)
        refine Ops.nil fun a hS => ?_
        rw [hstp, ← pathS_take p i hi] at hS
        exact hK8 (i + 1) _ a (hS.sub ⟨rfl, rfl, rfl, rfl, trivial⟩) ⟨by omega, F5.drop1⟩ (by omega)
    · skip
      obtain rfl : i = p.length := by simp at hc12; omega
      rw [List.take_length]
      refine Cod.exit fun a hS => ?_
      simp only [Exit.then, Exit.inBlock, ↓reduceIte]
      refine hK6 _ _ ?_ a hS
      refine Cod.seq fun K14 hK14 => ?_
      refine Cod.region ?_
      refine Ops.step (One.val rfl rfl rfl (yld_move rfl (ev_t rfl)) ?_)
      refine Ops.step (One.val rfl rfl rfl (yld_assign rfl (ev_t rfl)) ?_)
      refine Ops.nil fun a hS => ?_
      refine hK14 _ _ ?_ a hS
      refine Cod.ret fun a hS => ?_
      try simp only [Exit.then, Exit.inBlock]
      exact ret1 (t := 2) rfl hS rfl ⟨by unfold pathTxt; rw [if_pos hyes], F2.chg⟩

end Go.Proofs.YtpfkcblhojkaiaaDoor.Eng
