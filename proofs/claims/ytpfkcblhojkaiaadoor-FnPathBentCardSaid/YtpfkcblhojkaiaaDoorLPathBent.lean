/- FnPathBent returns true for all bytes: the program tells which lists of steps are ways as the reference does; a bad step makes a way bad; two ways make one just if it is no longer than ways may be, and its text is then their texts one behind the other. The card: the library's tables read as the program's text lays them. No condition besides. -/
import Derived.Test.YtpfkcblhojkaiaaDoorPath0
import Derived.Test.YtpfkcblhojkaiaaDoorDec
import Derived.Test.YtpfkcblhojkaiaaDoorNeg
import Derived.Test.YtpfkcblhojkaiaaDoorLaiT
import Derived.Test.YtpfkcblhojkaiaaDoorWaysP
import Derived.Test.YtpfkcblhojkaiaaDoorDraw3
import Derived.Test.YtpfkcblhojkaiaaDoorLawC
import Derived.Test.YtpfkcblhojkaiaaDoorSlc
import Derived.Test.YtpfkcblhojkaiaaDoorLaiR
import Derived.Test.YtpfkcblhojkaiaaDoorBun
import Derived.Test.YtpfkcblhojkaiaaDoorArgB
import Derived.Test.YtpfkcblhojkaiaaDoorRows
import Derived.Test.YtpfkcblhojkaiaaDoorTie
import Derived.Test.YtpfkcblhojkaiaaDoorCards
namespace Go.Proofs.YtpfkcblhojkaiaaDoor.Eng
open Go.RowKit Go.ChangeShapes Go.WideShapes Go.ChangeAt
set_option linter.unusedVariables false
set_option linter.unusedSimpArgs false
set_option maxHeartbeats 1000000
set_option linter.constructorNameAsVariable false
namespace LPathBent


def DecOk (n : Int) : Prop := ∀ w : World, Calls Tryd.prog 85 #[.int .i64 n] w fun e w' => e = .returned (.string (itoaS n)) ∧ Chg No w w'
theorem itoaS_nat (q : Nat) : itoaS (q : Int) = ⟨(Lib.decDigits q).toArray⟩ := by
  unfold itoaS Lib.itoa
  rw [if_neg (by omega), Int.toNat_natCast]
theorem itoaS_neg {n : Int} (h : n < 0) : itoaS n = ⟨#[45]⟩ ++ itoaS (-n) := by
  obtain ⟨q, rfl⟩ : ∃ q : Nat, n = -(q : Int) := ⟨n.natAbs, by omega⟩
  rw [Int.neg_neg, itoaS_nat]
  refine (txt_eq ?_).symm
  rw [txt_app]
  unfold Lib.itoa
  rw [if_pos h, show (-(q : Int)).natAbs = q by omega]
  rfl

set_option maxRecDepth 100000 in
theorem dec_nat (q : Nat) (hq : q ≤ 1000000000) : DecOk (q : Int) := by
  intro w
  rw [itoaS_nat]
  refine enter Tryd.func85 rfl rfl rfl ?_
  have F0 := Fr.start w
  refine Cod.seq fun K1 hK1 => ?_
  refine Cod.region ?_
  refine Ops.step (One.val rfl rfl rfl (yld_assign rfl ev_c) ?_)
  refine Ops.nil fun a hS => ?_
  refine hK1 _ _ ?_ a hS
  refine Cod.seq fun K2 hK2 => ?_
  refine Cod.seq fun K3 hK3 => ?_
  refine Cod.region ?_
  refine Ops.step (One.val rfl rfl rfl (yld_move rfl (ev_t rfl)) ?_)
  refine Ops.step (One.val rfl rfl rfl (yld_lss rfl (ev_t rfl) ev_c) ?_)
  refine Ops.nil fun a hS => ?_
  refine hK3 _ _ ?_ a hS
  refine Cod.cond rfl (fun hc5 => ?_) (fun hc5 => ?_)
  · skip
    (simp at hc5; omega)
  · skip
    refine Cod.skip fun a hS => ?_
    refine hK2 _ _ ?_ a hS
    refine Cod.seq fun K4 hK4 => ?_
    refine Cod.seq fun K5 hK5 => ?_
    refine Cod.region ?_
    refine Ops.step (One.val rfl rfl rfl (yld_move rfl (ev_t rfl)) ?_)
    refine Ops.step (One.val rfl rfl rfl (yld_lss rfl (ev_t rfl) ev_c) ?_)
    refine Ops.nil fun a hS => ?_
    refine hK5 _ _ ?_ a hS
    refine Cod.cond rfl (fun hc7 => ?_) (fun hc7 => ?_)
    · skip
      (simp at hc7; omega)
    · skip
      refine Cod.skip fun a hS => ?_
      refine hK4 _ _ ?_ a hS
      refine Cod.seq fun K6 hK6 => ?_
      refine Cod.region ?_
      refine Ops.step (One.val rfl rfl rfl (yld_assign rfl ev_c) ?_)
      refine Ops.nil fun a hS => ?_
      refine hK6 _ _ ?_ a hS
      refine Cod.seq fun K7 hK7 => ?_
      refine Cod.block ?_
      refine Cod.loop (fun i : Nat × ByteArray => [(0, true, .int .i64 (i.1 : Int)), (3, true, .string i.2)]) (fun i w' => Lib.decDigits q = Lib.decDigits i.1 ++ i.2.data.toList ∧ i.1 + i.2.size ≤ q ∧ Fr No w [] w') (fun i => i.1) (q, ⟨#[]⟩) ⟨rfl, rfl, trivial⟩ ⟨by simp, Nat.le_refl _, F0⟩ ?_
      intro i w1 hW K8 hK8
      obtain ⟨r, out⟩ := i
      obtain ⟨hd, hsz, F1⟩ := hW
      dsimp only at *
      refine Cod.seq fun K9 hK9 => ?_
      refine Cod.seq fun K10 hK10 => ?_
      refine Cod.region ?_
      refine Ops.step (One.val rfl rfl rfl (yld_move rfl (ev_t rfl)) ?_)
      refine Ops.step (One.val rfl rfl rfl (yld_gtr rfl (ev_t rfl) ev_c) ?_)
      refine Ops.nil fun a hS => ?_
      refine hK10 _ _ ?_ a hS
      refine Cod.cond rfl (fun hc13 => ?_) (fun hc13 => ?_)
      · skip
        have hr0 : 9 < r := by simp at hc13; omega
        refine Cod.skip fun a hS => ?_
        refine hK9 _ _ ?_ a hS
        refine Cod.block ?_
        refine Cod.seq fun K11 hK11 => ?_
        refine Cod.region ?_
        refine Ops.step (One.val rfl rfl rfl (yld_move rfl (ev_t rfl)) ?_)
        refine Ops.step (One.val rfl rfl rfl (yld_rem rfl (ev_t rfl) ev_c (j := 10) (by omega)) ?_)
        refine Ops.step (One.val rfl rfl rfl (yld_add rfl ev_c (ev_t rfl) (fun _ => by omega)) ?_)
        refine Ops.step (One.val rfl rfl rfl (yld_conv Tryd.underlying3 Tryd.underlying5 rfl (ev_t rfl)) ?_)
        refine Ops.step (One.buildSlice (cells := [.int .u8 (IntKind.u8.wrap (48 + ((r % 10 : Nat) : Int)))]) F1 sl57 zero5 rfl rfl rfl rfl (evp1 (ev_t rfl)) rfl rfl (by kernel_rfl) ?_)
        intro b1 w2 hb1 F2
        refine Ops.step (One.val rfl rfl rfl (yld_text (l := [UInt8.ofNat (48 + r % 10)]) Tryd.underlying57 Tryd.underlying5 Tryd.underlying9 rfl (ev_t rfl) (fun _ => by
      have hd := digit (r % 10) (Nat.mod_lt _ (by omega))
      rw [List.map_cons, List.map_nil, ← hd]
      exact F2.range (m := 1) 0 rfl rfl)) ?_)
        refine Ops.step (One.val rfl rfl rfl (yld_move rfl (ev_t rfl)) ?_)
        refine Ops.step (One.val rfl rfl rfl (yld_sadd rfl (ev_t rfl) (ev_t rfl) (fun _ => by have h1 : (⟨#[UInt8.ofNat (48 + r % 10)]⟩ : ByteArray).size = 1 := rfl; have h2 : (⟨[UInt8.ofNat (48 + r % 10)].toArray⟩ : ByteArray).size = 1 := rfl; omega)) ?_)
        refine Ops.step (One.val rfl rfl rfl (yld_assign rfl (ev_t rfl)) ?_)
        refine Ops.nil fun a hS => ?_
        refine hK11 _ _ ?_ a hS
        refine Cod.region ?_
        refine Ops.step (One.val rfl rfl rfl (yld_move rfl (ev_t rfl)) ?_)
        refine Ops.step (One.val rfl rfl rfl (yld_quo rfl (ev_t rfl) ev_c (j := 10) (by omega) (by omega)) ?_)
        refine Ops.step (One.val rfl rfl rfl (yld_assign rfl (ev_t rfl)) ?_)
        refine Ops.nil fun a hS => ?_
        have hsz' : ((⟨#[UInt8.ofNat (48 + r % 10)]⟩ : ByteArray) ++ out).size = 1 + out.size := by rw [ByteArray.size_append]; rfl
        exact hK8 (r / 10, (⟨#[UInt8.ofNat (48 + r % 10)]⟩ : ByteArray) ++ out) _ a (hS.sub ⟨rfl, rfl, trivial⟩) ⟨by rw [hd, dec_step (by omega), txt_app]; simp, by show r / 10 + ((⟨#[UInt8.ofNat (48 + r % 10)]⟩ : ByteArray) ++ out).size ≤ q; omega, F2.drop1⟩ (by show r / 10 < r; omega)
      · skip
        have hr9 : r ≤ 9 := by simp at hc13; omega
        rw [Lib.decDigits_one (by omega : r < 10)] at hd
        refine Cod.exit fun a hS => ?_
        simp only [Exit.then, Exit.inBlock, ↓reduceIte]
        refine hK7 _ _ ?_ a hS
        refine Cod.seq fun K12 hK12 => ?_
        refine Cod.region ?_
        refine Ops.step (One.val rfl rfl rfl (yld_move rfl (ev_t rfl)) ?_)
        refine Ops.step (One.val rfl rfl rfl (yld_add rfl ev_c (ev_t rfl) (fun _ => by omega)) ?_)
        refine Ops.step (One.val rfl rfl rfl (yld_conv Tryd.underlying3 Tryd.underlying5 rfl (ev_t rfl)) ?_)
        refine Ops.step (One.buildSlice (cells := [.int .u8 (IntKind.u8.wrap (48 + (r : Int)))]) F1 sl57 zero5 rfl rfl rfl rfl (evp1 (ev_t rfl)) rfl rfl (by kernel_rfl) ?_)
        intro b2 w3 hb2 F3
        refine Ops.step (One.val rfl rfl rfl (yld_text (l := [UInt8.ofNat (48 + r)]) Tryd.underlying57 Tryd.underlying5 Tryd.underlying9 rfl (ev_t rfl) (fun _ => by
      have hd := digit r (by omega)
      rw [List.map_cons, List.map_nil, ← hd]
      exact F3.range (m := 1) 0 rfl rfl)) ?_)
        refine Ops.step (One.val rfl rfl rfl (yld_move rfl (ev_t rfl)) ?_)
        refine Ops.step (One.val rfl rfl rfl (yld_sadd rfl (ev_t rfl) (ev_t rfl) (fun _ => by have h2 : (⟨[UInt8.ofNat (48 + r)].toArray⟩ : ByteArray).size = 1 := rfl; omega)) ?_)
        refine Ops.step (One.val rfl rfl rfl (yld_assign rfl (ev_t rfl)) ?_)
        refine Ops.nil fun a hS => ?_
        refine hK12 _ _ ?_ a hS
        refine Cod.ret fun a hS => ?_
        try simp only [Exit.then, Exit.inBlock]
        exact ret1 (t := 2) rfl hS rfl ⟨by rw [hd]; congr 2, F3.chg⟩

set_option maxRecDepth 100000 in
theorem dec_neg (n : Int) (h0 : -1000000000 ≤ n) (h1 : n < 0) : DecOk n := by
  intro w
  refine enter Tryd.func85 rfl rfl rfl ?_
  have F0 := Fr.start w
  refine Cod.seq fun K1 hK1 => ?_
  refine Cod.region ?_
  refine Ops.step (One.val rfl rfl rfl (yld_assign rfl ev_c) ?_)
  refine Ops.nil fun a hS => ?_
  refine hK1 _ _ ?_ a hS
  refine Cod.seq fun K2 hK2 => ?_
  refine Cod.seq fun K3 hK3 => ?_
  refine Cod.region ?_
  refine Ops.step (One.val rfl rfl rfl (yld_move rfl (ev_t rfl)) ?_)
  refine Ops.step (One.val rfl rfl rfl (yld_lss rfl (ev_t rfl) ev_c) ?_)
  refine Ops.nil fun a hS => ?_
  refine hK3 _ _ ?_ a hS
  refine Cod.cond rfl (fun hc5 => ?_) (fun hc5 => ?_)
  · skip
    (simp at hc5; omega)
  · skip
    refine Cod.skip fun a hS => ?_
    refine hK2 _ _ ?_ a hS
    refine Cod.seq fun K4 hK4 => ?_
    refine Cod.seq fun K5 hK5 => ?_
    refine Cod.region ?_
    refine Ops.step (One.val rfl rfl rfl (yld_move rfl (ev_t rfl)) ?_)
    refine Ops.step (One.val rfl rfl rfl (yld_lss rfl (ev_t rfl) ev_c) ?_)
    refine Ops.nil fun a hS => ?_
    refine hK5 _ _ ?_ a hS
    refine Cod.cond rfl (fun hc7 => ?_) (fun hc7 => ?_)
    · skip
      refine Cod.seq fun K6 hK6 => ?_
      refine Cod.region ?_
      refine Ops.step (One.val rfl rfl rfl (yld_move rfl (ev_t rfl)) ?_)
      refine Ops.step (One.val rfl rfl rfl (yld_neg rfl (ev_t rfl) (fun _ => by omega)) ?_)
      refine Ops.step (One.call rfl rfl rfl (ent_f rfl (evl1 (ev_t rfl)) (enters en85)) ((show DecOk (-n) by obtain ⟨q, hq⟩ := Int.eq_ofNat_of_zero_le (show 0 ≤ -n by omega); rw [hq]; exact dec_nat q (by omega)) _) (fun e w1 hw1 => ?_))
      obtain ⟨rfl, C1⟩ := hw1
      have F1 := F0.call C1
      refine ⟨_, rfl, ?_⟩
      refine Ops.step (One.val rfl rfl rfl (yld_sadd rfl ev_c (ev_t rfl) (fun _ => by have h1 : (⟨#[45]⟩ : ByteArray).size = 1 := rfl; have h2 := itoaS_size (-n); omega)) ?_)
      refine Ops.step (One.val rfl rfl rfl (yld_assign rfl (ev_t rfl)) ?_)
      refine Ops.nil fun a hS => ?_
      refine hK6 _ _ ?_ a hS
      refine Cod.ret fun a hS => ?_
      try simp only [Exit.then, Exit.inBlock]
      exact ret1 (t := 2) rfl hS rfl ⟨by rw [itoaS_neg h1], F1.chg⟩
    · skip
      (simp at hc7; omega)


theorem l11Dec_ct (n : Int) (h0 : -1000000000 ≤ n) (h1 : n ≤ 1000000000) : DecOk n := by
  by_cases h : n < 0
  · exact dec_neg n h0 h
  · obtain ⟨q, rfl⟩ := Int.eq_ofNat_of_zero_le (show 0 ≤ n by omega)
    exact dec_nat q (by omega)
/-- The text of one step, and of a way. -/
def stpS (s : Stp) : ByteArray := if s.m = true then ⟨#[46]⟩ ++ s.key else (⟨#[91]⟩ ++ itoaS s.pl) ++ ⟨#[93]⟩
def pathS (p : List Stp) : ByteArray := p.foldl (fun out s => out ++ stpS s) ⟨#[36]⟩
def pathTxt (p : List Stp) : ByteArray := if pathOk p = true then pathS p else ⟨#[]⟩
theorem pathS_take (p : List Stp) (i : Nat) (hi : i < p.length) : pathS (p.take (i + 1)) = pathS (p.take i) ++ stpS p[i] := by
  unfold pathS
  rw [List.take_succ_eq_append_getElem hi, List.foldl_append]
  rfl
theorem stpS_size {s : Stp} (h : s.ok = true) : (stpS s).size ≤ 70 := by
  unfold Stp.ok at h
  unfold stpS
  split
  · rename_i hm
    rw [if_pos hm] at h
    have h2 := okS_size (s := s.key) (by simp at h; exact h.1)
    rw [ByteArray.size_append]
    have : (⟨#[46]⟩ : ByteArray).size = 1 := rfl
    omega
  · rename_i hm
    rw [if_neg hm] at h
    simp at h
    have h2 := itoaS_size s.pl
    have h3 : (⟨#[91]⟩ : ByteArray).size = 1 := rfl
    have h4 : (⟨#[93]⟩ : ByteArray).size = 1 := rfl
    rw [ByteArray.size_append, ByteArray.size_append]
    omega
theorem pathOk_len {p : List Stp} (h : pathOk p = true) : p.length ≤ 6 := by
  unfold pathOk at h
  simp only [Bool.and_eq_true, decide_eq_true_eq] at h
  exact h.2
theorem pathOk_in {p : List Stp} (h : pathOk p = true) (i : Nat) (hi : i < p.length) : p[i].ok = true := by
  unfold pathOk at h
  simp only [Bool.and_eq_true, List.all_eq_true] at h
  exact h.1 _ (List.getElem_mem hi)
theorem stp_pl {s : Stp} (h : s.ok = true) (hm : s.m = false) : -60 ≤ s.pl ∧ s.pl < 60 := by
  unfold Stp.ok at h
  rw [if_neg (by rw [hm]; simp)] at h
  simp at h
  omega
theorem stp_ks {s : Stp} (h : s.ok = true) (hm : s.m = true) : s.key.size ≤ 12 := by
  unfold Stp.ok at h
  rw [if_pos hm] at h
  exact okS_size (by simp at h; exact h.1)

set_option maxRecDepth 100000 in
theorem l3Text_ct (s : Stp) (hs : s.ok = true) (w : World) : Calls Tryd.prog 48 #[.agg (pCells s).toArray] w fun e w' => e = .returned (.string (stpS s)) ∧ Chg No w w' := by
  have h46 : (⟨#[46]⟩ : ByteArray).size = 1 := rfl
  have h91 : (⟨#[91]⟩ : ByteArray).size = 1 := rfl
  have h93 : (⟨#[93]⟩ : ByteArray).size = 1 := rfl
  refine enter Tryd.func48 rfl rfl rfl ?_
  have F0 := Fr.start w
  refine Cod.seq fun K1 hK1 => ?_
  refine Cod.region ?_
  refine Ops.step (One.box F0 rfl rfl rfl rfl (ev_t rfl) ?_)
  intro b1 w1 hb1 F1
  change Fr _ _ [blk _ _ [_, _, _]] _ at F1
  refine Ops.step (One.val rfl rfl rfl (yld_assign rfl ev_c) ?_)
  refine Ops.nil fun a hS => ?_
  refine hK1 _ _ ?_ a hS
  refine Cod.seq fun K2 hK2 => ?_
  refine Cod.seq fun K3 hK3 => ?_
  refine Cod.region ?_
  refine Ops.step (One.val rfl rfl rfl (yld_field fi61_0 rfl (ev_t rfl)) ?_)
  refine Ops.step (One.val rfl rfl rfl (yld_load1 on4 rfl (ev_t rfl) (fun _ => F1.cell 0 rfl rfl)) ?_)
  refine Ops.nil fun a hS => ?_
  refine hK3 _ _ ?_ a hS
  refine Cod.cond rfl (fun hc4 => ?_) (fun hc4 => ?_)
  · skip
    have hm : s.m = true := hc4
    have hk := stp_ks hs hm
    refine Cod.seq fun K4 hK4 => ?_
    refine Cod.region ?_
    refine Ops.step (One.val rfl rfl rfl (yld_field fi61_1 rfl (ev_t rfl)) ?_)
    refine Ops.step (One.val rfl rfl rfl (yld_load1 on9 rfl (ev_t rfl) (fun _ => F1.cell 0 rfl rfl)) ?_)
    refine Ops.step (One.val rfl rfl rfl (yld_sadd rfl ev_c (ev_t rfl) (fun _ => by omega)) ?_)
    refine Ops.step (One.val rfl rfl rfl (yld_assign rfl (ev_t rfl)) ?_)
    refine Ops.nil fun a hS => ?_
    refine hK4 _ _ ?_ a hS
    refine Cod.ret fun a hS => ?_
    try simp only [Exit.then, Exit.inBlock]
    exact ret1 (t := 2) rfl hS rfl ⟨by unfold stpS; rw [if_pos hm], F1.chg⟩
  · skip
    have hm : s.m = false := hc4
    have hpl := stp_pl hs hm
    have hsz := itoaS_size s.pl
    refine Cod.skip fun a hS => ?_
    refine hK2 _ _ ?_ a hS
    refine Cod.seq fun K5 hK5 => ?_
    refine Cod.region ?_
    refine Ops.step (One.val rfl rfl rfl (yld_field fi61_2 rfl (ev_t rfl)) ?_)
    refine Ops.step (One.val rfl rfl rfl (yld_load1 on3 rfl (ev_t rfl) (fun _ => F1.cell 0 rfl rfl)) ?_)
    refine Ops.step (One.call rfl rfl rfl (ent_f rfl (evl1 (ev_t rfl)) (enters en85)) (l11Dec_ct s.pl (by omega) (by omega) _) (fun e w2 hw2 => ?_))
    obtain ⟨rfl, C2⟩ := hw2
    have F2 := F1.call C2
    refine ⟨_, rfl, ?_⟩
    refine Ops.step (One.val rfl rfl rfl (yld_sadd rfl ev_c (ev_t rfl) (fun _ => by omega)) ?_)
    refine Ops.step (One.val rfl rfl rfl (yld_sadd rfl (ev_t rfl) ev_c (fun _ => by rw [ByteArray.size_append]; omega)) ?_)
    refine Ops.step (One.val rfl rfl rfl (yld_assign rfl (ev_t rfl)) ?_)
    refine Ops.nil fun a hS => ?_
    refine hK5 _ _ ?_ a hS
    refine Cod.ret fun a hS => ?_
    try simp only [Exit.then, Exit.inBlock]
    exact ret1 (t := 2) rfl hS rfl ⟨by unfold stpS; rw [if_neg (by rw [hm]; simp)], F2.chg⟩


theorem pathS_size {p : List Stp} (h : pathOk p = true) : ∀ i, i ≤ p.length → (pathS (p.take i)).size ≤ 1 + 70 * i
  | 0, _ => by simp [pathS]; exact Nat.le_refl 1
  | i + 1, hi => by
    have h1 := pathS_size h i (by omega)
    have h2 := stpS_size (pathOk_in h i (by omega))
    rw [pathS_take p i (by omega), ByteArray.size_append]
    omega

set_option maxRecDepth 100000 in
theorem specPathText_ct (p : List Stp) (hs : ∀ s ∈ p, s.key.size ≤ 9223372036854775807) (v : Value) (w : World) (hp : RepP Any w p v) : Calls Tryd.prog 18 #[v] w fun e w' => e = .returned (.string (pathTxt p)) ∧ Chg No w w' := by
  obtain ⟨A, c, rfl, hn⟩ := hp.open
  refine enter Tryd.func18 rfl rfl rfl ?_
  have F0 := Fr.start w
  refine Cod.seq fun K1 hK1 => ?_
  refine Cod.region ?_
  refine Ops.step (One.val rfl rfl rfl (yld_assign rfl ev_c) ?_)
  refine Ops.nil fun a hS => ?_
  refine hK1 _ _ ?_ a hS
  refine Cod.seq fun K2 hK2 => ?_
  refine Cod.seq fun K3 hK3 => ?_
  refine Cod.region ?_
  refine Ops.step (One.val rfl rfl rfl (yld_move rfl (ev_t rfl)) ?_)
  refine Ops.step (One.call rfl rfl rfl (ent_f rfl (evl1 (ev_t rfl)) (enters en33)) (specPathOk_ct p _ _ (hp.chg F0.chg) hs) (fun e w1 hw1 => ?_))
  obtain ⟨rfl, C1⟩ := hw1
  have F1 := F0.call C1
  refine ⟨_, rfl, ?_⟩
  refine Ops.step (One.val rfl rfl rfl (yld_not rfl (ev_t rfl)) ?_)
  refine Ops.nil fun a hS => ?_
  refine hK3 _ _ ?_ a hS
  refine Cod.cond rfl (fun hc7 => ?_) (fun hc7 => ?_)
  · skip
    have hno : pathOk p = false := by simpa using hc7
    refine Cod.seq fun K4 hK4 => ?_
    refine Cod.region ?_
    refine Ops.step (One.val rfl rfl rfl (yld_assign rfl ev_c) ?_)
    refine Ops.nil fun a hS => ?_
    refine hK4 _ _ ?_ a hS
    refine Cod.ret fun a hS => ?_
    try simp only [Exit.then, Exit.inBlock]
    exact ret1 (t := 2) rfl hS rfl ⟨by unfold pathTxt; rw [if_neg (by rw [hno]; simp)], F1.chg⟩
  · skip
    have hyes : pathOk p = true := by simpa using hc7
    have hl6 := pathOk_len hyes
    refine Cod.skip fun a hS => ?_
    refine hK2 _ _ ?_ a hS
    refine Cod.seq fun K5 hK5 => ?_
    refine Cod.region ?_
    refine Ops.step (One.val rfl rfl rfl (yld_assign rfl ev_c) ?_)
    refine Ops.nil fun a hS => ?_
    refine hK5 _ _ ?_ a hS
    refine Cod.seq fun K6 hK6 => ?_
    refine Cod.seq fun K7 hK7 => ?_
    refine Cod.region ?_
    refine Ops.step (One.val rfl rfl rfl (yld_assign rfl ev_c) ?_)
    refine Ops.nil fun a hS => ?_
    refine hK7 _ _ ?_ a hS
    refine Cod.block ?_
    refine Cod.loop (fun i : Nat => [(0, true, .slice A p.length c), (3, true, .string (pathS (p.take i))), (4, true, .int .i64 (i : Int))]) (fun i w' => i ≤ p.length ∧ Fr No w [] w') (fun i => p.length - i) 0 ⟨rfl, rfl, rfl, trivial⟩ ⟨Nat.zero_le _, F1⟩ ?_
    intro i w2 hW K8 hK8
    obtain ⟨hi, F2⟩ := hW
    refine Cod.seq fun K9 hK9 => ?_
    refine Cod.seq fun K10 hK10 => ?_
    refine Cod.region ?_
    refine Ops.step (One.val rfl rfl rfl (yld_move rfl (ev_t rfl)) ?_)
    refine Ops.step (One.val rfl rfl rfl (yld_move rfl (ev_t rfl)) ?_)
    refine Ops.step (One.val rfl rfl rfl (yld_len sl44 rfl (ev_t rfl)) ?_)
    refine Ops.step (One.val rfl rfl rfl (yld_lss rfl (ev_t rfl) (ev_t rfl)) ?_)
    refine Ops.nil fun a hS => ?_
    refine hK10 _ _ ?_ a hS
    refine Cod.cond rfl (fun hc11 => ?_) (fun hc11 => ?_)
    · skip
      have hi : i < p.length := by simpa using hc11
      obtain ⟨b, o, rfl, -, hr⟩ := hp.at i hi
      have hso := pathOk_in hyes i hi
      have hz1 := pathS_size hyes i (by omega)
      have hz2 := stpS_size hso
      refine Cod.skip fun a hS => ?_
      refine hK9 _ _ ?_ a hS
      refine Cod.seq fun K11 hK11 => ?_
      refine Cod.block ?_
      refine Cod.region ?_
      refine Ops.step (One.val rfl rfl rfl (yld_move rfl (ev_t rfl)) ?_)
      refine Ops.step (One.val rfl rfl rfl (yld_move rfl (ev_t rfl)) ?_)
      refine Ops.step (One.val rfl rfl rfl (yld_move rfl (ev_t rfl)) ?_)
      refine Ops.step (One.val rfl rfl rfl (yld_indexN sl44 rfl (ev_t rfl) (ev_t rfl) (fun _ => by omega)) ?_)
      refine Ops.step (One.val rfl rfl rfl (yld_loadN ag61 rfl (ev_t rfl) (fun _ => rng hr F2.chg) rfl) ?_)
      refine Ops.step (One.call rfl rfl rfl (ent_f rfl (evl1 (ev_t rfl)) (enters en48)) (l3Text_ct p[i] hso _) (fun e w3 hw3 => ?_))
      obtain ⟨rfl, C3⟩ := hw3
      have F3 := F2.call C3
      refine ⟨_, rfl, ?_⟩
      refine Ops.step (One.val rfl rfl rfl (yld_sadd rfl (ev_t rfl) (ev_t rfl) (fun _ => by omega)) ?_)
      refine Ops.step (One.val rfl rfl rfl (yld_assign rfl (ev_t rfl)) ?_)
      refine Ops.nil fun a hS => ?_
      refine hK11 _ _ ?_ a hS
      refine Cod.region ?_
      refine Ops.step (One.val rfl rfl rfl (yld_move rfl (ev_t rfl)) ?_)
      refine Ops.step (One.val rfl rfl rfl (yld_inc rfl (ev_t rfl) (fun _ => by omega)) ?_)
      refine Ops.step (One.val rfl rfl rfl (yld_assign rfl (ev_t rfl)) ?_)
      refine Ops.nil fun a hS => ?_
      rw [← pathS_take p i hi] at hS
      exact hK8 (i + 1) _ a (hS.sub ⟨rfl, rfl, rfl, trivial⟩) ⟨by omega, F3⟩ (by omega)
    · skip
      obtain rfl : i = p.length := by simp at hc11; omega
      rw [List.take_length]
      refine Cod.exit fun a hS => ?_
      simp only [Exit.then, Exit.inBlock, ↓reduceIte]
      refine hK6 _ _ ?_ a hS
      refine Cod.seq fun K12 hK12 => ?_
      refine Cod.region ?_
      refine Ops.step (One.val rfl rfl rfl (yld_move rfl (ev_t rfl)) ?_)
      refine Ops.step (One.val rfl rfl rfl (yld_assign rfl (ev_t rfl)) ?_)
      refine Ops.nil fun a hS => ?_
      refine hK12 _ _ ?_ a hS
      refine Cod.ret fun a hS => ?_
      try simp only [Exit.then, Exit.inBlock]
      exact ret1 (t := 2) rfl hS rfl ⟨by unfold pathTxt; rw [if_pos hyes], F2.chg⟩

set_option maxRecDepth 100000 in
theorem pathText_ct (p : List Stp) (hs : ∀ s ∈ p, s.key.size ≤ 9223372036854775807) (v : Value) (w : World) (hp : RepP Any w p v) (ht : PowTab w) : Calls Tryd.prog 20 #[v] w fun e w' => e = .returned (.string (pathTxt p)) ∧ Chg No w w' := by
  obtain ⟨A, c, rfl, hn⟩ := hp.open
  have h46 : (⟨#[46]⟩ : ByteArray).size = 1 := rfl
  have h91 : (⟨#[91]⟩ : ByteArray).size = 1 := rfl
  have h93 : (⟨#[93]⟩ : ByteArray).size = 1 := rfl
  refine enter Tryd.func20 rfl rfl rfl ?_
  have F0 := Fr.start w
  refine Cod.seq fun K1 hK1 => ?_
  refine Cod.region ?_
  refine Ops.step (One.val rfl rfl rfl (yld_assign rfl ev_c) ?_)
  refine Ops.nil fun a hS => ?_
  refine hK1 _ _ ?_ a hS
  refine Cod.seq fun K2 hK2 => ?_
  refine Cod.seq fun K3 hK3 => ?_
  refine Cod.region ?_
  refine Ops.step (One.val rfl rfl rfl (yld_move rfl (ev_t rfl)) ?_)
  refine Ops.step (One.call rfl rfl rfl (ent_f rfl (evl1 (ev_t rfl)) (enters en32)) (PathOk_ct p _ _ (hp.chg F0.chg) hs) (fun e w1 hw1 => ?_))
  obtain ⟨rfl, C1⟩ := hw1
  have F1 := F0.call C1
  refine ⟨_, rfl, ?_⟩
  refine Ops.step (One.val rfl rfl rfl (yld_not rfl (ev_t rfl)) ?_)
  refine Ops.nil fun a hS => ?_
  refine hK3 _ _ ?_ a hS
  refine Cod.cond rfl (fun hc8 => ?_) (fun hc8 => ?_)
  · skip
    have hno : pathOk p = false := by simpa using hc8
    refine Cod.seq fun K4 hK4 => ?_
    refine Cod.region ?_
    refine Ops.step (One.val rfl rfl rfl (yld_assign rfl ev_c) ?_)
    refine Ops.nil fun a hS => ?_
    refine hK4 _ _ ?_ a hS
    refine Cod.ret fun a hS => ?_
    try simp only [Exit.then, Exit.inBlock]
    exact ret1 (t := 2) rfl hS rfl ⟨by unfold pathTxt; rw [if_neg (by rw [hno]; simp)], F1.chg⟩
  · skip
    have hyes : pathOk p = true := by simpa using hc8
    have hl6 := pathOk_len hyes
    refine Cod.skip fun a hS => ?_
    refine hK2 _ _ ?_ a hS
    refine Cod.seq fun K5 hK5 => ?_
    refine Cod.region ?_
    refine Ops.step (One.val rfl rfl rfl (yld_assign rfl ev_c) ?_)
    refine Ops.nil fun a hS => ?_
    refine hK5 _ _ ?_ a hS
    refine Cod.seq fun K6 hK6 => ?_
    refine Cod.seq fun K7 hK7 => ?_
    refine Cod.region ?_
    refine Ops.step (One.val rfl rfl rfl (yld_move rfl (ev_t rfl)) ?_)
    refine Ops.step (One.val rfl rfl rfl (yld_len sl44 rfl (ev_t rfl)) ?_)
    refine Ops.step (One.val rfl rfl rfl (yld_move rfl ev_c) ?_)
    refine Ops.nil fun a hS => ?_
    refine hK7 _ _ ?_ a hS
    refine Cod.block ?_
    refine Cod.loop (fun i : Nat => [(3, true, .string (pathS (p.take i))), (9, true, .slice A p.length c), (10, true, .int .i64 (p.length : Int)), (11, true, .int .i64 (i : Int))]) (fun i w' => i ≤ p.length ∧ Fr No w [] w') (fun i => p.length - i) 0 ⟨rfl, rfl, rfl, rfl, trivial⟩ ⟨Nat.zero_le _, F1⟩ ?_
    intro i w2 hW K8 hK8
    obtain ⟨hi, F2⟩ := hW
    refine Cod.seq fun K9 hK9 => ?_
    refine Cod.region ?_
    refine Ops.step (One.val rfl rfl rfl (yld_lss rfl (ev_t rfl) (ev_t rfl)) ?_)
    refine Ops.nil fun a hS => ?_
    refine hK9 _ _ ?_ a hS
    refine Cod.seq fun K10 hK10 => ?_
    refine Cod.cond rfl (fun hc12 => ?_) (fun hc12 => ?_)
    · skip
      have hi : i < p.length := by simpa using hc12
      obtain ⟨b, o, rfl, -, hr⟩ := hp.at i hi
      have hso := pathOk_in hyes i hi
      have hz1 := pathS_size hyes i (by omega)
      have hz2 := stpS_size hso
      refine Cod.skip fun a hS => ?_
      refine hK10 _ _ ?_ a hS
      refine Cod.seq fun K11 hK11 => ?_
      refine Cod.block ?_
      refine Cod.seq fun K12 hK12 => ?_
      refine Cod.region ?_
      refine Ops.step (One.val rfl rfl rfl (yld_indexN sl44 rfl (ev_t rfl) (ev_t rfl) (fun _ => by omega)) ?_)
      refine Ops.step (One.val rfl rfl rfl (yld_loadN ag61 rfl (ev_t rfl) (fun _ => rng hr F2.chg) rfl) ?_)
      refine Ops.step (One.alloc F2 zero61 rfl rfl rfl rfl ?_)
      intro b1 w3 hb1 F3
      change Fr _ _ [blk _ _ [_, _, _]] _ at F3
      refine Ops.step (One.storeN (vs := [_, _, _]) F3 0 rfl sz61 rfl rfl rfl (ev_t rfl) (ev_t rfl) rfl rfl rfl ?_)
      intro w4 F4
      change Fr _ _ [blk _ _ [_, _, _]] _ at F4
      refine Ops.nil fun a hS => ?_
      refine hK12 _ _ ?_ a hS
      refine Cod.seq fun K13 hK13 => ?_
      refine Cod.region ?_
      refine Ops.step (One.val rfl rfl rfl (yld_field fi61_0 rfl (ev_t rfl)) ?_)
      refine Ops.step (One.val rfl rfl rfl (yld_load1 on4 rfl (ev_t rfl) (fun _ => F4.cell 0 rfl rfl)) ?_)
      refine Ops.nil fun a hS => ?_
      refine hK13 _ _ ?_ a hS
      refine Cod.cond rfl (fun hc16 => ?_) (fun hc16 => ?_)
      · skip
        have hm : p[i].m = true := hc16
        have hk := stp_ks hso hm
        have hstp : (⟨#[46]⟩ : ByteArray) ++ p[i].key = stpS p[i] := by unfold stpS; rw [if_pos hm]
        refine Cod.region ?_
        refine Ops.step (One.val rfl rfl rfl (yld_move rfl (ev_t rfl)) ?_)
        refine Ops.step (One.val rfl rfl rfl (yld_field fi61_1 rfl (ev_t rfl)) ?_)
        refine Ops.step (One.val rfl rfl rfl (yld_load1 on9 rfl (ev_t rfl) (fun _ => F4.cell 0 rfl rfl)) ?_)
        refine Ops.step (One.val rfl rfl rfl (yld_sadd rfl ev_c (ev_t rfl) (fun _ => by omega)) ?_)
        refine Ops.step (One.val rfl rfl rfl (yld_sadd rfl (ev_t rfl) (ev_t rfl) (fun _ => by rw [hstp]; omega)) ?_)
        refine Ops.step (One.val rfl rfl rfl (yld_assign rfl (ev_t rfl)) ?_)
        refine Ops.nil fun a hS => ?_
        refine hK11 _ _ ?_ a hS
        refine Cod.region ?_
        refine Ops.step (One.val rfl rfl rfl (yld_inc rfl (ev_t rfl) (fun _ => by omega)) ?_)
        refine Ops.step (One.val rfl rfl rfl (yld_move rfl (ev_t rfl)) ?_)
        refine Ops.nil fun a hS => ?_
        rw [hstp, ← pathS_take p i hi] at hS
        exact hK8 (i + 1) _ a (hS.sub ⟨rfl, rfl, rfl, rfl, trivial⟩) ⟨by omega, F4.drop1⟩ (by omega)
      · skip
        have hm : p[i].m = false := hc16
        have hpl := stp_pl hso hm
        have hsz := itoaS_size p[i].pl
        have hstp : ((⟨#[91]⟩ : ByteArray) ++ itoaS p[i].pl) ++ ⟨#[93]⟩ = stpS p[i] := by unfold stpS; rw [if_neg (by rw [hm]; simp)]
        refine Cod.region ?_
        refine Ops.step (One.val rfl rfl rfl (yld_move rfl (ev_t rfl)) ?_)
        refine Ops.step (One.val rfl rfl rfl (yld_field fi61_2 rfl (ev_t rfl)) ?_)
        refine Ops.step (One.val rfl rfl rfl (yld_load1 on3 rfl (ev_t rfl) (fun _ => F4.cell 0 rfl rfl)) ?_)
        refine Ops.step (One.call rfl rfl rfl (ent_f rfl (evl1 (ev_t rfl)) (enters en50)) (itoa_ct p[i].pl _ (by omega) (by omega) (ht.chg F4.chg)) (fun e w5 hw5 => ?_))
        obtain ⟨rfl, C5⟩ := hw5
        have F5 := F4.call C5
        refine ⟨_, rfl, ?_⟩
        refine Ops.step (One.val rfl rfl rfl (yld_sadd rfl ev_c (ev_t rfl) (fun _ => by omega)) ?_)
        refine Ops.step (One.val rfl rfl rfl (yld_sadd rfl (ev_t rfl) ev_c (fun _ => by rw [ByteArray.size_append]; omega)) ?_)
        refine Ops.step (One.val rfl rfl rfl (yld_sadd rfl (ev_t rfl) (ev_t rfl) (fun _ => by rw [hstp]; omega)) ?_)
        refine Ops.step (One.val rfl rfl rfl (yld_assign rfl (ev_t rfl)) ?_)
        refine Ops.nil fun a hS => ?_
        refine hK11 _ _ ?_ a hS
        refine Cod.region ?_
        refine Ops.step (One.val rfl rfl rfl (yld_inc rfl (ev_t rfl) (fun _ => by omega)) ?_)
        refine Ops.step (One.val rfl rfl rfl (yld_move rfl (ev_t rfl)) ?_)
        refine Ops.nil fun a hS => ?_
        rw [hstp, ← pathS_take p i hi] at hS
        exact hK8 (i + 1) _ a (hS.sub ⟨rfl, rfl, rfl, rfl, trivial⟩) ⟨by omega, F5.drop1⟩ (by omega)
    · skip
      obtain rfl : i = p.length := by simp at hc12; omega
      rw [List.take_length]
      refine Cod.exit fun a hS => ?_
      simp only [Exit.then, Exit.inBlock, ↓reduceIte]
      refine hK6 _ _ ?_ a hS
      refine Cod.seq fun K14 hK14 => ?_
      refine Cod.region ?_
      refine Ops.step (One.val rfl rfl rfl (yld_move rfl (ev_t rfl)) ?_)
      refine Ops.step (One.val rfl rfl rfl (yld_assign rfl (ev_t rfl)) ?_)
      refine Ops.nil fun a hS => ?_
      refine hK14 _ _ ?_ a hS
      refine Cod.ret fun a hS => ?_
      try simp only [Exit.then, Exit.inBlock]
      exact ret1 (t := 2) rfl hS rfl ⟨by unfold pathTxt; rw [if_pos hyes], F2.chg⟩


theorem stepK_map {k : Int} {ks : List ByteArray} {i : Nat} (hk : k = 6) (hi : i < ks.length) : stepK k ks i = ⟨true, ks[i], 0⟩ := by unfold stepK; rw [if_pos hk, nth_eq hi]
theorem stepK_row {k : Int} {ks : List ByteArray} {i : Nat} (hk : ¬ k = 6) : stepK k ks i = ⟨false, ⟨#[]⟩, (i : Int)⟩ := by unfold stepK; rw [if_neg hk]
def wp (t : Tr) (p : List Stp) (i : Nat) : List (List Stp) := p :: Tr.waysL t.kind t.keys (t.list.take i) 0 p
theorem wp_zero (t : Tr) (p : List Stp) : wp t p 0 = [p] := by simp [wp, Tr.waysL]
theorem wp_step (t : Tr) (p : List Stp) (i : Nat) (hi : i < t.list.length) : wp t p (i + 1) = wp t p i ++ t.list[i].ways (p ++ [stepK t.kind t.keys i]) := by
  unfold wp; rw [Tr.waysL_take _ _ _ _ _ hi]; rfl
theorem wp_end (t : Tr) (p : List Stp) : wp t p t.list.length = t.ways p := by
  obtain ⟨k, n, s, ks, l⟩ := t
  unfold wp
  rw [Tr.ways]
  show p :: Tr.waysL k ks (l.take l.length) 0 p = _
  rw [List.take_length]
theorem wp_len (t : Tr) (p : List Stp) (i : Nat) : (wp t p i).length ≤ t.cnt := by
  obtain ⟨k, n, s, ks, l⟩ := t
  unfold wp
  rw [List.length_cons, Tr.cnt_mk]
  have := Tr.waysL_le k ks l p i
  show (Tr.waysL k ks (l.take i) 0 p).length + 1 ≤ _
  omega
theorem cnt_child {t : Tr} {i : Nat} (hi : i < t.list.length) : t.list[i].cnt + 1 ≤ t.cnt := by
  obtain ⟨k, n, s, ks, l⟩ := t
  rw [Tr.cnt_mk]
  have := sumN_mem Tr.cnt (List.getElem_mem hi)
  show l[i].cnt + 1 ≤ _
  have h2 : l[i].cnt ≤ sumN Tr.cnt l := this
  omega
/-- New ways. -/
def NewPP (w : World) (l : List (List Stp)) (e : Ending) (w' : World) : Prop := ∃ v xs, e = .returned v ∧ xs.length = l.length ∧ Chg No w w' ∧ (bun (sepP l v xs)).is w' ∧ ∀ k, (bun (sepP l v xs)).fp k → w.heap.size ≤ k


def WaysOk (t : Tr) : Prop := ∀ (p : List Stp) (v pv : Value) (w : World), Rep Any w t v → okT t = true → RepP Any w p pv → p.length + t.cnt ≤ 1000 →
    Calls Tryd.prog 125 #[v, pv] w (NewPP w (t.ways p))

set_option maxRecDepth 100000 in
theorem l3All_of (k n : Int) (s : ByteArray) (ks : List ByteArray) (l : List Tr) (H : ∀ t ∈ l, WaysOk t) : WaysOk (.mk k n s ks l) := by
  intro p v pv w hr hok hp hcn
  obtain ⟨t, ht⟩ : ∃ t, t = Tr.mk k n s ks l := ⟨_, rfl⟩
  have H' : ∀ x ∈ t.list, WaysOk x := by rw [ht]; exact H
  rw [← ht] at hr hok hcn ⊢
  clear ht H
  obtain ⟨v3, v4, ev, h3, h4⟩ := hr.form
  subst ev
  obtain ⟨A3, c3, rfl, hn3⟩ := h3.open
  obtain ⟨A4, c4, rfl, hn4⟩ := h4.open
  obtain ⟨Ap, cp, rfl, hnp⟩ := hp.open
  have hcp : 1 ≤ t.cnt := by have := wp_len t p 0; rw [wp_zero] at this; simpa using this
  have hkl : t.kind = 6 → t.keys.length = t.list.length := okT_len hok
  refine enter Tryd.func125 rfl rfl rfl ?_
  have F0 := Fr.start w
  refine Cod.seq fun K1 hK1 => ?_
  refine Cod.region ?_
  refine Ops.step (One.box F0 rfl rfl rfl rfl (ev_t rfl) ?_)
  intro b1 w1 hb1 F1
  change Fr _ _ [blk _ _ [_, _, _, _, _]] _ at F1
  refine Ops.step (One.val rfl rfl rfl (yld_assign rfl ev_c) ?_)
  refine Ops.nil fun a hS => ?_
  refine hK1 _ _ ?_ a hS
  refine Cod.seq fun K2 hK2 => ?_
  refine Cod.region ?_
  refine Ops.step (One.buildNil pCells F1 sl44 rfl rfl rfl rfl ?_)
  intro b2 w2 hb2 F2
  refine Ops.step (One.val rfl rfl rfl (yld_move rfl (ev_t rfl)) ?_)
  refine Ops.step (One.append (enc := pCells) p F2 0 rfl sl44 zero61 rfl rfl (fun _ => rfl) rfl rfl rfl rfl (ev_t rfl) (ev_t rfl) (hp.chg F2.chg) (fun _ _ => rfl) (by simp; omega) (by simp; omega) ?_)
  intro u1 w3 hu1 F3
  change Fr _ _ [_, blk _ _ [_, _, _, _, _]] _ at F3
  obtain ⟨Au, mu, cu, hu1e⟩ := own_form (F3.get 0 rfl)
  subst hu1e
  refine Ops.step (One.buildSlice (cells := (vCells (.slice Au mu cu))) F3 sl136 zero44 rfl rfl rfl rfl (evp1 (ev_t rfl)) rfl rfl (by kernel_rfl) ?_)
  intro b3 w4 hb3 F4
  refine Ops.step (One.val rfl rfl rfl (yld_assign rfl (ev_t rfl)) ?_)
  refine Ops.nil fun a hS => ?_
  refine hK2 _ _ ?_ a hS
  refine Cod.seq fun K3 hK3 => ?_
  refine Cod.seq fun K4 hK4 => ?_
  refine Cod.region ?_
  refine Ops.step (One.val rfl rfl rfl (yld_assign rfl ev_c) ?_)
  refine Ops.nil fun a hS => ?_
  refine hK4 _ _ ?_ a hS
  refine Cod.block ?_
  have hF1 := (F4.toOwn (sz := 1) (n := 1) rfl (by omega)).pull 1 rfl
  have hF2 := hF1.bunOne
  refine Cod.loop (fun i : Nat × List Value × Value => [(1, true, .slice Ap p.length cp), (2, true, .pointer (some ⟨b1, 0, none⟩)), (5, true, i.2.2), (6, true, .int .i64 (i.1 : Int))]) (fun i w' => i.1 ≤ t.list.length ∧ i.2.1.length = (wp t p i.1).length ∧ Fr No w [bun (rowsP (wp t p i.1) i.2.1), own 44 1 i.2.2 i.2.1.length (i.2.1.flatMap vCells), blk b1 33 [.int .i64 t.kind, .int .i64 t.num, .string t.str, .slice A3 t.keys.length c3, .slice A4 t.list.length c4]] w') (fun i => t.list.length - i.1) (0, [.slice Au mu cu], .slice (some ⟨b3, 0, none⟩) 1 1) ⟨rfl, rfl, rfl, rfl, trivial⟩ ⟨Nat.zero_le _, by rw [wp_zero]; rfl, by rw [wp_zero]; exact hF2⟩ ?_
  intro i w5 hW K5 hK5
  obtain ⟨ix, xs, ov⟩ := i
  obtain ⟨hi, hxl, F5⟩ := hW
  dsimp only at *
  have hwl := wp_len t p ix
  refine Cod.seq fun K6 hK6 => ?_
  refine Cod.seq fun K7 hK7 => ?_
  refine Cod.region ?_
  refine Ops.step (One.val rfl rfl rfl (yld_move rfl (ev_t rfl)) ?_)
  refine Ops.step (One.val rfl rfl rfl (yld_field fi33_4 rfl (ev_t rfl)) ?_)
  refine Ops.step (One.val rfl rfl rfl (yld_load1 on31 rfl (ev_t rfl) (fun _ => F5.cell 2 rfl rfl)) ?_)
  refine Ops.step (One.val rfl rfl rfl (yld_len sl31 rfl (ev_t rfl)) ?_)
  refine Ops.step (One.val rfl rfl rfl (yld_lss rfl (ev_t rfl) (ev_t rfl)) ?_)
  refine Ops.nil fun a hS => ?_
  refine hK7 _ _ ?_ a hS
  refine Cod.cond rfl (fun hc16 => ?_) (fun hc16 => ?_)
  · skip
    have hil : ix < t.list.length := by simpa using hc16
    obtain ⟨b, o, cs, rfl, -, hlc, hrl, hrt⟩ := h4.at ix hil
    obtain ⟨ca, cb, cc, cd, ce, rfl⟩ := five hlc
    have hcc := cnt_child hil
    refine Cod.skip fun a hS => ?_
    refine hK6 _ _ ?_ a hS
    refine Cod.seq fun K8 hK8 => ?_
    refine Cod.block ?_
    refine Cod.seq fun K9 hK9 => ?_
    refine Cod.region ?_
    refine Ops.step (One.val rfl rfl rfl (yld_move rfl (ev_t rfl)) ?_)
    refine Ops.step (One.val rfl rfl rfl (yld_build (cells := (pCells ⟨false, ⟨#[]⟩, (ix : Int)⟩)) rfl (evp1 (ev_t rfl)) (by kernel_rfl)) ?_)
    refine Ops.step (One.alloc F5 zero61 rfl rfl rfl rfl ?_)
    intro b4 w6 hb4 F6
    change Fr _ _ [blk _ _ [_, _, _], _, _, blk _ _ [_, _, _, _, _]] _ at F6
    refine Ops.step (One.storeN (vs := [_, _, _]) F6 0 rfl sz61 rfl rfl rfl (ev_t rfl) (ev_t rfl) rfl rfl rfl ?_)
    intro w7 F7
    change Fr _ _ [blk _ _ [_, _, _], _, _, blk _ _ [_, _, _, _, _]] _ at F7
    refine Ops.nil fun a hS => ?_
    refine hK9 _ _ ?_ a hS
    refine Cod.cut (fun i : Unit => [(1, true, .slice Ap p.length cp), (2, true, .pointer (some ⟨b1, 0, none⟩)), (5, true, ov), (6, true, .int .i64 (ix : Int)), (7, true, .pointer (some ⟨b4, 0, none⟩))]) (fun i w' => ∃ AA, AA = A3 ∧ Fr No w [blk b4 61 (pCells (stepK t.kind t.keys ix)), bun (rowsP (wp t p ix) xs), own 44 1 ov xs.length (xs.flatMap vCells), blk b1 33 [.int .i64 t.kind, .int .i64 t.num, .string t.str, .slice AA t.keys.length c3, .slice (some ⟨b, o, none⟩) t.list.length c4]] w') (fun K10 hK10 => ?_) ?_
    · skip
      refine Cod.seq fun K11 hK11 => ?_
      refine Cod.region ?_
      refine Ops.step (One.val rfl rfl rfl (yld_field fi33_0 rfl (ev_t rfl)) ?_)
      refine Ops.step (One.val rfl rfl rfl (yld_load1 on3 rfl (ev_t rfl) (fun _ => F7.cell 3 rfl rfl)) ?_)
      refine Ops.step (One.val rfl rfl rfl (yld_eql rfl (ev_t rfl) ev_c) ?_)
      refine Ops.nil fun a hS => ?_
      refine hK11 _ _ ?_ a hS
      refine Cod.cond rfl (fun hc23 => ?_) (fun hc23 => ?_)
      · skip
        have hk : t.kind = 6 := by simpa using hc23
        have hik : ix < t.keys.length := by have := hkl hk; omega
        obtain ⟨kb, ko, rfl, -, hrk⟩ := h3.at ix hik
        refine Cod.region ?_
        refine Ops.step (One.val rfl rfl rfl (yld_field fi33_3 rfl (ev_t rfl)) ?_)
        refine Ops.step (One.val rfl rfl rfl (yld_load1 on22 rfl (ev_t rfl) (fun _ => F7.cell 3 rfl rfl)) ?_)
        refine Ops.step (One.val rfl rfl rfl (yld_move rfl (ev_t rfl)) ?_)
        refine Ops.step (One.val rfl rfl rfl (yld_indexN sl22 rfl (ev_t rfl) (ev_t rfl) (fun _ => by omega)) ?_)
        refine Ops.step (One.val rfl rfl rfl (yld_load1 on9 rfl (ev_t rfl) (fun _ => rangeAt_cell (rng hrk F7.chg) (j := 0) rfl)) ?_)
        refine Ops.step (One.val rfl rfl rfl (yld_build (cells := (pCells ⟨true, t.keys[ix], 0⟩)) rfl (evp2 ev_c (ev_t rfl)) (by kernel_rfl)) ?_)
        refine Ops.step (One.storeN (vs := [_, _, _]) F7 0 rfl sz61 rfl rfl rfl (ev_t rfl) (ev_t rfl) rfl rfl rfl ?_)
        intro w8 F8
        change Fr _ _ [blk _ _ [_, _, _], _, _, blk _ _ [_, _, _, _, _]] _ at F8
        refine Ops.nil fun a hS => ?_
        have F9 := F8.pull 3 rfl
        have F10 := F9.pull 3 rfl
        have F11 := F10.pull 3 rfl
        have F12 := F11.pull 3 rfl
        have hst : stepK t.kind t.keys ix = ⟨true, t.keys[ix], 0⟩ := stepK_map hk hik
        exact hK10 () _ a (hS.sub ⟨rfl, rfl, rfl, rfl, rfl, trivial⟩) ⟨_, rfl, by rw [hst]; exact F12⟩
      · skip
        have hk : ¬ t.kind = 6 := by simpa using hc23
        refine Cod.skip fun a hS => ?_
        have F13 := F7.pull 3 rfl
        have F14 := F13.pull 3 rfl
        have F15 := F14.pull 3 rfl
        have F16 := F15.pull 3 rfl
        have hst : stepK t.kind t.keys ix = ⟨false, ⟨#[]⟩, (ix : Int)⟩ := stepK_row hk
        exact hK10 () _ a (hS.sub ⟨rfl, rfl, rfl, rfl, rfl, trivial⟩) ⟨_, rfl, by rw [hst]; exact F16⟩
    · skip
      intro i w9 hW
      obtain ⟨AA, hAA, F17⟩ := hW
      subst hAA
      have F18 := F17.drew
      refine Cod.draw (C_of ((F18.erase 2).erase 1)) (by kernel_rfl) ?_
      refine Hops.take 0 rfl (by kernel_rfl) (fun _ _ _ h => h) rfl rfl rfl ((F18.erase 2).erase 1) (fun w F => (yld_move rfl (ev_t rfl))) ?_
      refine Hops.take 1 rfl (by kernel_rfl) (fun _ _ _ h => h) rfl rfl rfl ((F18.erase 2).erase 1) (fun w F => (yld_field fi33_4 rfl (ev_t rfl))) ?_
      refine Hops.take 2 rfl (by kernel_rfl) (fun _ _ _ h => h) rfl rfl rfl ((F18.erase 2).erase 1) (fun w F => (yld_load1 on31 rfl (ev_t rfl) (fun _ => F.cell 1 rfl rfl))) ?_
      refine Hops.take 3 rfl (by kernel_rfl) (fun _ _ _ h => h) rfl rfl rfl ((F18.erase 2).erase 1) (fun w F => (yld_move rfl (ev_t rfl))) ?_
      refine Hops.take 4 rfl (by kernel_rfl) (fun _ _ _ h => h) rfl rfl rfl ((F18.erase 2).erase 1) (fun w F => (yld_indexN sl31 rfl (ev_t rfl) (ev_t rfl) (fun _ => by omega))) ?_
      refine Hops.take 5 rfl (by kernel_rfl) (fun _ _ _ h => h) rfl rfl rfl ((F18.erase 2).erase 1) (fun w F => (yld_loadN ag33 rfl (ev_t rfl) (fun _ => rng hrl F.chg) rfl)) ?_
      refine Hops.take 7 rfl (by kernel_rfl) (fun _ _ _ h => h) rfl rfl rfl ((F18.erase 2).erase 1) (fun w F => (yld_move rfl (ev_t rfl))) ?_
      refine Hops.take 9 rfl (by kernel_rfl) (fun _ _ _ h => h) rfl rfl rfl ((F18.erase 2).erase 1) (fun w F => (yld_loadN ag61 rfl (ev_t rfl) (fun _ => F.range (m := 3) (cs' := [_, _, _]) 0 rfl rfl) rfl)) ?_
      refine Hops.two 6 10 rfl rfl (by kernel_rfl) ?_ ?_
      · skip
        refine (One.buildNil pCells F18 sl44 rfl rfl rfl rfl ?_)
        intro b5 w10 hb5 F19
        refine ⟨((F19.erase 3).erase 2).drop1, ?_⟩
        refine Hops.two 8 10 rfl rfl (by kernel_rfl) ?_ ?_
        · skip
          refine (One.append (enc := pCells) p F19 0 rfl sl44 zero61 rfl rfl (fun _ => rfl) rfl rfl rfl rfl (ev_t rfl) (ev_t rfl) (hp.chg F19.chg) (fun _ _ => rfl) (by simp; omega) (by simp; omega) ?_)
          intro u2 w11 hu2 F20
          refine ⟨((F20.erase 3).erase 2).drop1, ?_⟩
          change Fr _ _ [_, blk _ _ [_, _, _], _, _, blk _ _ [_, _, _, _, _]] _ at F20
          refine Hops.one 10 rfl (by kernel_rfl) (One.buildSlice (cells := (pCells (stepK t.kind t.keys ix))) F20 sl44 zero61 rfl rfl rfl rfl (evp1 (ev_t rfl)) rfl rfl (by kernel_rfl) ?_)
          intro b6 w12 hb6 F21
          refine ⟨(((F21.erase 4).erase 3).erase 1).drop1, ?_⟩
          refine Hops.one 11 rfl (by kernel_rfl) (One.append (enc := pCells) [stepK t.kind t.keys ix] F21 1 rfl sl44 zero61 rfl rfl (fun _ => rfl) rfl rfl rfl rfl (ev_t rfl) (ev_t rfl) ((blk_rep (enc := pCells) (sz := 3) (xs := [stepK t.kind t.keys ix]) (fun _ => rfl) (by simpa using F21.get 0 rfl) (by simp) (by simp)).weak fun _ _ => trivial) (fun _ _ => rfl) (by simp; omega) (by simp; omega) ?_)
          intro u3 w13 hu3 F22
          refine ⟨(((F22.erase 4).erase 3).erase 1).drop1, ?_⟩
          change Fr _ _ [_, _, blk _ _ [_, _, _], _, _, blk _ _ [_, _, _, _, _]] _ at F22
          refine Hops.one 12 rfl (by kernel_rfl) (One.call rfl rfl rfl (ent_f rfl (evl2 (ev_t rfl) (ev_t rfl)) (enters en125)) (H' _ (List.getElem_mem hil) (p ++ [stepK t.kind t.keys ix]) _ _ _ (hrt.chg F22.chg) (okT_child hok (List.getElem_mem hil)) (ownP (F22.get 1 rfl)) (by simp; omega)) (fun e w14 hw14 => ?_))
          obtain ⟨v5, xs5, rfl, hl5, C14, hm5, hb5⟩ := hw14
          obtain ⟨A5, m5, c5, rfl⟩ := own_form (Mem.get 0 rfl hm5)
          have F23 := (F22.new C14 (bun (sepP _ (.slice A5 m5 c5) xs5)) hm5 hb5).bunOut
          change Fr _ _ (own 44 1 (.slice A5 m5 c5) xs5.length (xs5.flatMap vCells) :: bun (rowsP _ xs5) :: [_, _, _, _, _, _]) _ at F23
          refine ⟨_, rfl, ?_⟩
          refine ⟨(((((F23.erase 6).erase 5).erase 3).erase 2).erase 1).drop1, ?_⟩
          refine Hops.one 13 rfl (by kernel_rfl) (One.append (enc := vCells) xs5 F23 6 rfl sl136 zero44 rfl rfl (fun _ => rfl) rfl rfl rfl rfl (ev_t rfl) (ev_t rfl) ((own_rep (enc := vCells) (sz := 1) (fun _ => rfl) (F23.get 0 rfl)).weak fun _ _ => trivial) (rowsP_one (F23.get 1 rfl) hl5) (by rw [hxl, hl5, Tr.ways_len]; omega) (by rw [hxl, hl5, Tr.ways_len]; omega) ?_)
          intro u6 w15 hu6 F24
          refine ⟨(((((F24.erase 6).erase 5).erase 3).erase 2).erase 1).drop1, ?_⟩
          change Fr _ _ [_, _, _, _, blk _ _ [_, _, _], _, _, blk _ _ [_, _, _, _, _]] _ at F24
          refine Hops.one 14 rfl (by kernel_rfl) (One.val rfl rfl rfl (yld_assign rfl (ev_t rfl)) ?_)
          refine ⟨(((((F24.erase 6).erase 5).erase 3).erase 2).erase 1).drop1, ?_⟩
          refine Hops.nil (by kernel_rfl) fun a hS => ?_
          refine hK8 _ _ ?_ a hS
          refine Cod.region ?_
          refine Ops.step (One.val rfl rfl rfl (yld_move rfl (ev_t rfl)) ?_)
          refine Ops.step (One.val rfl rfl rfl (yld_inc rfl (ev_t rfl) (fun _ => by omega)) ?_)
          refine Ops.step (One.val rfl rfl rfl (yld_assign rfl (ev_t rfl)) ?_)
          refine Ops.nil fun a hS => ?_
          have F25 := F24.pull 7 rfl
          have F26 := F25.pull 7 rfl
          have F27 := F26.pull 7 rfl
          have F28 := F27.pull 4 rfl
          have F29 := F28.erase 4
          have F30 := F29.erase 4
          have F31 := F30.erase 4
          have F32 := F31.erase 4
          have hF3 := F32.bunApp
          rw [← rowsP_app _ _ hxl, ← wp_step t p ix hil] at hF3
          exact hK5 (ix + 1, xs ++ xs5, u6) _ a (hS.sub ⟨rfl, rfl, rfl, rfl, trivial⟩) ⟨by show ix + 1 ≤ _; omega, by show (xs ++ xs5).length = (wp t p (ix + 1)).length; rw [wp_step t p ix hil, List.length_append, List.length_append, hxl, hl5], hF3⟩ (by show t.list.length - (ix + 1) < t.list.length - ix; omega)
        · skip
          refine (One.buildSlice (cells := (pCells (stepK t.kind t.keys ix))) F19 sl44 zero61 rfl rfl rfl rfl (evp1 (ev_t rfl)) rfl rfl (by kernel_rfl) ?_)
          intro b7 w16 hb7 F33
          refine ⟨(((F33.erase 4).erase 3).erase 1).drop1, ?_⟩
          refine Hops.one 8 rfl (by kernel_rfl) (One.append (enc := pCells) p F33 1 rfl sl44 zero61 rfl rfl (fun _ => rfl) rfl rfl rfl rfl (ev_t rfl) (ev_t rfl) (hp.chg F33.chg) (fun _ _ => rfl) (by simp; omega) (by simp; omega) ?_)
          intro u2 w17 hu2 F34
          refine ⟨(((F34.erase 4).erase 3).erase 1).drop1, ?_⟩
          change Fr _ _ [_, _, blk _ _ [_, _, _], _, _, blk _ _ [_, _, _, _, _]] _ at F34
          refine Hops.one 11 rfl (by kernel_rfl) (One.append (enc := pCells) [stepK t.kind t.keys ix] F34 1 rfl sl44 zero61 rfl rfl (fun _ => rfl) rfl rfl rfl rfl (ev_t rfl) (ev_t rfl) ((blk_rep (enc := pCells) (sz := 3) (xs := [stepK t.kind t.keys ix]) (fun _ => rfl) (by simpa using F34.get 0 rfl) (by simp) (by simp)).weak fun _ _ => trivial) (fun _ _ => rfl) (by simp; omega) (by simp; omega) ?_)
          intro u3 w18 hu3 F35
          refine ⟨(((F35.erase 4).erase 3).erase 1).drop1, ?_⟩
          change Fr _ _ [_, _, blk _ _ [_, _, _], _, _, blk _ _ [_, _, _, _, _]] _ at F35
          refine Hops.one 12 rfl (by kernel_rfl) (One.call rfl rfl rfl (ent_f rfl (evl2 (ev_t rfl) (ev_t rfl)) (enters en125)) (H' _ (List.getElem_mem hil) (p ++ [stepK t.kind t.keys ix]) _ _ _ (hrt.chg F35.chg) (okT_child hok (List.getElem_mem hil)) (ownP (F35.get 1 rfl)) (by simp; omega)) (fun e w19 hw19 => ?_))
          obtain ⟨v5, xs5, rfl, hl5, C19, hm5, hb5⟩ := hw19
          obtain ⟨A5, m5, c5, rfl⟩ := own_form (Mem.get 0 rfl hm5)
          have F36 := (F35.new C19 (bun (sepP _ (.slice A5 m5 c5) xs5)) hm5 hb5).bunOut
          change Fr _ _ (own 44 1 (.slice A5 m5 c5) xs5.length (xs5.flatMap vCells) :: bun (rowsP _ xs5) :: [_, _, _, _, _, _]) _ at F36
          refine ⟨_, rfl, ?_⟩
          refine ⟨(((((F36.erase 6).erase 5).erase 3).erase 2).erase 1).drop1, ?_⟩
          refine Hops.one 13 rfl (by kernel_rfl) (One.append (enc := vCells) xs5 F36 6 rfl sl136 zero44 rfl rfl (fun _ => rfl) rfl rfl rfl rfl (ev_t rfl) (ev_t rfl) ((own_rep (enc := vCells) (sz := 1) (fun _ => rfl) (F36.get 0 rfl)).weak fun _ _ => trivial) (rowsP_one (F36.get 1 rfl) hl5) (by rw [hxl, hl5, Tr.ways_len]; omega) (by rw [hxl, hl5, Tr.ways_len]; omega) ?_)
          intro u6 w20 hu6 F37
          refine ⟨(((((F37.erase 6).erase 5).erase 3).erase 2).erase 1).drop1, ?_⟩
          change Fr _ _ [_, _, _, _, blk _ _ [_, _, _], _, _, blk _ _ [_, _, _, _, _]] _ at F37
          refine Hops.one 14 rfl (by kernel_rfl) (One.val rfl rfl rfl (yld_assign rfl (ev_t rfl)) ?_)
          refine ⟨(((((F37.erase 6).erase 5).erase 3).erase 2).erase 1).drop1, ?_⟩
          refine Hops.nil (by kernel_rfl) fun a hS => ?_
          refine hK8 _ _ ?_ a hS
          refine Cod.region ?_
          refine Ops.step (One.val rfl rfl rfl (yld_move rfl (ev_t rfl)) ?_)
          refine Ops.step (One.val rfl rfl rfl (yld_inc rfl (ev_t rfl) (fun _ => by omega)) ?_)
          refine Ops.step (One.val rfl rfl rfl (yld_assign rfl (ev_t rfl)) ?_)
          refine Ops.nil fun a hS => ?_
          have F38 := F37.pull 7 rfl
          have F39 := F38.pull 7 rfl
          have F40 := F39.pull 7 rfl
          have F41 := F40.pull 4 rfl
          have F42 := F41.erase 4
          have F43 := F42.erase 4
          have F44 := F43.erase 4
          have F45 := F44.erase 4
          have hF3 := F45.bunApp
          rw [← rowsP_app _ _ hxl, ← wp_step t p ix hil] at hF3
          exact hK5 (ix + 1, xs ++ xs5, u6) _ a (hS.sub ⟨rfl, rfl, rfl, rfl, trivial⟩) ⟨by show ix + 1 ≤ _; omega, by show (xs ++ xs5).length = (wp t p (ix + 1)).length; rw [wp_step t p ix hil, List.length_append, List.length_append, hxl, hl5], hF3⟩ (by show t.list.length - (ix + 1) < t.list.length - ix; omega)
      · skip
        refine (One.buildSlice (cells := (pCells (stepK t.kind t.keys ix))) F18 sl44 zero61 rfl rfl rfl rfl (evp1 (ev_t rfl)) rfl rfl (by kernel_rfl) ?_)
        intro b8 w21 hb8 F46
        refine ⟨((F46.erase 3).erase 2).drop1, ?_⟩
        refine Hops.one 6 rfl (by kernel_rfl) (One.buildNil pCells F46 sl44 rfl rfl rfl rfl ?_)
        intro b9 w22 hb9 F47
        refine ⟨(((F47.erase 4).erase 3).erase 1).drop1, ?_⟩
        refine Hops.one 8 rfl (by kernel_rfl) (One.append (enc := pCells) p F47 0 rfl sl44 zero61 rfl rfl (fun _ => rfl) rfl rfl rfl rfl (ev_t rfl) (ev_t rfl) (hp.chg F47.chg) (fun _ _ => rfl) (by simp; omega) (by simp; omega) ?_)
        intro u2 w23 hu2 F48
        refine ⟨(((F48.erase 4).erase 3).erase 1).drop1, ?_⟩
        change Fr _ _ [_, _, blk _ _ [_, _, _], _, _, blk _ _ [_, _, _, _, _]] _ at F48
        refine Hops.one 11 rfl (by kernel_rfl) (One.append (enc := pCells) [stepK t.kind t.keys ix] F48 0 rfl sl44 zero61 rfl rfl (fun _ => rfl) rfl rfl rfl rfl (ev_t rfl) (ev_t rfl) ((blk_rep (enc := pCells) (sz := 3) (xs := [stepK t.kind t.keys ix]) (fun _ => rfl) (by simpa using F48.get 1 rfl) (by simp) (by simp)).weak fun _ _ => trivial) (fun _ _ => rfl) (by simp; omega) (by simp; omega) ?_)
        intro u3 w24 hu3 F49
        refine ⟨(((F49.erase 4).erase 3).erase 1).drop1, ?_⟩
        change Fr _ _ [_, _, blk _ _ [_, _, _], _, _, blk _ _ [_, _, _, _, _]] _ at F49
        refine Hops.one 12 rfl (by kernel_rfl) (One.call rfl rfl rfl (ent_f rfl (evl2 (ev_t rfl) (ev_t rfl)) (enters en125)) (H' _ (List.getElem_mem hil) (p ++ [stepK t.kind t.keys ix]) _ _ _ (hrt.chg F49.chg) (okT_child hok (List.getElem_mem hil)) (ownP (F49.get 0 rfl)) (by simp; omega)) (fun e w25 hw25 => ?_))
        obtain ⟨v5, xs5, rfl, hl5, C25, hm5, hb5⟩ := hw25
        obtain ⟨A5, m5, c5, rfl⟩ := own_form (Mem.get 0 rfl hm5)
        have F50 := (F49.new C25 (bun (sepP _ (.slice A5 m5 c5) xs5)) hm5 hb5).bunOut
        change Fr _ _ (own 44 1 (.slice A5 m5 c5) xs5.length (xs5.flatMap vCells) :: bun (rowsP _ xs5) :: [_, _, _, _, _, _]) _ at F50
        refine ⟨_, rfl, ?_⟩
        refine ⟨(((((F50.erase 6).erase 5).erase 3).erase 2).erase 1).drop1, ?_⟩
        refine Hops.one 13 rfl (by kernel_rfl) (One.append (enc := vCells) xs5 F50 6 rfl sl136 zero44 rfl rfl (fun _ => rfl) rfl rfl rfl rfl (ev_t rfl) (ev_t rfl) ((own_rep (enc := vCells) (sz := 1) (fun _ => rfl) (F50.get 0 rfl)).weak fun _ _ => trivial) (rowsP_one (F50.get 1 rfl) hl5) (by rw [hxl, hl5, Tr.ways_len]; omega) (by rw [hxl, hl5, Tr.ways_len]; omega) ?_)
        intro u6 w26 hu6 F51
        refine ⟨(((((F51.erase 6).erase 5).erase 3).erase 2).erase 1).drop1, ?_⟩
        change Fr _ _ [_, _, _, _, blk _ _ [_, _, _], _, _, blk _ _ [_, _, _, _, _]] _ at F51
        refine Hops.one 14 rfl (by kernel_rfl) (One.val rfl rfl rfl (yld_assign rfl (ev_t rfl)) ?_)
        refine ⟨(((((F51.erase 6).erase 5).erase 3).erase 2).erase 1).drop1, ?_⟩
        refine Hops.nil (by kernel_rfl) fun a hS => ?_
        refine hK8 _ _ ?_ a hS
        refine Cod.region ?_
        refine Ops.step (One.val rfl rfl rfl (yld_move rfl (ev_t rfl)) ?_)
        refine Ops.step (One.val rfl rfl rfl (yld_inc rfl (ev_t rfl) (fun _ => by omega)) ?_)
        refine Ops.step (One.val rfl rfl rfl (yld_assign rfl (ev_t rfl)) ?_)
        refine Ops.nil fun a hS => ?_
        have F52 := F51.pull 7 rfl
        have F53 := F52.pull 7 rfl
        have F54 := F53.pull 7 rfl
        have F55 := F54.pull 4 rfl
        have F56 := F55.erase 4
        have F57 := F56.erase 4
        have F58 := F57.erase 4
        have F59 := F58.erase 4
        have hF3 := F59.bunApp
        rw [← rowsP_app _ _ hxl, ← wp_step t p ix hil] at hF3
        exact hK5 (ix + 1, xs ++ xs5, u6) _ a (hS.sub ⟨rfl, rfl, rfl, rfl, trivial⟩) ⟨by show ix + 1 ≤ _; omega, by show (xs ++ xs5).length = (wp t p (ix + 1)).length; rw [wp_step t p ix hil, List.length_append, List.length_append, hxl, hl5], hF3⟩ (by show t.list.length - (ix + 1) < t.list.length - ix; omega)
  · skip
    have hix : ix = t.list.length := by simp at hc16; omega
    subst hix
    rw [wp_end] at F5 hxl
    refine Cod.exit fun a hS => ?_
    simp only [Exit.then, Exit.inBlock, ↓reduceIte]
    refine hK3 _ _ ?_ a hS
    refine Cod.seq fun K12 hK12 => ?_
    refine Cod.region ?_
    refine Ops.step (One.val rfl rfl rfl (yld_move rfl (ev_t rfl)) ?_)
    refine Ops.step (One.val rfl rfl rfl (yld_assign rfl (ev_t rfl)) ?_)
    refine Ops.nil fun a hS => ?_
    refine hK12 _ _ ?_ a hS
    refine Cod.ret fun a hS => ?_
    try simp only [Exit.then, Exit.inBlock]
    have hF3 := (F5.pull 1 rfl).bunTwo
    exact ret1 (t := 4) rfl hS rfl ⟨ov, xs, rfl, hxl, hF3.chg, hF3.get 0 rfl, fun b hb => (hF3.dom _ (List.mem_of_getElem? (i := 0) rfl) b hb).resolve_left id⟩


theorem l3All_ct (t : Tr) : WaysOk t := Tr.ind (p := WaysOk) l3All_of t
/-- Ways that are added to a row that the call owns. -/
def AddPP (S : Res) (w : World) (l : List (List Stp)) (e : Ending) (w' : World) : Prop := ∃ v xs, e = .returned v ∧ xs.length = l.length ∧ Chg S.fp w w' ∧ (bun (sepP l v xs)).is w' ∧ ∀ k, (bun (sepP l v xs)).fp k → S.fp k ∨ w.heap.size ≤ k



set_option maxRecDepth 100000 in
theorem specAll_ct (t : Tr) (v : Value) (w : World) (hr : Rep Any w t v) (hf : t.Fit) (hw : t.wt ≤ 1048576) : Calls Tryd.prog 114 #[v] w (NewPP w (waysR t)) := by
  obtain ⟨v3, v4, ev, h3, h4⟩ := hr.form
  subst ev
  refine enter Tryd.func114 rfl rfl rfl ?_
  have F0 := Fr.start w
  refine Cod.seq fun K1 hK1 => ?_
  refine Cod.region ?_
  refine Ops.step (One.box F0 rfl rfl rfl rfl (ev_t rfl) ?_)
  intro b1 w1 hb1 F1
  change Fr _ _ [blk _ _ [_, _, _, _, _]] _ at F1
  refine Ops.step (One.val rfl rfl rfl (yld_assign rfl ev_c) ?_)
  refine Ops.nil fun a hS => ?_
  refine hK1 _ _ ?_ a hS
  refine Cod.seq fun K2 hK2 => ?_
  refine Cod.seq fun K3 hK3 => ?_
  refine Cod.region ?_
  refine Ops.step (One.val rfl rfl rfl (yld_loadN ag33 rfl (ev_t rfl) (fun _ => F1.range (m := 5) (cs' := [_, _, _, _, _]) 0 rfl rfl) rfl) ?_)
  refine Ops.step (One.call rfl rfl rfl (ent_f rfl (evl1 (ev_t rfl)) (enters en37)) (specOk_ct t _ _ (hr.chg F1.chg) hf hw) (fun e w2 hw2 => ?_))
  obtain ⟨rfl, C2⟩ := hw2
  have F2 := F1.call C2
  refine ⟨_, rfl, ?_⟩
  refine Ops.step (One.val rfl rfl rfl (yld_not rfl (ev_t rfl)) ?_)
  refine Ops.nil fun a hS => ?_
  refine hK3 _ _ ?_ a hS
  refine Cod.cond rfl (fun hc5 => ?_) (fun hc5 => ?_)
  · skip
    have hno : waysR t = [] := by
      have hc : (!(okT t)) = true := hc5
      unfold waysR
      rw [if_neg]
      intro h
      rw [h] at hc
      simp at hc
    refine Cod.seq fun K4 hK4 => ?_
    refine Cod.region ?_
    refine Ops.step (One.buildNil vCells F2 sl136 rfl rfl rfl rfl ?_)
    intro b2 w3 hb2 F3
    refine Ops.step (One.val rfl rfl rfl (yld_assign rfl (ev_t rfl)) ?_)
    refine Ops.nil fun a hS => ?_
    refine hK4 _ _ ?_ a hS
    refine Cod.ret fun a hS => ?_
    try simp only [Exit.then, Exit.inBlock]
    have hF3 := F3.bunNil.pull 1 rfl |>.bunTwo
    exact ret1 (t := 2) rfl hS rfl ⟨_, [], rfl, by rw [hno]; rfl, hF3.chg, by rw [hno]; exact hF3.get 0 rfl, fun b hb => (hF3.dom _ (List.mem_of_getElem? (i := 0) rfl) b (by rw [hno] at hb; exact hb)).resolve_left id⟩
  · skip
    have hok : okT t = true := by
      have hc : (!(okT t)) = false := hc5
      cases h1 : okT t <;> simp [h1] at hc ⊢
    have hyes : waysR t = t.ways [] := by unfold waysR; rw [if_pos hok]
    have hcn : (t.cnt : Int) ≤ 60 := (okT_node hok).2
    refine Cod.skip fun a hS => ?_
    refine hK2 _ _ ?_ a hS
    refine Cod.seq fun K5 hK5 => ?_
    refine Cod.region ?_
    refine Ops.step (One.val rfl rfl rfl (yld_loadN ag33 rfl (ev_t rfl) (fun _ => F2.range (m := 5) (cs' := [_, _, _, _, _]) 0 rfl rfl) rfl) ?_)
    refine Ops.step (One.call rfl rfl rfl (ent_f rfl (evl2 (ev_t rfl) ev_c) (enters en125)) (l3All_ct t [] _ _ _ (hr.chg F2.chg) hok (RepE.nil _ _) (by show 0 + _ ≤ _; omega)) (fun e w4 hw4 => ?_))
    obtain ⟨v5, xs5, rfl, hl5, C4, hm5, hb5⟩ := hw4
    have F4 := F2.new C4 (bun (sepP _ v5 xs5)) hm5 hb5
    refine ⟨_, rfl, ?_⟩
    refine Ops.step (One.val rfl rfl rfl (yld_assign rfl (ev_t rfl)) ?_)
    refine Ops.nil fun a hS => ?_
    refine hK5 _ _ ?_ a hS
    refine Cod.ret fun a hS => ?_
    try simp only [Exit.then, Exit.inBlock]
    exact ret1 (t := 2) rfl hS rfl ⟨v5, xs5, rfl, by rw [hyes]; exact hl5, F4.chg, by rw [hyes]; exact F4.get 0 rfl, fun b hb => (F4.dom _ (List.mem_of_getElem? (i := 0) rfl) b (by rw [hyes] at hb; exact hb)).resolve_left id⟩


def shortK (p : List Stp) : Prop := ∀ s ∈ p, s.key.size ≤ 12
theorem shortK.nil : shortK [] := fun s h => by simp at h
theorem shortK.snoc {p : List Stp} {s : Stp} (h : shortK p) (hs : s.key.size ≤ 12) : shortK (p ++ [s]) := fun x hx => by
  rcases List.mem_append.1 hx with hx | hx
  · exact h x hx
  · obtain rfl := List.mem_singleton.1 hx; exact hs
theorem stepK_short {t : Tr} (h : okT t = true) (i : Nat) : (stepK t.kind t.keys i).key.size ≤ 12 := by
  unfold stepK
  split
  · show (nth t.keys i).size ≤ 12
    by_cases hi : i < t.keys.length
    · exact okS_size ((okT_six h).2.2 i hi).1
    · unfold nth; rw [List.getD_eq_getElem?_getD, List.getElem?_eq_none (by omega)]; exact Nat.zero_le _
  · exact Nat.zero_le _
theorem ways_key : ∀ (t : Tr) (p : List Stp), okT t = true → shortK p → ∀ q ∈ t.ways p, shortK q := Tr.ind (p := fun t => ∀ p, okT t = true → shortK p → ∀ q ∈ t.ways p, shortK q) fun k n s ks l H p ho hp q hq => by
  rw [Tr.ways] at hq
  rcases List.mem_cons.1 hq with rfl | hq
  · exact hp
  · obtain ⟨i, hi, hq⟩ := Tr.waysL_mem hq
    exact H _ (List.getElem_mem hi) _ (okT_child ho (List.getElem_mem hi)) (hp.snoc (stepK_short ho (0 + i))) q hq
theorem waysR_key (t : Tr) : ∀ q ∈ waysR t, shortK q := fun q hq => by
  unfold waysR at hq
  split at hq
  · rename_i h
    exact ways_key t [] h shortK.nil q hq
  · simp at hq
/-- A drawn way. -/
def DrewP (bb : Nat) (cv : Value) (lim n : Nat) (w : World) (e : Ending) (w' : World) : Prop := ∃ (v : Value) (p : List Stp), e = .returned v ∧ Chg (· = bb) w w' ∧ (rd bb cv lim).is w' ∧ (own 61 3 v p.length (p.flatMap pCells)).is w' ∧ (∀ k, v.ownBlock = some k → w.heap.size ≤ k) ∧ shortK p ∧ p.length ≤ n
theorem DrewP.of {bb lim lim1 n : Nat} {cv v : Value} {w0 w : World} {L : List Res} {p : List Stp} (F : Fr (· = bb) w0 L w) (i j : Nat) (hi : L[i]? = some (rd bb cv lim1)) (hj : L[j]? = some (own 61 3 v p.length (p.flatMap pCells))) (hij : i ≠ j) (hle : lim1 ≤ lim) (hk : shortK p) (hl : p.length ≤ n) : DrewP bb cv lim n w0 (.returned v) w := by
  refine ⟨v, p, rfl, F.chg, ?_, F.get j hj, fun k hkk => ?_, hk, hl⟩
  · obtain ⟨q, hq, hb⟩ := F.get i hi
    exact ⟨q, by omega, hb⟩
  · rcases F.dom _ (List.mem_of_getElem? hj) k hkk with h | h
    · exact absurd h (F.apart' j i hj hi hij k hkk)
    · exact h
def wayA : List ByteArray := [⟨#[97]⟩, ⟨#[122]⟩]
def wayK : List ByteArray := [⟨#[97]⟩, ⟨#[98]⟩, ⟨#[99]⟩, ⟨#[100]⟩]
def wayI : List Int := [0, 1, -1, 2]
def wayB : List Int := [60, -61]

theorem memW {s : ByteArray} {l : List ByteArray} (h : s ∈ l) (hl : l.all (fun x => decide (x.size ≤ 12)) = true) : s.size ≤ 12 := by
  have := List.all_eq_true.1 hl s h
  simpa using this

set_option maxRecDepth 100000 in
theorem l3Path_ct (t : Tr) (v : Value) (bb : Nat) (cv : Value) (lim : Nat) (w : World) (hcode : Code bb w cv) (hr : (rd bb cv lim).is w) (ht : Rep (fun k => k ≠ bb) w t v) (hf : t.Fit) (hw : t.wt ≤ 1048576) (hlim : lim ≤ 1000000) :
    Calls Tryd.prog 97 #[.pointer (some ⟨bb, 0, none⟩), v] w (DrewP bb cv (lim + 20) 61 w) := by
  obtain ⟨v3, v4, ev, -, -⟩ := ht.form
  subst ev
  refine enter Tryd.func97 rfl rfl rfl ?_
  have F0 := Fr.lend (rd bb cv lim) hr
  refine Cod.seq fun K1 hK1 => ?_
  refine Cod.region ?_
  refine Ops.step (One.box F0 rfl rfl rfl rfl (ev_t rfl) ?_)
  intro b1 w1 hb1 F1
  change Fr _ _ [blk _ _ [_, _, _, _, _], _] _ at F1
  refine Ops.step (One.val rfl rfl rfl (yld_assign rfl ev_c) ?_)
  refine Ops.nil fun a hS => ?_
  refine hK1 _ _ ?_ a hS
  refine Cod.seq fun K2 hK2 => ?_
  refine Cod.region ?_
  refine Ops.step (One.val rfl rfl rfl (yld_loadN ag33 rfl (ev_t rfl) (fun _ => F1.range (m := 5) (cs' := [_, _, _, _, _]) 0 rfl rfl) rfl) ?_)
  refine Ops.step (One.call rfl rfl rfl (ent_f rfl (evl1 (ev_t rfl)) (enters en114)) (specAll_ct t _ _ ((ht.keepX F1.chg fun _ _ h => h).weak fun _ _ => trivial) hf hw) (fun e w2 hw2 => ?_))
  obtain ⟨av, axs, rfl, hal, C2, hm, hbn⟩ := hw2
  have hm2 : Mem (sepP (waysR t) av axs) w2 := hm
  obtain ⟨A, m, c, hav⟩ := own_form (Mem.get 0 rfl hm2)
  have hml := own_len (Mem.get 0 rfl hm2) hav
  subst hav
  subst hml
  have hal60 := waysR_len t
  have F2 := F1.new C2 (bun (sepP (waysR t) (.slice A axs.length c) axs)) hm hbn
  refine ⟨_, rfl, ?_⟩
  refine Ops.step (One.val rfl rfl rfl (yld_assign rfl (ev_t rfl)) ?_)
  refine Ops.nil fun a hS => ?_
  refine hK2 _ _ ?_ a hS
  refine Cod.seq fun K3 hK3 => ?_
  refine Cod.cut (fun i : Bool => [(0, true, .pointer (some ⟨bb, 0, none⟩)), (5, true, .slice A axs.length c), (18, true, .bool i)]) (fun i w' => (i = true → 0 < axs.length) ∧ Fr (· = bb) w [bun (sepP (waysR t) (.slice A axs.length c) axs), rd bb cv (lim + 1)] w') (fun K4 hK4 => ?_) ?_
  · skip
    refine Cod.region ?_
    refine Ops.step (One.val rfl rfl rfl (yld_move rfl (ev_t rfl)) ?_)
    refine Ops.step (One.val rfl rfl rfl (yld_len sl136 rfl (ev_t rfl)) ?_)
    refine Ops.step (One.val rfl rfl rfl (yld_gtr rfl (ev_t rfl) ev_c) ?_)
    refine Ops.step (One.val rfl rfl rfl (yld_move rfl (ev_t rfl)) ?_)
    refine Ops.step (One.val (gd_some rfl rfl) rfl rfl (yld_move rfl (ev_t rfl)) ?_)
    refine Ops.gsplit (gd_some rfl rfl) ?_ ?_
    · intro hgt
      skip
      refine Ops.step (One.gsure (gd_some rfl rfl) hgt rfl rfl (ent_f rfl (evl2 (ev_g rfl) ev_c) (enters en95)) (pick_ct 3 bb cv _ _ (hcode.keep F2.chg) (F2.get 2 rfl) (by omega) (by omega)) (fun e w3 hw3 => ?_))
      obtain ⟨r1, rfl, C3, hrdr1, hr1⟩ := hw3
      have F3 := F2.upd 2 rfl C3 (fun _ hk => .inl hk) (rd bb cv _) hrdr1 (fun _ hk => .inl hk)
      change Fr _ _ [_, _, _] _ at F3
      refine ⟨_, rfl, ?_⟩
      refine Ops.step (One.val (gd_some rfl rfl) rfl rfl (yld_gtr rfl (ev_g rfl) ev_c) ?_)
      refine Ops.step (One.val rfl rfl rfl (yld_and rfl (ev_t rfl) (ev_g rfl)) ?_)
      refine Ops.nil fun a hS => ?_
      have F4 := F3.pull 2 rfl
      have F5 := F4.pull 1 rfl
      have F6 := F5.erase 2
      first
        | exact hK4 _ _ a (hS.sub ⟨rfl, rfl, rfl, trivial⟩) ⟨fun hi => by first | (simp at hi; done) | (simp at hi; omega), F6⟩
        | exact hK4 _ _ a (hS.sub ⟨rfl, rfl, rfl, trivial⟩) ⟨fun hi => by first | (simp at hi; done) | (simp at hi; omega), F6.rdUp 1 rfl (lim + 1) (by omega)⟩
    · intro hgf
      skip
      refine Ops.step (One.gskip (v := .int .i64 0) (gd_some rfl rfl) hgf rfl rfl ?_)
      refine Ops.step (One.val (gd_some rfl rfl) rfl rfl (yld_gtr rfl (ev_g rfl) ev_c) ?_)
      refine Ops.step (One.val rfl rfl rfl (yld_and rfl (ev_t rfl) (ev_g rfl)) ?_)
      refine Ops.nil fun a hS => ?_
      have F8 := F2.pull 2 rfl
      have F9 := F8.pull 1 rfl
      have F10 := F9.erase 2
      first
        | exact hK4 _ _ a (hS.sub ⟨rfl, rfl, rfl, trivial⟩) ⟨fun hi => by first | (simp at hi; done) | (simp at hi; omega), F10⟩
        | exact hK4 _ _ a (hS.sub ⟨rfl, rfl, rfl, trivial⟩) ⟨fun hi => by first | (simp at hi; done) | (simp at hi; omega), F10.rdUp 1 rfl (lim + 1) (by omega)⟩
  · skip
    intro i w5 hW
    obtain ⟨hpos, F11⟩ := hW
    refine Cod.cond rfl (fun hc18 => ?_) (fun hc18 => ?_)
    · skip
      have hp0 := hpos hc18
      refine Cod.seq fun K5 hK5 => ?_
      refine Cod.region ?_
      refine Ops.step (One.val rfl rfl rfl (yld_move rfl (ev_t rfl)) ?_)
      refine Ops.step (One.val rfl rfl rfl (yld_move rfl (ev_t rfl)) ?_)
      refine Ops.step (One.val rfl rfl rfl (yld_move rfl (ev_t rfl)) ?_)
      refine Ops.step (One.val rfl rfl rfl (yld_len sl136 rfl (ev_t rfl)) ?_)
      refine Ops.step (One.call rfl rfl rfl (ent_f rfl (evl2 (ev_t rfl) (ev_t rfl)) (enters en95)) (pick_ct axs.length bb cv _ _ (hcode.keep F11.chg) (F11.get 1 rfl) (by omega) (by omega)) (fun e w6 hw6 => ?_))
      obtain ⟨r3, rfl, C6, hrdr3, hr3⟩ := hw6
      have F12 := F11.upd 1 rfl C6 (fun _ hk => .inl hk) (rd bb cv _) hrdr3 (fun _ hk => .inl hk)
      change Fr _ _ [_, _] _ at F12
      have hmS : Mem (sepP (waysR t) (.slice A axs.length c) axs) w6 := F12.get 0 rfl
      have hre := own_rep (e := 44) (enc := vCells) (sz := 1) (fun _ => rfl) (Mem.get 0 rfl hmS)
      obtain ⟨ab, ao, rfl, -, har⟩ := hre.at r3 hr3
      have hrow := rowsP_get (l := waysR t) (xs := axs) r3 (by omega) hr3
      refine ⟨_, rfl, ?_⟩
      refine Ops.step (One.val rfl rfl rfl (yld_indexN sl136 rfl (ev_t rfl) (ev_t rfl) (fun _ => by omega)) ?_)
      refine Ops.step (One.val rfl rfl rfl (yld_load1 on44 rfl (ev_t rfl) (fun _ => rangeAt_cell har (j := 0) rfl)) ?_)
      refine Ops.step (One.val rfl rfl rfl (yld_assign rfl (ev_t rfl)) ?_)
      refine Ops.nil fun a hS => ?_
      refine hK5 _ _ ?_ a hS
      refine Cod.seq fun K6 hK6 => ?_
      refine Cod.seq fun K7 hK7 => ?_
      have hB1 := F12.bunOut
      have hB2 := (show Fr _ _ (own 44 1 (.slice (some ⟨ab, ao, none⟩) axs.length c) axs.length (axs.flatMap vCells) :: bun (rowsP (waysR t) axs) :: rd bb cv _ :: []) w6 from hB1).drop1
      have F13 := hB2.bunPick r3 hrow
      obtain ⟨pv, hpv⟩ : ∃ pv, pv = axs[r3] := ⟨_, rfl⟩
      rw [← hpv] at F13 ⊢
      obtain ⟨p, hpe⟩ : ∃ p, p = (waysR t)[r3] := ⟨_, rfl⟩
      have hpk := waysR_key t _ (List.getElem_mem (by omega : r3 < (waysR t).length))
      have hps := waysR_short t _ (List.getElem_mem (by omega : r3 < (waysR t).length))
      rw [← hpe] at F13 hpk hps
      obtain ⟨pA, pm, pc, hpve⟩ := own_form (F13.get 0 rfl)
      have hpm := own_len (F13.get 0 rfl) hpve
      subst hpve
      subst hpm
      change Fr _ _ [own 61 3 (.slice pA p.length pc) p.length (p.flatMap pCells), rd bb cv _] _ at F13
      refine Cod.region ?_
      refine Ops.step (One.val rfl rfl rfl (yld_move rfl (ev_t rfl)) ?_)
      refine Ops.step (One.call rfl rfl rfl (ent_f rfl (evl2 (ev_t rfl) ev_c) (enters en95)) (pick_ct 3 bb cv _ _ (hcode.keep F13.chg) (F13.get 1 rfl) (by omega) (by omega)) (fun e w7 hw7 => ?_))
      obtain ⟨r4, rfl, C7, hrdr4, hr4⟩ := hw7
      have F14 := F13.upd 1 rfl C7 (fun _ hk => .inl hk) (rd bb cv _) hrdr4 (fun _ hk => .inl hk)
      change Fr _ _ [_, _] _ at F14
      refine ⟨_, rfl, ?_⟩
      refine Ops.step (One.val rfl rfl rfl (yld_eql rfl (ev_t rfl) ev_c) ?_)
      refine Ops.step (One.val rfl rfl rfl (yld_move rfl (ev_t rfl)) ?_)
      refine Ops.step (One.val (gd_some rfl rfl) rfl rfl (yld_move rfl (ev_t rfl)) ?_)
      refine Ops.step (One.val (gd_some rfl rfl) rfl rfl (yld_len sl44 rfl (ev_g rfl)) ?_)
      refine Ops.step (One.val (gd_some rfl rfl) rfl rfl (yld_lss rfl (ev_g rfl) ev_c) ?_)
      refine Ops.step (One.val rfl rfl rfl (yld_and rfl (ev_t rfl) (ev_g rfl)) ?_)
      refine Ops.nil fun a hS => ?_
      refine hK7 _ _ ?_ a hS
      refine Cod.cond rfl (fun hc33 => ?_) (fun hc33 => ?_)
      · skip
        refine Cod.region ?_
        refine Ops.step (One.val rfl rfl rfl (yld_move rfl (ev_t rfl)) ?_)
        refine Ops.step (One.val rfl rfl rfl (yld_move rfl (ev_t rfl)) ?_)
        refine Ops.step (One.buildSlice (cells := (wayA.flatMap sCells)) F14 sl22 zero9 rfl rfl rfl rfl (evp2 ev_c ev_c) rfl rfl (by kernel_rfl) ?_)
        intro b2 w8 hb2 F15
        refine Ops.step (One.call rfl rfl rfl (ent_f rfl (evl2 (ev_t rfl) (ev_t rfl)) (enters en99)) (rof_ct wayA bb cv _ _ _ (hcode.keep F15.chg) (F15.get 2 rfl) (by have := F15.lit (enc := sCells) (sz := 1) (xs := wayA) (fun _ => rfl) 0 2 (by decide) rfl rfl (by decide); exact this) (by omega) (by decide) (by decide)) (fun e w9 hw9 => ?_))
        obtain ⟨s5, hms5, rfl, C9, hrds5⟩ := hw9
        have F16 := F15.upd 2 rfl C9 (fun _ hk => .inl hk) (rd bb cv _) hrds5 (fun _ hk => .inl hk)
        change Fr _ _ [_, _, _] _ at F16
        refine ⟨_, rfl, ?_⟩
        refine Ops.step (One.val rfl rfl rfl (yld_build (cells := [.bool true, .string s5, .int .i64 0]) rfl (evp2 ev_c (ev_t rfl)) (by kernel_rfl)) ?_)
        refine Ops.step (One.buildSlice (cells := (pCells ⟨true, s5, 0⟩)) F16 sl44 zero61 rfl rfl rfl rfl (evp1 (ev_t rfl)) rfl rfl (by kernel_rfl) ?_)
        intro b3 w10 hb3 F17
        refine Ops.step (One.append (enc := pCells) [⟨true, s5, 0⟩] F17 2 rfl sl44 zero61 rfl rfl (fun _ => rfl) rfl rfl rfl rfl (ev_t rfl) (ev_t rfl) ((blk_rep (enc := pCells) (sz := 3) (xs := [⟨true, s5, 0⟩]) (fun _ => rfl) (by simpa using F17.get 0 rfl) (by simp) (by simp)).weak fun _ _ => trivial) (fun _ _ => rfl) (by simp; omega) (by simp; omega) ?_)
        intro u5 w11 hu5 F18
        change Fr _ _ [_, _, _, _] _ at F18
        refine Ops.step (One.val rfl rfl rfl (yld_assign rfl (ev_t rfl)) ?_)
        refine Ops.nil fun a hS => ?_
        refine hK6 _ _ ?_ a hS
        refine Cod.seq fun K8 hK8 => ?_
        refine Cod.region ?_
        refine Ops.step (One.val rfl rfl rfl (yld_move rfl (ev_t rfl)) ?_)
        refine Ops.step (One.val rfl rfl rfl (yld_assign rfl (ev_t rfl)) ?_)
        refine Ops.nil fun a hS => ?_
        refine hK8 _ _ ?_ a hS
        refine Cod.ret fun a hS => ?_
        try simp only [Exit.then, Exit.inBlock]
        exact ret1 (t := 4) rfl hS rfl (DrewP.of F18 3 2 rfl rfl (by decide) (by omega) (hpk.snoc (memW hms5 (by decide))) (by simp; omega))
      · skip
        refine Cod.skip fun a hS => ?_
        refine hK6 _ _ ?_ a hS
        refine Cod.seq fun K9 hK9 => ?_
        refine Cod.region ?_
        refine Ops.step (One.val rfl rfl rfl (yld_move rfl (ev_t rfl)) ?_)
        refine Ops.step (One.val rfl rfl rfl (yld_assign rfl (ev_t rfl)) ?_)
        refine Ops.nil fun a hS => ?_
        refine hK9 _ _ ?_ a hS
        refine Cod.ret fun a hS => ?_
        try simp only [Exit.then, Exit.inBlock]
        exact ret1 (t := 4) rfl hS rfl (DrewP.of F14 1 0 rfl rfl (by decide) (by omega) hpk (by omega))
    · skip
      skip
      refine Cod.skip fun a hS => ?_
      refine hK3 _ _ ?_ a hS
      refine Cod.seq fun K10 hK10 => ?_
      refine Cod.region ?_
      refine Ops.step (One.buildNil pCells F11 sl44 rfl rfl rfl rfl ?_)
      intro b4 w12 hb4 F19
      refine Ops.step (One.val rfl rfl rfl (yld_assign rfl (ev_t rfl)) ?_)
      refine Ops.nil fun a hS => ?_
      refine hK10 _ _ ?_ a hS
      refine Cod.seq fun K11 hK11 => ?_
      refine Cod.seq fun K12 hK12 => ?_
      refine Cod.region ?_
      refine Ops.step (One.val rfl rfl rfl (yld_move rfl (ev_t rfl)) ?_)
      refine Ops.step (One.call rfl rfl rfl (ent_f rfl (evl2 (ev_t rfl) ev_c) (enters en95)) (pick_ct 4 bb cv _ _ (hcode.keep F19.chg) (F19.get 2 rfl) (by omega) (by omega)) (fun e w13 hw13 => ?_))
      obtain ⟨r8, rfl, C13, hrdr8, hr8⟩ := hw13
      have F20 := F19.upd 2 rfl C13 (fun _ hk => .inl hk) (rd bb cv _) hrdr8 (fun _ hk => .inl hk)
      change Fr _ _ [_, _, _] _ at F20
      refine ⟨_, rfl, ?_⟩
      refine Ops.step (One.val rfl rfl rfl (yld_assign rfl (ev_t rfl)) ?_)
      refine Ops.nil fun a hS => ?_
      refine hK12 _ _ ?_ a hS
      refine Cod.block ?_
      have F21 := F20.pull 2 rfl
      have F22 := F21.pull 1 rfl
      have F23 := F22.erase 2
      refine Cod.loop (fun i : Nat × Nat × List Stp × Value => [(0, true, .pointer (some ⟨bb, 0, none⟩)), (7, true, i.2.2.2), (8, true, .int .i64 (i.1 : Int))]) (fun i w' => i.1 + i.2.1 ≤ 3 ∧ i.2.2.1.length ≤ i.2.1 ∧ shortK i.2.2.1 ∧ Fr (· = bb) w [own 61 3 i.2.2.2 i.2.2.1.length (i.2.2.1.flatMap pCells), rd bb cv (lim + 2 + 2 * i.2.1)] w') (fun i => i.1) (r8, 0, [], .slice (some ⟨b4, 0, none⟩) 0 0) ⟨rfl, rfl, rfl, trivial⟩ ⟨by show r8 + 0 ≤ 3; omega, Nat.le_refl _, shortK.nil, F23⟩ ?_
      intro i w14 hW K13 hK13
      obtain ⟨j, m, p, pv⟩ := i
      obtain ⟨hjm, hpm, hpk, F24⟩ := hW
      dsimp only at *
      refine Cod.seq fun K14 hK14 => ?_
      refine Cod.seq fun K15 hK15 => ?_
      refine Cod.region ?_
      refine Ops.step (One.val rfl rfl rfl (yld_move rfl (ev_t rfl)) ?_)
      refine Ops.step (One.val rfl rfl rfl (yld_gtr rfl (ev_t rfl) ev_c) ?_)
      refine Ops.nil fun a hS => ?_
      refine hK15 _ _ ?_ a hS
      refine Cod.cond rfl (fun hc46 => ?_) (fun hc46 => ?_)
      · skip
        have hj0 : 0 < j := by simp at hc46; omega
        obtain ⟨j, rfl⟩ : ∃ j2, j = j2 + 1 := ⟨j - 1, by omega⟩
        refine Cod.skip fun a hS => ?_
        refine hK14 _ _ ?_ a hS
        refine Cod.seq fun K16 hK16 => ?_
        refine Cod.block ?_
        refine Cod.seq fun K17 hK17 => ?_
        refine Cod.region ?_
        refine Ops.step (One.val rfl rfl rfl (yld_move rfl (ev_t rfl)) ?_)
        refine Ops.step (One.call rfl rfl rfl (ent_f rfl (evl2 (ev_t rfl) ev_c) (enters en95)) (pick_ct 2 bb cv _ _ (hcode.keep F24.chg) (F24.get 1 rfl) (by omega) (by omega)) (fun e w15 hw15 => ?_))
        obtain ⟨r11, rfl, C15, hrdr11, hr11⟩ := hw15
        have F25 := F24.upd 1 rfl C15 (fun _ hk => .inl hk) (rd bb cv _) hrdr11 (fun _ hk => .inl hk)
        change Fr _ _ [_, _] _ at F25
        refine ⟨_, rfl, ?_⟩
        refine Ops.step (One.val rfl rfl rfl (yld_eql rfl (ev_t rfl) ev_c) ?_)
        refine Ops.nil fun a hS => ?_
        refine hK17 _ _ ?_ a hS
        refine Cod.cond rfl (fun hc51 => ?_) (fun hc51 => ?_)
        · skip
          refine Cod.region ?_
          refine Ops.step (One.val rfl rfl rfl (yld_move rfl (ev_t rfl)) ?_)
          refine Ops.step (One.val rfl rfl rfl (yld_move rfl (ev_t rfl)) ?_)
          refine Ops.step (One.buildSlice (cells := (wayK.flatMap sCells)) F25 sl22 zero9 rfl rfl rfl rfl (evp4 ev_c ev_c ev_c ev_c) rfl rfl (by kernel_rfl) ?_)
          intro b5 w16 hb5 F26
          refine Ops.step (One.call rfl rfl rfl (ent_f rfl (evl2 (ev_t rfl) (ev_t rfl)) (enters en99)) (rof_ct wayK bb cv _ _ _ (hcode.keep F26.chg) (F26.get 2 rfl) (by have := F26.lit (enc := sCells) (sz := 1) (xs := wayK) (fun _ => rfl) 0 2 (by decide) rfl rfl (by decide); exact this) (by omega) (by decide) (by decide)) (fun e w17 hw17 => ?_))
          obtain ⟨s12, hms12, rfl, C17, hrds12⟩ := hw17
          have F27 := F26.upd 2 rfl C17 (fun _ hk => .inl hk) (rd bb cv _) hrds12 (fun _ hk => .inl hk)
          change Fr _ _ [_, _, _] _ at F27
          refine ⟨_, rfl, ?_⟩
          refine Ops.step (One.val rfl rfl rfl (yld_build (cells := [.bool true, .string s12, .int .i64 0]) rfl (evp2 ev_c (ev_t rfl)) (by kernel_rfl)) ?_)
          refine Ops.step (One.buildSlice (cells := (pCells ⟨true, s12, 0⟩)) F27 sl44 zero61 rfl rfl rfl rfl (evp1 (ev_t rfl)) rfl rfl (by kernel_rfl) ?_)
          intro b6 w18 hb6 F28
          refine Ops.step (One.append (enc := pCells) [⟨true, s12, 0⟩] F28 2 rfl sl44 zero61 rfl rfl (fun _ => rfl) rfl rfl rfl rfl (ev_t rfl) (ev_t rfl) ((blk_rep (enc := pCells) (sz := 3) (xs := [⟨true, s12, 0⟩]) (fun _ => rfl) (by simpa using F28.get 0 rfl) (by simp) (by simp)).weak fun _ _ => trivial) (fun _ _ => rfl) (by simp; omega) (by simp; omega) ?_)
          intro u12 w19 hu12 F29
          change Fr _ _ [_, _, _, _] _ at F29
          refine Ops.step (One.val rfl rfl rfl (yld_assign rfl (ev_t rfl)) ?_)
          refine Ops.nil fun a hS => ?_
          refine hK16 _ _ ?_ a hS
          refine Cod.region ?_
          refine Ops.step (One.val rfl rfl rfl (yld_move rfl (ev_t rfl)) ?_)
          refine Ops.step (One.val rfl rfl rfl (yld_sub rfl (ev_t rfl) ev_c (fun _ => by omega)) ?_)
          refine Ops.step (One.val rfl rfl rfl (yld_assign rfl (ev_t rfl)) ?_)
          refine Ops.nil fun a hS => ?_
          have F30 := F29.pull 3 rfl
          have F31 := F30.pull 3 rfl
          have F32 := F31.erase 2
          have F33 := F32.erase 2
          rw [show ((j + 1 : Nat) : Int) - 1 = (j : Int) by omega] at hS
          exact hK13 (j, m + 1, _, _) _ a (hS.sub ⟨rfl, rfl, rfl, trivial⟩) ⟨by show j + (m + 1) ≤ 3; omega, by simp; omega, hpk.snoc (memW hms12 (by decide)), F33.rdUp 1 rfl (lim + 2 + 2 * (m + 1)) (by omega)⟩ (by show j < j + 1; omega)
        · skip
          refine Cod.region ?_
          refine Ops.step (One.val rfl rfl rfl (yld_move rfl (ev_t rfl)) ?_)
          refine Ops.step (One.val rfl rfl rfl (yld_move rfl (ev_t rfl)) ?_)
          refine Ops.step (One.buildSlice (cells := (wayI.flatMap jCells)) F25 sl108 zero3 rfl rfl rfl rfl (evp4 ev_c ev_c ev_c ev_c) rfl rfl (by kernel_rfl) ?_)
          intro b7 w20 hb7 F34
          refine Ops.step (One.call rfl rfl rfl (ent_f rfl (evl2 (ev_t rfl) (ev_t rfl)) (enters en98)) (rnum_ct wayI bb cv _ _ _ (hcode.keep F34.chg) (F34.get 2 rfl) (by have := F34.lit (enc := jCells) (sz := 1) (xs := wayI) (fun _ => rfl) 0 2 (by decide) rfl rfl (by decide); exact this) (by omega) (by decide) (by decide)) (fun e w21 hw21 => ?_))
          obtain ⟨s13, hms13, rfl, C21, hrds13⟩ := hw21
          have F35 := F34.upd 2 rfl C21 (fun _ hk => .inl hk) (rd bb cv _) hrds13 (fun _ hk => .inl hk)
          change Fr _ _ [_, _, _] _ at F35
          refine ⟨_, rfl, ?_⟩
          refine Ops.step (One.val rfl rfl rfl (yld_build (cells := [.bool false, .string ⟨#[]⟩, .int .i64 s13]) rfl (evp1 (ev_t rfl)) (by kernel_rfl)) ?_)
          refine Ops.step (One.buildSlice (cells := (pCells ⟨false, ⟨#[]⟩, s13⟩)) F35 sl44 zero61 rfl rfl rfl rfl (evp1 (ev_t rfl)) rfl rfl (by kernel_rfl) ?_)
          intro b8 w22 hb8 F36
          refine Ops.step (One.append (enc := pCells) [⟨false, ⟨#[]⟩, s13⟩] F36 2 rfl sl44 zero61 rfl rfl (fun _ => rfl) rfl rfl rfl rfl (ev_t rfl) (ev_t rfl) ((blk_rep (enc := pCells) (sz := 3) (xs := [⟨false, ⟨#[]⟩, s13⟩]) (fun _ => rfl) (by simpa using F36.get 0 rfl) (by simp) (by simp)).weak fun _ _ => trivial) (fun _ _ => rfl) (by simp; omega) (by simp; omega) ?_)
          intro u13 w23 hu13 F37
          change Fr _ _ [_, _, _, _] _ at F37
          refine Ops.step (One.val rfl rfl rfl (yld_assign rfl (ev_t rfl)) ?_)
          refine Ops.nil fun a hS => ?_
          refine hK16 _ _ ?_ a hS
          refine Cod.region ?_
          refine Ops.step (One.val rfl rfl rfl (yld_move rfl (ev_t rfl)) ?_)
          refine Ops.step (One.val rfl rfl rfl (yld_sub rfl (ev_t rfl) ev_c (fun _ => by omega)) ?_)
          refine Ops.step (One.val rfl rfl rfl (yld_assign rfl (ev_t rfl)) ?_)
          refine Ops.nil fun a hS => ?_
          have F38 := F37.pull 3 rfl
          have F39 := F38.pull 3 rfl
          have F40 := F39.erase 2
          have F41 := F40.erase 2
          rw [show ((j + 1 : Nat) : Int) - 1 = (j : Int) by omega] at hS
          exact hK13 (j, m + 1, _, _) _ a (hS.sub ⟨rfl, rfl, rfl, trivial⟩) ⟨by show j + (m + 1) ≤ 3; omega, by simp; omega, hpk.snoc (Nat.zero_le _), F41.rdUp 1 rfl (lim + 2 + 2 * (m + 1)) (by omega)⟩ (by show j < j + 1; omega)
      · skip
        skip
        refine Cod.exit fun a hS => ?_
        simp only [Exit.then, Exit.inBlock, ↓reduceIte]
        refine hK11 _ _ ?_ a hS
        refine Cod.seq fun K18 hK18 => ?_
        refine Cod.region ?_
        refine Ops.step (One.val rfl rfl rfl (yld_move rfl (ev_t rfl)) ?_)
        refine Ops.step (One.val rfl rfl rfl (yld_assign rfl (ev_t rfl)) ?_)
        refine Ops.nil fun a hS => ?_
        refine hK18 _ _ ?_ a hS
        refine Cod.ret fun a hS => ?_
        try simp only [Exit.then, Exit.inBlock]
        exact ret1 (t := 4) rfl hS rfl (DrewP.of F24 1 0 rfl rfl (by decide) (by omega) hpk (by omega))


/-- What a function gives that draws a tree and a way. -/
def rpsW (G : Nat → Prop) (l : List (Tr × Value)) (p : List Stp) (pv : Value) : Res := ⟨G, fun w => (rps G l).is w ∧ RepP G w p pv, fun w w' h hi => ⟨(rps G l).keep w w' h hi.1, hi.2.keep h⟩, fun w hi k hk => (rps G l).lt w hi.1 k hk⟩
def DrawW (w : World) (e : Ending) (w' : World) : Prop := ∃ (x : V5) (t : Tr) (pv : Value) (p : List Stp), e = .returned (.tuple #[x.val, pv]) ∧ Chg No w w' ∧ (rpsW (New w w') [(t, x.val)] p pv).is w' ∧ Dr t ∧ shortK p ∧ p.length ≤ 100

set_option maxRecDepth 100000 in
theorem l3Bent_ct (t : Tr) (v : Value) (bb : Nat) (cv : Value) (lim : Nat) (w : World) (hcode : Code bb w cv) (hr : (rd bb cv lim).is w) (ht : Rep (fun k => k ≠ bb) w t v) (hf : t.Fit) (hw : t.wt ≤ 1048576) (hlim : lim ≤ 1000000) :
    Calls Tryd.prog 68 #[.pointer (some ⟨bb, 0, none⟩), v] w (DrewP bb cv (lim + 30) 62 w) := by
  obtain ⟨v3, v4, ev, -, -⟩ := ht.form
  subst ev
  refine enter Tryd.func68 rfl rfl rfl ?_
  have F0 := Fr.lend (rd bb cv lim) hr
  refine Cod.seq fun K1 hK1 => ?_
  refine Cod.region ?_
  refine Ops.step (One.box F0 rfl rfl rfl rfl (ev_t rfl) ?_)
  intro b1 w1 hb1 F1
  change Fr _ _ [blk _ _ [_, _, _, _, _], _] _ at F1
  refine Ops.step (One.val rfl rfl rfl (yld_assign rfl ev_c) ?_)
  refine Ops.nil fun a hS => ?_
  refine hK1 _ _ ?_ a hS
  refine Cod.seq fun K2 hK2 => ?_
  refine Cod.region ?_
  refine Ops.step (One.val rfl rfl rfl (yld_move rfl (ev_t rfl)) ?_)
  refine Ops.step (One.val rfl rfl rfl (yld_loadN ag33 rfl (ev_t rfl) (fun _ => F1.range (m := 5) (cs' := [_, _, _, _, _]) 0 rfl rfl) rfl) ?_)
  refine Ops.step (One.call rfl rfl rfl (ent_f rfl (evl2 (ev_t rfl) (ev_t rfl)) (enters en97)) (l3Path_ct t _ bb cv _ _ (hcode.keep F1.chg) (F1.get 1 rfl) (ht.keepX F1.chg fun _ _ h => h) hf hw (by omega)) (fun e w2 hw2 => ?_))
  obtain ⟨pv, p, rfl, C2, hrdp, hop, hobp, hpk, hpl⟩ := hw2
  obtain ⟨pA, pm, pc, hpve⟩ := own_form hop
  have hpm := own_len hop hpve
  subst hpve
  subst hpm
  have F2 := F1.updNew 1 rfl C2 (fun _ hk => hk) (rd bb cv _) hrdp (fun _ hk => hk) (own 61 3 (.slice pA p.length pc) p.length (p.flatMap pCells)) hop hobp
  change Fr _ _ (_ :: [_, _]) _ at F2
  refine ⟨_, rfl, ?_⟩
  refine Ops.step (One.val rfl rfl rfl (yld_assign rfl (ev_t rfl)) ?_)
  refine Ops.nil fun a hS => ?_
  refine hK2 _ _ ?_ a hS
  refine Cod.seq fun K3 hK3 => ?_
  refine Cod.seq fun K4 hK4 => ?_
  refine Cod.region ?_
  refine Ops.step (One.val rfl rfl rfl (yld_move rfl (ev_t rfl)) ?_)
  refine Ops.step (One.call rfl rfl rfl (ent_f rfl (evl2 (ev_t rfl) ev_c) (enters en95)) (pick_ct 30 bb cv _ _ (hcode.keep F2.chg) (F2.get 2 rfl) (by omega) (by omega)) (fun e w3 hw3 => ?_))
  obtain ⟨r2, rfl, C3, hrdr2, hr2⟩ := hw3
  have F3 := F2.upd 2 rfl C3 (fun _ hk => .inl hk) (rd bb cv _) hrdr2 (fun _ hk => .inl hk)
  change Fr _ _ [_, _, _] _ at F3
  refine ⟨_, rfl, ?_⟩
  refine Ops.nil fun a hS => ?_
  refine hK4 _ _ ?_ a hS
  refine Cod.block ?_
  refine Cod.seq fun K5 hK5 => ?_
  refine Cod.region ?_
  refine Ops.step (One.val rfl rfl rfl (yld_eql rfl (ev_t rfl) ev_c) ?_)
  refine Ops.step (One.val rfl rfl rfl (yld_assign rfl (ev_t rfl)) ?_)
  refine Ops.nil fun a hS => ?_
  refine hK5 _ _ ?_ a hS
  refine Cod.cond rfl (fun hc11 => ?_) (fun hc11 => ?_)
  · skip
    refine Cod.seq fun K6 hK6 => ?_
    refine Cod.region ?_
    refine Ops.step (One.val rfl rfl rfl (yld_move rfl (ev_t rfl)) ?_)
    refine Ops.step (One.val rfl rfl rfl (yld_build (cells := [.bool true, .string ⟨#[65]⟩, .int .i64 0]) rfl (evp2 ev_c ev_c) (by kernel_rfl)) ?_)
    refine Ops.step (One.buildSlice (cells := (pCells ⟨true, ⟨#[65]⟩, 0⟩)) F3 sl44 zero61 rfl rfl rfl rfl (evp1 (ev_t rfl)) rfl rfl (by kernel_rfl) ?_)
    intro b2 w4 hb2 F4
    refine Ops.step (One.append (enc := pCells) [⟨true, ⟨#[65]⟩, 0⟩] F4 1 rfl sl44 zero61 rfl rfl (fun _ => rfl) rfl rfl rfl rfl (ev_t rfl) (ev_t rfl) ((blk_rep (enc := pCells) (sz := 3) (xs := [⟨true, ⟨#[65]⟩, 0⟩]) (fun _ => rfl) (by simpa using F4.get 0 rfl) (by simp) (by simp)).weak fun _ _ => trivial) (fun _ _ => rfl) (by simp; omega) (by simp; omega) ?_)
    intro u4 w5 hu4 F5
    change Fr _ _ [_, _, blk _ _ [_, _, _, _, _], _] _ at F5
    refine Ops.step (One.val rfl rfl rfl (yld_assign rfl (ev_t rfl)) ?_)
    refine Ops.nil fun a hS => ?_
    refine hK6 _ _ ?_ a hS
    refine Cod.ret fun a hS => ?_
    try simp only [Exit.then, Exit.inBlock]
    exact ret1 (t := 4) rfl hS rfl (DrewP.of F5 3 1 rfl rfl (by decide) (by omega) (hpk.snoc (by decide)) (by simp; omega))
  · skip
    refine Cod.seq fun K7 hK7 => ?_
    refine Cod.region ?_
    refine Ops.step (One.val rfl rfl rfl (yld_eql rfl (ev_t rfl) ev_c) ?_)
    refine Ops.step (One.val rfl rfl rfl (yld_assign rfl (ev_t rfl)) ?_)
    refine Ops.nil fun a hS => ?_
    refine hK7 _ _ ?_ a hS
    refine Cod.cond rfl (fun hc17 => ?_) (fun hc17 => ?_)
    · skip
      refine Cod.seq fun K8 hK8 => ?_
      refine Cod.region ?_
      refine Ops.step (One.val rfl rfl rfl (yld_move rfl (ev_t rfl)) ?_)
      refine Ops.step (One.val rfl rfl rfl (yld_move rfl (ev_t rfl)) ?_)
      refine Ops.step (One.buildSlice (cells := (wayB.flatMap jCells)) F3 sl108 zero3 rfl rfl rfl rfl (evp2 ev_c ev_c) rfl rfl (by kernel_rfl) ?_)
      intro b3 w6 hb3 F6
      refine Ops.step (One.call rfl rfl rfl (ent_f rfl (evl2 (ev_t rfl) (ev_t rfl)) (enters en98)) (rnum_ct wayB bb cv _ _ _ (hcode.keep F6.chg) (F6.get 3 rfl) (by have := F6.lit (enc := jCells) (sz := 1) (xs := wayB) (fun _ => rfl) 0 3 (by decide) rfl rfl (by decide); exact this) (by omega) (by decide) (by decide)) (fun e w7 hw7 => ?_))
      obtain ⟨s6, hms6, rfl, C7, hrds6⟩ := hw7
      have F7 := F6.upd 3 rfl C7 (fun _ hk => .inl hk) (rd bb cv _) hrds6 (fun _ hk => .inl hk)
      change Fr _ _ [_, _, _, _] _ at F7
      refine ⟨_, rfl, ?_⟩
      refine Ops.step (One.val rfl rfl rfl (yld_build (cells := [.bool false, .string ⟨#[]⟩, .int .i64 s6]) rfl (evp1 (ev_t rfl)) (by kernel_rfl)) ?_)
      refine Ops.step (One.buildSlice (cells := (pCells ⟨false, ⟨#[]⟩, s6⟩)) F7 sl44 zero61 rfl rfl rfl rfl (evp1 (ev_t rfl)) rfl rfl (by kernel_rfl) ?_)
      intro b4 w8 hb4 F8
      refine Ops.step (One.append (enc := pCells) [⟨false, ⟨#[]⟩, s6⟩] F8 2 rfl sl44 zero61 rfl rfl (fun _ => rfl) rfl rfl rfl rfl (ev_t rfl) (ev_t rfl) ((blk_rep (enc := pCells) (sz := 3) (xs := [⟨false, ⟨#[]⟩, s6⟩]) (fun _ => rfl) (by simpa using F8.get 0 rfl) (by simp) (by simp)).weak fun _ _ => trivial) (fun _ _ => rfl) (by simp; omega) (by simp; omega) ?_)
      intro u6 w9 hu6 F9
      change Fr _ _ [_, _, _, blk _ _ [_, _, _, _, _], _] _ at F9
      refine Ops.step (One.val rfl rfl rfl (yld_assign rfl (ev_t rfl)) ?_)
      refine Ops.nil fun a hS => ?_
      refine hK8 _ _ ?_ a hS
      refine Cod.ret fun a hS => ?_
      try simp only [Exit.then, Exit.inBlock]
      exact ret1 (t := 4) rfl hS rfl (DrewP.of F9 4 2 rfl rfl (by decide) (by omega) (hpk.snoc (Nat.zero_le _)) (by simp; omega))
    · skip
      refine Cod.seq fun K9 hK9 => ?_
      refine Cod.region ?_
      refine Ops.step (One.val rfl rfl rfl (yld_eql rfl (ev_t rfl) ev_c) ?_)
      refine Ops.step (One.val rfl rfl rfl (yld_assign rfl (ev_t rfl)) ?_)
      refine Ops.nil fun a hS => ?_
      refine hK9 _ _ ?_ a hS
      refine Cod.cond rfl (fun hc26 => ?_) (fun hc26 => ?_)
      · skip
        refine Cod.block ?_
        have F10 := F3.pull 2 rfl
        have F11 := F10.pull 1 rfl
        have F12 := F11.erase 2
        refine Cod.loop (fun i : List Stp × Value => [(5, true, i.2)]) (fun i w' => shortK i.1 ∧ i.1.length ≤ 62 ∧ Fr (· = bb) w [own 61 3 i.2 i.1.length (i.1.flatMap pCells), rd bb cv (lim + 25)] w') (fun i => 7 - i.1.length) (p, .slice pA p.length pc) ⟨rfl, trivial⟩ ⟨hpk, (by show p.length ≤ 62; omega), F12.rdUp 1 rfl (lim + 25) (by omega)⟩ ?_
        intro i w10 hW K10 hK10
        obtain ⟨q, qv⟩ := i
        obtain ⟨hqk, hql, F13⟩ := hW
        dsimp only at *
        obtain ⟨qA, qm, qc, hqve⟩ := own_form (F13.get 0 rfl)
        have hqm := own_len (F13.get 0 rfl) hqve
        subst hqve
        subst hqm
        refine Cod.seq fun K11 hK11 => ?_
        refine Cod.seq fun K12 hK12 => ?_
        refine Cod.region ?_
        refine Ops.step (One.val rfl rfl rfl (yld_move rfl (ev_t rfl)) ?_)
        refine Ops.step (One.val rfl rfl rfl (yld_len sl44 rfl (ev_t rfl)) ?_)
        refine Ops.step (One.val rfl rfl rfl (yld_leq rfl (ev_t rfl) ev_c) ?_)
        refine Ops.nil fun a hS => ?_
        refine hK12 _ _ ?_ a hS
        refine Cod.cond rfl (fun hc30 => ?_) (fun hc30 => ?_)
        · skip
          have hq6 : q.length ≤ 6 := by simp at hc30; omega
          refine Cod.skip fun a hS => ?_
          refine hK11 _ _ ?_ a hS
          refine Cod.block ?_
          refine Cod.region ?_
          refine Ops.step (One.val rfl rfl rfl (yld_move rfl (ev_t rfl)) ?_)
          refine Ops.step (One.val rfl rfl rfl (yld_build (cells := [.bool false, .string ⟨#[]⟩, .int .i64 0]) rfl (evp0) (by kernel_rfl)) ?_)
          refine Ops.step (One.buildSlice (cells := (pCells ⟨false, ⟨#[]⟩, 0⟩)) F13 sl44 zero61 rfl rfl rfl rfl (evp1 (ev_t rfl)) rfl rfl (by kernel_rfl) ?_)
          intro b5 w11 hb5 F14
          refine Ops.step (One.append (enc := pCells) [⟨false, ⟨#[]⟩, 0⟩] F14 1 rfl sl44 zero61 rfl rfl (fun _ => rfl) rfl rfl rfl rfl (ev_t rfl) (ev_t rfl) ((blk_rep (enc := pCells) (sz := 3) (xs := [⟨false, ⟨#[]⟩, 0⟩]) (fun _ => rfl) (by simpa using F14.get 0 rfl) (by simp) (by simp)).weak fun _ _ => trivial) (fun _ _ => rfl) (by simp; omega) (by simp; omega) ?_)
          intro u9 w12 hu9 F15
          change Fr _ _ [_, _, _] _ at F15
          refine Ops.step (One.val rfl rfl rfl (yld_assign rfl (ev_t rfl)) ?_)
          refine Ops.nil fun a hS => ?_
          have F16 := F15.pull 2 rfl
          have F17 := F16.pull 2 rfl
          have F18 := F17.erase 2
          exact hK10 (_, _) _ a (hS.sub ⟨rfl, trivial⟩) ⟨hqk.snoc (Nat.zero_le _), by simp; omega, F18⟩ (by simp; omega)
        · skip
          refine Cod.exit fun a hS => ?_
          simp only [Exit.then, Exit.inBlock, ↓reduceIte]
          refine hK3 _ _ ?_ a hS
          refine Cod.seq fun K13 hK13 => ?_
          refine Cod.region ?_
          refine Ops.step (One.val rfl rfl rfl (yld_move rfl (ev_t rfl)) ?_)
          refine Ops.step (One.val rfl rfl rfl (yld_assign rfl (ev_t rfl)) ?_)
          refine Ops.nil fun a hS => ?_
          refine hK13 _ _ ?_ a hS
          refine Cod.ret fun a hS => ?_
          try simp only [Exit.then, Exit.inBlock]
          first
            | exact ret1 (t := 4) rfl hS rfl (DrewP.of F13 1 0 rfl rfl (by decide) (by omega) hqk hql)
            | exact ret1 (t := 4) rfl hS rfl (DrewP.of F13 1 0 rfl rfl (by decide) (by omega) hpk (by omega))
      · skip
        refine Cod.skip fun a hS => ?_
        refine hK3 _ _ ?_ a hS
        refine Cod.seq fun K14 hK14 => ?_
        refine Cod.region ?_
        refine Ops.step (One.val rfl rfl rfl (yld_move rfl (ev_t rfl)) ?_)
        refine Ops.step (One.val rfl rfl rfl (yld_assign rfl (ev_t rfl)) ?_)
        refine Ops.nil fun a hS => ?_
        refine hK14 _ _ ?_ a hS
        refine Cod.ret fun a hS => ?_
        try simp only [Exit.then, Exit.inBlock]
        first
          | exact ret1 (t := 4) rfl hS rfl (DrewP.of F3 2 0 rfl rfl (by decide) (by omega) hqk hql)
          | exact ret1 (t := 4) rfl hS rfl (DrewP.of F3 2 0 rfl rfl (by decide) (by omega) hpk (by omega))


theorem rpsW_t {G : Nat → Prop} {l : List (Tr × Value)} {p : List Stp} {pv : Value} {w : World} (h : (rpsW G l p pv).is w) : (rps G l).is w := h.1
theorem rpsW_p {G : Nat → Prop} {l : List (Tr × Value)} {p : List Stp} {pv : Value} {w : World} (h : (rpsW G l p pv).is w) : RepP Any w p pv := (show RepP G w p pv from h.2).weak fun _ _ => trivial
theorem path_ok {x : Tr} : ∀ {p : List Stp} {t : Tr}, okT t = true → pathT p t = some x → okT x = true
  | [], t, h, e => by rw [pathT] at e; obtain rfl := Option.some.inj e; exact h
  | s :: p, t, h, e => by
    rw [pathT] at e
    cases hs : stepT t s with
    | none => rw [hs] at e; cases e
    | some y => rw [hs] at e; exact path_ok (step_ok h hs) e
theorem pathR_ok (t : Tr) (p : List Stp) : okT ((pathR t p).getD zeroT) = true := getD_ok fun x hx => by
  unfold pathR at hx
  split at hx
  · rename_i h
    simp at h
    exact path_ok h.1 hx
  · cases hx


theorem run_slice_low {P : Program} {w : World} (t : TypeId) (s : ByteArray) (h : P.underlying t = some .string) (l : Nat) (h1 : l ≤ s.size) : (Instr.slice t (.string s) (some (.int .i64 (l : Int))) none none).run P w = .ok (.string (s.extract l s.size)) w := by
  have hb := run_sliceBound (P := P) (w := w) .i64 (l : Int) s.size .sliceB (by omega) (by omega)
  simp [Instr.slice, Instr.sliceBounds, run_underlying h, hb]
theorem yld_slcSL {P : Program} {n : Nat} {S : Env} {o : Oper} {g : Bool} {w : World} {x y : Operand} {t : TypeId} {s : ByteArray} {l : Nat} (ht : strT P t = true) (ho : o.op = .slice t x (some y) none none) (hx : Ev S g x (.string s)) (hy : Ev S g y (.int .i64 (l : Int))) (h1 : g = true → l ≤ s.size) : Yld P n S o g w (.string (s.extract l s.size)) := fun a hs hg => by
  have ex := hx n a hs hg
  have ey := hy n a hs hg
  generalize a.eval = ρ at ex ey ⊢
  have hu := strT_spec ht
  have hr := run_slice_low (P := P) (w := w) t s hu l (h1 hg)
  simp [execOp, ho, ex, ey, run_sliceAt_string (P := P) (w := w) t _ _ _ _ hu, hr]
/-- What a function gives that draws a list of steps. -/
def DrawSt (w : World) (e : Ending) (w' : World) : Prop := ∃ (pv : Value) (p : List Stp), e = .returned pv ∧ Chg No w w' ∧ (own 61 3 pv p.length (p.flatMap pCells)).is w' ∧ (∀ k, pv.ownBlock = some k → w.heap.size ≤ k) ∧ shortK p ∧ p.length ≤ 100
theorem pathOk_bad {p : List Stp} {s : Stp} (h : s.ok = false) : pathOk (p ++ [s]) = false := by
  unfold pathOk
  rw [List.all_append]
  simp [h]
theorem pathOk_app {p q : List Stp} (hp : pathOk p = true) (hq : pathOk q = true) : pathOk (p ++ q) = decide ((p ++ q).length ≤ 6) := by
  unfold pathOk at hp hq ⊢
  simp only [Bool.and_eq_true] at hp hq
  rw [List.all_append, hp.1, hq.1]
  rfl
theorem fold_app (q : List Stp) : ∀ (x y : ByteArray), q.foldl (fun out s => out ++ stpS s) (x ++ y) = x ++ q.foldl (fun out s => out ++ stpS s) y := by
  induction q with
  | nil => intro x y; rfl
  | cons s q ih =>
    intro x y
    rw [List.foldl_cons, List.foldl_cons, ByteArray.append_assoc, ih]
theorem pathS_rest (q : List Stp) : pathS q = ⟨#[36]⟩ ++ q.foldl (fun out s => out ++ stpS s) ByteArray.empty := by
  unfold pathS
  rw [← fold_app, ByteArray.append_empty]
theorem pathS_app (p q : List Stp) : pathS (p ++ q) = pathS p ++ q.foldl (fun out s => out ++ stpS s) ByteArray.empty := by
  unfold pathS
  rw [List.foldl_append, ← fold_app, ByteArray.append_empty]
theorem pathS_cut (q : List Stp) : (pathS q).extract 1 (pathS q).size = q.foldl (fun out s => out ++ stpS s) ByteArray.empty := by
  rw [pathS_rest]
  have h1 : (⟨#[36]⟩ : ByteArray).size = 1 := rfl
  rw [ByteArray.size_append, h1]
  have := ByteArray.extract_append_eq_right (a := (⟨#[36]⟩ : ByteArray)) (b := q.foldl (fun out s => out ++ stpS s) ByteArray.empty) (i := 1) (j := 1 + (q.foldl (fun out s => out ++ stpS s) ByteArray.empty).size) h1.symm (by rw [h1])
  exact this
theorem pathS_pos (q : List Stp) : 1 ≤ (pathS q).size := by
  rw [pathS_rest, ByteArray.size_append]
  have h1 : (⟨#[36]⟩ : ByteArray).size = 1 := rfl
  omega
theorem pathTxt_le {p : List Stp} : (pathTxt p).size ≤ 500 := by
  unfold pathTxt
  split
  · rename_i h
    have h1 := pathS_size h p.length (Nat.le_refl _)
    rw [List.take_length] at h1
    have := pathOk_len h
    omega
  · exact Nat.zero_le _
theorem snocK {p : List Stp} {s : Stp} (h : shortK p) (hs : s.key.size ≤ 12) : ∀ x ∈ p ++ [s], x.key.size ≤ 9223372036854775807 := fun x hx => by have := h.snoc hs x hx; omega
theorem appK {p q : List Stp} (h : shortK p) (h' : shortK q) : ∀ x ∈ p ++ q, x.key.size ≤ 9223372036854775807 := fun x hx => by
  rcases List.mem_append.1 hx with hx | hx
  · have := h x hx; omega
  · have := h' x hx; omega
theorem cut1 {q : List Stp} {b c : Bool} (hg : gof (gof (gof true (!pathOk q) false) b true) c false = true) : 1 ≤ (pathTxt q).size := by
  have hq : pathOk q = true := by
    cases h : pathOk q with
    | true => rfl
    | false => rw [h] at hg; simp [gof] at hg
  unfold pathTxt
  rw [if_pos hq]
  exact pathS_pos q
theorem sum1 {p q : List Stp} : (pathTxt p).size + ((pathTxt q).extract 1 (pathTxt q).size).size ≤ 9223372036854775807 := by
  have h1 := pathTxt_le (p := p)
  have h2 := pathTxt_le (p := q)
  rw [ByteArray.size_extract]
  omega
theorem fin_bent {p q : List Stp} (hp : pathOk p = true) : ((!pathOk q) || ((pathOk (p ++ q) == decide (((p ++ q).length : Int) ≤ 6)) && ((!pathOk (p ++ q)) || decide (pathTxt (p ++ q) = pathTxt p ++ (pathTxt q).extract 1 (pathTxt q).size)))) = true := by
  cases hq : pathOk q with
  | false => rfl
  | true =>
    have h1 := pathOk_app hp hq
    have h2 : decide (((p ++ q).length : Int) ≤ 6) = decide ((p ++ q).length ≤ 6) := decide_eq_decide.2 (by omega)
    rw [h2, ← h1]
    cases hb : pathOk (p ++ q) with
    | false => rfl
    | true =>
      have h3 : pathTxt (p ++ q) = pathTxt p ++ (pathTxt q).extract 1 (pathTxt q).size := by
        unfold pathTxt
        rw [if_pos hb, if_pos hp, if_pos hq, pathS_cut, pathS_app]
      simp [h3]

set_option maxRecDepth 100000 in
theorem drawPO_ct (code : List UInt8) (v : Value) (w : World) (hp : RepE bCells 1 Any w code v) : Calls Tryd.prog 31 #[v] w (DrawSt w) := by
  refine enter Tryd.func31 rfl rfl rfl ?_
  have F0 := Fr.start w
  refine Cod.seq fun K1 hK1 => ?_
  refine Cod.region ?_
  refine Ops.step (One.val rfl rfl rfl (yld_assign rfl ev_c) ?_)
  refine Ops.nil fun a hS => ?_
  refine hK1 _ _ ?_ a hS
  refine Cod.seq fun K2 hK2 => ?_
  refine Cod.region ?_
  refine Ops.step (One.val rfl rfl rfl (yld_move rfl (ev_t rfl)) ?_)
  refine Ops.step (One.call rfl rfl rfl (ent_f rfl (evl1 (ev_t rfl)) (enters en66)) (open_ct code v _ (hp.chg F0.chg)) (fun e w1 hw1 => ?_))
  obtain ⟨bb, rfl, C1, hrd0, hbb⟩ := hw1
  obtain ⟨cv, hcv⟩ : ∃ cv, cv = cutv v := ⟨_, rfl⟩
  rw [← hcv] at hrd0
  have hcode : Code bb w cv := by rw [hcv]; exact code_of hp (by have := F0.chg.size; omega)
  have F1 := F0.new C1 (rd bb cv 0) hrd0 (fun k hk => by have h1 : k = bb := hk; subst h1; exact hbb)
  refine ⟨_, rfl, ?_⟩
  refine Ops.step (One.val rfl rfl rfl (yld_assign rfl (ev_t rfl)) ?_)
  refine Ops.nil fun a hS => ?_
  refine hK2 _ _ ?_ a hS
  refine Cod.seq fun K3 hK3 => ?_
  refine Cod.region ?_
  refine Ops.step (One.val rfl rfl rfl (yld_move rfl (ev_t rfl)) ?_)
  refine Ops.step (One.call rfl rfl rfl (ent_f rfl (evl1 (ev_t rfl)) (enters en67)) (some_ct bb cv _ _ (hcode.chg F1.chg) (F1.get 0 rfl) (by omega)) (fun e w2 hw2 => ?_))
  obtain ⟨x1, Gx1, tx1, rfl, C2, hrdx1, hsx1, hbx1, hpx1⟩ := hw2
  have F2 := F1.updNew 0 rfl C2 (fun _ hk => hk) (rd bb cv _) hrdx1 (fun _ hk => hk) (sep Gx1 tx1 x1.val) hsx1 hbx1
  change Fr _ _ (_ :: [_]) _ at F2
  refine ⟨_, rfl, ?_⟩
  refine Ops.step (One.alloc F2 zero33 rfl rfl rfl rfl ?_)
  intro b1 w3 hb1 F3
  change Fr _ _ [blk _ _ [_, _, _, _, _], _, _] _ at F3
  refine Ops.step (One.storeN (vs := [_, _, _, _, _]) F3 0 rfl sz33 rfl rfl rfl (ev_t rfl) (ev_t rfl) rfl rfl hsx1.one ?_)
  intro w4 F4
  change Fr _ _ [blk _ _ [_, _, _, _, _], _, _] _ at F4
  refine Ops.nil fun a hS => ?_
  refine hK3 _ _ ?_ a hS
  refine Cod.seq fun K4 hK4 => ?_
  refine Cod.region ?_
  refine Ops.step (One.val rfl rfl rfl (yld_move rfl (ev_t rfl)) ?_)
  refine Ops.step (One.val rfl rfl rfl (yld_loadN ag33 rfl (ev_t rfl) (fun _ => F4.range (m := 5) (cs' := [_, _, _, _, _]) 0 rfl rfl) rfl) ?_)
  refine Ops.step (One.call rfl rfl rfl (ent_f rfl (evl2 (ev_t rfl) (ev_t rfl)) (enters en68)) (l3Bent_ct tx1 _ bb cv _ _ (hcode.chg F4.chg) (F4.get 2 rfl) ((F4.get 1 rfl : Sep _ _ _ _).repF.weak fun k hk e => F4.apart' 1 2 rfl rfl (by decide) k hk e) hpx1.fit (by have := hpx1.wt; omega) (by omega)) (fun e w5 hw5 => ?_))
  obtain ⟨pv, p, rfl, C5, hrdp, hop, hobp, hpk, hpl⟩ := hw5
  have F5 := F4.updNew 2 rfl C5 (fun _ hk => hk) (rd bb cv _) hrdp (fun _ hk => hk) (own 61 3 pv p.length (p.flatMap pCells)) hop hobp
  change Fr _ _ (_ :: [_, _, _]) _ at F5
  refine ⟨_, rfl, ?_⟩
  refine Ops.step (One.val rfl rfl rfl (yld_assign rfl (ev_t rfl)) ?_)
  refine Ops.nil fun a hS => ?_
  refine hK4 _ _ ?_ a hS
  refine Cod.ret fun a hS => ?_
  try simp only [Exit.then, Exit.inBlock]
  exact ret1 (t := 2) rfl hS rfl ⟨pv, p, rfl, F5.chg, F5.get 0 rfl, fun k hk => (F5.dom _ (List.mem_of_getElem? (i := 0) rfl) k hk).resolve_left id, hpk, by omega⟩

set_option maxHeartbeats 4000000 in
set_option maxRecDepth 100000 in
theorem walk (code more : List UInt8) (v u : Value) (w : World) (hp : RepE bCells 1 Any w code v) (hq : RepE bCells 1 Any w more u) (hT : PowTab w) :
    Calls Tryd.prog 8 #[v, u] w fun e w' => e = .returned (.bool true) ∧ Chg No w w' := by
  obtain ⟨A, c, rfl, -⟩ := hp.open
  obtain ⟨B, d, rfl, -⟩ := hq.open
  refine enter Tryd.func8 rfl rfl rfl ?_
  have F0 := Fr.start w
  refine Cod.seq fun K1 hK1 => ?_
  refine Cod.region ?_
  refine Ops.step (One.val rfl rfl rfl (yld_assign rfl ev_c) ?_)
  refine Ops.nil fun a hS => ?_
  refine hK1 _ _ ?_ a hS
  refine Cod.seq fun K2 hK2 => ?_
  refine Cod.seq fun K3 hK3 => ?_
  refine Cod.region ?_
  refine Ops.step (One.val rfl rfl rfl (yld_move rfl (ev_t rfl)) ?_)
  refine Ops.step (One.val rfl rfl rfl (yld_len sl57 rfl (ev_t rfl)) ?_)
  refine Ops.step (One.val rfl rfl rfl (yld_gtr rfl (ev_t rfl) ev_c) ?_)
  refine Ops.step (One.val rfl rfl rfl (yld_move rfl (ev_t rfl)) ?_)
  refine Ops.step (One.val (gd_some rfl rfl) rfl rfl (yld_move rfl (ev_t rfl)) ?_)
  refine Ops.step (One.val (gd_some rfl rfl) rfl rfl (yld_len sl57 rfl (ev_g rfl)) ?_)
  refine Ops.step (One.val (gd_some rfl rfl) rfl rfl (yld_gtr rfl (ev_g rfl) ev_c) ?_)
  refine Ops.step (One.val rfl rfl rfl (yld_or rfl (ev_t rfl) (ev_g rfl)) ?_)
  refine Ops.nil fun a hS => ?_
  refine hK3 _ _ ?_ a hS
  refine Cod.cond rfl (fun hc18 => ?_) (fun hc18 => ?_)
  · skip
    refine Cod.seq fun K4 hK4 => ?_
    refine Cod.region ?_
    refine Ops.step (One.val rfl rfl rfl (yld_assign rfl ev_c) ?_)
    refine Ops.nil fun a hS => ?_
    refine hK4 _ _ ?_ a hS
    refine Cod.ret fun a hS => ?_
    try simp only [Exit.then, Exit.inBlock]
    exact ret1 (t := 4) rfl hS rfl ⟨rfl, F0.chg⟩
  · skip
    refine Cod.skip fun a hS => ?_
    refine hK2 _ _ ?_ a hS
    refine Cod.seq fun K5 hK5 => ?_
    refine Cod.region ?_
    refine Ops.step (One.val rfl rfl rfl (yld_move rfl (ev_t rfl)) ?_)
    refine Ops.step (One.call rfl rfl rfl (ent_f rfl (evl1 (ev_t rfl)) (enters en31)) (drawPO_ct code _ _ (hp.chg F0.chg)) (fun e w1 hw1 => ?_))
    obtain ⟨wva, pa, rfl, C1, howa, hoba, hpka, hpla⟩ := hw1
    obtain ⟨Aa, ma, ca, hvea⟩ := own_form howa
    have hvla := own_len howa hvea
    subst hvea
    subst hvla
    have hksa : ∀ s ∈ pa, s.key.size ≤ 9223372036854775807 := fun s h => by have := hpka s h; omega
    have F1 := F0.new C1 (own 61 3 (.slice Aa pa.length ca) pa.length (pa.flatMap pCells)) howa hoba
    refine ⟨_, rfl, ?_⟩
    refine Ops.step (One.val rfl rfl rfl (yld_assign rfl (ev_t rfl)) ?_)
    refine Ops.nil fun a hS => ?_
    refine hK5 _ _ ?_ a hS
    refine Cod.seq fun K6 hK6 => ?_
    refine Cod.region ?_
    refine Ops.step (One.val rfl rfl rfl (yld_move rfl (ev_t rfl)) ?_)
    refine Ops.step (One.call rfl rfl rfl (ent_f rfl (evl1 (ev_t rfl)) (enters en31)) (drawPO_ct more _ _ (hq.chg F1.chg)) (fun e w2 hw2 => ?_))
    obtain ⟨wvb, pb, rfl, C2, howb, hobb, hpkb, hplb⟩ := hw2
    obtain ⟨Ab, mb, cb, hveb⟩ := own_form howb
    have hvlb := own_len howb hveb
    subst hveb
    subst hvlb
    have hksb : ∀ s ∈ pb, s.key.size ≤ 9223372036854775807 := fun s h => by have := hpkb s h; omega
    have F2 := F1.new C2 (own 61 3 (.slice Ab pb.length cb) pb.length (pb.flatMap pCells)) howb hobb
    refine ⟨_, rfl, ?_⟩
    refine Ops.step (One.val rfl rfl rfl (yld_assign rfl (ev_t rfl)) ?_)
    refine Ops.nil fun a hS => ?_
    refine hK6 _ _ ?_ a hS
    refine Cod.seq fun K7 hK7 => ?_
    refine Cod.seq fun K8 hK8 => ?_
    refine Cod.region ?_
    refine Ops.step (One.val rfl rfl rfl (yld_move rfl (ev_t rfl)) ?_)
    refine Ops.step (One.call rfl rfl rfl (ent_f rfl (evl1 (ev_t rfl)) (enters en32)) (PathOk_ct pa _ _ (ownP (F2.get 1 rfl)) hksa) (fun e w3 hw3 => ?_))
    obtain ⟨rfl, C3⟩ := hw3
    have F3 := F2.call C3
    refine ⟨_, rfl, ?_⟩
    refine Ops.step (One.val rfl rfl rfl (yld_move rfl (ev_t rfl)) ?_)
    refine Ops.step (One.call rfl rfl rfl (ent_f rfl (evl1 (ev_t rfl)) (enters en33)) (specPathOk_ct pa _ _ (ownP (F3.get 1 rfl)) hksa) (fun e w4 hw4 => ?_))
    obtain ⟨rfl, C4⟩ := hw4
    have F4 := F3.call C4
    refine ⟨_, rfl, ?_⟩
    refine Ops.step (One.val rfl rfl rfl (yld_bneq Tryd.underlying4 rfl (ev_t rfl) (ev_t rfl)) ?_)
    refine Ops.nil fun a hS => ?_
    refine hK8 _ _ ?_ a hS
    refine Cod.cond rfl (fun hc27 => ?_) (fun hc27 => ?_)
    · skip
      simp at hc27
    · skip
      refine Cod.skip fun a hS => ?_
      refine hK7 _ _ ?_ a hS
      refine Cod.seq fun K9 hK9 => ?_
      refine Cod.seq fun K10 hK10 => ?_
      refine Cod.region ?_
      refine Ops.step (One.val rfl rfl rfl (yld_move rfl (ev_t rfl)) ?_)
      refine Ops.step (One.call rfl rfl rfl (ent_f rfl (evl1 (ev_t rfl)) (enters en33)) (specPathOk_ct pa _ _ (ownP (F4.get 1 rfl)) hksa) (fun e w5 hw5 => ?_))
      obtain ⟨rfl, C5⟩ := hw5
      have F5 := F4.call C5
      refine ⟨_, rfl, ?_⟩
      refine Ops.step (One.val rfl rfl rfl (yld_not rfl (ev_t rfl)) ?_)
      refine Ops.nil fun a hS => ?_
      refine hK10 _ _ ?_ a hS
      refine Cod.cond rfl (fun hc30 => ?_) (fun hc30 => ?_)
      · skip
        have hno : pathOk pa = false := by simpa using hc30
        refine Cod.seq fun K11 hK11 => ?_
        refine Cod.region ?_
        refine Ops.step (One.val rfl rfl rfl (yld_move rfl (ev_t rfl)) ?_)
        refine Ops.step (One.call rfl rfl rfl (ent_f rfl (evl1 (ev_t rfl)) (enters en20)) (pathText_ct pa hksa _ _ (ownP (F5.get 1 rfl)) (hT.chg F5.chg)) (fun e w6 hw6 => ?_))
        obtain ⟨rfl, C6⟩ := hw6
        have F6 := F5.call C6
        refine ⟨_, rfl, ?_⟩
        refine Ops.step (One.val rfl rfl rfl (yld_seql rfl (ev_t rfl) ev_c) ?_)
        refine Ops.step (One.val rfl rfl rfl (yld_assign rfl (ev_t rfl)) ?_)
        refine Ops.nil fun a hS => ?_
        refine hK11 _ _ ?_ a hS
        refine Cod.ret fun a hS => ?_
        try simp only [Exit.then, Exit.inBlock]
        exact ret1 (t := 4) rfl hS rfl ⟨ret_b (by unfold pathTxt; rw [if_neg (by rw [hno]; simp)]; simp), F6.chg⟩
      · skip
        have hyes : pathOk pa = true := by simpa using hc30
        refine Cod.skip fun a hS => ?_
        refine hK9 _ _ ?_ a hS
        refine Cod.seq fun K12 hK12 => ?_
        refine Cod.region ?_
        refine Ops.step (One.buildNil pCells F5 sl44 rfl rfl rfl rfl ?_)
        intro b1 w7 hb1 F7
        refine Ops.step (One.val rfl rfl rfl (yld_move rfl (ev_t rfl)) ?_)
        refine Ops.step (One.append (enc := pCells) pa F7 0 rfl sl44 zero61 rfl rfl (fun _ => rfl) rfl rfl rfl rfl (ev_t rfl) (ev_t rfl) (ownP (F7.get 2 rfl)) (fun _ _ => rfl) (by simp; omega) (by simp; omega) ?_)
        intro u9 w8 hu9 F8
        change Fr _ _ [_, _, _] _ at F8
        refine Ops.step (One.val rfl rfl rfl (yld_build (cells := [.bool true, .string ⟨#[65]⟩, .int .i64 0]) rfl (evp2 ev_c ev_c) (by kernel_rfl)) ?_)
        refine Ops.step (One.buildSlice (cells := (pCells ⟨true, ⟨#[65]⟩, 0⟩)) F8 sl44 zero61 rfl rfl rfl rfl (evp1 (ev_t rfl)) rfl rfl (by kernel_rfl) ?_)
        intro b2 w9 hb2 F9
        refine Ops.step (One.append (enc := pCells) [⟨true, ⟨#[65]⟩, 0⟩] F9 1 rfl sl44 zero61 rfl rfl (fun _ => rfl) rfl rfl rfl rfl (ev_t rfl) (ev_t rfl) ((blk_rep (enc := pCells) (sz := 3) (xs := [⟨true, ⟨#[65]⟩, 0⟩]) (fun _ => rfl) (by simpa using F9.get 0 rfl) (by simp) (by simp)).weak fun _ _ => trivial) (fun _ _ => rfl) (by simp; omega) (by simp; omega) ?_)
        intro v9 w10 hv9 F10
        change Fr _ _ [_, _, _, _] _ at F10
        refine Ops.step (One.val rfl rfl rfl (yld_assign rfl (ev_t rfl)) ?_)
        refine Ops.nil fun a hS => ?_
        refine hK12 _ _ ?_ a hS
        refine Cod.seq fun K13 hK13 => ?_
        refine Cod.region ?_
        refine Ops.step (One.buildNil pCells F10 sl44 rfl rfl rfl rfl ?_)
        intro b3 w11 hb3 F11
        refine Ops.step (One.val rfl rfl rfl (yld_move rfl (ev_t rfl)) ?_)
        refine Ops.step (One.append (enc := pCells) pa F11 0 rfl sl44 zero61 rfl rfl (fun _ => rfl) rfl rfl rfl rfl (ev_t rfl) (ev_t rfl) (ownP (F11.get 4 rfl)) (fun _ _ => rfl) (by simp; omega) (by simp; omega) ?_)
        intro u10 w12 hu10 F12
        change Fr _ _ [_, _, _, _, _] _ at F12
        refine Ops.step (One.val rfl rfl rfl (yld_build (cells := [.bool false, .string ⟨#[]⟩, .int .i64 60]) rfl (evp1 ev_c) (by kernel_rfl)) ?_)
        refine Ops.step (One.buildSlice (cells := (pCells ⟨false, ⟨#[]⟩, 60⟩)) F12 sl44 zero61 rfl rfl rfl rfl (evp1 (ev_t rfl)) rfl rfl (by kernel_rfl) ?_)
        intro b4 w13 hb4 F13
        refine Ops.step (One.append (enc := pCells) [⟨false, ⟨#[]⟩, 60⟩] F13 1 rfl sl44 zero61 rfl rfl (fun _ => rfl) rfl rfl rfl rfl (ev_t rfl) (ev_t rfl) ((blk_rep (enc := pCells) (sz := 3) (xs := [⟨false, ⟨#[]⟩, 60⟩]) (fun _ => rfl) (by simpa using F13.get 0 rfl) (by simp) (by simp)).weak fun _ _ => trivial) (fun _ _ => rfl) (by simp; omega) (by simp; omega) ?_)
        intro v10 w14 hv10 F14
        change Fr _ _ [_, _, _, _, _, _] _ at F14
        refine Ops.step (One.val rfl rfl rfl (yld_assign rfl (ev_t rfl)) ?_)
        refine Ops.nil fun a hS => ?_
        refine hK13 _ _ ?_ a hS
        refine Cod.seq fun K14 hK14 => ?_
        refine Cod.region ?_
        refine Ops.step (One.buildNil pCells F14 sl44 rfl rfl rfl rfl ?_)
        intro b5 w15 hb5 F15
        refine Ops.step (One.val rfl rfl rfl (yld_move rfl (ev_t rfl)) ?_)
        refine Ops.step (One.append (enc := pCells) pa F15 0 rfl sl44 zero61 rfl rfl (fun _ => rfl) rfl rfl rfl rfl (ev_t rfl) (ev_t rfl) (ownP (F15.get 6 rfl)) (fun _ _ => rfl) (by simp; omega) (by simp; omega) ?_)
        intro u11 w16 hu11 F16
        change Fr _ _ [_, _, _, _, _, _, _] _ at F16
        refine Ops.step (One.val rfl rfl rfl (yld_build (cells := [.bool false, .string ⟨#[97]⟩, .int .i64 0]) rfl (evp1 ev_c) (by kernel_rfl)) ?_)
        refine Ops.step (One.buildSlice (cells := (pCells ⟨false, ⟨#[97]⟩, 0⟩)) F16 sl44 zero61 rfl rfl rfl rfl (evp1 (ev_t rfl)) rfl rfl (by kernel_rfl) ?_)
        intro b6 w17 hb6 F17
        refine Ops.step (One.append (enc := pCells) [⟨false, ⟨#[97]⟩, 0⟩] F17 1 rfl sl44 zero61 rfl rfl (fun _ => rfl) rfl rfl rfl rfl (ev_t rfl) (ev_t rfl) ((blk_rep (enc := pCells) (sz := 3) (xs := [⟨false, ⟨#[97]⟩, 0⟩]) (fun _ => rfl) (by simpa using F17.get 0 rfl) (by simp) (by simp)).weak fun _ _ => trivial) (fun _ _ => rfl) (by simp; omega) (by simp; omega) ?_)
        intro v11 w18 hv11 F18
        change Fr _ _ [_, _, _, _, _, _, _, _] _ at F18
        refine Ops.step (One.val rfl rfl rfl (yld_assign rfl (ev_t rfl)) ?_)
        refine Ops.nil fun a hS => ?_
        refine hK14 _ _ ?_ a hS
        refine Cod.seq fun K15 hK15 => ?_
        refine Cod.seq fun K16 hK16 => ?_
        refine Cod.region ?_
        refine Ops.step (One.val rfl rfl rfl (yld_move rfl (ev_t rfl)) ?_)
        refine Ops.step (One.call rfl rfl rfl (ent_f rfl (evl1 (ev_t rfl)) (enters en32)) (PathOk_ct (pa ++ [⟨true, ⟨#[65]⟩, 0⟩]) _ _ (ownP (F18.get 5 rfl)) (snocK hpka (by decide))) (fun e w19 hw19 => ?_))
        obtain ⟨rfl, C19⟩ := hw19
        have F19 := F18.call C19
        refine ⟨_, rfl, ?_⟩
        refine Ops.step (One.val rfl rfl rfl (yld_move rfl (ev_t rfl)) ?_)
        refine Ops.step (One.val (gd_some rfl rfl) rfl rfl (yld_move rfl (ev_t rfl)) ?_)
        refine Ops.step (One.gcall (R := Chg No w19) (gd_some rfl rfl) rfl rfl (ent_f rfl (evl1 (ev_g rfl)) (enters en32)) (Chg.refl _ _) (fun hg => PathOk_ct (pa ++ [⟨false, ⟨#[]⟩, 60⟩]) _ _ (ownP (F19.get 3 rfl)) (snocK hpka (by decide))) ?_)
        intro w20 C20
        have F20 := F19.call C20
        refine Ops.step (One.val rfl rfl rfl (yld_or rfl (ev_t rfl) (ev_g rfl)) ?_)
        refine Ops.step (One.val rfl rfl rfl (yld_move rfl (ev_t rfl)) ?_)
        refine Ops.step (One.val (gd_some rfl rfl) rfl rfl (yld_move rfl (ev_t rfl)) ?_)
        refine Ops.step (One.gcall (R := Chg No w20) (gd_some rfl rfl) rfl rfl (ent_f rfl (evl1 (ev_g rfl)) (enters en32)) (Chg.refl _ _) (fun hg => PathOk_ct (pa ++ [⟨false, ⟨#[97]⟩, 0⟩]) _ _ (ownP (F20.get 1 rfl)) (snocK hpka (by decide))) ?_)
        intro w21 C21
        have F21 := F20.call C21
        refine Ops.step (One.val rfl rfl rfl (yld_or rfl (ev_t rfl) (ev_g rfl)) ?_)
        refine Ops.nil fun a hS => ?_
        refine hK16 _ _ ?_ a hS
        refine Cod.cond rfl (fun hc61 => ?_) (fun hc61 => ?_)
        · skip
          (rw [pathOk_bad (by decide), pathOk_bad (by decide), pathOk_bad (by decide)] at hc61; simp at hc61)
        · skip
          refine Cod.skip fun a hS => ?_
          refine hK15 _ _ ?_ a hS
          refine Cod.seq fun K17 hK17 => ?_
          refine Cod.region ?_
          refine Ops.step (One.buildNil pCells F21 sl44 rfl rfl rfl rfl ?_)
          intro b7 w22 hb7 F22
          refine Ops.step (One.val rfl rfl rfl (yld_move rfl (ev_t rfl)) ?_)
          refine Ops.step (One.append (enc := pCells) pa F22 0 rfl sl44 zero61 rfl rfl (fun _ => rfl) rfl rfl rfl rfl (ev_t rfl) (ev_t rfl) (ownP (F22.get 8 rfl)) (fun _ _ => rfl) (by simp; omega) (by simp; omega) ?_)
          intro u14 w23 hu14 F23
          change Fr _ _ [_, _, _, _, _, _, _, _, _] _ at F23
          refine Ops.step (One.val rfl rfl rfl (yld_move rfl (ev_t rfl)) ?_)
          refine Ops.step (One.append (enc := pCells) pb F23 0 rfl sl44 zero61 rfl rfl (fun _ => rfl) rfl rfl rfl rfl (ev_t rfl) (ev_t rfl) (ownP (F23.get 7 rfl)) (fun _ _ => rfl) (by simp; omega) (by simp; omega) ?_)
          intro v14 w24 hv14 F24
          change Fr _ _ [_, _, _, _, _, _, _, _, _] _ at F24
          refine Ops.step (One.val rfl rfl rfl (yld_assign rfl (ev_t rfl)) ?_)
          refine Ops.nil fun a hS => ?_
          refine hK17 _ _ ?_ a hS
          refine Cod.seq fun K18 hK18 => ?_
          obtain ⟨Ax, mx, cx, hvx⟩ := own_form (F24.get 0 rfl)
          have hlx := own_len (F24.get 0 rfl) hvx
          subst hvx
          subst hlx
          refine Cod.region ?_
          refine Ops.step (One.val rfl rfl rfl (yld_move rfl (ev_t rfl)) ?_)
          refine Ops.step (One.call rfl rfl rfl (ent_f rfl (evl1 (ev_t rfl)) (enters en33)) (specPathOk_ct pb _ _ (ownP (F24.get 7 rfl)) hksb) (fun e w25 hw25 => ?_))
          obtain ⟨rfl, C25⟩ := hw25
          have F25 := F24.call C25
          refine ⟨_, rfl, ?_⟩
          refine Ops.step (One.val rfl rfl rfl (yld_not rfl (ev_t rfl)) ?_)
          refine Ops.step (One.val rfl rfl rfl (yld_move rfl (ev_t rfl)) ?_)
          refine Ops.step (One.val (gd_some rfl rfl) rfl rfl (yld_move rfl (ev_t rfl)) ?_)
          refine Ops.step (One.gcall (R := Chg No w25) (gd_some rfl rfl) rfl rfl (ent_f rfl (evl1 (ev_g rfl)) (enters en32)) (Chg.refl _ _) (fun hg => PathOk_ct (pa ++ pb) _ _ (ownP (F25.get 0 rfl)) (appK hpka hpkb)) ?_)
          intro w26 C26
          have F26 := F25.call C26
          refine Ops.step (One.val (gd_some rfl rfl) rfl rfl (yld_move rfl (ev_t rfl)) ?_)
          refine Ops.step (One.val (gd_some rfl rfl) rfl rfl (yld_len sl44 rfl (ev_g rfl)) ?_)
          refine Ops.step (One.val (gd_some rfl rfl) rfl rfl (yld_leq rfl (ev_g rfl) ev_c) ?_)
          refine Ops.step (One.val (gd_some rfl rfl) rfl rfl (yld_beql Tryd.underlying4 rfl (ev_g rfl) (ev_g rfl)) ?_)
          refine Ops.step (One.val (gd_some rfl rfl) rfl rfl (yld_move rfl (ev_g rfl)) ?_)
          refine Ops.step (One.val (gd_some rfl rfl) rfl rfl (yld_move rfl (ev_t rfl)) ?_)
          refine Ops.step (One.gcall (R := Chg No w26) (gd_some rfl rfl) rfl rfl (ent_f rfl (evl1 (ev_g rfl)) (enters en32)) (Chg.refl _ _) (fun hg => PathOk_ct (pa ++ pb) _ _ (ownP (F26.get 0 rfl)) (appK hpka hpkb)) ?_)
          intro w27 C27
          have F27 := F26.call C27
          refine Ops.step (One.val (gd_some rfl rfl) rfl rfl (yld_not rfl (ev_g rfl)) ?_)
          refine Ops.step (One.val (gd_some rfl rfl) rfl rfl (yld_move rfl (ev_g rfl)) ?_)
          refine Ops.step (One.val (gd_some rfl rfl) rfl rfl (yld_move rfl (ev_t rfl)) ?_)
          refine Ops.step (One.gcall (R := Chg No w27) (gd_some rfl rfl) rfl rfl (ent_f rfl (evl1 (ev_g rfl)) (enters en20)) (Chg.refl _ _) (fun hg => pathText_ct (pa ++ pb) (appK hpka hpkb) _ _ (ownP (F27.get 0 rfl)) (hT.chg F27.chg)) ?_)
          intro w28 C28
          have F28 := F27.call C28
          refine Ops.step (One.val (gd_some rfl rfl) rfl rfl (yld_move rfl (ev_t rfl)) ?_)
          refine Ops.step (One.gcall (R := Chg No w28) (gd_some rfl rfl) rfl rfl (ent_f rfl (evl1 (ev_g rfl)) (enters en20)) (Chg.refl _ _) (fun hg => pathText_ct pa hksa _ _ (ownP (F28.get 8 rfl)) (hT.chg F28.chg)) ?_)
          intro w29 C29
          have F29 := F28.call C29
          refine Ops.step (One.val (gd_some rfl rfl) rfl rfl (yld_move rfl (ev_t rfl)) ?_)
          refine Ops.step (One.gcall (R := Chg No w29) (gd_some rfl rfl) rfl rfl (ent_f rfl (evl1 (ev_g rfl)) (enters en20)) (Chg.refl _ _) (fun hg => pathText_ct pb hksb _ _ (ownP (F29.get 7 rfl)) (hT.chg F29.chg)) ?_)
          intro w30 C30
          have F30 := F29.call C30
          refine Ops.step (One.val (gd_some rfl rfl) rfl rfl (yld_slcSL (l := 1) st9 rfl (ev_g rfl) ev_c (fun hg => cut1 hg)) ?_)
          refine Ops.step (One.val (gd_some rfl rfl) rfl rfl (yld_sadd rfl (ev_g rfl) (ev_g rfl) (fun _ => sum1)) ?_)
          refine Ops.step (One.val (gd_some rfl rfl) rfl rfl (yld_seql rfl (ev_g rfl) (ev_g rfl)) ?_)
          refine Ops.step (One.val (gd_some rfl rfl) rfl rfl (yld_or rfl (ev_g rfl) (ev_g rfl)) ?_)
          refine Ops.step (One.val (gd_some rfl rfl) rfl rfl (yld_and rfl (ev_g rfl) (ev_g rfl)) ?_)
          refine Ops.step (One.val rfl rfl rfl (yld_or rfl (ev_t rfl) (ev_g rfl)) ?_)
          refine Ops.step (One.val rfl rfl rfl (yld_assign rfl (ev_t rfl)) ?_)
          refine Ops.nil fun a hS => ?_
          refine hK18 _ _ ?_ a hS
          refine Cod.ret fun a hS => ?_
          try simp only [Exit.then, Exit.inBlock]
          exact ret1 (t := 4) rfl hS rfl ⟨ret_b (fin_bent hyes), F30.chg⟩


theorem ownKnob_none : ownKnob Tryd.prog.godebug = none := by kernel_rfl
theorem params_ok : ∀ t ∈ Tryd.f8.params.toList, Tryd.prog.readableRec t = true ∧ t < Tryd.prog.types.size := by
  rw [Tryd.params8]
  intro t ht
  simp only [List.mem_cons, List.not_mem_nil, or_false] at ht
  rcases ht with rfl | rfl <;> exact ⟨by kernel_rfl, of_decide_eq_true (by kernel_rfl)⟩
set_option maxRecDepth 100000 in
theorem lifted (os : Os) (started : os.Started) (H : Type) (enc : TypeId × Value → H) :
    ReturnsInHanded {} Tryd.checked os 8 .any (fun w args => (Rows.fnPathBentSpec.pre enc Tryd.prog Tryd.f8 [] false w args ∧ laidMetH Tryd.prog Rows.fnPathBentRow.laid w) ∧ sizedMet enc Tryd.prog Tryd.f8 (OpenSpec.ofChange Rows.fnPathBentSpec) false w args)
      (Rows.fnPathBentSpec.post enc Tryd.prog Tryd.f8 false true false false) := by
  refine returnsInHanded_of_change_and (C := Tryd.checked) (X := fun w _ => laidMetH Tryd.prog Rows.fnPathBentRow.laid w) (fun _ _ _ hh h => h.of_heap hh) ownKnob_none started (by kernel_rfl) Tryd.func8
    (ChangeSpec.witness_shaped (enc := enc) (C := Tryd.checked) (os := os) (X := fun w _ => laidMetH Tryd.prog Rows.fnPathBentRow.laid w) false (World.laidAll Tryd.prog os Rows.fnPathBentRow.laid) #[.slice none 0 0, .slice none 0 0] 8 (World.laidAll_os _ _ _)
      (World.shaped_of_ZipB (by kernel_rfl) (by kernel_rfl)) (by kernel_rfl) (by kernel_rfl) (by kernel_rfl)
      (by rw [MakeChecks.laidMetH_plain _ _ _ (by kernel_rfl)]; exact laidMet_laidAll _ (by kernel_rfl) (by kernel_rfl))) ?_
  intro W base args ds gs before hval0 hW _ _ hL _
  have hval : ∀ (j : Nat) t v, Tryd.f8.params[j]? = some t → args[j]? = some v → Value.okWide Tryd.prog W .any base t v := hval0
  have hW' := hW
  obtain ⟨p, q, hA0, hV, rfl, hfz, hnd⟩ := hW
  have hA : DataW.TrodAll enc Tryd.prog W 0 (fun _ => true) true Tryd.f8.params.toList args.toList ds p := hA0
  rw [Tryd.params8] at hA hval
  obtain ⟨v0, v1, d0, d1, p0, p1, rfl, rfl, rfl, h0, h1⟩ := trodAll_two hA
  obtain ⟨rfl, rfl⟩ := trodVars_none hV
  rw [MakeChecks.laidMetH_plain _ _ _ (by kernel_rfl)] at hL
  obtain ⟨ps, ⟨g0, t0, cs0, f0, p0, q0, hg0, ht0, hv0, hd0, ⟨g1, t1, cs1, f1, p1, q1, hg1, ht1, hv1, hd1, ⟨g2, t2, cs2, f2, p2, q2, hg2, ht2, hv2, hd2, -, -⟩, -⟩, -⟩, -, -⟩ := hL
  have hT : PowTab W := powTab_of hg2 ht2 hv2 (by kernel_rfl) hd2
  obtain ⟨code, hp⟩ := open_bytes (hval 0 _ v0 rfl rfl) h0
  obtain ⟨more, hq⟩ := open_bytes (hval 1 _ v1 rfl rfl) h1
  refine (walk code more v0 v1 W hp hq hT).mono fun e W' ⟨he, hc⟩ => ?_
  subst he
  skip
  exact ⟨_, rfl, post_chgV hW' (fun _ _ _ => (trodAll_cons_mk (shut_bool Tryd.underlying4 _) trodAll_mk0)) (args_stay laidOut hc _ _ _ _ params_ok hA0 (fun x hx => hW'.lt x (by simp [hx])) (fun x hx => by simpa using hW'.lt x (by simp [hx]))) (rfl : DataW.TrodVars enc Tryd.prog W' _ [] [] []) hc⟩

theorem over : Rows.fnPathBentRow.holds Tryd.pinned (OpenSpec.ofChange Rows.fnPathBentSpec) :=
  OpenClaim.holds_of_wide 8 Tryd.f8 rfl rfl rfl rfl rfl rfl rfl ⟨rfl, rfl, rfl, rfl, rfl⟩ rfl rfl rfl rfl rfl (by kernel_rfl) Tryd.func8 (by kernel_rfl)
    (of_decide_eq_true (by kernel_rfl)) (by unfold Func.isWrapper; first | (rw [if_pos (by decide +kernel)]; kernel_rfl) | (rw [if_neg (by decide +kernel)]; exact ⟨rfl, rfl⟩))
    (fun os started H enc _ => lifted os started H enc)

/-- The statement: the tied card. -/
theorem proved : Rows.FnPathBentCardSaid :=
  Claim7.holds_tied_plain_at .later [] [.data, .data, .data] true (true, "268f5d2513eeebe425927c9dc9135bbdd009be8dcd699a379ca5ed5d5dfdc605") true over (fun _ h => by cases h) (by kernel_rfl) (fun _ h => by cases h) fnPathBent_row_tie rfl ⟨rfl, rfl⟩ (by kernel_rfl) rfl
    (fun f fn hf hfn => by
      obtain rfl : f = 8 := Option.some.inj ((show Tryd.prog.funcNamed "loop.example/cribble/laws.FnPathBent" = some 8 by kernel_rfl).symm.trans hf) |>.symm
      obtain rfl : fn = Tryd.f8 := (Option.some.inj (Tryd.func8.symm.trans hfn)).symm
      exact ⟨by kernel_rfl, fun j t ht => by
        rw [Tryd.params8] at ht
        have hm : t ∈ [57, 57] := by simpa using Array.mem_of_getElem? ht
        have hall : ([57, 57].all fun u => !Tryd.prog.wantsStandIn u) = true := by kernel_rfl
        exact (show Tryd.prog.wantsStandIn t = false by simpa using List.all_eq_true.1 hall t hm)⟩)
    (by kernel_rfl)
#print axioms proved

end LPathBent
end Go.Proofs.YtpfkcblhojkaiaaDoor.Eng
