/- Walks of what reads the text of a way in the reference. -/
import Derived.Test.YtpfkcblhojkaiaaDoorRdP
import Derived.Test.YtpfkcblhojkaiaaDoorIns
import Derived.Test.YtpfkcblhojkaiaaDoorAli
namespace Go.Proofs.YtpfkcblhojkaiaaDoor.Eng
open Go.RowKit
set_option linter.unusedVariables false
set_option linter.unusedSimpArgs false
set_option maxHeartbeats 1000000


def byteAt (s : ByteArray) (i : Nat) : Int := ((s.data.toList.getD i 0).toNat : Int)
theorem byteAt_eq {s : ByteArray} {i : Nat} (h : i < s.size) : byteAt s i = (s[i].toNat : Int) := by
  unfold byteAt
  rw [List.getD_eq_getElem?_getD, List.getElem?_eq_getElem (by simpa using h)]
  simp
  rfl
section
variable {P : Program} {n : Nat} {S : Env} {o : Oper} {g : Bool} {w : World} {x y : Operand} {t t' : TypeId}
theorem yld_sindexG {s : ByteArray} (i : Nat) (ht : strT P t = true) (ho : o.op = .index t x y) (hx : Ev S g x (.string s)) (hy : Ev S g y (.int .i64 (i : Int))) (h : g = true → i < s.size) : Yld P n S o g w (.int .u8 (byteAt s i)) := fun a hs hg => by
  rw [byteAt_eq (h hg)]
  exact yld_sindexN (P := P) (w := w) ht ho hx hy (h hg) a hs hg
theorem yld_slcSL {s : ByteArray} {l : Nat} (ht : strT P t = true) (ho : o.op = .slice t x (some y) none none) (hx : Ev S g x (.string s)) (hy : Ev S g y (.int .i64 (l : Int))) (h1 : g = true → l ≤ s.size) : Yld P n S o g w (.string (s.extract l s.size)) := fun a hs hg => by
  have ex := hx n a hs hg
  have ey := hy n a hs hg
  generalize a.eval = ρ at ex ey ⊢
  have hu := strT_spec ht
  have hl := h1 hg
  have hb := run_sliceBound (P := P) (w := w) .i64 (l : Int) s.size .sliceB (by omega) (by omega)
  have hr : (Instr.slice t (.string s) (some (.int .i64 (l : Int))) none none).run P w = .ok (.string (s.extract l s.size)) w := by simp [Instr.slice, Instr.sliceBounds, run_underlying hu, hb]
  simp [execOp, ho, ex, ey, run_sliceAt_string (P := P) (w := w) t _ _ _ _ hu, hr]
end
theorem ext_list (s : ByteArray) (a b : Nat) : (s.extract a b).data.toList = (s.data.toList.drop a).take (b - a) := by
  rw [ByteArray.data_extract, Array.toList_extract, List.extract_eq_take_drop]
theorem txt_len (s : ByteArray) : s.data.toList.length = s.size := by simp
theorem at_hd {s : ByteArray} {p : Nat} {c : UInt8} : (((decide ((p : Int) ≥ 0)) && decide ((p : Int) < (s.size : Int))) && (byteAt s p == (c.toNat : Int))) = hd (s.data.toList.drop p) c := by
  rw [Bool.eq_iff_iff, hd_iff, List.head?_drop]
  unfold byteAt
  by_cases h : p < s.size
  · rw [List.getD_eq_getElem?_getD, List.getElem?_eq_getElem (by simpa using h)]
    simp [h]
    exact ⟨fun e => UInt8.toNat_inj.1 (by omega), fun e => by rw [e]⟩
  · rw [List.getElem?_eq_none (by simpa using Nat.le_of_not_lt h)]
    simp [h]

set_option maxRecDepth 100000 in
theorem l1At_ct (s : ByteArray) (p : Nat) (c : UInt8) (w : World) : Calls Tryd.prog 52 #[.string s, .int .i64 (p : Int), .int .u8 (c.toNat : Int)] w fun e w' => e = .returned (.bool (hd (s.data.toList.drop p) c)) ∧ Chg No w w' := by
  refine enter Tryd.func52 rfl rfl rfl ?_
  have F0 := Fr.start w
  refine Cod.seq fun K1 hK1 => ?_
  refine Cod.region ?_
  refine Ops.step (One.val rfl rfl rfl (yld_assign rfl ev_c) ?_)
  refine Ops.nil fun a hS => ?_
  refine hK1 _ _ ?_ a hS
  refine Cod.seq fun K2 hK2 => ?_
  refine Cod.region ?_
  refine Ops.step (One.val rfl rfl rfl (yld_move rfl (ev_t rfl)) ?_)
  refine Ops.step (One.val rfl rfl rfl (yld_geq rfl (ev_t rfl) ev_c) ?_)
  refine Ops.step (One.val rfl rfl rfl (yld_move rfl (ev_t rfl)) ?_)
  refine Ops.step (One.val (gd_some rfl rfl) rfl rfl (yld_move rfl (ev_t rfl)) ?_)
  refine Ops.step (One.val (gd_some rfl rfl) rfl rfl (yld_move rfl (ev_t rfl)) ?_)
  refine Ops.step (One.val (gd_some rfl rfl) rfl rfl (yld_slen st9 rfl (ev_g rfl)) ?_)
  refine Ops.step (One.val (gd_some rfl rfl) rfl rfl (yld_lss rfl (ev_g rfl) (ev_g rfl)) ?_)
  refine Ops.step (One.val rfl rfl rfl (yld_and rfl (ev_t rfl) (ev_g rfl)) ?_)
  refine Ops.step (One.val rfl rfl rfl (yld_move rfl (ev_t rfl)) ?_)
  refine Ops.step (One.val (gd_some rfl rfl) rfl rfl (yld_move rfl (ev_t rfl)) ?_)
  refine Ops.step (One.val (gd_some rfl rfl) rfl rfl (yld_move rfl (ev_t rfl)) ?_)
  refine Ops.step (One.val (gd_some rfl rfl) rfl rfl (yld_sindexG p st9 rfl (ev_g rfl) (ev_g rfl) (fun hg => by simp [gof] at hg; omega)) ?_)
  refine Ops.step (One.val (gd_some rfl rfl) rfl rfl (yld_move rfl (ev_t rfl)) ?_)
  refine Ops.step (One.val (gd_some rfl rfl) rfl rfl (yld_eql rfl (ev_g rfl) (ev_g rfl)) ?_)
  refine Ops.step (One.val rfl rfl rfl (yld_and rfl (ev_t rfl) (ev_g rfl)) ?_)
  refine Ops.step (One.val rfl rfl rfl (yld_assign rfl (ev_t rfl)) ?_)
  refine Ops.nil fun a hS => ?_
  refine hK2 _ _ ?_ a hS
  refine Cod.ret fun a hS => ?_
  try simp only [Exit.then, Exit.inBlock]
  exact ret1 (t := 6) rfl hS rfl ⟨ret_b at_hd, F0.chg⟩


theorem drop_cons {s : ByteArray} {i : Nat} (h : i < s.size) : ∃ c, s.data.toList.drop i = c :: s.data.toList.drop (i + 1) ∧ byteAt s i = (c.toNat : Int) := by
  have h' : i < s.data.toList.length := by simpa using h
  refine ⟨s.data.toList[i], List.drop_eq_getElem_cons h', ?_⟩
  unfold byteAt
  rw [List.getD_eq_getElem?_getD, List.getElem?_eq_getElem h']
  rfl
theorem drop_end {s : ByteArray} {i : Nat} (h : s.size ≤ i) : s.data.toList.drop i = [] := List.drop_eq_nil_of_le (by simpa using h)
/-- How long the run of bytes is that a test takes. -/
def runN (P : UInt8 → Bool) (l : List UInt8) : Nat := (l.takeWhile P).length
theorem runN_cons {P : UInt8 → Bool} {c : UInt8} {l : List UInt8} (h : P c = true) : runN P (c :: l) = 1 + runN P l := by
  unfold runN
  rw [List.takeWhile_cons, h]
  simp only [if_true, List.length_cons]
  omega
theorem runN_stop {P : UInt8 → Bool} {c : UInt8} {l : List UInt8} (h : P c = false) : runN P (c :: l) = 0 := by
  unfold runN
  rw [List.takeWhile_cons, h]
  rfl
theorem runN_le (P : UInt8 → Bool) (l : List UInt8) : runN P l ≤ l.length := (List.takeWhile_prefix (p := P)).length_le
theorem low_at {c : UInt8} : low c = (decide ((c.toNat : Int) ≥ 97) && decide ((c.toNat : Int) ≤ 122)) := by
  unfold low
  rw [Bool.eq_iff_iff]
  simp
theorem isD_at {c : UInt8} : isD c = (decide ((c.toNat : Int) ≥ 48) && decide ((c.toNat : Int) ≤ 57)) := by
  unfold isD
  rw [Bool.eq_iff_iff]
  simp
  omega

set_option maxRecDepth 100000 in
theorem l1Letters_ct (s : ByteArray) (p : Nat) (hp : p ≤ s.size) (hs : s.size ≤ 1048576) (w : World) : Calls Tryd.prog 87 #[.string s, .int .i64 (p : Int)] w fun e w' => e = .returned (.int .i64 ((p + letN (s.data.toList.drop p) : Nat) : Int)) ∧ Chg No w w' := by
  refine enter Tryd.func87 rfl rfl rfl ?_
  have F0 := Fr.start w
  refine Cod.seq fun K1 hK1 => ?_
  refine Cod.region ?_
  refine Ops.step (One.val rfl rfl rfl (yld_assign rfl ev_c) ?_)
  refine Ops.nil fun a hS => ?_
  refine hK1 _ _ ?_ a hS
  refine Cod.seq fun K2 hK2 => ?_
  refine Cod.block ?_
  refine Cod.loop (fun i : Nat => [(0, true, .string s), (1, true, .int .i64 (i : Int))]) (fun i w' => p ≤ i ∧ i ≤ s.size ∧ runN low (s.data.toList.drop p) = (i - p) + runN low (s.data.toList.drop i) ∧ Fr No w [] w') (fun i => s.size - i) p ⟨rfl, rfl, trivial⟩ ⟨Nat.le_refl _, hp, by omega, F0⟩ ?_
  intro i w1 hW K3 hK3
  obtain ⟨hpi, his, hrun, F1⟩ := hW
  refine Cod.seq fun K4 hK4 => ?_
  refine Cod.seq fun K5 hK5 => ?_
  refine Cod.region ?_
  refine Ops.step (One.val rfl rfl rfl (yld_move rfl (ev_t rfl)) ?_)
  refine Ops.step (One.val rfl rfl rfl (yld_move rfl (ev_t rfl)) ?_)
  refine Ops.step (One.val rfl rfl rfl (yld_slen st9 rfl (ev_t rfl)) ?_)
  refine Ops.step (One.val rfl rfl rfl (yld_lss rfl (ev_t rfl) (ev_t rfl)) ?_)
  refine Ops.step (One.val rfl rfl rfl (yld_move rfl (ev_t rfl)) ?_)
  refine Ops.step (One.val (gd_some rfl rfl) rfl rfl (yld_move rfl (ev_t rfl)) ?_)
  refine Ops.step (One.val (gd_some rfl rfl) rfl rfl (yld_move rfl (ev_t rfl)) ?_)
  refine Ops.step (One.val (gd_some rfl rfl) rfl rfl (yld_sindexG i st9 rfl (ev_g rfl) (ev_g rfl) (fun hg => by simp [gof] at hg; omega)) ?_)
  refine Ops.step (One.val (gd_some rfl rfl) rfl rfl (yld_geq rfl (ev_g rfl) ev_c) ?_)
  refine Ops.step (One.val rfl rfl rfl (yld_and rfl (ev_t rfl) (ev_g rfl)) ?_)
  refine Ops.step (One.val rfl rfl rfl (yld_move rfl (ev_t rfl)) ?_)
  refine Ops.step (One.val (gd_some rfl rfl) rfl rfl (yld_move rfl (ev_t rfl)) ?_)
  refine Ops.step (One.val (gd_some rfl rfl) rfl rfl (yld_move rfl (ev_t rfl)) ?_)
  refine Ops.step (One.val (gd_some rfl rfl) rfl rfl (yld_sindexG i st9 rfl (ev_g rfl) (ev_g rfl) (fun hg => by simp [gof] at hg; omega)) ?_)
  refine Ops.step (One.val (gd_some rfl rfl) rfl rfl (yld_leq rfl (ev_g rfl) ev_c) ?_)
  refine Ops.step (One.val rfl rfl rfl (yld_and rfl (ev_t rfl) (ev_g rfl)) ?_)
  refine Ops.nil fun a hS => ?_
  refine hK5 _ _ ?_ a hS
  refine Cod.cond rfl (fun hc20 => ?_) (fun hc20 => ?_)
  · skip
    have hi : i < s.size := by
      have h := hc20
      simp at h
      omega
    obtain ⟨c, hdc, hbc⟩ := drop_cons hi
    have hlo : low c = true := by
      rw [low_at, ← hbc]
      have h := hc20
      simp at h
      simp
      omega
    rw [hdc, runN_cons hlo] at hrun
    refine Cod.skip fun a hS => ?_
    refine hK4 _ _ ?_ a hS
    refine Cod.block ?_
    refine Cod.region ?_
    refine Ops.step (One.val rfl rfl rfl (yld_move rfl (ev_t rfl)) ?_)
    refine Ops.step (One.val rfl rfl rfl (yld_inc rfl (ev_t rfl) (fun _ => by omega)) ?_)
    refine Ops.step (One.val rfl rfl rfl (yld_assign rfl (ev_t rfl)) ?_)
    refine Ops.nil fun a hS => ?_
    exact hK3 (i + 1) _ a (hS.sub ⟨rfl, rfl, trivial⟩) ⟨by omega, by omega, by omega, F1⟩ (by omega)
  · skip
    have hend : runN low (s.data.toList.drop i) = 0 := by
      rcases Nat.lt_or_ge i s.size with hi | hi
      · obtain ⟨c, hdc, hbc⟩ := drop_cons hi
        rw [hdc]
        refine runN_stop ?_
        cases hl : low c with
        | false => rfl
        | true =>
          rw [low_at, ← hbc] at hl
          have h := hc20
          simp at h hl
          omega
      · rw [drop_end hi]
        rfl
    refine Cod.exit fun a hS => ?_
    simp only [Exit.then, Exit.inBlock, ↓reduceIte]
    refine hK2 _ _ ?_ a hS
    refine Cod.seq fun K6 hK6 => ?_
    refine Cod.region ?_
    refine Ops.step (One.val rfl rfl rfl (yld_move rfl (ev_t rfl)) ?_)
    refine Ops.step (One.val rfl rfl rfl (yld_assign rfl (ev_t rfl)) ?_)
    refine Ops.nil fun a hS => ?_
    refine hK6 _ _ ?_ a hS
    refine Cod.ret fun a hS => ?_
    try simp only [Exit.then, Exit.inBlock]
    have hlet : letN (s.data.toList.drop p) = i - p := by
      show runN low _ = _
      omega
    exact ret1 (t := 4) rfl hS rfl ⟨ret_i (by omega), F1.chg⟩


theorem zero_hd {s : ByteArray} {c : UInt8} : (decide ((s.size : Int) > 0) && (byteAt s 0 == (c.toNat : Int))) = hd s.data.toList c := by
  have h := at_hd (s := s) (p := 0) (c := c)
  rw [List.drop_zero] at h
  rw [← h]
  simp
theorem neg_hd {s : ByteArray} : (decide ((s.size : Int) > 0) && (byteAt s 0 == 45)) = hd s.data.toList 45 := zero_hd (c := 45)
def core (t : List UInt8) : List UInt8 := if hd t 45 = true then t.drop 1 else t
theorem num1_core (t : List UInt8) : num1 t = if core t = [] ∨ 17 < (core t).length ∨ (hd (core t) 48 = true ∧ (1 < (core t).length ∨ hd t 45 = true)) ∨ (core t).all isD = false then none else some (if hd t 45 = true then -(valD (core t) : Int) else (valD (core t) : Int)) := by
  unfold num1 core
  by_cases h : hd t 45 = true
  · simp only [h, if_true]
  · simp only [h, Bool.false_eq_true, if_false]
theorem bad38 {d : ByteArray} {ng : Bool} : ((((d.size : Int) == 0) || decide ((d.size : Int) > 17)) || ((byteAt d 0 == 48) && (decide ((d.size : Int) > 1) || ng))) = decide (d.data.toList = [] ∨ 17 < d.data.toList.length ∨ (hd d.data.toList 48 = true ∧ (1 < d.data.toList.length ∨ ng = true))) := by
  rw [txt_len]
  by_cases h0 : d.size = 0
  · have : d.data.toList = [] := List.eq_nil_of_length_eq_zero (by rw [txt_len]; exact h0)
    simp [h0, this]
  · have hne : d.data.toList ≠ [] := fun e => h0 (by rw [← txt_len, e]; rfl)
    have h48 : (byteAt d 0 == 48) = hd d.data.toList 48 := by
      rw [← zero_hd (c := 48), decide_eq_true (by omega)]
      rfl
    have e1 : decide ((d.size : Int) > 17) = decide (17 < d.size) := decide_eq_decide.2 (by omega)
    have e2 : decide ((d.size : Int) > 1) = decide (1 < d.size) := decide_eq_decide.2 (by omega)
    have e3 : ((d.size : Int) == 0) = false := by rw [beq_eq_false_iff_ne]; omega
    rw [h48, e1, e2, e3, Bool.eq_iff_iff]
    simp [hne]


section
variable {P : Program} {n : Nat} {S : Env} {o : Oper} {g : Bool} {w : World} {x y : Operand} {t t' : TypeId}
theorem yld_subU8 {i j : Int} (ho : o.op = .binOp .sub t x y t') (hx : Ev S g x (.int .u8 i)) (hy : Ev S g y (.int .u8 j)) (hb : g = true → 0 ≤ i - j ∧ i - j ≤ 255) : Yld P n S o g w (.int .u8 (i - j)) := fun a hs hg => by
  have ex := hx n a hs hg
  have ey := hy n a hs hg
  generalize a.eval = ρ at ex ey ⊢
  have hw : IntKind.u8.wrap (i - j) = i - j := by
    have := hb hg
    simp only [IntKind.wrap, IntKind.signed, IntKind.bits]
    simp
    omega
  simp only [execOp, ho, ex, ey, eqGuard_sub, binOp_sub, Op.intArith, hw]; simp
end
def numEnd (r : Option Int) : Value := .tuple #[.int .i64 (r.getD 0), .bool r.isSome]
theorem valD_lt : ∀ d : List UInt8, (∀ c ∈ d, isD c = true) → valD d < 10 ^ d.length := by
  intro d
  suffices h : ∀ (m : Nat) (d : List UInt8), d.length = m → (∀ c ∈ d, isD c = true) → valD d < 10 ^ m from h d.length d rfl
  intro m
  induction m with
  | zero =>
    intro d hl _
    rw [List.eq_nil_of_length_eq_zero hl]
    decide
  | succ m ih =>
    intro d hl ha
    have hne : d ≠ [] := by intro e; rw [e] at hl; simp at hl
    rw [← List.dropLast_concat_getLast hne, valD_snoc]
    have h1 := ih d.dropLast (by rw [List.length_dropLast]; omega) fun c hc => ha c (List.dropLast_subset _ hc)
    have h2 := isD_nat (ha _ (List.getLast_mem hne))
    rw [Nat.pow_succ]
    omega
theorem take_snoc {s : ByteArray} {i : Nat} (h : i < s.size) : ∃ c, s.data.toList.take (i + 1) = s.data.toList.take i ++ [c] ∧ byteAt s i = (c.toNat : Int) ∧ c ∈ s.data.toList := by
  have h' : i < s.data.toList.length := by rw [txt_len]; exact h
  refine ⟨s.data.toList[i], List.take_succ_eq_append_getElem h', ?_, List.getElem_mem h'⟩
  unfold byteAt
  rw [List.getD_eq_getElem?_getD, List.getElem?_eq_getElem h']
  rfl

set_option maxRecDepth 100000 in
theorem l11Num_ct (t : ByteArray) (ht : t.size ≤ 1048576) (w : World) : Calls Tryd.prog 103 #[.string t] w fun e w' => e = .returned (numEnd (num1 t.data.toList)) ∧ Chg No w w' := by
  refine enter Tryd.func103 rfl rfl rfl ?_
  have F0 := Fr.start w
  refine Cod.seq fun K1 hK1 => ?_
  refine Cod.region ?_
  refine Ops.step (One.val rfl rfl rfl (yld_assign rfl ev_c) ?_)
  refine Ops.step (One.val rfl rfl rfl (yld_assign rfl ev_c) ?_)
  refine Ops.nil fun a hS => ?_
  refine hK1 _ _ ?_ a hS
  refine Cod.seq fun K2 hK2 => ?_
  refine Cod.region ?_
  refine Ops.step (One.val rfl rfl rfl (yld_move rfl (ev_t rfl)) ?_)
  refine Ops.step (One.val rfl rfl rfl (yld_slen st9 rfl (ev_t rfl)) ?_)
  refine Ops.step (One.val rfl rfl rfl (yld_gtr rfl (ev_t rfl) ev_c) ?_)
  refine Ops.step (One.val rfl rfl rfl (yld_move rfl (ev_t rfl)) ?_)
  refine Ops.step (One.val (gd_some rfl rfl) rfl rfl (yld_move rfl (ev_t rfl)) ?_)
  refine Ops.step (One.val (gd_some rfl rfl) rfl rfl (yld_sindexG 0 st9 rfl (ev_g rfl) ev_c (fun hg => by simp [gof] at hg; omega)) ?_)
  refine Ops.step (One.val (gd_some rfl rfl) rfl rfl (yld_eql rfl (ev_g rfl) ev_c) ?_)
  refine Ops.step (One.val rfl rfl rfl (yld_and rfl (ev_t rfl) (ev_g rfl)) ?_)
  refine Ops.step (One.val rfl rfl rfl (yld_assign rfl (ev_t rfl)) ?_)
  refine Ops.nil fun a hS => ?_
  refine hK2 _ _ ?_ a hS
  refine Cod.seq fun K3 hK3 => ?_
  refine Cod.seq fun K4 hK4 => ?_
  rw [neg_hd]
  obtain ⟨ng, hnge⟩ : ∃ b, hd t.data.toList 45 = b := ⟨_, rfl⟩
  obtain ⟨nr, hnr⟩ : ∃ r, num1 t.data.toList = r := ⟨_, rfl⟩
  rw [hnge]
  refine Cod.region ?_
  refine Ops.step (One.val rfl rfl rfl (yld_move rfl (ev_t rfl)) ?_)
  refine Ops.nil fun a hS => ?_
  refine hK4 _ _ ?_ a hS
  refine Cod.cond rfl (fun hc15 => ?_) (fun hc15 => ?_)
  · skip
    have hng : hd t.data.toList 45 = true := hnge.trans hc15
    obtain ⟨d, hde⟩ : ∃ d, d = t.extract 1 t.size := ⟨_, rfl⟩
    obtain ⟨r0, hr0⟩ := hd_cons hng
    have htl := txt_len t
    rw [hr0, List.length_cons] at htl
    have hdl : d.data.toList = t.data.toList.drop 1 := by
      rw [hde, ext_list, List.take_of_length_le]
      rw [List.length_drop, txt_len]
      exact Nat.le_refl _
    have hco : core t.data.toList = d.data.toList := by unfold core; rw [if_pos hng, hdl]
    have hds : d.size ≤ t.size := by rw [← txt_len d, hdl, List.length_drop, txt_len]; omega
    refine Cod.region ?_
    refine Ops.step (One.val rfl rfl rfl (yld_move rfl (ev_t rfl)) ?_)
    refine Ops.step (One.val rfl rfl rfl (yld_slcSL (l := 1) st9 rfl (ev_t rfl) ev_c (fun _ => by omega)) ?_)
    refine Ops.step (One.val rfl rfl rfl (yld_assign rfl (ev_t rfl)) ?_)
    refine Ops.nil fun a hS => ?_
    refine hK3 _ _ ?_ a hS
    refine Cod.seq fun K5 hK5 => ?_
    refine Cod.seq fun K6 hK6 => ?_
    rw [← hde]
    refine Cod.region ?_
    refine Ops.step (One.val rfl rfl rfl (yld_move rfl (ev_t rfl)) ?_)
    refine Ops.step (One.val rfl rfl rfl (yld_slen st9 rfl (ev_t rfl)) ?_)
    refine Ops.step (One.val rfl rfl rfl (yld_eql rfl (ev_t rfl) ev_c) ?_)
    refine Ops.step (One.val rfl rfl rfl (yld_move rfl (ev_t rfl)) ?_)
    refine Ops.step (One.val (gd_some rfl rfl) rfl rfl (yld_move rfl (ev_t rfl)) ?_)
    refine Ops.step (One.val (gd_some rfl rfl) rfl rfl (yld_slen st9 rfl (ev_g rfl)) ?_)
    refine Ops.step (One.val (gd_some rfl rfl) rfl rfl (yld_gtr rfl (ev_g rfl) ev_c) ?_)
    refine Ops.step (One.val rfl rfl rfl (yld_or rfl (ev_t rfl) (ev_g rfl)) ?_)
    refine Ops.step (One.val rfl rfl rfl (yld_move rfl (ev_t rfl)) ?_)
    refine Ops.step (One.val (gd_some rfl rfl) rfl rfl (yld_move rfl (ev_t rfl)) ?_)
    refine Ops.step (One.val (gd_some rfl rfl) rfl rfl (yld_sindexG 0 st9 rfl (ev_g rfl) ev_c (fun hg => by rcases Nat.eq_zero_or_pos d.size with h | h; exact absurd hg (by rw [h]; simp [gof]); exact h)) ?_)
    refine Ops.step (One.val (gd_some rfl rfl) rfl rfl (yld_eql rfl (ev_g rfl) ev_c) ?_)
    refine Ops.step (One.val (gd_some rfl rfl) rfl rfl (yld_move rfl (ev_g rfl)) ?_)
    refine Ops.step (One.val (gd_some rfl rfl) rfl rfl (yld_move rfl (ev_t rfl)) ?_)
    refine Ops.step (One.val (gd_some rfl rfl) rfl rfl (yld_slen st9 rfl (ev_g rfl)) ?_)
    refine Ops.step (One.val (gd_some rfl rfl) rfl rfl (yld_gtr rfl (ev_g rfl) ev_c) ?_)
    refine Ops.step (One.val (gd_some rfl rfl) rfl rfl (yld_move rfl (ev_g rfl)) ?_)
    refine Ops.step (One.val (gd_some rfl rfl) rfl rfl (yld_move rfl (ev_t rfl)) ?_)
    refine Ops.step (One.val (gd_some rfl rfl) rfl rfl (yld_or rfl (ev_g rfl) (ev_g rfl)) ?_)
    refine Ops.step (One.val (gd_some rfl rfl) rfl rfl (yld_and rfl (ev_g rfl) (ev_g rfl)) ?_)
    refine Ops.step (One.val rfl rfl rfl (yld_or rfl (ev_t rfl) (ev_g rfl)) ?_)
    refine Ops.nil fun a hS => ?_
    refine hK6 _ _ ?_ a hS
    refine Cod.cond rfl (fun hc38 => ?_) (fun hc38 => ?_)
    · skip
      have hno : nr = none := by
        rw [← hnr, num1_core, hco, hnge]
        rw [bad38] at hc38
        have h := of_decide_eq_true hc38
        rw [if_pos]
        rcases h with h | h | h
        · exact .inl h
        · exact .inr (.inl h)
        · exact .inr (.inr (.inl h))
      refine Cod.seq fun K7 hK7 => ?_
      refine Cod.region ?_
      refine Ops.step (One.val rfl rfl rfl (yld_assign rfl ev_c) ?_)
      refine Ops.step (One.val rfl rfl rfl (yld_assign rfl ev_c) ?_)
      refine Ops.nil fun a hS => ?_
      refine hK7 _ _ ?_ a hS
      refine Cod.ret fun a hS => ?_
      try simp only [Exit.then, Exit.inBlock]
      exact ret2 (t := 2) (u := 3) rfl hS rfl rfl ⟨by rw [hnr, hno]; rfl, F0.chg⟩
    · skip
      have hgood := hc38
      rw [bad38] at hgood
      have hgood := of_decide_eq_false hgood
      simp only [not_or] at hgood
      obtain ⟨hg1, hg2, hg3⟩ := hgood
      rw [txt_len] at hg2
      refine Cod.skip fun a hS => ?_
      refine hK5 _ _ ?_ a hS
      refine Cod.seq fun K8 hK8 => ?_
      refine Cod.region ?_
      refine Ops.step (One.val rfl rfl rfl (yld_assign rfl ev_c) ?_)
      refine Ops.nil fun a hS => ?_
      refine hK8 _ _ ?_ a hS
      refine Cod.seq fun K9 hK9 => ?_
      refine Cod.seq fun K10 hK10 => ?_
      refine Cod.region ?_
      refine Ops.step (One.val rfl rfl rfl (yld_assign rfl ev_c) ?_)
      refine Ops.nil fun a hS => ?_
      refine hK10 _ _ ?_ a hS
      refine Cod.block ?_
      refine Cod.loop (fun i : Nat => [(0, true, .string d), (4, true, .bool ng), (5, true, .int .i64 (valD (d.data.toList.take i) : Int)), (6, true, .int .i64 (i : Int))]) (fun i w' => i ≤ d.size ∧ (∀ c ∈ d.data.toList.take i, isD c = true) ∧ Fr No w [] w') (fun i => d.size - i) 0 ⟨rfl, rfl, rfl, rfl, trivial⟩ ⟨Nat.zero_le _, fun c h => by simp at h, F0⟩ ?_
      intro i w1 hW K11 hK11
      obtain ⟨his, hall, F1⟩ := hW
      have hv := valD_lt _ hall
      have hp17 : valD (d.data.toList.take i) < 100000000000000000 := Nat.lt_of_lt_of_le hv (by
        have hl : (d.data.toList.take i).length ≤ 17 := by rw [List.length_take, txt_len]; omega
        exact Nat.le_trans (Nat.pow_le_pow_right (by omega) hl) (by decide))
      refine Cod.seq fun K12 hK12 => ?_
      refine Cod.seq fun K13 hK13 => ?_
      refine Cod.region ?_
      refine Ops.step (One.val rfl rfl rfl (yld_move rfl (ev_t rfl)) ?_)
      refine Ops.step (One.val rfl rfl rfl (yld_move rfl (ev_t rfl)) ?_)
      refine Ops.step (One.val rfl rfl rfl (yld_slen st9 rfl (ev_t rfl)) ?_)
      refine Ops.step (One.val rfl rfl rfl (yld_lss rfl (ev_t rfl) (ev_t rfl)) ?_)
      refine Ops.nil fun a hS => ?_
      refine hK13 _ _ ?_ a hS
      refine Cod.cond rfl (fun hc42 => ?_) (fun hc42 => ?_)
      · skip
        have hi : i < d.size := by simp at hc42; omega
        obtain ⟨c, htk, hbc, hmem⟩ := take_snoc hi
        refine Cod.skip fun a hS => ?_
        refine hK12 _ _ ?_ a hS
        refine Cod.seq fun K14 hK14 => ?_
        refine Cod.block ?_
        refine Cod.seq fun K15 hK15 => ?_
        refine Cod.seq fun K16 hK16 => ?_
        refine Cod.region ?_
        refine Ops.step (One.val rfl rfl rfl (yld_move rfl (ev_t rfl)) ?_)
        refine Ops.step (One.val rfl rfl rfl (yld_move rfl (ev_t rfl)) ?_)
        refine Ops.step (One.val rfl rfl rfl (yld_sindexG i st9 rfl (ev_t rfl) (ev_t rfl) (fun _ => hi)) ?_)
        refine Ops.step (One.val rfl rfl rfl (yld_lss rfl (ev_t rfl) ev_c) ?_)
        refine Ops.step (One.val rfl rfl rfl (yld_move rfl (ev_t rfl)) ?_)
        refine Ops.step (One.val (gd_some rfl rfl) rfl rfl (yld_move rfl (ev_t rfl)) ?_)
        refine Ops.step (One.val (gd_some rfl rfl) rfl rfl (yld_move rfl (ev_t rfl)) ?_)
        refine Ops.step (One.val (gd_some rfl rfl) rfl rfl (yld_sindexG i st9 rfl (ev_g rfl) (ev_g rfl) (fun _ => hi)) ?_)
        refine Ops.step (One.val (gd_some rfl rfl) rfl rfl (yld_gtr rfl (ev_g rfl) ev_c) ?_)
        refine Ops.step (One.val rfl rfl rfl (yld_or rfl (ev_t rfl) (ev_g rfl)) ?_)
        refine Ops.nil fun a hS => ?_
        refine hK16 _ _ ?_ a hS
        refine Cod.cond rfl (fun hc54 => ?_) (fun hc54 => ?_)
        · skip
          have hbad : isD c = false := by
            cases h : isD c with
            | false => rfl
            | true =>
              have h2 := isD_nat h
              have h3 := hc54
              rw [hbc] at h3
              simp at h3
              omega
          have hno : nr = none := by
            rw [← hnr, num1_core, hco, hnge, if_pos]
            refine .inr (.inr (.inr ?_))
            cases h : d.data.toList.all isD with
            | false => rfl
            | true =>
              rw [List.all_eq_true.1 h c hmem] at hbad
              cases hbad
          refine Cod.seq fun K17 hK17 => ?_
          refine Cod.region ?_
          refine Ops.step (One.val rfl rfl rfl (yld_assign rfl ev_c) ?_)
          refine Ops.step (One.val rfl rfl rfl (yld_assign rfl ev_c) ?_)
          refine Ops.nil fun a hS => ?_
          refine hK17 _ _ ?_ a hS
          refine Cod.ret fun a hS => ?_
          try simp only [Exit.then, Exit.inBlock]
          exact ret2 (t := 2) (u := 3) rfl hS rfl rfl ⟨by rw [hnr, hno]; rfl, F1.chg⟩
        · skip
          have hcd : 48 ≤ c.toNat ∧ c.toNat ≤ 57 := by
            have h3 := hc54
            rw [hbc] at h3
            simp at h3
            omega
          have hisd : isD c = true := by
            unfold isD
            simp
            omega
          have hall2 : ∀ x ∈ d.data.toList.take (i + 1), isD x = true := fun x hx => by
            rw [htk] at hx
            rcases List.mem_append.1 hx with hx | hx
            · exact hall x hx
            · obtain rfl := List.mem_singleton.1 hx
              exact hisd
          have hvn : ((valD (d.data.toList.take (i + 1)) : Nat) : Int) = (valD (d.data.toList.take i) : Int) * 10 + (byteAt d i - 48) := by
            rw [htk, valD_snoc, hbc]
            omega
          have hbr : 48 ≤ byteAt d i ∧ byteAt d i ≤ 57 := by rw [hbc]; omega
          refine Cod.skip fun a hS => ?_
          refine hK15 _ _ ?_ a hS
          refine Cod.region ?_
          refine Ops.step (One.val rfl rfl rfl (yld_move rfl (ev_t rfl)) ?_)
          refine Ops.step (One.val rfl rfl rfl (yld_mul rfl (ev_t rfl) ev_c (fun _ => by omega)) ?_)
          refine Ops.step (One.val rfl rfl rfl (yld_move rfl (ev_t rfl)) ?_)
          refine Ops.step (One.val rfl rfl rfl (yld_move rfl (ev_t rfl)) ?_)
          refine Ops.step (One.val rfl rfl rfl (yld_sindexG i st9 rfl (ev_t rfl) (ev_t rfl) (fun _ => hi)) ?_)
          refine Ops.step (One.val rfl rfl rfl (yld_subU8 rfl (ev_t rfl) ev_c (fun _ => by omega)) ?_)
          refine Ops.step (One.val rfl rfl rfl (yld_convI Tryd.underlying5 Tryd.underlying3 rfl (ev_t rfl) (by omega)) ?_)
          refine Ops.step (One.val rfl rfl rfl (yld_add rfl (ev_t rfl) (ev_t rfl) (fun _ => by omega)) ?_)
          refine Ops.step (One.val rfl rfl rfl (yld_assign rfl (ev_t rfl)) ?_)
          refine Ops.nil fun a hS => ?_
          refine hK14 _ _ ?_ a hS
          refine Cod.region ?_
          refine Ops.step (One.val rfl rfl rfl (yld_move rfl (ev_t rfl)) ?_)
          refine Ops.step (One.val rfl rfl rfl (yld_inc rfl (ev_t rfl) (fun _ => by omega)) ?_)
          refine Ops.step (One.val rfl rfl rfl (yld_assign rfl (ev_t rfl)) ?_)
          refine Ops.nil fun a hS => ?_
          rw [← hvn] at hS
          exact hK11 (i + 1) _ a (hS.sub ⟨rfl, rfl, rfl, rfl, trivial⟩) ⟨by omega, hall2, F1⟩ (by omega)
      · skip
        obtain rfl : i = d.size := by simp at hc42; omega
        have hwh : d.data.toList.take d.size = d.data.toList := List.take_of_length_le (by rw [txt_len]; exact Nat.le_refl _)
        rw [hwh] at hall hp17 ⊢
        have hyes : nr = some (if ng = true then -(valD d.data.toList : Int) else (valD d.data.toList : Int)) := by
          rw [← hnr, num1_core, hco, hnge, if_neg]
          rintro (h | h | h | h)
          · exact hg1 h
          · rw [txt_len] at h
            omega
          · exact hg3 h
          · rw [List.all_eq_true.2 hall] at h
            cases h
        refine Cod.exit fun a hS => ?_
        simp only [Exit.then, Exit.inBlock, ↓reduceIte]
        refine hK9 _ _ ?_ a hS
        refine Cod.seq fun K18 hK18 => ?_
        refine Cod.seq fun K19 hK19 => ?_
        refine Cod.region ?_
        refine Ops.step (One.val rfl rfl rfl (yld_move rfl (ev_t rfl)) ?_)
        refine Ops.nil fun a hS => ?_
        refine hK19 _ _ ?_ a hS
        refine Cod.cond rfl (fun hc63 => ?_) (fun hc63 => ?_)
        · skip
          have hng2 : ng = true := hc63
          refine Cod.region ?_
          refine Ops.step (One.val rfl rfl rfl (yld_move rfl (ev_t rfl)) ?_)
          refine Ops.step (One.val rfl rfl rfl (yld_neg rfl (ev_t rfl) (fun _ => by omega)) ?_)
          refine Ops.step (One.val rfl rfl rfl (yld_assign rfl (ev_t rfl)) ?_)
          refine Ops.nil fun a hS => ?_
          refine hK18 _ _ ?_ a hS
          refine Cod.seq fun K20 hK20 => ?_
          refine Cod.region ?_
          refine Ops.step (One.val rfl rfl rfl (yld_move rfl (ev_t rfl)) ?_)
          refine Ops.step (One.val rfl rfl rfl (yld_assign rfl (ev_t rfl)) ?_)
          refine Ops.step (One.val rfl rfl rfl (yld_assign rfl ev_c) ?_)
          refine Ops.nil fun a hS => ?_
          refine hK20 _ _ ?_ a hS
          refine Cod.ret fun a hS => ?_
          try simp only [Exit.then, Exit.inBlock]
          exact ret2 (t := 2) (u := 3) rfl hS rfl rfl ⟨by rw [hnr, hyes]; simp [numEnd, hng2], F1.chg⟩
        · skip
          have hng2 : ng = false := hc63
          refine Cod.skip fun a hS => ?_
          refine hK18 _ _ ?_ a hS
          refine Cod.seq fun K21 hK21 => ?_
          refine Cod.region ?_
          refine Ops.step (One.val rfl rfl rfl (yld_move rfl (ev_t rfl)) ?_)
          refine Ops.step (One.val rfl rfl rfl (yld_assign rfl (ev_t rfl)) ?_)
          refine Ops.step (One.val rfl rfl rfl (yld_assign rfl ev_c) ?_)
          refine Ops.nil fun a hS => ?_
          refine hK21 _ _ ?_ a hS
          refine Cod.ret fun a hS => ?_
          try simp only [Exit.then, Exit.inBlock]
          exact ret2 (t := 2) (u := 3) rfl hS rfl rfl ⟨by rw [hnr, hyes]; simp [numEnd, hng2], F1.chg⟩
  · skip
    have hng : hd t.data.toList 45 = false := hnge.trans hc15
    obtain ⟨d, hde⟩ : ∃ d, d = t := ⟨_, rfl⟩
    have hco : core t.data.toList = d.data.toList := by unfold core; rw [if_neg (by rw [hng]; simp), hde]
    have hds : d.size ≤ t.size := by rw [hde]; exact Nat.le_refl _
    refine Cod.skip fun a hS => ?_
    refine hK3 _ _ ?_ a hS
    refine Cod.seq fun K22 hK22 => ?_
    refine Cod.seq fun K23 hK23 => ?_
    rw [← hde]
    refine Cod.region ?_
    refine Ops.step (One.val rfl rfl rfl (yld_move rfl (ev_t rfl)) ?_)
    refine Ops.step (One.val rfl rfl rfl (yld_slen st9 rfl (ev_t rfl)) ?_)
    refine Ops.step (One.val rfl rfl rfl (yld_eql rfl (ev_t rfl) ev_c) ?_)
    refine Ops.step (One.val rfl rfl rfl (yld_move rfl (ev_t rfl)) ?_)
    refine Ops.step (One.val (gd_some rfl rfl) rfl rfl (yld_move rfl (ev_t rfl)) ?_)
    refine Ops.step (One.val (gd_some rfl rfl) rfl rfl (yld_slen st9 rfl (ev_g rfl)) ?_)
    refine Ops.step (One.val (gd_some rfl rfl) rfl rfl (yld_gtr rfl (ev_g rfl) ev_c) ?_)
    refine Ops.step (One.val rfl rfl rfl (yld_or rfl (ev_t rfl) (ev_g rfl)) ?_)
    refine Ops.step (One.val rfl rfl rfl (yld_move rfl (ev_t rfl)) ?_)
    refine Ops.step (One.val (gd_some rfl rfl) rfl rfl (yld_move rfl (ev_t rfl)) ?_)
    refine Ops.step (One.val (gd_some rfl rfl) rfl rfl (yld_sindexG 0 st9 rfl (ev_g rfl) ev_c (fun hg => by rcases Nat.eq_zero_or_pos d.size with h | h; exact absurd hg (by rw [h]; simp [gof]); exact h)) ?_)
    refine Ops.step (One.val (gd_some rfl rfl) rfl rfl (yld_eql rfl (ev_g rfl) ev_c) ?_)
    refine Ops.step (One.val (gd_some rfl rfl) rfl rfl (yld_move rfl (ev_g rfl)) ?_)
    refine Ops.step (One.val (gd_some rfl rfl) rfl rfl (yld_move rfl (ev_t rfl)) ?_)
    refine Ops.step (One.val (gd_some rfl rfl) rfl rfl (yld_slen st9 rfl (ev_g rfl)) ?_)
    refine Ops.step (One.val (gd_some rfl rfl) rfl rfl (yld_gtr rfl (ev_g rfl) ev_c) ?_)
    refine Ops.step (One.val (gd_some rfl rfl) rfl rfl (yld_move rfl (ev_g rfl)) ?_)
    refine Ops.step (One.val (gd_some rfl rfl) rfl rfl (yld_move rfl (ev_t rfl)) ?_)
    refine Ops.step (One.val (gd_some rfl rfl) rfl rfl (yld_or rfl (ev_g rfl) (ev_g rfl)) ?_)
    refine Ops.step (One.val (gd_some rfl rfl) rfl rfl (yld_and rfl (ev_g rfl) (ev_g rfl)) ?_)
    refine Ops.step (One.val rfl rfl rfl (yld_or rfl (ev_t rfl) (ev_g rfl)) ?_)
    refine Ops.nil fun a hS => ?_
    refine hK23 _ _ ?_ a hS
    refine Cod.cond rfl (fun hc38 => ?_) (fun hc38 => ?_)
    · skip
      have hno : nr = none := by
        rw [← hnr, num1_core, hco, hnge]
        rw [bad38] at hc38
        have h := of_decide_eq_true hc38
        rw [if_pos]
        rcases h with h | h | h
        · exact .inl h
        · exact .inr (.inl h)
        · exact .inr (.inr (.inl h))
      refine Cod.seq fun K24 hK24 => ?_
      refine Cod.region ?_
      refine Ops.step (One.val rfl rfl rfl (yld_assign rfl ev_c) ?_)
      refine Ops.step (One.val rfl rfl rfl (yld_assign rfl ev_c) ?_)
      refine Ops.nil fun a hS => ?_
      refine hK24 _ _ ?_ a hS
      refine Cod.ret fun a hS => ?_
      try simp only [Exit.then, Exit.inBlock]
      exact ret2 (t := 2) (u := 3) rfl hS rfl rfl ⟨by rw [hnr, hno]; rfl, F0.chg⟩
    · skip
      have hgood := hc38
      rw [bad38] at hgood
      have hgood := of_decide_eq_false hgood
      simp only [not_or] at hgood
      obtain ⟨hg1, hg2, hg3⟩ := hgood
      rw [txt_len] at hg2
      refine Cod.skip fun a hS => ?_
      refine hK22 _ _ ?_ a hS
      refine Cod.seq fun K25 hK25 => ?_
      refine Cod.region ?_
      refine Ops.step (One.val rfl rfl rfl (yld_assign rfl ev_c) ?_)
      refine Ops.nil fun a hS => ?_
      refine hK25 _ _ ?_ a hS
      refine Cod.seq fun K26 hK26 => ?_
      refine Cod.seq fun K27 hK27 => ?_
      refine Cod.region ?_
      refine Ops.step (One.val rfl rfl rfl (yld_assign rfl ev_c) ?_)
      refine Ops.nil fun a hS => ?_
      refine hK27 _ _ ?_ a hS
      refine Cod.block ?_
      refine Cod.loop (fun i : Nat => [(0, true, .string d), (4, true, .bool ng), (5, true, .int .i64 (valD (d.data.toList.take i) : Int)), (6, true, .int .i64 (i : Int))]) (fun i w' => i ≤ d.size ∧ (∀ c ∈ d.data.toList.take i, isD c = true) ∧ Fr No w [] w') (fun i => d.size - i) 0 ⟨rfl, rfl, rfl, rfl, trivial⟩ ⟨Nat.zero_le _, fun c h => by simp at h, F0⟩ ?_
      intro i w2 hW K28 hK28
      obtain ⟨his, hall, F2⟩ := hW
      have hv := valD_lt _ hall
      have hp17 : valD (d.data.toList.take i) < 100000000000000000 := Nat.lt_of_lt_of_le hv (by
        have hl : (d.data.toList.take i).length ≤ 17 := by rw [List.length_take, txt_len]; omega
        exact Nat.le_trans (Nat.pow_le_pow_right (by omega) hl) (by decide))
      refine Cod.seq fun K29 hK29 => ?_
      refine Cod.seq fun K30 hK30 => ?_
      refine Cod.region ?_
      refine Ops.step (One.val rfl rfl rfl (yld_move rfl (ev_t rfl)) ?_)
      refine Ops.step (One.val rfl rfl rfl (yld_move rfl (ev_t rfl)) ?_)
      refine Ops.step (One.val rfl rfl rfl (yld_slen st9 rfl (ev_t rfl)) ?_)
      refine Ops.step (One.val rfl rfl rfl (yld_lss rfl (ev_t rfl) (ev_t rfl)) ?_)
      refine Ops.nil fun a hS => ?_
      refine hK30 _ _ ?_ a hS
      refine Cod.cond rfl (fun hc42 => ?_) (fun hc42 => ?_)
      · skip
        have hi : i < d.size := by simp at hc42; omega
        obtain ⟨c, htk, hbc, hmem⟩ := take_snoc hi
        refine Cod.skip fun a hS => ?_
        refine hK29 _ _ ?_ a hS
        refine Cod.seq fun K31 hK31 => ?_
        refine Cod.block ?_
        refine Cod.seq fun K32 hK32 => ?_
        refine Cod.seq fun K33 hK33 => ?_
        refine Cod.region ?_
        refine Ops.step (One.val rfl rfl rfl (yld_move rfl (ev_t rfl)) ?_)
        refine Ops.step (One.val rfl rfl rfl (yld_move rfl (ev_t rfl)) ?_)
        refine Ops.step (One.val rfl rfl rfl (yld_sindexG i st9 rfl (ev_t rfl) (ev_t rfl) (fun _ => hi)) ?_)
        refine Ops.step (One.val rfl rfl rfl (yld_lss rfl (ev_t rfl) ev_c) ?_)
        refine Ops.step (One.val rfl rfl rfl (yld_move rfl (ev_t rfl)) ?_)
        refine Ops.step (One.val (gd_some rfl rfl) rfl rfl (yld_move rfl (ev_t rfl)) ?_)
        refine Ops.step (One.val (gd_some rfl rfl) rfl rfl (yld_move rfl (ev_t rfl)) ?_)
        refine Ops.step (One.val (gd_some rfl rfl) rfl rfl (yld_sindexG i st9 rfl (ev_g rfl) (ev_g rfl) (fun _ => hi)) ?_)
        refine Ops.step (One.val (gd_some rfl rfl) rfl rfl (yld_gtr rfl (ev_g rfl) ev_c) ?_)
        refine Ops.step (One.val rfl rfl rfl (yld_or rfl (ev_t rfl) (ev_g rfl)) ?_)
        refine Ops.nil fun a hS => ?_
        refine hK33 _ _ ?_ a hS
        refine Cod.cond rfl (fun hc54 => ?_) (fun hc54 => ?_)
        · skip
          have hbad : isD c = false := by
            cases h : isD c with
            | false => rfl
            | true =>
              have h2 := isD_nat h
              have h3 := hc54
              rw [hbc] at h3
              simp at h3
              omega
          have hno : nr = none := by
            rw [← hnr, num1_core, hco, hnge, if_pos]
            refine .inr (.inr (.inr ?_))
            cases h : d.data.toList.all isD with
            | false => rfl
            | true =>
              rw [List.all_eq_true.1 h c hmem] at hbad
              cases hbad
          refine Cod.seq fun K34 hK34 => ?_
          refine Cod.region ?_
          refine Ops.step (One.val rfl rfl rfl (yld_assign rfl ev_c) ?_)
          refine Ops.step (One.val rfl rfl rfl (yld_assign rfl ev_c) ?_)
          refine Ops.nil fun a hS => ?_
          refine hK34 _ _ ?_ a hS
          refine Cod.ret fun a hS => ?_
          try simp only [Exit.then, Exit.inBlock]
          exact ret2 (t := 2) (u := 3) rfl hS rfl rfl ⟨by rw [hnr, hno]; rfl, F2.chg⟩
        · skip
          have hcd : 48 ≤ c.toNat ∧ c.toNat ≤ 57 := by
            have h3 := hc54
            rw [hbc] at h3
            simp at h3
            omega
          have hisd : isD c = true := by
            unfold isD
            simp
            omega
          have hall2 : ∀ x ∈ d.data.toList.take (i + 1), isD x = true := fun x hx => by
            rw [htk] at hx
            rcases List.mem_append.1 hx with hx | hx
            · exact hall x hx
            · obtain rfl := List.mem_singleton.1 hx
              exact hisd
          have hvn : ((valD (d.data.toList.take (i + 1)) : Nat) : Int) = (valD (d.data.toList.take i) : Int) * 10 + (byteAt d i - 48) := by
            rw [htk, valD_snoc, hbc]
            omega
          have hbr : 48 ≤ byteAt d i ∧ byteAt d i ≤ 57 := by rw [hbc]; omega
          refine Cod.skip fun a hS => ?_
          refine hK32 _ _ ?_ a hS
          refine Cod.region ?_
          refine Ops.step (One.val rfl rfl rfl (yld_move rfl (ev_t rfl)) ?_)
          refine Ops.step (One.val rfl rfl rfl (yld_mul rfl (ev_t rfl) ev_c (fun _ => by omega)) ?_)
          refine Ops.step (One.val rfl rfl rfl (yld_move rfl (ev_t rfl)) ?_)
          refine Ops.step (One.val rfl rfl rfl (yld_move rfl (ev_t rfl)) ?_)
          refine Ops.step (One.val rfl rfl rfl (yld_sindexG i st9 rfl (ev_t rfl) (ev_t rfl) (fun _ => hi)) ?_)
          refine Ops.step (One.val rfl rfl rfl (yld_subU8 rfl (ev_t rfl) ev_c (fun _ => by omega)) ?_)
          refine Ops.step (One.val rfl rfl rfl (yld_convI Tryd.underlying5 Tryd.underlying3 rfl (ev_t rfl) (by omega)) ?_)
          refine Ops.step (One.val rfl rfl rfl (yld_add rfl (ev_t rfl) (ev_t rfl) (fun _ => by omega)) ?_)
          refine Ops.step (One.val rfl rfl rfl (yld_assign rfl (ev_t rfl)) ?_)
          refine Ops.nil fun a hS => ?_
          refine hK31 _ _ ?_ a hS
          refine Cod.region ?_
          refine Ops.step (One.val rfl rfl rfl (yld_move rfl (ev_t rfl)) ?_)
          refine Ops.step (One.val rfl rfl rfl (yld_inc rfl (ev_t rfl) (fun _ => by omega)) ?_)
          refine Ops.step (One.val rfl rfl rfl (yld_assign rfl (ev_t rfl)) ?_)
          refine Ops.nil fun a hS => ?_
          rw [← hvn] at hS
          exact hK28 (i + 1) _ a (hS.sub ⟨rfl, rfl, rfl, rfl, trivial⟩) ⟨by omega, hall2, F2⟩ (by omega)
      · skip
        obtain rfl : i = d.size := by simp at hc42; omega
        have hwh : d.data.toList.take d.size = d.data.toList := List.take_of_length_le (by rw [txt_len]; exact Nat.le_refl _)
        rw [hwh] at hall hp17 ⊢
        have hyes : nr = some (if ng = true then -(valD d.data.toList : Int) else (valD d.data.toList : Int)) := by
          rw [← hnr, num1_core, hco, hnge, if_neg]
          rintro (h | h | h | h)
          · exact hg1 h
          · rw [txt_len] at h
            omega
          · exact hg3 h
          · rw [List.all_eq_true.2 hall] at h
            cases h
        refine Cod.exit fun a hS => ?_
        simp only [Exit.then, Exit.inBlock, ↓reduceIte]
        refine hK26 _ _ ?_ a hS
        refine Cod.seq fun K35 hK35 => ?_
        refine Cod.seq fun K36 hK36 => ?_
        refine Cod.region ?_
        refine Ops.step (One.val rfl rfl rfl (yld_move rfl (ev_t rfl)) ?_)
        refine Ops.nil fun a hS => ?_
        refine hK36 _ _ ?_ a hS
        refine Cod.cond rfl (fun hc63 => ?_) (fun hc63 => ?_)
        · skip
          have hng2 : ng = true := hc63
          refine Cod.region ?_
          refine Ops.step (One.val rfl rfl rfl (yld_move rfl (ev_t rfl)) ?_)
          refine Ops.step (One.val rfl rfl rfl (yld_neg rfl (ev_t rfl) (fun _ => by omega)) ?_)
          refine Ops.step (One.val rfl rfl rfl (yld_assign rfl (ev_t rfl)) ?_)
          refine Ops.nil fun a hS => ?_
          refine hK35 _ _ ?_ a hS
          refine Cod.seq fun K37 hK37 => ?_
          refine Cod.region ?_
          refine Ops.step (One.val rfl rfl rfl (yld_move rfl (ev_t rfl)) ?_)
          refine Ops.step (One.val rfl rfl rfl (yld_assign rfl (ev_t rfl)) ?_)
          refine Ops.step (One.val rfl rfl rfl (yld_assign rfl ev_c) ?_)
          refine Ops.nil fun a hS => ?_
          refine hK37 _ _ ?_ a hS
          refine Cod.ret fun a hS => ?_
          try simp only [Exit.then, Exit.inBlock]
          exact ret2 (t := 2) (u := 3) rfl hS rfl rfl ⟨by rw [hnr, hyes]; simp [numEnd, hng2], F2.chg⟩
        · skip
          have hng2 : ng = false := hc63
          refine Cod.skip fun a hS => ?_
          refine hK35 _ _ ?_ a hS
          refine Cod.seq fun K38 hK38 => ?_
          refine Cod.region ?_
          refine Ops.step (One.val rfl rfl rfl (yld_move rfl (ev_t rfl)) ?_)
          refine Ops.step (One.val rfl rfl rfl (yld_assign rfl (ev_t rfl)) ?_)
          refine Ops.step (One.val rfl rfl rfl (yld_assign rfl ev_c) ?_)
          refine Ops.nil fun a hS => ?_
          refine hK38 _ _ ?_ a hS
          refine Cod.ret fun a hS => ?_
          try simp only [Exit.then, Exit.inBlock]
          exact ret2 (t := 2) (u := 3) rfl hS rfl rfl ⟨by rw [hnr, hyes]; simp [numEnd, hng2], F2.chg⟩


theorem evnum {l : List UInt8} {k : Nat} {t : List UInt8} (h : digN l = k) (ht : t = l.take k) : rdNum l = (num1 t).map fun n => (n, k) := by
  unfold rdNum
  rw [h, ← ht]
  cases num1 t <;> rfl
def numI (r : Option (Int × Nat)) : Int := r.elim 0 (·.1)
def numP {α : Type} (p : Nat) (r : Option (α × Nat)) : Int := r.elim (-1) fun x => ((p + x.2 : Nat) : Int)
def numV (p : Nat) (r : Option (Int × Nat)) : Value := .tuple #[(x5 (if r.isSome then 3 else 0) (numI r) ⟨#[]⟩ (.slice none 0 0) (.slice none 0 0)).val, .int .i64 (numP p r)]
theorem sgN_le (l : List UInt8) : sgN l ≤ l.length := by
  unfold sgN
  split
  · rename_i h
    obtain ⟨r, rfl⟩ := hd_cons h
    simp
  · omega
theorem isD_stop {s : ByteArray} {i : Nat} (h : ¬ (i < s.size ∧ 48 ≤ byteAt s i ∧ byteAt s i ≤ 57)) : runN isD (s.data.toList.drop i) = 0 := by
  rcases Nat.lt_or_ge i s.size with hi | hi
  · obtain ⟨c, hdc, hbc⟩ := drop_cons hi
    rw [hdc]
    refine runN_stop ?_
    cases hl : isD c with
    | false => rfl
    | true =>
      have h2 := isD_nat hl
      omega
  · rw [drop_end hi]
    rfl

set_option maxRecDepth 100000 in
theorem l1Num_ct (s : ByteArray) (p : Nat) (hp : p ≤ s.size) (hs : s.size ≤ 1048576) (w : World) : Calls Tryd.prog 88 #[.string s, .int .i64 (p : Int)] w fun e w' => e = .returned (numV p (rdNum (s.data.toList.drop p))) ∧ Chg No w w' := by
  have hq1 := sgN_le (s.data.toList.drop p)
  rw [List.length_drop, txt_len] at hq1
  refine enter Tryd.func88 rfl rfl rfl ?_
  have F0 := Fr.start w
  refine Cod.seq fun K1 hK1 => ?_
  refine Cod.region ?_
  refine Ops.step (One.alloc F0 zero33 rfl rfl rfl rfl ?_)
  intro b1 w1 hb1 F1
  change Fr _ _ [blk _ _ [_, _, _, _, _]] _ at F1
  refine Ops.step (One.val rfl rfl rfl (yld_assign rfl ev_c) ?_)
  refine Ops.nil fun a hS => ?_
  refine hK1 _ _ ?_ a hS
  refine Cod.seq fun K2 hK2 => ?_
  refine Cod.region ?_
  refine Ops.step (One.val rfl rfl rfl (yld_move rfl (ev_t rfl)) ?_)
  refine Ops.step (One.val rfl rfl rfl (yld_assign rfl (ev_t rfl)) ?_)
  refine Ops.nil fun a hS => ?_
  refine hK2 _ _ ?_ a hS
  refine Cod.cut (fun i : Nat => [(0, true, .string s), (1, true, .int .i64 (p : Int)), (4, true, .pointer (some ⟨b1, 0, none⟩)), (6, true, .int .i64 (i : Int))]) (fun i w' => i = p + sgN (s.data.toList.drop p) ∧ Fr No w [blk b1 33 [.int .i64 0, .int .i64 0, .string ⟨#[]⟩, .slice none 0 0, .slice none 0 0]] w') (fun K3 hK3 => ?_) ?_
  · skip
    refine Cod.seq fun K4 hK4 => ?_
    refine Cod.region ?_
    refine Ops.step (One.val rfl rfl rfl (yld_move rfl (ev_t rfl)) ?_)
    refine Ops.step (One.val rfl rfl rfl (yld_move rfl (ev_t rfl)) ?_)
    refine Ops.step (One.call rfl rfl rfl (ent_f rfl (evl3 (ev_t rfl) (ev_t rfl) ev_c) (enters en52)) (l1At_ct s p 45 _) (fun e w2 hw2 => ?_))
    obtain ⟨rfl, C2⟩ := hw2
    have F2 := F1.call C2
    refine ⟨_, rfl, ?_⟩
    refine Ops.nil fun a hS => ?_
    refine hK4 _ _ ?_ a hS
    refine Cod.cond rfl (fun hc12 => ?_) (fun hc12 => ?_)
    · skip
      have hq : p + sgN (s.data.toList.drop p) = p + 1 := by unfold sgN; rw [if_pos hc12]
      refine Cod.region ?_
      refine Ops.step (One.val rfl rfl rfl (yld_move rfl (ev_t rfl)) ?_)
      refine Ops.step (One.val rfl rfl rfl (yld_inc rfl (ev_t rfl) (fun _ => by omega)) ?_)
      refine Ops.step (One.val rfl rfl rfl (yld_assign rfl (ev_t rfl)) ?_)
      refine Ops.nil fun a hS => ?_
      first
        | exact hK3 (p + 1) _ a (hS.sub ⟨rfl, rfl, rfl, rfl, trivial⟩) ⟨hq.symm, F2⟩
        | exact hK3 p _ a (hS.sub ⟨rfl, rfl, rfl, rfl, trivial⟩) ⟨hq.symm, F2⟩
    · skip
      have hq : p + sgN (s.data.toList.drop p) = p := by unfold sgN; rw [if_neg (by rw [hc12]; simp)]; rfl
      refine Cod.skip fun a hS => ?_
      first
        | exact hK3 (p + 1) _ a (hS.sub ⟨rfl, rfl, rfl, rfl, trivial⟩) ⟨hq.symm, F2⟩
        | exact hK3 p _ a (hS.sub ⟨rfl, rfl, rfl, rfl, trivial⟩) ⟨hq.symm, F2⟩
  · skip
    intro i w3 hW
    rename Nat => q
    obtain ⟨hq, F3⟩ := hW
    refine Cod.seq fun K5 hK5 => ?_
    refine Cod.block ?_
    refine Cod.loop (fun i : Nat => [(0, true, .string s), (1, true, .int .i64 (p : Int)), (4, true, .pointer (some ⟨b1, 0, none⟩)), (6, true, .int .i64 (i : Int))]) (fun i w' => q ≤ i ∧ i ≤ s.size ∧ runN isD (s.data.toList.drop q) = (i - q) + runN isD (s.data.toList.drop i) ∧ Fr No w [blk b1 33 [.int .i64 0, .int .i64 0, .string ⟨#[]⟩, .slice none 0 0, .slice none 0 0]] w') (fun i => s.size - i) q ⟨rfl, rfl, rfl, rfl, trivial⟩ ⟨Nat.le_refl _, by omega, by omega, F3⟩ ?_
    intro i w4 hW K6 hK6
    obtain ⟨hqi, his, hrun, F4⟩ := hW
    refine Cod.seq fun K7 hK7 => ?_
    refine Cod.seq fun K8 hK8 => ?_
    refine Cod.region ?_
    refine Ops.step (One.val rfl rfl rfl (yld_move rfl (ev_t rfl)) ?_)
    refine Ops.step (One.val rfl rfl rfl (yld_move rfl (ev_t rfl)) ?_)
    refine Ops.step (One.val rfl rfl rfl (yld_slen st9 rfl (ev_t rfl)) ?_)
    refine Ops.step (One.val rfl rfl rfl (yld_lss rfl (ev_t rfl) (ev_t rfl)) ?_)
    refine Ops.step (One.val rfl rfl rfl (yld_move rfl (ev_t rfl)) ?_)
    refine Ops.step (One.val (gd_some rfl rfl) rfl rfl (yld_move rfl (ev_t rfl)) ?_)
    refine Ops.step (One.val (gd_some rfl rfl) rfl rfl (yld_move rfl (ev_t rfl)) ?_)
    refine Ops.step (One.val (gd_some rfl rfl) rfl rfl (yld_sindexG i st9 rfl (ev_g rfl) (ev_g rfl) (fun hg => by simp [gof] at hg; omega)) ?_)
    refine Ops.step (One.val (gd_some rfl rfl) rfl rfl (yld_geq rfl (ev_g rfl) ev_c) ?_)
    refine Ops.step (One.val rfl rfl rfl (yld_and rfl (ev_t rfl) (ev_g rfl)) ?_)
    refine Ops.step (One.val rfl rfl rfl (yld_move rfl (ev_t rfl)) ?_)
    refine Ops.step (One.val (gd_some rfl rfl) rfl rfl (yld_move rfl (ev_t rfl)) ?_)
    refine Ops.step (One.val (gd_some rfl rfl) rfl rfl (yld_move rfl (ev_t rfl)) ?_)
    refine Ops.step (One.val (gd_some rfl rfl) rfl rfl (yld_sindexG i st9 rfl (ev_g rfl) (ev_g rfl) (fun hg => by simp [gof] at hg; omega)) ?_)
    refine Ops.step (One.val (gd_some rfl rfl) rfl rfl (yld_leq rfl (ev_g rfl) ev_c) ?_)
    refine Ops.step (One.val rfl rfl rfl (yld_and rfl (ev_t rfl) (ev_g rfl)) ?_)
    refine Ops.nil fun a hS => ?_
    refine hK8 _ _ ?_ a hS
    refine Cod.cond rfl (fun hc30 => ?_) (fun hc30 => ?_)
    · skip
      have hi : i < s.size := by
        have h := hc30
        simp at h
        omega
      obtain ⟨c, hdc, hbc⟩ := drop_cons hi
      have hlo : isD c = true := by
        rw [isD_at, ← hbc]
        have h := hc30
        simp at h
        simp
        omega
      rw [hdc, runN_cons hlo] at hrun
      refine Cod.skip fun a hS => ?_
      refine hK7 _ _ ?_ a hS
      refine Cod.block ?_
      refine Cod.region ?_
      refine Ops.step (One.val rfl rfl rfl (yld_move rfl (ev_t rfl)) ?_)
      refine Ops.step (One.val rfl rfl rfl (yld_inc rfl (ev_t rfl) (fun _ => by omega)) ?_)
      refine Ops.step (One.val rfl rfl rfl (yld_assign rfl (ev_t rfl)) ?_)
      refine Ops.nil fun a hS => ?_
      exact hK6 (i + 1) _ a (hS.sub ⟨rfl, rfl, rfl, rfl, trivial⟩) ⟨by omega, by omega, by omega, F4⟩ (by omega)
    · skip
      have hend : runN isD (s.data.toList.drop i) = 0 := isD_stop fun h => by
        have h2 := hc30
        simp at h2
        omega
      have hdig : digN (s.data.toList.drop p) = i - p := by
        have e : digN (s.data.toList.drop p) = sgN (s.data.toList.drop p) + runN isD (s.data.toList.drop q) := by unfold digN; rw [List.drop_drop, ← hq]; rfl
        omega
      obtain ⟨u, hu⟩ : ∃ u, u = s.extract p i := ⟨_, rfl⟩
      have hul : u.data.toList = (s.data.toList.drop p).take (i - p) := by rw [hu, ext_list]
      have hus : u.size ≤ s.size := by rw [← txt_len u, hul, List.length_take, List.length_drop, txt_len]; omega
      have hrn := evnum hdig hul
      refine Cod.exit fun a hS => ?_
      simp only [Exit.then, Exit.inBlock, ↓reduceIte]
      refine hK5 _ _ ?_ a hS
      refine Cod.seq fun K9 hK9 => ?_
      refine Cod.region ?_
      refine Ops.step (One.val rfl rfl rfl (yld_move rfl (ev_t rfl)) ?_)
      refine Ops.step (One.val rfl rfl rfl (yld_move rfl (ev_t rfl)) ?_)
      refine Ops.step (One.val rfl rfl rfl (yld_move rfl (ev_t rfl)) ?_)
      refine Ops.step (One.val rfl rfl rfl (yld_slcS st9 rfl (ev_t rfl) (ev_t rfl) (ev_t rfl) (by omega) (by omega)) ?_)
      rw [← hu]
      refine Ops.step (One.call rfl rfl rfl (ent_f rfl (evl1 (ev_t rfl)) (enters en103)) (l11Num_ct u (by omega) _) (fun e w5 hw5 => ?_))
      obtain ⟨rfl, C5⟩ := hw5
      have F5 := F4.call C5
      refine ⟨_, rfl, ?_⟩
      refine Ops.step (One.val rfl rfl rfl (yld_move rfl (ev_t rfl)) ?_)
      refine Ops.step (One.val rfl rfl rfl (yld_extract rfl (ev_t rfl) rfl) ?_)
      refine Ops.step (One.val rfl rfl rfl (yld_extract rfl (ev_t rfl) rfl) ?_)
      refine Ops.step (One.val rfl rfl rfl (yld_assign rfl (ev_t rfl)) ?_)
      refine Ops.step (One.val rfl rfl rfl (yld_assign rfl (ev_t rfl)) ?_)
      refine Ops.nil fun a hS => ?_
      refine hK9 _ _ ?_ a hS
      refine Cod.seq fun K10 hK10 => ?_
      refine Cod.seq fun K11 hK11 => ?_
      refine Cod.region ?_
      refine Ops.step (One.val rfl rfl rfl (yld_move rfl (ev_t rfl)) ?_)
      refine Ops.step (One.val rfl rfl rfl (yld_not rfl (ev_t rfl)) ?_)
      refine Ops.nil fun a hS => ?_
      refine hK11 _ _ ?_ a hS
      refine Cod.cond rfl (fun hc42 => ?_) (fun hc42 => ?_)
      · skip
        have hn : num1 u.data.toList = none := by
          have h := hc42
          cases hz : num1 u.data.toList with
          | none => rfl
          | some n => rw [hz] at h; cases h
        rw [hn] at hrn
        refine Cod.seq fun K12 hK12 => ?_
        refine Cod.region ?_
        refine Ops.step (One.val rfl rfl rfl (yld_build (cells := (enc5 z5)) rfl (evp0) (by kernel_rfl)) ?_)
        refine Ops.step (One.storeN (vs := [_, _, _, _, _]) F5 0 rfl sz33 rfl rfl rfl (ev_t rfl) (ev_t rfl) rfl rfl rfl ?_)
        intro w6 F6
        change Fr _ _ [blk _ _ [_, _, _, _, _]] _ at F6
        refine Ops.step (One.val rfl rfl rfl (yld_assign rfl ev_c) ?_)
        refine Ops.nil fun a hS => ?_
        refine hK12 _ _ ?_ a hS
        refine Cod.ret fun a hS => ?_
        try simp only [Exit.then, Exit.inBlock]
        exact retct (t := 4) (u := 5) (ty := 33) rfl hS ag33 rfl rfl (F6.range (m := 5) (cs' := [_, _, _, _, _]) 0 rfl rfl) rfl ⟨by rw [hrn]; rfl, F6.chg⟩
      · skip
        obtain ⟨n, hn⟩ : ∃ n, num1 u.data.toList = some n := by
          have h := hc42
          cases hz : num1 u.data.toList with
          | none => rw [hz] at h; cases h
          | some n => exact ⟨n, rfl⟩
        rw [hn] at hrn ⊢
        have hpk : ((p + (i - p) : Nat) : Int) = (i : Int) := by omega
        refine Cod.skip fun a hS => ?_
        refine hK10 _ _ ?_ a hS
        refine Cod.seq fun K13 hK13 => ?_
        refine Cod.region ?_
        refine Ops.step (One.val rfl rfl rfl (yld_move rfl (ev_t rfl)) ?_)
        refine Ops.step (One.val rfl rfl rfl (yld_build (cells := (enc5 (x5 3 n ⟨#[]⟩ (.slice none 0 0) (.slice none 0 0)))) rfl (evp2 ev_c (ev_t rfl)) (by kernel_rfl)) ?_)
        refine Ops.step (One.val rfl rfl rfl (yld_move rfl (ev_t rfl)) ?_)
        refine Ops.step (One.storeN (vs := [_, _, _, _, _]) F5 0 rfl sz33 rfl rfl rfl (ev_t rfl) (ev_t rfl) rfl rfl rfl ?_)
        intro w7 F7
        change Fr _ _ [blk _ _ [_, _, _, _, _]] _ at F7
        refine Ops.step (One.val rfl rfl rfl (yld_assign rfl (ev_t rfl)) ?_)
        refine Ops.nil fun a hS => ?_
        refine hK13 _ _ ?_ a hS
        refine Cod.ret fun a hS => ?_
        try simp only [Exit.then, Exit.inBlock]
        exact retct (t := 4) (u := 5) (ty := 33) rfl hS ag33 rfl rfl (F7.range (m := 5) (cs' := [_, _, _, _, _]) 0 rfl rfl) rfl ⟨by rw [hrn]; unfold numV numP; simp only [Option.map_some, Option.elim_some, hpk]; rfl, F7.chg⟩


theorem l1AtI_ct (s : ByteArray) (i : Int) (c : UInt8) (h0 : 0 ≤ i) (w : World) : Calls Tryd.prog 52 #[.string s, .int .i64 i, .int .u8 (c.toNat : Int)] w fun e w' => e = .returned (.bool (hd (s.data.toList.drop i.toNat) c)) ∧ Chg No w w' := by
  obtain ⟨p, rfl⟩ := Int.eq_ofNat_of_zero_le h0
  exact l1At_ct s p c w
def stpO (r : Option (Stp × Nat)) : Stp := r.elim ⟨false, ⟨#[]⟩, 0⟩ (·.1)
def rdV (p : Nat) (r : Option (Stp × Nat)) : Value := .tuple #[.agg (pCells (stpO r)).toArray, .int .i64 (numP p r)]
theorem rdNum_le {l : List UInt8} {n : Int} {k : Nat} (h : rdNum l = some (n, k)) : k ≤ l.length := by
  unfold rdNum at h
  cases h1 : num1 (l.take (digN l)) with
  | none => rw [h1] at h; cases h
  | some m =>
    rw [h1] at h
    obtain ⟨-, rfl⟩ := Prod.mk.inj (Option.some.inj h)
    exact digN_le l
theorem rdStep_key {l : List UInt8} {s : Stp} {k : Nat} (h : rdStep l = some (s, k)) : s.key.size ≤ l.length := by
  have h1 := rdStep_sound h
  have h2 := congrArg List.length h1.1
  rw [List.length_take] at h2
  unfold stpL at h2
  split at h2
  · rw [List.length_cons, txt_len] at h2
    omega
  · rename_i hm
    unfold rdStep at h
    split at h
    · obtain ⟨rfl, -⟩ := Prod.mk.inj (Option.some.inj h)
      exact absurd rfl hm
    · split at h
      · split at h
        · cases h
        · split at h
          · obtain ⟨rfl, -⟩ := Prod.mk.inj (Option.some.inj h)
            exact Nat.zero_le _
          · cases h
      · cases h
theorem step_key {s : ByteArray} {p k : Nat} (h : hd (s.data.toList.drop p) 46 = true) (hk : letN (s.data.toList.drop (p + 1)) = k) : rdStep (s.data.toList.drop p) = some (⟨true, s.extract (p + 1) (p + 1 + k), 0⟩, 1 + k) := by
  unfold rdStep
  rw [if_pos h, List.drop_drop, hk]
  congr 3
  refine data_inj ?_
  rw [bs_list, ext_list]
  congr 1
  omega
theorem step_none {s : ByteArray} {p : Nat} (h : hd (s.data.toList.drop p) 46 = false) (h2 : hd (s.data.toList.drop p) 91 = false) : rdStep (s.data.toList.drop p) = none := by
  unfold rdStep
  rw [if_neg (by rw [h]; simp), if_neg (by rw [h2]; simp)]
theorem step_num {s : ByteArray} {p : Nat} (h : hd (s.data.toList.drop p) 46 = false) (h2 : hd (s.data.toList.drop p) 91 = true) : rdStep (s.data.toList.drop p) = (rdNum (s.data.toList.drop (p + 1))).bind fun x => if hd (s.data.toList.drop (p + 1 + x.2)) 93 = true then some (⟨false, ⟨#[]⟩, x.1⟩, 1 + x.2 + 1) else none := by
  unfold rdStep
  rw [if_neg (by rw [h]; simp), if_pos h2, List.drop_drop]
  cases rdNum (s.data.toList.drop (p + 1)) with
  | none => rfl
  | some x =>
    simp only [List.drop_drop, Option.bind_some]
    rw [show p + (1 + x.2) = p + 1 + x.2 by omega]

set_option maxRecDepth 100000 in
theorem l3Read_ct (s : ByteArray) (p : Nat) (hp : p < s.size) (hs : s.size ≤ 1048576) (w : World) : Calls Tryd.prog 53 #[.string s, .int .i64 (p : Int)] w fun e w' => e = .returned (rdV p (rdStep (s.data.toList.drop p))) ∧ Chg No w w' := by
  have hle : letN (s.data.toList.drop (p + 1)) ≤ s.size - (p + 1) := by
    have h : letN (s.data.toList.drop (p + 1)) ≤ (s.data.toList.drop (p + 1)).length := runN_le low _
    rw [List.length_drop, txt_len] at h
    exact h
  refine enter Tryd.func53 rfl rfl rfl ?_
  have F0 := Fr.start w
  refine Cod.seq fun K1 hK1 => ?_
  refine Cod.region ?_
  refine Ops.step (One.alloc F0 zero61 rfl rfl rfl rfl ?_)
  intro b1 w1 hb1 F1
  change Fr _ _ [blk _ _ [_, _, _]] _ at F1
  refine Ops.step (One.val rfl rfl rfl (yld_assign rfl ev_c) ?_)
  refine Ops.nil fun a hS => ?_
  refine hK1 _ _ ?_ a hS
  refine Cod.seq fun K2 hK2 => ?_
  refine Cod.seq fun K3 hK3 => ?_
  refine Cod.region ?_
  refine Ops.step (One.val rfl rfl rfl (yld_move rfl (ev_t rfl)) ?_)
  refine Ops.step (One.val rfl rfl rfl (yld_move rfl (ev_t rfl)) ?_)
  refine Ops.step (One.call rfl rfl rfl (ent_f rfl (evl3 (ev_t rfl) (ev_t rfl) ev_c) (enters en52)) (l1At_ct s p 46 _) (fun e w2 hw2 => ?_))
  obtain ⟨rfl, C2⟩ := hw2
  have F2 := F1.call C2
  refine ⟨_, rfl, ?_⟩
  refine Ops.nil fun a hS => ?_
  refine hK3 _ _ ?_ a hS
  refine Cod.cond rfl (fun hc11 => ?_) (fun hc11 => ?_)
  · skip
    obtain ⟨k, hk⟩ : ∃ k, letN (s.data.toList.drop (p + 1)) = k := ⟨_, rfl⟩
    rw [hk] at hle
    have hR := step_key hc11 hk
    refine Cod.seq fun K4 hK4 => ?_
    refine Cod.region ?_
    refine Ops.step (One.val rfl rfl rfl (yld_move rfl (ev_t rfl)) ?_)
    refine Ops.step (One.val rfl rfl rfl (yld_move rfl (ev_t rfl)) ?_)
    refine Ops.step (One.val rfl rfl rfl (yld_inc rfl (ev_t rfl) (fun _ => by omega)) ?_)
    refine Ops.step (One.call rfl rfl rfl (ent_f rfl (evl2 (ev_t rfl) (ev_t rfl)) (enters en87)) (l1Letters_ct s (p + 1) (by omega) hs _) (fun e w3 hw3 => ?_))
    obtain ⟨rfl, C3⟩ := hw3
    have F3 := F2.call C3
    refine ⟨_, rfl, ?_⟩
    refine Ops.step (One.val rfl rfl rfl (yld_assign rfl (ev_t rfl)) ?_)
    refine Ops.nil fun a hS => ?_
    refine hK4 _ _ ?_ a hS
    refine Cod.seq fun K5 hK5 => ?_
    rw [hk]
    refine Cod.region ?_
    refine Ops.step (One.val rfl rfl rfl (yld_move rfl (ev_t rfl)) ?_)
    refine Ops.step (One.val rfl rfl rfl (yld_move rfl (ev_t rfl)) ?_)
    refine Ops.step (One.val rfl rfl rfl (yld_inc rfl (ev_t rfl) (fun _ => by omega)) ?_)
    refine Ops.step (One.val rfl rfl rfl (yld_move rfl (ev_t rfl)) ?_)
    refine Ops.step (One.val rfl rfl rfl (yld_slcS st9 rfl (ev_t rfl) (ev_t rfl) (ev_t rfl) (by omega) (by omega)) ?_)
    refine Ops.step (One.val rfl rfl rfl (yld_build (cells := (pCells ⟨true, s.extract (p + 1) (p + 1 + k), 0⟩)) rfl (evp2 ev_c (ev_t rfl)) (by kernel_rfl)) ?_)
    refine Ops.step (One.val rfl rfl rfl (yld_move rfl (ev_t rfl)) ?_)
    refine Ops.step (One.storeN (vs := [_, _, _]) F3 0 rfl sz61 rfl rfl rfl (ev_t rfl) (ev_t rfl) rfl rfl rfl ?_)
    intro w4 F4
    change Fr _ _ [blk _ _ [_, _, _]] _ at F4
    refine Ops.step (One.val rfl rfl rfl (yld_assign rfl (ev_t rfl)) ?_)
    refine Ops.nil fun a hS => ?_
    refine hK5 _ _ ?_ a hS
    refine Cod.ret fun a hS => ?_
    try simp only [Exit.then, Exit.inBlock]
    have hpk : ((p + (1 + k) : Nat) : Int) = ((p + 1 + k : Nat) : Int) := by omega
    exact retct (t := 4) (u := 5) (ty := 61) rfl hS ag61 rfl rfl (F4.range (m := 3) (cs' := [_, _, _]) 0 rfl rfl) rfl ⟨by rw [hR]; unfold rdV numP; simp only [Option.elim_some, hpk]; rfl, F4.chg⟩
  · skip
    have h46 := hc11
    refine Cod.skip fun a hS => ?_
    refine hK2 _ _ ?_ a hS
    refine Cod.seq fun K6 hK6 => ?_
    refine Cod.seq fun K7 hK7 => ?_
    refine Cod.region ?_
    refine Ops.step (One.val rfl rfl rfl (yld_move rfl (ev_t rfl)) ?_)
    refine Ops.step (One.val rfl rfl rfl (yld_move rfl (ev_t rfl)) ?_)
    refine Ops.step (One.call rfl rfl rfl (ent_f rfl (evl3 (ev_t rfl) (ev_t rfl) ev_c) (enters en52)) (l1At_ct s p 91 _) (fun e w5 hw5 => ?_))
    obtain ⟨rfl, C5⟩ := hw5
    have F5 := F2.call C5
    refine ⟨_, rfl, ?_⟩
    refine Ops.step (One.val rfl rfl rfl (yld_not rfl (ev_t rfl)) ?_)
    refine Ops.nil fun a hS => ?_
    refine hK7 _ _ ?_ a hS
    refine Cod.cond rfl (fun hc26 => ?_) (fun hc26 => ?_)
    · skip
      have h91 : hd (s.data.toList.drop p) 91 = false := by
        have h := hc26
        cases hz : hd (s.data.toList.drop p) 91 with
        | false => rfl
        | true => rw [hz] at h; cases h
      have hR := step_none h46 h91
      refine Cod.seq fun K8 hK8 => ?_
      refine Cod.region ?_
      refine Ops.step (One.val rfl rfl rfl (yld_build (cells := (pCells ⟨false, ⟨#[]⟩, 0⟩)) rfl (evp0) (by kernel_rfl)) ?_)
      refine Ops.step (One.storeN (vs := [_, _, _]) F5 0 rfl sz61 rfl rfl rfl (ev_t rfl) (ev_t rfl) rfl rfl rfl ?_)
      intro w6 F6
      change Fr _ _ [blk _ _ [_, _, _]] _ at F6
      refine Ops.step (One.val rfl rfl rfl (yld_assign rfl ev_c) ?_)
      refine Ops.nil fun a hS => ?_
      refine hK8 _ _ ?_ a hS
      refine Cod.ret fun a hS => ?_
      try simp only [Exit.then, Exit.inBlock]
      exact retct (t := 4) (u := 5) (ty := 61) rfl hS ag61 rfl rfl (F6.range (m := 3) (cs' := [_, _, _]) 0 rfl rfl) rfl ⟨by rw [hR]; rfl, F6.chg⟩
    · skip
      have h91 : hd (s.data.toList.drop p) 91 = true := by
        have h := hc26
        cases hz : hd (s.data.toList.drop p) 91 with
        | false => rw [hz] at h; cases h
        | true => rfl
      obtain ⟨r, hr⟩ : ∃ r, rdNum (s.data.toList.drop (p + 1)) = r := ⟨_, rfl⟩
      have hR := step_num h46 h91
      rw [hr] at hR
      refine Cod.skip fun a hS => ?_
      refine hK6 _ _ ?_ a hS
      refine Cod.seq fun K9 hK9 => ?_
      refine Cod.region ?_
      refine Ops.step (One.val rfl rfl rfl (yld_move rfl (ev_t rfl)) ?_)
      refine Ops.step (One.val rfl rfl rfl (yld_move rfl (ev_t rfl)) ?_)
      refine Ops.step (One.val rfl rfl rfl (yld_inc rfl (ev_t rfl) (fun _ => by omega)) ?_)
      refine Ops.step (One.call rfl rfl rfl (ent_f rfl (evl2 (ev_t rfl) (ev_t rfl)) (enters en88)) (l1Num_ct s (p + 1) (by omega) hs _) (fun e w7 hw7 => ?_))
      obtain ⟨rfl, C7⟩ := hw7
      have F7 := F5.call C7
      refine ⟨_, rfl, ?_⟩
      refine Ops.step (One.val rfl rfl rfl (yld_move rfl (ev_t rfl)) ?_)
      refine Ops.step (One.val rfl rfl rfl (yld_extract rfl (ev_t rfl) rfl) ?_)
      refine Ops.step (One.val rfl rfl rfl (yld_extract rfl (ev_t rfl) rfl) ?_)
      refine Ops.step (One.alloc F7 zero33 rfl rfl rfl rfl ?_)
      intro b2 w8 hb2 F8
      change Fr _ _ [blk _ _ [_, _, _, _, _], blk _ _ [_, _, _]] _ at F8
      refine Ops.step (One.storeN (vs := [_, _, _, _, _]) F8 0 rfl sz33 rfl rfl rfl (ev_t rfl) (ev_t rfl) rfl rfl rfl ?_)
      intro w9 F9
      change Fr _ _ [blk _ _ [_, _, _, _, _], blk _ _ [_, _, _]] _ at F9
      refine Ops.step (One.val rfl rfl rfl (yld_assign rfl (ev_t rfl)) ?_)
      refine Ops.nil fun a hS => ?_
      refine hK9 _ _ ?_ a hS
      refine Cod.seq fun K10 hK10 => ?_
      refine Cod.seq fun K11 hK11 => ?_
      rw [hr]
      refine Cod.region ?_
      refine Ops.step (One.val rfl rfl rfl (yld_move rfl (ev_t rfl)) ?_)
      refine Ops.step (One.val rfl rfl rfl (yld_lss rfl (ev_t rfl) ev_c) ?_)
      refine Ops.step (One.val rfl rfl rfl (yld_move rfl (ev_t rfl)) ?_)
      refine Ops.step (One.val (gd_some rfl rfl) rfl rfl (yld_move rfl (ev_t rfl)) ?_)
      refine Ops.step (One.val (gd_some rfl rfl) rfl rfl (yld_move rfl (ev_t rfl)) ?_)
      refine Ops.step (One.gcall (R := Chg No w9) (gd_some rfl rfl) rfl rfl (ent_f rfl (evl3 (ev_g rfl) (ev_g rfl) ev_c) (enters en52)) (Chg.refl _ _) (fun hg => l1AtI_ct s _ 93 (by simp [gof] at hg; omega) _) ?_)
      intro w10 C10
      have F10 := F9.call C10
      refine Ops.step (One.val (gd_some rfl rfl) rfl rfl (yld_not rfl (ev_g rfl)) ?_)
      refine Ops.step (One.val rfl rfl rfl (yld_or rfl (ev_t rfl) (ev_g rfl)) ?_)
      refine Ops.nil fun a hS => ?_
      refine hK11 _ _ ?_ a hS
      refine Cod.cond rfl (fun hc42 => ?_) (fun hc42 => ?_)
      · skip
        have hno : rdStep (s.data.toList.drop p) = none := by
          rw [hR]
          cases r with
          | none => rfl
          | some x =>
            obtain ⟨n, k⟩ := x
            have h := hc42
            have e : numP (p + 1) (some ((n, k) : Int × Nat)) = ((p + 1 + k : Nat) : Int) := rfl
            rw [e] at h
            simp only [Option.bind_some]
            rw [if_neg]
            intro h93
            rw [Int.toNat_natCast, h93] at h
            simp at h
            omega
        refine Cod.seq fun K12 hK12 => ?_
        refine Cod.region ?_
        refine Ops.step (One.val rfl rfl rfl (yld_build (cells := (pCells ⟨false, ⟨#[]⟩, 0⟩)) rfl (evp0) (by kernel_rfl)) ?_)
        refine Ops.step (One.storeN (vs := [_, _, _]) F10 1 rfl sz61 rfl rfl rfl (ev_t rfl) (ev_t rfl) rfl rfl rfl ?_)
        intro w11 F11
        change Fr _ _ [blk _ _ [_, _, _, _, _], blk _ _ [_, _, _]] _ at F11
        refine Ops.step (One.val rfl rfl rfl (yld_assign rfl ev_c) ?_)
        refine Ops.nil fun a hS => ?_
        refine hK12 _ _ ?_ a hS
        refine Cod.ret fun a hS => ?_
        try simp only [Exit.then, Exit.inBlock]
        exact retct (t := 4) (u := 5) (ty := 61) rfl hS ag61 rfl rfl (F11.range (m := 3) (cs' := [_, _, _]) 1 rfl rfl) rfl ⟨by rw [hno]; rfl, F11.chg⟩
      · skip
        obtain ⟨n, k, rfl, h93⟩ : ∃ n k, r = some (n, k) ∧ hd (s.data.toList.drop (p + 1 + k)) 93 = true := by
          have h := hc42
          cases r with
          | none => simp [numP] at h
          | some x =>
            obtain ⟨n, k⟩ := x
            have e : numP (p + 1) (some ((n, k) : Int × Nat)) = ((p + 1 + k : Nat) : Int) := rfl
            rw [e, Int.toNat_natCast] at h
            refine ⟨n, k, rfl, ?_⟩
            cases hz : hd (s.data.toList.drop (p + 1 + k)) 93 with
            | true => rfl
            | false => rw [hz] at h; simp at h
        simp only [Option.bind_some, h93, if_true] at hR
        have hkl := rdNum_le hr
        rw [List.length_drop, txt_len] at hkl
        have eP : numP (p + 1) (some ((n, k) : Int × Nat)) = ((p + 1 + k : Nat) : Int) := rfl
        have eI : numI (some ((n, k) : Int × Nat)) = n := rfl
        rw [eP]
        rw [hr] at F10
        change Fr _ _ [blk _ _ [_, .int .i64 n, _, _, _], _] _ at F10
        refine Cod.skip fun a hS => ?_
        refine hK10 _ _ ?_ a hS
        refine Cod.seq fun K13 hK13 => ?_
        refine Cod.region ?_
        refine Ops.step (One.val rfl rfl rfl (yld_field fi33_1 rfl (ev_t rfl)) ?_)
        refine Ops.step (One.val rfl rfl rfl (yld_load1 on3 rfl (ev_t rfl) (fun _ => F10.cell 0 rfl rfl)) ?_)
        refine Ops.step (One.val rfl rfl rfl (yld_build (cells := (pCells ⟨false, ⟨#[]⟩, n⟩)) rfl (evp1 (ev_t rfl)) (by kernel_rfl)) ?_)
        refine Ops.step (One.val rfl rfl rfl (yld_move rfl (ev_t rfl)) ?_)
        refine Ops.step (One.val rfl rfl rfl (yld_inc rfl (ev_t rfl) (fun _ => by omega)) ?_)
        refine Ops.step (One.storeN (vs := [_, _, _]) F10 1 rfl sz61 rfl rfl rfl (ev_t rfl) (ev_t rfl) rfl rfl rfl ?_)
        intro w12 F12
        change Fr _ _ [blk _ _ [_, _, _, _, _], blk _ _ [_, _, _]] _ at F12
        refine Ops.step (One.val rfl rfl rfl (yld_assign rfl (ev_t rfl)) ?_)
        refine Ops.nil fun a hS => ?_
        refine hK13 _ _ ?_ a hS
        refine Cod.ret fun a hS => ?_
        try simp only [Exit.then, Exit.inBlock]
        have hpk : ((p + (1 + k + 1) : Nat) : Int) = ((p + 1 + k + 1 : Nat) : Int) := by omega
        exact retct (t := 4) (u := 5) (ty := 61) rfl hS ag61 rfl rfl (F12.range (m := 3) (cs' := [_, _, _]) 1 rfl rfl) rfl ⟨by rw [hR]; unfold rdV numP; simp only [Option.elim_some, hpk]; rfl, F12.chg⟩

end Go.Proofs.YtpfkcblhojkaiaaDoor.Eng
