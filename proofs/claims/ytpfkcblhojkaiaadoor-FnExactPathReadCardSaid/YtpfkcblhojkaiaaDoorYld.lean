/- What each kind of operation yields, by the slots that it reads. No statement of the seat is proved here. -/
import Derived.Test.YtpfkcblhojkaiaaDoorEng
namespace Go.Proofs.YtpfkcblhojkaiaaDoor.Eng
open Go.RowKit
set_option linter.unusedVariables false
set_option linter.unusedSimpArgs false

/-! ### The program's types, by closed tests -/
def oneT (P : Program) (t : TypeId) : Bool :=
  match P.underlying t, P.info? t with
  | some (.struct _), _ => false
  | some (.array ..), _ => false
  | some _, some i => i.size == 1
  | _, _ => false
def aggT (P : Program) (t : TypeId) (m : Nat) : Bool :=
  match P.underlying t, P.info? t with
  | some (.struct _), some i => i.size == m
  | _, _ => false
def sizeT (P : Program) (t : TypeId) (m : Nat) : Bool :=
  match P.info? t with
  | some i => i.size == m
  | _ => false
def sliceT (P : Program) (t e : TypeId) (m bytes : Nat) : Bool :=
  match P.underlying t, P.info? e with
  | some (.slice e'), some i => e' == e && i.size == m && i.bytes == bytes
  | _, _ => false
def fieldT (P : Program) (s : TypeId) (f off : Nat) : Bool :=
  match P.underlying s with
  | some (.struct fs) =>
    match fs[f]? with
    | some fl => fl.offset == off && (match P.info? fl.type with | some i => i.size != 0 | none => false)
    | none => false
  | _ => false
def strT (P : Program) (t : TypeId) : Bool := match P.underlying t with | some .string => true | _ => false

theorem aggT_row {P t m} (h : aggT P t m = true) : ∃ d, P.underlying t = some d ∧ d.isRow = true ∧ (P.info? t).map (·.size) = some m := by
  unfold aggT at h
  split at h
  · rename_i fs i h1 h2
    exact ⟨_, h1, rfl, by simpa [h2] using h⟩
  · cases h
theorem oneT_one {P t} (h : oneT P t = true) : ∃ d, P.underlying t = some d ∧ d.isRow = false ∧ (P.info? t).map (·.size) = some 1 := by
  unfold oneT at h
  split at h
  · cases h
  · cases h
  · rename_i d i h1 h2 h3 h4
    refine ⟨d, h3, ?_, by simpa [h4] using h⟩
    cases d <;> simp_all [TypeDesc.isRow]
  · cases h
theorem sizeT_size {P t m} (h : sizeT P t m = true) : (P.info? t).map (·.size) = some m := by
  unfold sizeT at h
  split at h
  · simp_all
  · cases h
theorem sliceT_spec {P t e m bytes} (h : sliceT P t e m bytes = true) : P.underlying t = some (.slice e) ∧ ∃ i, P.info? e = some i ∧ i.size = m ∧ i.bytes = bytes := by
  unfold sliceT at h
  split at h
  · rename_i e' i h1 h2
    simp at h
    obtain ⟨⟨rfl, h3⟩, h4⟩ := h
    exact ⟨h1, i, h2, h3, h4⟩
  · cases h
theorem fieldT_spec {P s f off} (h : fieldT P s f off = true) : ∃ fs fl i, P.underlying s = some (.struct fs) ∧ fs[f]? = some fl ∧ fl.offset = off ∧ P.info? fl.type = some i ∧ i.size ≠ 0 := by
  unfold fieldT at h
  split at h
  · rename_i fs h1
    split at h
    · rename_i fl h2
      simp only [Bool.and_eq_true, beq_iff_eq] at h
      obtain ⟨h3, h4⟩ := h
      split at h4
      · rename_i i h5
        exact ⟨fs, fl, i, h1, h2, h3, h5, by simpa using h4⟩
      · cases h4
    · cases h
  · cases h
theorem strT_spec {P t} (h : strT P t = true) : P.underlying t = some .string := by
  unfold strT at h
  split at h
  · assumption
  · cases h

section
variable {P : Program} {n : Nat} {S : Env} {o : Oper} {g : Bool} {w : World} {v : Value} {x y z : Operand}

theorem yld_move (ho : o.op = .move x) (hx : Ev S g x v) : Yld P n S o g w v := fun a hs hg => by
  have ex := hx n a hs hg
  generalize a.eval = ρ at ex ⊢
  simp [execOp, ho, ex]
theorem yld_assign (ho : o.op = .assign x) (hx : Ev S g x v) : Yld P n S o g w v := fun a hs hg => by
  have ex := hx n a hs hg
  generalize a.eval = ρ at ex ⊢
  simp [execOp, ho, ex]

theorem yld_and {b1 b2 : Bool} (ho : o.op = .pick x y (.const (.bool false))) (hx : Ev S g x (.bool b1)) (hy : Ev S (g && b1) y (.bool b2)) : Yld P n S o g w (.bool (b1 && b2)) := fun a hs hg => by
  have ex := hx n a hs hg
  have ey := hy n a hs
  have ec : a.eval (.const (.bool false)) = .bool false := rfl
  generalize a.eval = ρ at ex ey ec ⊢
  cases b1 with
  | false => simp [execOp, ho, ex, asBool, ec]
  | true => simp [execOp, ho, ex, asBool, ey (by simp [hg])]
theorem yld_or {b1 b2 : Bool} (ho : o.op = .pick x (.const (.bool true)) y) (hx : Ev S g x (.bool b1)) (hy : Ev S (g && !b1) y (.bool b2)) : Yld P n S o g w (.bool (b1 || b2)) := fun a hs hg => by
  have ex := hx n a hs hg
  have ey := hy n a hs
  have ec : a.eval (.const (.bool true)) = .bool true := rfl
  generalize a.eval = ρ at ex ey ec ⊢
  cases b1 with
  | true => simp [execOp, ho, ex, asBool, ec]
  | false => simp [execOp, ho, ex, asBool, ey (by simp [hg])]

theorem yld_not {b : Bool} {t : TypeId} (ho : o.op = .unOp .not t x) (hx : Ev S g x (.bool b)) : Yld P n S o g w (.bool (!b)) := fun a hs hg => by
  have ex := hx n a hs hg
  generalize a.eval = ρ at ex ⊢
  simp [execOp, ho, ex, Op.unary]

section
variable {t t' : TypeId} {k : IntKind} {i j : Int}
theorem yld_eql (ho : o.op = .binOp .eql t x y t') (hx : Ev S g x (.int k i)) (hy : Ev S g y (.int k j)) : Yld P n S o g w (.bool (i == j)) := fun a hs hg => by
  have ex := hx n a hs hg
  have ey := hy n a hs hg
  generalize a.eval = ρ at ex ey ⊢
  simp [execOp, ho, ex, ey, go_sem]
theorem yld_neq (ho : o.op = .binOp .neq t x y t') (hx : Ev S g x (.int k i)) (hy : Ev S g y (.int k j)) : Yld P n S o g w (.bool (i != j)) := fun a hs hg => by
  have ex := hx n a hs hg
  have ey := hy n a hs hg
  generalize a.eval = ρ at ex ey ⊢
  simp [execOp, ho, ex, ey, go_sem]
theorem yld_lss (ho : o.op = .binOp .lss t x y t') (hx : Ev S g x (.int k i)) (hy : Ev S g y (.int k j)) : Yld P n S o g w (.bool (decide (i < j))) := fun a hs hg => by
  have ex := hx n a hs hg
  have ey := hy n a hs hg
  generalize a.eval = ρ at ex ey ⊢
  simp [execOp, ho, ex, ey, go_sem]
theorem yld_leq (ho : o.op = .binOp .leq t x y t') (hx : Ev S g x (.int k i)) (hy : Ev S g y (.int k j)) : Yld P n S o g w (.bool (decide (i ≤ j))) := fun a hs hg => by
  have ex := hx n a hs hg
  have ey := hy n a hs hg
  generalize a.eval = ρ at ex ey ⊢
  simp [execOp, ho, ex, ey, go_sem]
theorem yld_gtr (ho : o.op = .binOp .gtr t x y t') (hx : Ev S g x (.int k i)) (hy : Ev S g y (.int k j)) : Yld P n S o g w (.bool (decide (j < i))) := fun a hs hg => by
  have ex := hx n a hs hg
  have ey := hy n a hs hg
  generalize a.eval = ρ at ex ey ⊢
  simp [execOp, ho, ex, ey, go_sem]
theorem yld_geq (ho : o.op = .binOp .geq t x y t') (hx : Ev S g x (.int k i)) (hy : Ev S g y (.int k j)) : Yld P n S o g w (.bool (decide (j ≤ i))) := fun a hs hg => by
  have ex := hx n a hs hg
  have ey := hy n a hs hg
  generalize a.eval = ρ at ex ey ⊢
  simp [execOp, ho, ex, ey, go_sem]
theorem yld_add (ho : o.op = .binOp .add t x y t') (hx : Ev S g x (.int .i64 i)) (hy : Ev S g y (.int .i64 j)) (hb : g = true → -9223372036854775808 ≤ i + j ∧ i + j ≤ 9223372036854775807) : Yld P n S o g w (.int .i64 (i + j)) := fun a hs hg => by
  have ex := hx n a hs hg
  have ey := hy n a hs hg
  generalize a.eval = ρ at ex ey ⊢
  simp only [execOp, ho, ex, ey, eqGuard_add, binOp_add, Op.intArith, IntWalk.i64_in _ (hb hg)]; simp
theorem yld_sub (ho : o.op = .binOp .sub t x y t') (hx : Ev S g x (.int .i64 i)) (hy : Ev S g y (.int .i64 j)) (hb : g = true → -9223372036854775808 ≤ i - j ∧ i - j ≤ 9223372036854775807) : Yld P n S o g w (.int .i64 (i - j)) := fun a hs hg => by
  have ex := hx n a hs hg
  have ey := hy n a hs hg
  generalize a.eval = ρ at ex ey ⊢
  simp only [execOp, ho, ex, ey, eqGuard_sub, binOp_sub, Op.intArith, IntWalk.i64_in _ (hb hg)]; simp
theorem yld_mul (ho : o.op = .binOp .mul t x y t') (hx : Ev S g x (.int .i64 i)) (hy : Ev S g y (.int .i64 j)) (hb : g = true → -9223372036854775808 ≤ i * j ∧ i * j ≤ 9223372036854775807) : Yld P n S o g w (.int .i64 (i * j)) := fun a hs hg => by
  have ex := hx n a hs hg
  have ey := hy n a hs hg
  generalize a.eval = ρ at ex ey ⊢
  simp only [execOp, ho, ex, ey, eqGuard_mul, binOp_mul, Op.intArith, IntWalk.i64_in _ (hb hg)]; simp
theorem yld_inc {m : Nat} (ho : o.op = .binOp .add t x (.const (.int .i64 1)) t') (hx : Ev S g x (.int .i64 (m : Int))) (hb : g = true → m < 9223372036854775807) : Yld P n S o g w (.int .i64 ((m + 1 : Nat) : Int)) := fun a hs hg => by
  have ex := hx n a hs hg
  have ec : a.eval (.const (.int .i64 1)) = .int .i64 1 := rfl
  generalize a.eval = ρ at ex ec ⊢
  have := hb hg
  simp only [execOp, ho, ex, ec, eqGuard_add, binOp_add, Op.intArith]
  rw [IntWalk.i64_in _ (by omega)]; simp
end

section
variable {t t' : TypeId} {s u : ByteArray}
theorem bytes_beq (s u : ByteArray) : (s.toList == u.toList) = decide (s = u) := by
  by_cases h : s = u
  · subst h; simp
  · rw [decide_eq_false h, beq_eq_false_iff_ne]
    intro e
    apply h
    rw [ByteArray.toList_eq, ByteArray.toList_eq] at e
    cases s; cases u
    simp only [ByteArray.mk.injEq]
    exact Array.toList_inj.1 e
theorem yld_seql (ho : o.op = .binOp .eql t x y t') (hx : Ev S g x (.string s)) (hy : Ev S g y (.string u)) : Yld P n S o g w (.bool (decide (s = u))) := fun a hs hg => by
  have ex := hx n a hs hg
  have ey := hy n a hs hg
  generalize a.eval = ρ at ex ey ⊢
  simp only [execOp, ho, ex, ey, eqGuard_at_string, binOp_string_eql, bytes_beq]; simp
theorem yld_sneq (ho : o.op = .binOp .neq t x y t') (hx : Ev S g x (.string s)) (hy : Ev S g y (.string u)) : Yld P n S o g w (.bool (!decide (s = u))) := fun a hs hg => by
  have ex := hx n a hs hg
  have ey := hy n a hs hg
  generalize a.eval = ρ at ex ey ⊢
  simp only [execOp, ho, ex, ey, eqGuard_at_string, binOp_string_neq, bytes_beq]; simp
theorem yld_slss (ho : o.op = .binOp .lss t x y t') (hx : Ev S g x (.string s)) (hy : Ev S g y (.string u)) : Yld P n S o g w (.bool (Op.bytesLess s.toList u.toList)) := fun a hs hg => by
  have ex := hx n a hs hg
  have ey := hy n a hs hg
  generalize a.eval = ρ at ex ey ⊢
  simp [execOp, ho, ex, ey, binOp, Op.stringOp, go_sem]
theorem yld_sleq (ho : o.op = .binOp .leq t x y t') (hx : Ev S g x (.string s)) (hy : Ev S g y (.string u)) : Yld P n S o g w (.bool (Op.bytesLess s.toList u.toList || decide (s = u))) := fun a hs hg => by
  have ex := hx n a hs hg
  have ey := hy n a hs hg
  generalize a.eval = ρ at ex ey ⊢
  simp [execOp, ho, ex, ey, binOp, Op.stringOp, go_sem, bytes_beq]
theorem yld_sgtr (ho : o.op = .binOp .gtr t x y t') (hx : Ev S g x (.string s)) (hy : Ev S g y (.string u)) : Yld P n S o g w (.bool (!(Op.bytesLess s.toList u.toList || decide (s = u)))) := fun a hs hg => by
  have ex := hx n a hs hg
  have ey := hy n a hs hg
  generalize a.eval = ρ at ex ey ⊢
  simp [execOp, ho, ex, ey, binOp, Op.stringOp, go_sem, bytes_beq]
theorem yld_sgeq (ho : o.op = .binOp .geq t x y t') (hx : Ev S g x (.string s)) (hy : Ev S g y (.string u)) : Yld P n S o g w (.bool (!Op.bytesLess s.toList u.toList)) := fun a hs hg => by
  have ex := hx n a hs hg
  have ey := hy n a hs hg
  generalize a.eval = ρ at ex ey ⊢
  simp [execOp, ho, ex, ey, binOp, Op.stringOp, go_sem]
theorem yld_sadd (ho : o.op = .binOp .add t x y t') (hx : Ev S g x (.string s)) (hy : Ev S g y (.string u)) (hb : g = true → s.size + u.size ≤ 9223372036854775807) : Yld P n S o g w (.string (s ++ u)) := fun a hs hg => by
  have ex := hx n a hs hg
  have ey := hy n a hs hg
  generalize a.eval = ρ at ex ey ⊢
  have h : ¬ ((s.size + u.size : Nat) : Int) > IntKind.i64.max := by have := hb hg; simp only [IntKind.max_i64]; omega
  simp only [execOp, ho, ex, ey, eqGuard_at_string, binOp, Op.stringOp, if_neg h]; simp
theorem yld_beql {b c : Bool} (ht : P.underlying t = some .bool) (ho : o.op = .binOp .eql t x y t') (hx : Ev S g x (.bool b)) (hy : Ev S g y (.bool c)) : Yld P n S o g w (.bool (b == c)) := fun a hs hg => by
  have ex := hx n a hs hg
  have ey := hy n a hs hg
  generalize a.eval = ρ at ex ey ⊢
  simp [execOp, ho, ex, ey, go_sem, binOp, run_equal_bool w t b c ht]
theorem yld_bneq {b c : Bool} (ht : P.underlying t = some .bool) (ho : o.op = .binOp .neq t x y t') (hx : Ev S g x (.bool b)) (hy : Ev S g y (.bool c)) : Yld P n S o g w (.bool (b != c)) := fun a hs hg => by
  have ex := hx n a hs hg
  have ey := hy n a hs hg
  generalize a.eval = ρ at ex ey ⊢
  simp [execOp, ho, ex, ey, go_sem, binOp, run_equal_bool w t b c ht]
  cases b <;> cases c <;> rfl
end

theorem yld_len {t : TypeId} {A : Option Addr} {m c : Nat} {e : TypeId} {sz by' : Nat} (ht : sliceT P t e sz by' = true) (ho : o.op = .call { callee := .builtin .len, args := #[x], argTypes := #[t] }) (hx : Ev S g x (.slice A m c)) : Yld P n S o g w (.int .i64 m) := fun a hs hg => by
  have ex := hx n a hs hg
  generalize a.eval = ρ at ex ⊢
  have h := (sliceT_spec ht).1
  simp [execOp, ho, resolve, ex, invoke, builtin, go_sem, Program.elem, h, goInt]
theorem yld_slen {t : TypeId} {s : ByteArray} (ht : strT P t = true) (ho : o.op = .call { callee := .builtin .len, args := #[x], argTypes := #[t] }) (hx : Ev S g x (.string s)) : Yld P n S o g w (.int .i64 s.size) := fun a hs hg => by
  have ex := hx n a hs hg
  generalize a.eval = ρ at ex ⊢
  have h := strT_spec ht
  simp [execOp, ho, resolve, ex, invoke, builtin, go_sem, h, goInt]

theorem yld_field {s : TypeId} {f off b q : Nat} (ht : fieldT P s f off = true) (ho : o.op = .fieldAddr s x f) (hx : Ev S g x (.pointer (some ⟨b, q, none⟩))) : Yld P n S o g w (.pointer (some ⟨b, q + off, none⟩)) := fun a hs hg => by
  have ex := hx n a hs hg
  generalize a.eval = ρ at ex ⊢
  obtain ⟨fs, fl, i, h1, h2, h3, h4, h5⟩ := fieldT_spec ht
  simp [execOp, ho, ex, Instr.fieldAt, run_underlying h1, h2, Instr.sureAddr, fieldPlace, sizeOf, typeInfo, h4, h5, h3, Addr.add_mid]

theorem yld_index {t e : TypeId} {m by' b q len cap : Nat} {k : IntKind} {i : Int} (ht : sliceT P t e m by' = true) (ho : o.op = .indexAddr t x y) (hx : Ev S g x (.slice (some ⟨b, q, none⟩) len cap)) (hy : Ev S g y (.int k i)) (hb : g = true → 0 ≤ i ∧ i < (len : Int)) :
    Yld P n S o g w (.pointer (some ⟨b, q + i.toNat * m, none⟩)) := fun a hs hg => by
  obtain ⟨h1, j, h2, h3, h4⟩ := sliceT_spec ht
  simp [execOp, ho, hx n a hs hg, hy n a hs hg, Instr.indexAt, run_underlying h1, asIntOf, sizeOf, typeInfo, h2, h3, hb hg, Addr.add_mid]

theorem yld_indexN {t e : TypeId} {m by' b q len cap i : Nat} {k : IntKind} (ht : sliceT P t e m by' = true) (ho : o.op = .indexAddr t x y) (hx : Ev S g x (.slice (some ⟨b, q, none⟩) len cap)) (hy : Ev S g y (.int k (i : Int))) (hb : g = true → i < len) :
    Yld P n S o g w (.pointer (some ⟨b, q + i * m, none⟩)) := fun a hs hg => by
  have := yld_index (P := P) (w := w) ht ho hx hy (fun hg => ⟨by omega, by have := hb hg; omega⟩) a hs hg
  simpa using this

theorem yld_load1 {t : TypeId} {ad : Addr} (ht : oneT P t = true) (ho : o.op = .load t x) (hx : Ev S g x (.pointer (some ad))) (hc : g = true → w.cell? ad = some v) : Yld P n S o g w v := fun a hs hg => by
  have ex := hx n a hs hg
  generalize a.eval = ρ at ex ⊢
  obtain ⟨d, h1, h2, h3⟩ := oneT_one ht
  have hagg : (isAgg t).run P w = .ok false w := by
    unfold isAgg
    rw [Sem.run_bind, run_underlying h1 w]
    cases d <;> simp_all [TypeDesc.isRow]
  simp [execOp, ho, ex, Instr.loadAt, Instr.sureAddr, loadVar, Sem.run_bind, hagg, hc hg]

theorem yld_loadN {t : TypeId} {b q m : Nat} {cs : List Value} (ht : aggT P t m = true) (ho : o.op = .load t x) (hx : Ev S g x (.pointer (some ⟨b, q, none⟩))) (hc : g = true → w.rangeAt b q cs) (hl : cs.length = m) : Yld P n S o g w (.agg cs.toArray) := fun a hs hg => by
  have ex := hx n a hs hg
  generalize a.eval = ρ at ex ⊢
  obtain ⟨d, h1, h2, h3⟩ := aggT_row ht
  subst hl
  simp only [execOp, ho, ex, Sem.run_bind, run_loadAt_mid w b q t cs d (hc hg) h1 h2 h3, Result.andThen_ok]
  simp

theorem yld_extract {vs : Array Value} {i : Nat} (ho : o.op = .extract x i) (hx : Ev S g x (.tuple vs)) (hv : vs[i]? = some v) : Yld P n S o g w v := fun a hs hg => by
  have ex := hx n a hs hg
  generalize a.eval = ρ at ex ⊢
  simp [execOp, ho, ex, Instr.extract, hv]

theorem yld_nilCheck {ad : Addr} (ho : o.op = .nilCheck x) (hx : Ev S g x (.pointer (some ad))) : Yld P n S o g w (.pointer (some ad)) := fun a hs hg => by
  have ex := hx n a hs hg
  generalize a.eval = ρ at ex ⊢
  simp [execOp, ho, ex]

theorem yld_conv {src dst : TypeId} {k k' : IntKind} {i : Int} (h1 : P.underlying src = some (.int k)) (h2 : P.underlying dst = some (.int k')) (ho : o.op = .convert src dst x) (hx : Ev S g x (.int k i)) : Yld P n S o g w (.int k' (k'.wrap i)) := fun a hs hg => by
  have ex := hx n a hs hg
  generalize a.eval = ρ at ex ⊢
  simp only [execOp, ho, ex, Sem.run_bind]
  rw [run_convert_int w src dst k i (by simp [h1]) (by simp [h2, Program.intKind])]
  simp [Program.intKind, h2]

theorem yld_sindex {t : TypeId} {s : ByteArray} {i : Int} (ht : strT P t = true) (ho : o.op = .index t x y) (hx : Ev S g x (.string s)) (hy : Ev S g y (.int .i64 i)) (h0 : g = true → 0 ≤ i) (h : i.toNat < s.size) : Yld P n S o g w (.int .u8 (s[i.toNat]'h).toNat) := fun a hs hg => by
  have ex := hx n a hs hg
  have ey := hy n a hs hg
  generalize a.eval = ρ at ex ey ⊢
  have h1 := strT_spec ht
  have h2 := h0 hg
  have h3 : i < s.size := by omega
  simp [execOp, ho, ex, ey, Instr.index, run_underlying h1, asIntOf, h2, h3, ByteArray.getElem?_lt' s _ h]

theorem yld_sindexN {t : TypeId} {s : ByteArray} {i : Nat} (ht : strT P t = true) (ho : o.op = .index t x y) (hx : Ev S g x (.string s)) (hy : Ev S g y (.int .i64 (i : Int))) (h : i < s.size) : Yld P n S o g w (.int .u8 (s[i]'h).toNat) := by
  have := yld_sindex (P := P) (n := n) (w := w) (i := (i : Int)) ht ho hx hy (fun _ => by omega) (by simpa using h)
  simpa using this

theorem yld_func {f : FuncId} {caps : Array Operand} {cv : Array Value} (ho : o.op = .makeFunc (.func f) #[] caps) (hc : ∀ n a, St n S a → g = true → caps.map a.eval = cv) : Yld P n S o g w (.func (.func f) #[] cv) := fun a hs hg => by
  simp [execOp, ho, Instr.makeFunc, hc n a hs hg]

/-! ### Calls: what is entered -/
theorem evl0 : ∀ n a, St n S a → g = true → (#[] : Array Operand).map a.eval = #[] := fun _ _ _ _ => by simp
theorem evl1 {v1 : Value} {x1 : Operand} (h1 : Ev S g x1 v1) : ∀ n a, St n S a → g = true → #[x1].map a.eval = #[v1] := fun n a hs hg => by simp [h1 n a hs hg]
theorem evl2 {v1 v2 : Value} {x1 x2 : Operand} (h1 : Ev S g x1 v1) (h2 : Ev S g x2 v2) : ∀ n a, St n S a → g = true → #[x1, x2].map a.eval = #[v1, v2] := fun n a hs hg => by simp [h1 n a hs hg, h2 n a hs hg]
theorem evl3 {v1 v2 v3 : Value} {x1 x2 x3 : Operand} (h1 : Ev S g x1 v1) (h2 : Ev S g x2 v2) (h3 : Ev S g x3 v3) : ∀ n a, St n S a → g = true → #[x1, x2, x3].map a.eval = #[v1, v2, v3] := fun n a hs hg => by simp [h1 n a hs hg, h2 n a hs hg, h3 n a hs hg]
theorem evl4 {v1 v2 v3 v4 : Value} {x1 x2 x3 x4 : Operand} (h1 : Ev S g x1 v1) (h2 : Ev S g x2 v2) (h3 : Ev S g x3 v3) (h4 : Ev S g x4 v4) : ∀ n a, St n S a → g = true → #[x1, x2, x3, x4].map a.eval = #[v1, v2, v3, v4] := fun n a hs hg => by simp [h1 n a hs hg, h2 n a hs hg, h3 n a hs hg, h4 n a hs hg]
theorem evl5 {v1 v2 v3 v4 v5 : Value} {x1 x2 x3 x4 x5 : Operand} (h1 : Ev S g x1 v1) (h2 : Ev S g x2 v2) (h3 : Ev S g x3 v3) (h4 : Ev S g x4 v4) (h5 : Ev S g x5 v5) : ∀ n a, St n S a → g = true → #[x1, x2, x3, x4, x5].map a.eval = #[v1, v2, v3, v4, v5] := fun n a hs hg => by simp [h1 n a hs hg, h2 n a hs hg, h3 n a hs hg, h4 n a hs hg, h5 n a hs hg]
def entT (P : Program) (f : FuncId) : Bool := match P.funcs[f]? with | some fn => fn.name != "runtime.NumGoroutine" && fn.body.isSome | none => false
theorem enters {f : FuncId} {vs : Array Value} (h : entT P f = true) : ∀ w, (callFunc f vs).run P w = .ok (.enter f vs) w := fun w => by
  unfold entT at h
  split at h
  · rename_i fn hf
    simp only [Bool.and_eq_true, bne_iff_ne] at h
    obtain ⟨b, hb⟩ := Option.isSome_iff_exists.1 h.2
    simp [callFunc, hf, h.1, hb]
  · cases h
theorem ent_f {f : FuncId} {args : Array Operand} {ats : Array TypeId} {vs : Array Value} (ho : o.op = .call { callee := .value (.func f), args := args, argTypes := ats }) (hv : ∀ n a, St n S a → g = true → args.map a.eval = vs) (hp : ∀ w, (callFunc f vs).run P w = .ok (.enter f vs) w) :
    ∀ a, St n S a → g = true → (execOp a.eval o).run P w = .ok (.enter f vs) w := fun a hs hg => by
  simp [execOp, ho, resolve, hv n a hs hg, Act.eval, Deferred.ofValue, invoke, hp]
theorem ent_c {f : FuncId} {args : Array Operand} {ats : Array TypeId} {vs cv : Array Value} (ho : o.op = .call { callee := .value x, args := args, argTypes := ats }) (hx : Ev S g x (.func (.func f) #[] cv)) (hv : ∀ n a, St n S a → g = true → args.map a.eval = vs) (hp : ∀ w, (callFunc f (vs ++ cv)).run P w = .ok (.enter f (vs ++ cv)) w) :
    ∀ a, St n S a → g = true → (execOp a.eval o).run P w = .ok (.enter f (vs ++ cv)) w := fun a hs hg => by
  have ex := hx n a hs hg
  have ev := hv n a hs hg
  generalize a.eval = ρ at ex ev ⊢
  simp [execOp, ho, resolve, ev, ex, Deferred.ofValue, invoke, hp]
theorem ent_c0 {f : FuncId} {args : Array Operand} {ats : Array TypeId} {vs : Array Value} (ho : o.op = .call { callee := .value x, args := args, argTypes := ats }) (hx : Ev S g x (.func (.func f) #[] #[])) (hv : ∀ n a, St n S a → g = true → args.map a.eval = vs) (hp : ∀ w, (callFunc f vs).run P w = .ok (.enter f vs) w) :
    ∀ a, St n S a → g = true → (execOp a.eval o).run P w = .ok (.enter f vs) w := fun a hs hg => by
  have := ent_c (P := P) (w := w) ho hx hv (by simpa using hp) a hs hg
  simpa using this
end
end Go.Proofs.YtpfkcblhojkaiaaDoor.Eng
