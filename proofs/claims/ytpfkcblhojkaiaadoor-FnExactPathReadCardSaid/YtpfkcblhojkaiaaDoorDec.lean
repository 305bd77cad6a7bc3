/- Quotient and remainder, bytes that become a text; what a marked tree is. No statement of the seat is proved here. -/
import Derived.Test.YtpfkcblhojkaiaaDoorApp
namespace Go.Proofs.YtpfkcblhojkaiaaDoor.Eng
open Go.RowKit
set_option linter.unusedVariables false
set_option linter.unusedSimpArgs false

section
variable {P : Program} {n : Nat} {S : Env} {o : Oper} {g : Bool} {v : Value} {w : World} {x y : Operand} {t t' : TypeId}
theorem yld_rem {i j : Nat} (ho : o.op = .binOp .rem t x y t') (hx : Ev S g x (.int .i64 (i : Int))) (hy : Ev S g y (.int .i64 (j : Int))) (hj : 0 < j) : Yld P n S o g w (.int .i64 ((i % j : Nat) : Int)) := fun a hs hg => by
  have ex := hx n a hs hg
  have ey := hy n a hs hg
  generalize a.eval = ρ at ex ey ⊢
  have hj' : ¬ ((j : Int) = 0) := by omega
  simp only [execOp, ho, ex, ey, binOp_rem, Op.intDiv]
  simp [eqGuard, hj', hj, Int.tmod_eq_emod_of_nonneg, Nat.pos_iff_ne_zero.1 hj]
theorem yld_quo {i j : Nat} (ho : o.op = .binOp .quo t x y t') (hx : Ev S g x (.int .i64 (i : Int))) (hy : Ev S g y (.int .i64 (j : Int))) (hj : 0 < j) (hi : i ≤ 9223372036854775807) : Yld P n S o g w (.int .i64 ((i / j : Nat) : Int)) := fun a hs hg => by
  have ex := hx n a hs hg
  have ey := hy n a hs hg
  generalize a.eval = ρ at ex ey ⊢
  have hj' : ¬ ((j : Int) = 0) := by omega
  have hq : (i : Int).tdiv j = ((i / j : Nat) : Int) := by rw [Int.tdiv_eq_ediv_of_nonneg (by omega)]; simp
  have hle : i / j ≤ i := Nat.div_le_self _ _
  have hwr0 : ∀ q : Nat, q ≤ i → IntKind.i64.wrap (q : Int) = (q : Int) := fun q hq => IntWalk.i64_in _ (by omega)
  have hwr := hwr0 _ hle
  simp only [execOp, ho, ex, ey, binOp_quo, Op.intDiv, hq, hwr]
  simp [eqGuard, hj', Nat.pos_iff_ne_zero.1 hj]
theorem yld_text {src dst e : TypeId} {b c : Nat} {l : List UInt8} (hs : P.underlying src = some (.slice e)) (he : P.underlying e = some (.int .u8)) (hd : P.underlying dst = some .string) (ho : o.op = .convert src dst x) (hx : Ev S g x (.slice (some ⟨b, 0, none⟩) l.length c))
    (hc : g = true → w.rangeAt b 0 (l.map fun q => Value.int .u8 (q.toNat : Int))) : Yld P n S o g w (.string ⟨l.toArray⟩) := fun a hs' hg => by
  have ex := hx n a hs' hg
  generalize a.eval = ρ at ex ⊢
  have hr := run_convert_bytes_back (P := P) w src dst e ⟨b, 0, none⟩ c l hs he hd (fun j hj => by
    have := hc hg j (.int .u8 (l[j].toNat : Int)) (by simp [hj])
    rw [Addr.add_mid]
    simpa using this)
  simp [execOp, ho, ex, hr]
end

/-! ### Marks -/
theorem digit (d : Nat) (h : d < 10) : IntKind.u8.wrap (48 + (d : Int)) = ((UInt8.ofNat (48 + d)).toNat : Int) := by
  have : ∀ d : Fin 10, IntKind.u8.wrap (48 + (d.val : Int)) = ((UInt8.ofNat (48 + d.val)).toNat : Int) := by decide
  exact this ⟨d, h⟩
def mtL (k : Nat) (out : ByteArray) : ByteArray := if h : k = 0 then out else mtL (k / 10) ((⟨#[UInt8.ofNat (48 + k % 10)]⟩ : ByteArray) ++ out)
termination_by k
decreasing_by exact Nat.div_lt_self (by omega) (by omega)
theorem mtL_step (k : Nat) (out : ByteArray) (h : 0 < k) : mtL k out = mtL (k / 10) ((⟨#[UInt8.ofNat (48 + k % 10)]⟩ : ByteArray) ++ out) := by
  rw [mtL, dif_neg (by omega)]
theorem mtL_zero (out : ByteArray) : mtL 0 out = out := by rw [mtL, dif_pos rfl]

def mt (k : Int) : ByteArray := if k ≤ 0 then ⟨#[109, 48]⟩ else (⟨#[109]⟩ : ByteArray) ++ mtL k.toNat ⟨#[]⟩
def mks : List ByteArray → Int → List ByteArray
  | [], _ => []
  | _ :: ks, k => mt k :: mks ks (k + 1)
theorem mks_length : ∀ (ks : List ByteArray) (k : Int), (mks ks k).length = ks.length
  | [], _ => rfl
  | _ :: ks, k => by simp [mks, mks_length ks]
theorem mks_get : ∀ (ks : List ByteArray) (k : Int) (i : Nat) (h : i < (mks ks k).length), (mks ks k)[i] = mt (k + i)
  | _ :: ks, k, 0, _ => by simp [mks]
  | _ :: ks, k, i + 1, h => by
    simp only [mks, List.getElem_cons_succ]
    rw [mks_get ks (k + 1) i]
    congr 1
    omega
mutual
def Tr.mkn : Tr → Nat | .mk _ _ _ ks l => 3 + ks.length + Tr.mkn1 l
def Tr.mkn1 : List Tr → Nat | [] => 0 | x :: l => x.mkn + Tr.mkn1 l
end
theorem Tr.mkn1_sum : ∀ l : List Tr, Tr.mkn1 l = sumN Tr.mkn l
  | [] => by simp [Tr.mkn1, sumN]
  | x :: l => by rw [Tr.mkn1, Tr.mkn1_sum l, sumN_cons]
theorem Tr.mkn_mk (k n : Int) (s : ByteArray) (ks : List ByteArray) (l : List Tr) : (Tr.mk k n s ks l).mkn = 3 + ks.length + sumN Tr.mkn l := by rw [Tr.mkn, Tr.mkn1_sum]
theorem sumN_le3 {α : Type} {f g : α → Nat} : ∀ {l : List α}, (∀ x ∈ l, f x ≤ 3 * g x + 3) → sumN f l ≤ 3 * (l.length + sumN g l)
  | [], _ => by simp [sumN]
  | x :: l, h => by
    have h1 := h x (by simp)
    have h2 := sumN_le3 (l := l) fun y hy => h y (by simp [hy])
    simp only [sumN_cons, List.length_cons]
    omega
theorem Tr.mkn_wt (t : Tr) : t.mkn ≤ 3 * t.wt + 3 := Tr.ind (p := fun t => t.mkn ≤ 3 * t.wt + 3) (fun k n s ks l H => by
  rw [Tr.mkn_mk, Tr.wt_mk]
  have := sumN_le3 H
  omega) t
mutual
def Tr.mk1 : Tr → Int → Tr
  | .mk _ _ _ ks l, k => .mk k (k + 1) (mt (k + 1 + 1)) (mks ks (k + 1 + 1 + 1)) (Tr.mkL l (k + 1 + 1 + 1 + ks.length))
def Tr.mkL : List Tr → Int → List Tr
  | [], _ => []
  | t :: l, k => t.mk1 k :: Tr.mkL l (k + t.mkn)
end
def Tr.mkT : Tr → Int → Tr | .mk k n s ks l, q => .mk k n s (mks ks q) (Tr.mkL l (q + ks.length))
theorem Tr.mkL_length : ∀ (l : List Tr) (k : Int), (Tr.mkL l k).length = l.length
  | [], _ => by simp [Tr.mkL]
  | t :: l, k => by rw [Tr.mkL]; simp [Tr.mkL_length l]
theorem Tr.mkL_get : ∀ (l : List Tr) (k : Int) (i : Nat) (h : i < (Tr.mkL l k).length) (h' : i < l.length), (Tr.mkL l k)[i] = l[i].mk1 (k + (sumN Tr.mkn (l.take i) : Nat))
  | t :: l, k, 0, _, _ => by simp [Tr.mkL, sumN]
  | t :: l, k, i + 1, h, h' => by
    simp only [Tr.mkL, List.getElem_cons_succ]
    rw [Tr.mkL_get l (k + t.mkn) i _ (by simpa using h')]
    congr 1
    simp only [List.take_succ_cons, sumN_cons]
    omega
/-- The first i are marked. -/
def Tr.part (l : List Tr) (k : Int) (i : Nat) : List Tr := (Tr.mkL l k).take i ++ l.drop i
theorem Tr.part_zero (l : List Tr) (k : Int) : Tr.part l k 0 = l := by simp [Tr.part]
theorem Tr.part_end (l : List Tr) (k : Int) : Tr.part l k l.length = Tr.mkL l k := by
  unfold Tr.part
  rw [List.drop_length, List.append_nil, List.take_of_length_le (by rw [Tr.mkL_length]; exact Nat.le_refl _)]
theorem Tr.part_length (l : List Tr) (k : Int) (i : Nat) (h : i ≤ l.length) : (Tr.part l k i).length = l.length := by
  simp [Tr.part, Tr.mkL_length]; omega
theorem Tr.part_get (l : List Tr) (k : Int) (i : Nat) (h : i < l.length) (h' : i < (Tr.part l k i).length) : (Tr.part l k i)[i] = l[i] := by
  have hl : (List.take i (Tr.mkL l k)).length = i := by simp [Tr.mkL_length]; omega
  have : (Tr.part l k i)[i]? = l[i]? := by
    unfold Tr.part
    rw [List.getElem?_append_right (by omega), hl, Nat.sub_self, List.getElem?_drop]
    rfl
  rw [List.getElem?_eq_getElem h', List.getElem?_eq_getElem h] at this
  exact Option.some.inj this
theorem Tr.part_set (l : List Tr) (k : Int) (i : Nat) (h : i < l.length) : (Tr.part l k i).set i (l[i].mk1 (k + (sumN Tr.mkn (l.take i) : Nat))) = Tr.part l k (i + 1) := by
  unfold Tr.part
  have hl : (List.take i (Tr.mkL l k)).length = i := by simp [Tr.mkL_length]; omega
  rw [List.set_append_right _ _ (by omega), hl, Nat.sub_self, List.drop_eq_getElem_cons h, List.set_cons_zero, List.take_succ_eq_append_getElem (by rw [Tr.mkL_length]; exact h), List.append_assoc, Tr.mkL_get l k i _ h]
  rfl
/-- The same of texts. -/
def mpart (ks : List ByteArray) (k : Int) (i : Nat) : List ByteArray := (mks ks k).take i ++ ks.drop i
theorem mpart_zero (l : List ByteArray) (k : Int) : mpart l k 0 = l := by simp [mpart]
theorem mpart_end (l : List ByteArray) (k : Int) : mpart l k l.length = mks l k := by
  unfold mpart
  rw [List.drop_length, List.append_nil, List.take_of_length_le (by rw [mks_length]; exact Nat.le_refl _)]
theorem mpart_length (l : List ByteArray) (k : Int) (i : Nat) (h : i ≤ l.length) : (mpart l k i).length = l.length := by
  simp [mpart, mks_length]; omega
theorem mpart_set (l : List ByteArray) (k : Int) (i : Nat) (h : i < l.length) : (mpart l k i).set i (mt (k + i)) = mpart l k (i + 1) := by
  unfold mpart
  have hl : (List.take i (mks l k)).length = i := by simp [mks_length]; omega
  rw [List.set_append_right _ _ (by omega), hl, Nat.sub_self, List.drop_eq_getElem_cons h, List.set_cons_zero, List.take_succ_eq_append_getElem (by rw [mks_length]; exact h), List.append_assoc, mks_get l k i]
  rfl
theorem Tr.wt_list (t : Tr) : t.keys.length + (t.list.length + sumN Tr.wt t.list) ≤ t.wt := by
  obtain ⟨k, n, s, ks, l⟩ := t
  rw [Tr.wt_mk]
  simp only [Tr.keys, Tr.list]
  omega
theorem Tr.mkn_list (t : Tr) : t.keys.length + sumN Tr.mkn t.list ≤ 3 * t.wt + 3 := by
  have := t.mkn_wt
  obtain ⟨k, n, s, ks, l⟩ := t
  rw [Tr.mkn_mk] at this
  simp only [Tr.keys, Tr.list]
  omega
end Go.Proofs.YtpfkcblhojkaiaaDoor.Eng
