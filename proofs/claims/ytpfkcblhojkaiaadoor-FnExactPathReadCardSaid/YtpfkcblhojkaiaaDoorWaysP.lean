/- All ways into a tree, as plain data; marks in rows of steps. -/
import Derived.Test.YtpfkcblhojkaiaaDoorBun
import Derived.Test.YtpfkcblhojkaiaaDoorPGet
import Derived.Test.YtpfkcblhojkaiaaDoorTold
import Derived.Test.YtpfkcblhojkaiaaDoorCom
namespace Go.Proofs.YtpfkcblhojkaiaaDoor.Eng
open Go.RowKit
set_option linter.unusedVariables false
set_option linter.unusedSimpArgs false
set_option maxHeartbeats 1000000


def stepK (k : Int) (ks : List ByteArray) (i : Nat) : Stp := if k = 6 then ⟨true, nth ks i, 0⟩ else ⟨false, ⟨#[]⟩, (i : Int)⟩
mutual
def Tr.ways : Tr → List Stp → List (List Stp)
  | .mk k _ _ ks l, p => p :: Tr.waysL k ks l 0 p
def Tr.waysL (k : Int) (ks : List ByteArray) : List Tr → Nat → List Stp → List (List Stp)
  | [], _, _ => []
  | x :: l, i, p => x.ways (p ++ [stepK k ks i]) ++ Tr.waysL k ks l (i + 1) p
end
theorem Tr.waysL_snoc (k : Int) (ks : List ByteArray) (x : Tr) (p : List Stp) : ∀ (l : List Tr) (j : Nat), Tr.waysL k ks (l ++ [x]) j p = Tr.waysL k ks l j p ++ x.ways (p ++ [stepK k ks (j + l.length)])
  | [], j => by simp [Tr.waysL]
  | y :: l, j => by
    rw [List.cons_append, Tr.waysL, Tr.waysL, Tr.waysL_snoc k ks x p l (j + 1), List.append_assoc]
    congr 4
    simp only [List.length_cons]
    congr 2
    omega
theorem Tr.waysL_take (k : Int) (ks : List ByteArray) (l : List Tr) (p : List Stp) (i : Nat) (hi : i < l.length) : Tr.waysL k ks (l.take (i + 1)) 0 p = Tr.waysL k ks (l.take i) 0 p ++ l[i].ways (p ++ [stepK k ks i]) := by
  rw [List.take_succ_eq_append_getElem hi, Tr.waysL_snoc, List.length_take, Nat.min_eq_left (by omega), Nat.zero_add]
theorem Tr.waysL_len (k : Int) (ks : List ByteArray) (p : List Stp) : ∀ (l : List Tr) (j : Nat), (∀ x ∈ l, ∀ q, (x.ways q).length = x.cnt) → (Tr.waysL k ks l j p).length = sumN Tr.cnt l
  | [], j, _ => rfl
  | x :: l, j, h => by rw [Tr.waysL, List.length_append, h x (by simp), Tr.waysL_len k ks p l (j + 1) fun y hy => h y (by simp [hy]), sumN_cons]
theorem Tr.ways_len : ∀ (t : Tr) (p : List Stp), (t.ways p).length = t.cnt := Tr.ind (p := fun t => ∀ p, (t.ways p).length = t.cnt) fun k n s ks l H p => by
  rw [Tr.ways, List.length_cons, Tr.waysL_len k ks p l 0 H, Tr.cnt_mk]; omega
theorem Tr.waysL_le (k : Int) (ks : List ByteArray) (l : List Tr) (p : List Stp) (i : Nat) : (Tr.waysL k ks (l.take i) 0 p).length ≤ sumN Tr.cnt l := by
  rw [Tr.waysL_len k ks p _ 0 fun x _ q => x.ways_len q]; exact sumN_take_le _ _ _
theorem Tr.waysL_mem {k : Int} {ks : List ByteArray} {p q : List Stp} : ∀ {l : List Tr} {j : Nat}, q ∈ Tr.waysL k ks l j p → ∃ i, ∃ h : i < l.length, q ∈ l[i].ways (p ++ [stepK k ks (j + i)])
  | [], _, h => by simp [Tr.waysL] at h
  | x :: l, j, h => by
    rw [Tr.waysL] at h
    rcases List.mem_append.1 h with h | h
    · exact ⟨0, by simp, by simpa using h⟩
    · obtain ⟨i, hi, h⟩ := Tr.waysL_mem h
      exact ⟨i + 1, by simpa using hi, by rw [show j + (i + 1) = j + 1 + i by omega]; simpa using h⟩
theorem Tr.ways_short : ∀ (t : Tr) (p q : List Stp), q ∈ t.ways p → q.length + 1 ≤ p.length + t.cnt := Tr.ind (p := fun t => ∀ p q, q ∈ t.ways p → q.length + 1 ≤ p.length + t.cnt) fun k n s ks l H p q hq => by
  rw [Tr.ways] at hq
  rw [Tr.cnt_mk]
  rcases List.mem_cons.1 hq with rfl | hq
  · omega
  · obtain ⟨i, hi, hq⟩ := Tr.waysL_mem hq
    have h1 := H _ (List.getElem_mem hi) _ _ hq
    have h2 := sumN_mem Tr.cnt (List.getElem_mem hi)
    rw [List.length_append] at h1
    have : [stepK k ks (0 + i)].length = 1 := rfl
    omega
noncomputable def waysR (t : Tr) : List (List Stp) := if okT t = true then t.ways [] else []
theorem waysR_len (t : Tr) : (waysR t).length ≤ 60 := by
  unfold waysR
  split
  · rename_i h
    rw [Tr.ways_len]
    have := (okT_node h).2
    omega
  · simp
theorem waysR_short (t : Tr) : ∀ q ∈ waysR t, q.length ≤ 60 := fun q hq => by
  unfold waysR at hq
  split at hq
  · rename_i h
    have h1 := t.ways_short [] q hq
    have h2 := (okT_node h).2
    simp only [List.length_nil] at h1
    omega
  · simp at hq

/-! ### Marks -/
def stM (q : Nat) : Stp := ⟨((q % 3 : Nat) : Int) == 0, mt ((q + 1 : Nat) : Int), ((q + 2 : Nat) : Int)⟩
def mkP (n k : Nat) : List Stp := (List.range n).map fun j => stM (k + 3 * j)
theorem mkP_len (n k : Nat) : (mkP n k).length = n := by simp [mkP]
theorem mkP_get (n k i : Nat) (h : i < (mkP n k).length) : (mkP n k)[i] = stM (k + 3 * i) := by simp [mkP]
/-- The first i are marked. -/
def mpP (p : List Stp) (k i : Nat) : List Stp := mkP i k ++ p.drop i
theorem mpP_len (p : List Stp) (k i : Nat) (h : i ≤ p.length) : (mpP p k i).length = p.length := by simp [mpP, mkP_len]; omega
theorem mpP_zero (p : List Stp) (k : Nat) : mpP p k 0 = p := by simp [mpP, mkP]
theorem mpP_end (p : List Stp) (k : Nat) : mpP p k p.length = mkP p.length k := by simp [mpP]
theorem mpP_set (p : List Stp) (k i : Nat) (h : i < p.length) : (mpP p k i).set i (stM (k + 3 * i)) = mpP p k (i + 1) := by
  unfold mpP
  rw [List.set_append, if_neg (by simp [mkP_len]), mkP_len, Nat.sub_self, List.drop_eq_getElem_cons h, List.set_cons_zero]
  have : mkP (i + 1) k = mkP i k ++ [stM (k + 3 * i)] := by simp [mkP, List.range_succ]
  rw [this, List.append_assoc]
  rfl
def mkPP : List (List Stp) → Nat → List (List Stp)
  | [], _ => []
  | p :: l, k => mkP p.length k :: mkPP l (k + 3 * p.length)
theorem mkPP_len : ∀ (l : List (List Stp)) (k : Nat), (mkPP l k).length = l.length
  | [], _ => rfl
  | p :: l, k => by simp [mkPP, mkPP_len l]
theorem mkPP_get : ∀ (l : List (List Stp)) (k i : Nat) (h : i < (mkPP l k).length) (h' : i < l.length), (mkPP l k)[i] = mkP l[i].length (k + 3 * sumN List.length (l.take i))
  | p :: l, k, 0, _, _ => by simp [mkPP, sumN]
  | p :: l, k, i + 1, h, h' => by
    simp only [mkPP, List.getElem_cons_succ, List.take_succ_cons, sumN_cons]
    rw [mkPP_get l _ i _ (by simpa using h')]
    congr 1
    omega
def mpPP (l : List (List Stp)) (k i : Nat) : List (List Stp) := (mkPP l k).take i ++ l.drop i
theorem mpPP_len (l : List (List Stp)) (k i : Nat) (h : i ≤ l.length) : (mpPP l k i).length = l.length := by simp [mpPP, mkPP_len]; omega
theorem mpPP_zero (l : List (List Stp)) (k : Nat) : mpPP l k 0 = l := by simp [mpPP]
theorem mpPP_end (l : List (List Stp)) (k : Nat) : mpPP l k l.length = mkPP l k := by unfold mpPP; rw [List.drop_length, List.append_nil, List.take_of_length_le (by rw [mkPP_len]; exact Nat.le_refl _)]
theorem mpPP_get? (l : List (List Stp)) (k i : Nat) (h : i < l.length) : (mpPP l k i)[i]? = some l[i] := by
  unfold mpPP
  rw [List.getElem?_append_right (by simp; omega), List.length_take, mkPP_len, Nat.min_eq_left (by omega), Nat.sub_self, List.getElem?_drop]
  simp [h]
theorem mpPP_get (l : List (List Stp)) (k i : Nat) (h : i < l.length) (h' : i < (mpPP l k i).length) : (mpPP l k i)[i] = l[i] := by
  have := mpPP_get? l k i h
  rw [List.getElem?_eq_getElem h'] at this
  exact Option.some.inj this
theorem mpPP_set (l : List (List Stp)) (k i : Nat) (h : i < l.length) : (mpPP l k i).set i (mkP l[i].length (k + 3 * sumN List.length (l.take i))) = mpPP l k (i + 1) := by
  have hl : i < (mkPP l k).length := by rw [mkPP_len]; exact h
  unfold mpPP
  rw [List.set_append, if_neg (by simp [mkPP_len]; omega), List.length_take, mkPP_len, Nat.min_eq_left (by omega), Nat.sub_self, List.drop_eq_getElem_cons h, List.set_cons_zero, List.take_succ_eq_append_getElem hl, mkPP_get l k i hl h, List.append_assoc]
  rfl
def mkW (l : List (List Stp)) : Nat := 3 * sumN List.length l
theorem sumNb2 {α : Type} {f : α → Nat} {b : Nat} : ∀ {l : List α}, (∀ x ∈ l, f x ≤ b) → sumN f l ≤ b * l.length
  | [], _ => by simp [sumN]
  | x :: l, h => by
    have h1 := h x (by simp)
    have h2 := sumNb2 (l := l) fun y hy => h y (by simp [hy])
    rw [sumN_cons, List.length_cons, Nat.mul_add]
    omega
theorem waysR_mkw (t : Tr) : mkW (waysR t) ≤ 10800 := by
  unfold mkW
  have h1 := sumNb2 (waysR_short t)
  have h2 := waysR_len t
  omega

end Go.Proofs.YtpfkcblhojkaiaaDoor.Eng
