/- Walks of both RowBack: a row, turned about. -/
import Derived.Test.YtpfkcblhojkaiaaDoorCom
import Derived.Test.YtpfkcblhojkaiaaDoorNil
namespace Go.Proofs.YtpfkcblhojkaiaaDoor.Eng
open Go.RowKit
set_option linter.unusedVariables false
set_option linter.unusedSimpArgs false
set_option maxHeartbeats 1000000


noncomputable def backR (t : Tr) : Option Tr := if rowT t = true then toldR true (.mk 5 0 ⟨#[]⟩ [] t.list.reverse) else none
theorem sumN_reverse {α : Type} (f : α → Nat) : ∀ p : List α, sumN f p.reverse = sumN f p
  | [] => rfl
  | x :: p => by rw [List.reverse_cons, sumN_append, sumN_reverse f p, sumN_cons, sumN_cons]; simp [sumN]; omega
theorem backR_mkn (t : Tr) : ((backR t).getD zeroT).keys.length + sumN Tr.mkn ((backR t).getD zeroT).list ≤ 3 * t.wt + 3 := by
  unfold backR
  split
  · have h1 := told_mkn (.mk 5 0 ⟨#[]⟩ [] t.list.reverse)
    have h3 := t.wt_list
    rw [row_wt, List.length_reverse, sumN_reverse] at h1
    omega
  · show 0 + 0 ≤ _
    omega
def subN (k : Int) : Nat → Int
  | 0 => k
  | n + 1 => k - ((n + 1 : Nat) : Int)
theorem subN_eq (k : Int) (n : Nat) : subN k n = k - (n : Int) := by
  cases n with
  | zero => simp [subN]
  | succ n => rfl
/-- The first i and the last i are changed about. -/
def Turned (xs ys : List V5) (i : Nat) : Prop := ys.length = xs.length ∧ ∀ k, k < xs.length → ys[k]? = if k < i ∨ xs.length ≤ k + i then xs[xs.length - 1 - k]? else xs[k]?
theorem Turned.zero (xs : List V5) : Turned xs xs 0 := ⟨rfl, fun k hk => by rw [if_neg (by omega)]⟩
theorem Turned.end {xs ys : List V5} {i : Nat} (h : Turned xs ys i) (hi : xs.length ≤ 2 * i + 1) : ys = xs.reverse := by
  apply List.ext_getElem?
  intro k
  by_cases hk : k < xs.length
  · rw [h.2 k hk, List.getElem?_reverse hk]
    split
    · rfl
    · rw [show xs.length - 1 - k = k by omega]
  · rw [List.getElem?_eq_none (by rw [h.1]; omega), List.getElem?_eq_none (by simp; omega)]
theorem Turned.next {xs ys : List V5} {i : Nat} {x y : V5} (h : Turned xs ys i) (hi : 2 * i + 1 < xs.length) (hx : ys[i]? = some x) (hy : ys[xs.length - 1 - i]? = some y) : Turned xs ((ys.set i y).set (xs.length - 1 - i) x) (i + 1) := by
  have h1 := h.2 i (by omega)
  rw [if_neg (by omega), hx] at h1
  have h2 := h.2 (xs.length - 1 - i) (by omega)
  rw [if_neg (by omega), hy] at h2
  refine ⟨by simp [h.1], fun k hk => ?_⟩
  have hl := h.1
  rw [List.getElem?_set, List.getElem?_set]
  by_cases e1 : xs.length - 1 - i = k
  · rw [if_pos e1, if_pos (by simp; omega), if_pos (by omega), show xs.length - 1 - k = i by omega, ← h1]
  · rw [if_neg e1]
    by_cases e2 : i = k
    · subst e2
      rw [if_pos rfl, if_pos (by omega), if_pos (by omega), ← h2]
    · rw [if_neg e2, h.2 k hk]
      by_cases e3 : k < i ∨ xs.length ≤ k + i
      · rw [if_pos e3, if_pos (by omega)]
      · rw [if_neg e3, if_neg (by omega)]
theorem own_at {α : Type} {enc : α → List Value} {sz : Nat} (he : ∀ x, (enc x).length = sz) {w : World} {e b len cap n : Nat} {xs : List α} (h : (own e sz (.slice (some ⟨b, 0, none⟩) len cap) n (xs.flatMap enc)).is w) (hn : xs.length = n) (i : Nat) {x : α} (hx : xs[i]? = some x) : w.rangeAt b (0 + i * sz) (enc x) := by
  subst hn
  obtain ⟨hi, rfl⟩ := List.getElem?_eq_some_iff.1 hx
  rw [Nat.zero_add]
  exact own_range he h i hi
theorem AL.reverse {w : World} {rs : List Tr} {xs : List V5} (h : AL w rs xs) : AL w rs.reverse xs.reverse := by
  refine ⟨by simp [h.1], fun j h1 h2 => ?_⟩
  have hl := h.1
  simp only [List.getElem_reverse, hl]
  exact h.2 _ _ _

end Go.Proofs.YtpfkcblhojkaiaaDoor.Eng
