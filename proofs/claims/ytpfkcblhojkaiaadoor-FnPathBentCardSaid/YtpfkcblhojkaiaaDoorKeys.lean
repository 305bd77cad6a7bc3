/- Walks of both PartKeys: the places or the keys of a tree's parts, as a row. -/
import Derived.Test.YtpfkcblhojkaiaaDoorAt
namespace Go.Proofs.YtpfkcblhojkaiaaDoor.Eng
open Go.RowKit
set_option linter.unusedVariables false
set_option linter.unusedSimpArgs false
set_option maxHeartbeats 1000000


/-- Trees without memory. -/
def Leaf (rs : List Tr) (xs : List V5) : Prop := xs.length = rs.length ∧ ∀ j (h : j < rs.length) (h' : j < xs.length), ∃ k n s, rs[j] = .mk k n s [] [] ∧ xs[j] = x5 k n s (.slice none 0 0) (.slice none 0 0)
theorem Leaf.nil : Leaf [] [] := ⟨rfl, fun j h => by simp at h⟩
theorem Leaf.snoc {rs : List Tr} {xs : List V5} (h : Leaf rs xs) (k n : Int) (s : ByteArray) : Leaf (rs ++ [.mk k n s [] []]) (xs ++ [x5 k n s (.slice none 0 0) (.slice none 0 0)]) := by
  have hl := h.1
  refine ⟨by simp [hl], fun j h1 h2 => ?_⟩
  by_cases hj : j < rs.length
  · rw [List.getElem_append_left hj, List.getElem_append_left (by omega)]
    exact h.2 j hj (by omega)
  · rw [List.getElem_append_right (by omega), List.getElem_append_right (by omega)]
    refine ⟨k, n, s, ?_, ?_⟩
    · have : j - rs.length = 0 := by simp at h1; omega
      simp [this]
    · have : j - xs.length = 0 := by simp at h1; omega
      simp [this]
theorem Leaf.al {rs : List Tr} {xs : List V5} (h : Leaf rs xs) (w : World) : AL w rs xs := ⟨h.1, fun j h1 h2 => by
  obtain ⟨k, n, s, e1, e2⟩ := h.2 j h1 h2
  rw [e1, e2]
  exact Rep.close (RepE.nil _ _) (RepL.nil _ _)⟩
theorem Leaf.kd {rs : List Tr} {xs : List V5} (h : Leaf rs xs) (w : World) : Kd w No rs xs := by
  have hl := h.1
  refine ⟨fun j => if hj : j < xs.length then xs[j] else z5, fun _ => No, fun j hj => ?_, fun j hj => ?_, fun _ _ _ h => h, fun _ _ _ _ _ h => h.elim, fun _ h => h.elim⟩
  · simp only [dif_pos (show j < xs.length by omega)]
    rw [List.getElem?_eq_getElem]
  · simp only [dif_pos (show j < xs.length by omega)]
    obtain ⟨k, n, s, e1, e2⟩ := h.2 j hj (by omega)
    rw [e1, e2]
    exact sep_leaf w k n s
def keyT (t : Tr) (i : Nat) : Tr := if t.kind = 5 then numT i else strT' (nth t.keys i)
def keysL (t : Tr) (m : Nat) : List Tr := (List.range m).map (keyT t)
def keysT (t : Tr) : Tr := .mk 5 0 ⟨#[]⟩ [] (keysL t t.list.length)
noncomputable def keysR (t : Tr) : Option Tr := if okT t = true ∧ 5 ≤ t.kind then some (keysT t) else none
theorem keysL_step (t : Tr) (i : Nat) : keysL t (i + 1) = keysL t i ++ [keyT t i] := by simp [keysL, List.range_succ]
theorem keyT_ok {t : Tr} (h : okT t = true) (hk : 5 ≤ t.kind) (i : Nat) (hi : i < t.list.length) : Form 5 (keyT t i) ∧ (keyT t i).cnt = 1 ∧ (keyT t i).wt ≤ 12 ∧ (keyT t i).Fit := by
  obtain ⟨h6, hl, hks⟩ := okT_six h
  have hs := okT_short h
  unfold keyT
  by_cases h5 : t.kind = 5
  · rw [if_pos h5]
    refine ⟨.mk (by omega) (leafP (fun h => absurd rfl h) (fun _ => rfl) (fun _ => rfl) (fun _ => rfl) (by omega) (by omega) (by omega) okS_nil) (by simp), ?_, ?_, .mk (Nat.zero_le _) (by simp) (by simp)⟩
    · unfold numT; rw [Tr.cnt_mk]; rfl
    · unfold numT; rw [Tr.wt_mk]; decide
  · rw [if_neg h5]
    have hki := hks i (by have := hl (by omega); omega)
    have hsz := okS_size hki.1
    refine ⟨.mk (by omega) (leafP (fun _ => rfl) (fun h => absurd rfl h) (fun _ => rfl) (fun _ => rfl) (by omega) (by omega) (by omega) hki.1) (by simp), ?_, ?_, .mk (by omega) (by simp) (by simp)⟩
    · unfold strT'; rw [Tr.cnt_mk]; rfl
    · unfold strT'
      rw [Tr.wt_mk]
      show (nth t.keys i).size + (0 + 0) + (0 + 0) ≤ 12
      omega
theorem keysT_ok {t : Tr} (h : okT t = true) (hk : 5 ≤ t.kind) : okT (keysT t) = true ∧ (keysT t).Fit ∧ (keysT t).wt ≤ 1048576 := by
  have hs := okT_short h
  have hm : ∀ x ∈ keysL t t.list.length, ∃ i, i < t.list.length ∧ x = keyT t i := fun x hx => by
    obtain ⟨i, hi, rfl⟩ := List.mem_map.1 hx
    exact ⟨i, by simpa using hi, rfl⟩
  have hll : (keysL t t.list.length).length = t.list.length := by simp [keysL]
  refine ⟨?_, .mk (Nat.zero_le _) (by simp) fun x hx => ?_, ?_⟩
  · unfold okT
    simp only [Bool.and_eq_true, decide_eq_true_eq]
    refine ⟨Form.mk (by omega) (leafP (fun _ => rfl) (fun _ => rfl) (fun _ => rfl) (fun h => by omega) (by omega) (by omega) (by omega) okS_nil) fun x hx => ?_, ?_⟩
    · obtain ⟨i, hi, rfl⟩ := hm x hx
      exact (keyT_ok h hk i hi).1
    · unfold keysT
      rw [Tr.cnt_mk, sumN_one fun x hx => by obtain ⟨i, hi, rfl⟩ := hm x hx; exact (keyT_ok h hk i hi).2.1, hll]
      omega
  · obtain ⟨i, hi, rfl⟩ := hm x hx
    exact (keyT_ok h hk i hi).2.2.2
  · unfold keysT
    rw [Tr.wt_mk, hll]
    have hb := sumN_bound (f := Tr.wt) (b := 12) (l := keysL t t.list.length) fun x hx => by obtain ⟨i, hi, rfl⟩ := hm x hx; exact (keyT_ok h hk i hi).2.2.1
    rw [hll] at hb
    show 0 + (0 + 0) + (t.list.length + _) ≤ _
    omega
theorem keysR_mkn (t : Tr) : ((keysR t).getD zeroT).keys.length + sumN Tr.mkn ((keysR t).getD zeroT).list ≤ 3 * 1048576 + 3 := by
  unfold keysR
  split
  · rename_i h
    exact wt_mkn _ _ (keysT_ok h.1 h.2).2.2
  · show 0 + 0 ≤ _
    omega
theorem told_keys {t : Tr} (h : okT t = true) (hk : 5 ≤ t.kind) : toldR true (keysT t) = some (keysT t) := by
  show (if (true && okT (keysT t)) = true then some (keysT t) else none) = _
  rw [(keysT_ok h hk).1]
  rfl

end Go.Proofs.YtpfkcblhojkaiaaDoor.Eng
