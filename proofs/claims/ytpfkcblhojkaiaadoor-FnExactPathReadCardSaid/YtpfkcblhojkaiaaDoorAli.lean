/- Rows of a call's own whose elements are trees that lie elsewhere. No statement of the seat is proved here. -/
import Derived.Test.YtpfkcblhojkaiaaDoorCopy
namespace Go.Proofs.YtpfkcblhojkaiaaDoor.Eng
open Go.RowKit
set_option linter.unusedVariables false
set_option linter.unusedSimpArgs false

/-- These values are these trees. -/
def AL (w : World) (rs : List Tr) (xs : List V5) : Prop := xs.length = rs.length ∧ ∀ j (h : j < rs.length) (h' : j < xs.length), Rep Any w rs[j] xs[j].val
theorem AL.nil (w : World) : AL w [] [] := ⟨rfl, fun j h => by simp at h⟩
theorem AL.chg {w w' : World} {rs xs} (h : AL w rs xs) (hc : Chg No w w') : AL w' rs xs := ⟨h.1, fun j h1 h2 => (h.2 j h1 h2).chg hc⟩
theorem AL.append {w : World} {rs rs' : List Tr} {xs xs' : List V5} (h : AL w rs xs) (h' : AL w rs' xs') : AL w (rs ++ rs') (xs ++ xs') := by
  refine ⟨by simp [h.1, h'.1], fun j h1 h2 => ?_⟩
  have he := h.1
  by_cases hj : j < rs.length
  · rw [List.getElem_append_left hj, List.getElem_append_left (by omega)]
    exact h.2 j hj (by omega)
  · rw [List.getElem_append_right (by omega), List.getElem_append_right (by omega)]
    simp only [he]
    exact h'.2 _ _ _
theorem AL.one {w : World} {t : Tr} {x : V5} (h : Rep Any w t x.val) : AL w [t] [x] := ⟨rfl, fun j h1 h2 => by
  obtain rfl : j = 0 := by simp at h1; exact h1
  exact h⟩
theorem AL.cells {w : World} {rs xs} (h : AL w rs xs) : ∀ x ∈ xs, (enc5 x).all (·.oneCell') = true := fun x hx => by
  obtain ⟨j, hj, rfl⟩ := List.getElem_of_mem hx
  have := h.2 j (by rw [← h.1]; exact hj) hj
  rw [← enc5_val] at this
  exact this.one
theorem AL.set {w : World} {rs : List Tr} {xs : List V5} (h : AL w rs xs) (i : Nat) {t : Tr} {x : V5} (hx : Rep Any w t x.val) : AL w (rs.set i t) (xs.set i x) := by
  refine ⟨by simp [h.1], fun j h1 h2 => ?_⟩
  by_cases hj : i = j
  · subst hj; simpa using hx
  · simp only [List.getElem_set_ne hj]; exact h.2 j (by simpa using h1) (by simpa using h2)
/-- A row with such elements. -/
theorem AL.repL {w : World} {rs xs} (h : AL w rs xs) {v : Value} (ho : (own 33 5 v xs.length (xs.flatMap enc5)).is w) : RepL Any w rs v := by
  obtain ⟨A, c, e1, e2, e3, e4⟩ := own_rep (e := 33) (enc := enc5) (sz := 5) (fun _ => rfl) ho
  rw [h.1] at e1 e2
  refine ⟨A, c, fun i => if hi : i < xs.length then enc5 xs[i] else enc5 z5, e1, e2, e3, fun hm => ?_, fun i hi => ?_⟩
  · obtain ⟨b, o, e5, -, e6⟩ := e4 (by intro e; rw [e] at h; have := h.1; simp at this; omega)
    refine ⟨b, o, e5, trivial, fun i hi => ?_⟩
    have hi' : i < xs.length := by rw [h.1]; exact hi
    simp only [dif_pos hi']
    exact ⟨rfl, e6 i hi'⟩
  · have hi' : i < xs.length := by rw [h.1]; exact hi
    simp only [dif_pos hi']
    rw [enc5_val]
    exact h.2 i hi hi'
/-- A row of trees, by its elements' values. -/
theorem RepL.v5 {F w} {l : List Tr} {v : Value} (h : RepL F w l v) : ∃ ys, RepE enc5 5 F w ys v ∧ AL w l ys := by
  obtain ⟨A, c, f, rfl, h2, h3, h4, h5⟩ := h
  by_cases hp : 0 < l.length
  · obtain ⟨b, o, rfl, hF, hf⟩ := h4 hp
    have : ∀ i, ∃ y : V5, i < l.length → f i = enc5 y := fun i => by
      by_cases hi : i < l.length
      · obtain ⟨a, b', c', d, e, he⟩ := five (hf i hi).1
        exact ⟨⟨a, b', c', d, e⟩, fun _ => he⟩
      · exact ⟨z5, fun h => absurd h hi⟩
    have hlen : ((List.range l.length).map fun i => (this i).choose).length = l.length := by simp
    refine ⟨(List.range l.length).map fun i => (this i).choose, ⟨some ⟨b, o, none⟩, c, by rw [hlen], by rw [hlen]; exact h2, h3, fun _ => ⟨b, o, rfl, hF, fun i hi => ?_⟩⟩, hlen, fun j h1 h2' => ?_⟩
    · have hi' : i < l.length := by simpa using hi
      have := (this i).choose_spec hi'
      simp only [List.getElem_map, List.getElem_range]
      rw [← this]; exact (hf i hi').2
    · have := (this j).choose_spec h1
      simp only [List.getElem_map, List.getElem_range]
      rw [← enc5_val, ← this]
      exact (h5 j h1).weak fun _ _ => trivial
  · have : l = [] := List.eq_nil_of_length_eq_zero (by omega)
    subst this
    exact ⟨[], ⟨A, c, rfl, h2, h3, fun h => absurd rfl h⟩, AL.nil w⟩
end Go.Proofs.YtpfkcblhojkaiaaDoor.Eng
