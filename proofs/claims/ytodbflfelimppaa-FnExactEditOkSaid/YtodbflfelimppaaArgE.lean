/- What a slice of edits that can be read as data gives. No statement of the seat is proved here. -/
import Derived.Test.YtodbflfelimppaaEdt
import Derived.Test.YtodbflfelimppaaArg
namespace Go.Proofs.Ytodbflfelimppaa.Eng
open Go.RowKit Go.ChangeShapes Go.WideShapes Go.ChangeAt
set_option linter.unusedVariables false
set_option linter.unusedSimpArgs false
set_option linter.constructorNameAsVariable false
section
variable {H : Type} {enc : TypeId × Value → H} {w : World} {sp : Nat → Bool} {held : Bool}
theorem steps_of {fuel : Nat} {cs : List Value} {x : DataW H × List MemPlace} (h : DataW.trod enc Try.prog w 0 sp held fuel 79 cs = some x) : ∃ v p, cs = [v] ∧ RepP Any w p v ∧ ∀ s ∈ p, s.key.size ≤ 9223372036854775807 := by
  obtain ⟨A, len, cap, hcs, hlc, hcm, hel⟩ := trod_row sl79 rfl h
  obtain ⟨p, rfl, hp, hq⟩ := row_rep (w := w) (A := A) (ec := pCells) (sz := 3) (fun s => s.key.size ≤ 9223372036854775807) hlc hcm fun h0 => by
    obtain ⟨b, o, rfl, hi⟩ := hel h0
    refine ⟨b, o, rfl, fun i hil => ?_⟩
    obtain ⟨cs', y, m, -, -, hr, ht⟩ := hi i hil
    obtain ⟨s, rfl, hs⟩ := trod_step ht
    exact ⟨s, hs, hr⟩
  exact ⟨_, p, hcs, hp, hq⟩
set_option maxRecDepth 100000 in
theorem trod_edit {fuel : Nat} {cs : List Value} {x : DataW H × List MemPlace} (h : DataW.trod enc Try.prog w 0 sp held fuel 81 cs = some x) : ∃ (e : Ed) (y : V13), RepD Any w e y ∧ e.Fit ∧ cs = enc13 y := by
  obtain ⟨xs, n, hfu, -, hl, hlen, hf⟩ := DataW.trod_struct Try.underlying81 h
  have c1 : Try.prog.cellsOf 79 = 1 := by kernel_rfl
  have c2 : Try.prog.cellsOf 25 = 5 := by kernel_rfl
  have c3 : Try.prog.cellsOf 4 = 1 := by kernel_rfl
  have c4 : Try.prog.cellsOf 81 = 13 := by kernel_rfl
  rw [c4] at hl
  have f0 : DataW.trod enc Try.prog w 0 sp held n 79 ((cs.drop 0).take (Try.prog.cellsOf 79)) = _ := hf 0 _ rfl
  have f1 : DataW.trod enc Try.prog w 0 sp held n 25 ((cs.drop 1).take (Try.prog.cellsOf 25)) = _ := hf 1 _ rfl
  have f2 : DataW.trod enc Try.prog w 0 sp held n 4 ((cs.drop 6).take (Try.prog.cellsOf 4)) = _ := hf 2 _ rfl
  have f3 : DataW.trod enc Try.prog w 0 sp held n 25 ((cs.drop 7).take (Try.prog.cellsOf 25)) = _ := hf 3 _ rfl
  have f4 : DataW.trod enc Try.prog w 0 sp held n 4 ((cs.drop 12).take (Try.prog.cellsOf 4)) = _ := hf 4 _ rfl
  rw [c1] at f0
  rw [c2] at f1 f3
  rw [c3] at f2 f4
  simp only [List.size_toArray, List.length_cons, List.length_nil] at hlen
  rw [List.getElem?_eq_getElem (by omega)] at f0 f1 f2 f3 f4
  obtain ⟨v, p, h0, hp, hps⟩ := steps_of f0
  obtain ⟨was, h1, hw1, -⟩ := trod_tree _ _ _ f1
  obtain ⟨had, h2⟩ := trod_bool Try.underlying4 f2
  obtain ⟨now, h3, hw2, -⟩ := trod_tree _ _ _ f3
  obtain ⟨has, h4⟩ := trod_bool Try.underlying4 f4
  match cs, hl with
  | [x0, x1, x2, x3, x4, x5, x6, x7, x8, x9, x10, x11, x12], _ =>
    simp at h0 h1 h2 h3 h4
    subst h0 h2 h4
    exact ⟨⟨p, was, had, now, has⟩, ⟨x0, ⟨x1, x2, x3, x4, x5⟩, .bool had, ⟨x7, x8, x9, x10, x11⟩, .bool has⟩, ⟨hp, h1, rfl, h3, rfl⟩, ⟨hps, hw1, hw2⟩, rfl⟩
set_option maxRecDepth 100000 in
theorem open_edits {v : Value} {d : DataW H} {ps : List MemPlace} {base : Nat} (hval : Value.okWide Try.prog w .any base 38 v) (h : DataW.Trod enc Try.prog w 0 sp held 38 v d ps) : ∃ l, RepDL Any w l v ∧ ∀ e ∈ l, e.Fit := by
  obtain ⟨fuel, h⟩ := h
  obtain ⟨A, len, cap, hcs, hlc, hcm, hel⟩ := trod_row sl38 rfl h
  rw [slice_form sl38 hval] at hcs
  have hv : v = .slice A len cap := by simpa using hcs
  subst hv
  by_cases h0 : 0 < len
  · obtain ⟨b, o, rfl, hi⟩ := hel h0
    have : ∃ f : Nat → Ed × V13, ∀ i, i < len → RepD Any w (f i).1 (f i).2 ∧ (f i).1.Fit ∧ w.rangeAt b (o + i * 13) (enc13 (f i).2) := by
      have hall : ∀ i, i < len → ∃ q : Ed × V13, RepD Any w q.1 q.2 ∧ q.1.Fit ∧ w.rangeAt b (o + i * 13) (enc13 q.2) := fun i hil => by
        obtain ⟨cs', y, m, -, -, hr, ht⟩ := hi i hil
        obtain ⟨e, z, h1, h2, rfl⟩ := trod_edit ht
        exact ⟨(e, z), h1, h2, hr⟩
      obtain ⟨q0, -⟩ := hall 0 h0
      refine ⟨fun i => if hh : i < len then (hall i hh).choose else q0, fun i hh => ?_⟩
      simp only [dif_pos hh]
      exact (hall i hh).choose_spec
    obtain ⟨f, hf⟩ := this
    refine ⟨(List.range len).map fun i => (f i).1, ⟨(List.range len).map fun i => (f i).2, by simp, ⟨some ⟨b, o, none⟩, cap, by simp, by simpa using hlc, hcm, fun _ => ⟨b, o, rfl, trivial, fun i hi => ?_⟩⟩, fun i h1 h2 => ?_⟩, fun e he => ?_⟩
    · have := (hf i (by simpa using hi)).2.2
      simpa using this
    · have := (hf i (by simpa using h1)).1
      simpa using this
    · obtain ⟨i, hi, rfl⟩ := List.mem_map.1 he
      exact (hf i (by simpa using hi)).2.1
  · obtain rfl : len = 0 := by omega
    exact ⟨[], ⟨[], rfl, ⟨A, cap, rfl, by simp, hcm, fun h => absurd rfl h⟩, fun i h => by simp at h⟩, fun e he => by simp at he⟩
end
end Go.Proofs.Ytodbflfelimppaa.Eng
