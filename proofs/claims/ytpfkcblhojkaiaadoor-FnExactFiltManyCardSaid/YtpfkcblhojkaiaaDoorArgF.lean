/- What a filter argument that can be read as data gives. No statement of the seat is proved here. -/
import Derived.Test.YtpfkcblhojkaiaaDoorFil
import Derived.Test.YtpfkcblhojkaiaaDoorArg
namespace Go.Proofs.YtpfkcblhojkaiaaDoor.Eng
open Go.RowKit Go.ChangeShapes Go.WideShapes Go.ChangeAt
set_option linter.unusedVariables false
set_option linter.unusedSimpArgs false
set_option linter.constructorNameAsVariable false
section
variable {H : Type} {enc : TypeId × Value → H} {w : World} {sp : Nat → Bool} {held : Bool}
set_option maxRecDepth 100000 in
theorem trod_filt : ∀ (fuel : Nat) (cs : List Value) (x : DataW H × List MemPlace), DataW.trod enc Tryd.prog w 0 sp held fuel 28 cs = some x → ∃ t : Fl, RepF Any w t (.agg cs.toArray) ∧ t.Fit ∧ cs.length = 9 := by
  intro fuel
  induction fuel using Nat.strongRecOn with
  | _ fuel ih =>
  intro cs x h
  obtain ⟨xs, n, hfu, -, hl, hlen, hf⟩ := DataW.trod_struct Tryd.underlying28 h
  have c1 : Tryd.prog.cellsOf 3 = 1 := by kernel_rfl
  have c2 : Tryd.prog.cellsOf 9 = 1 := by kernel_rfl
  have c3 : Tryd.prog.cellsOf 25 = 5 := by kernel_rfl
  have c5 : Tryd.prog.cellsOf 26 = 1 := by kernel_rfl
  have c4 : Tryd.prog.cellsOf 28 = 9 := by kernel_rfl
  rw [c4] at hl
  have f0 : DataW.trod enc Tryd.prog w 0 sp held n 3 ((cs.drop 0).take (Tryd.prog.cellsOf 3)) = _ := hf 0 _ rfl
  have f1 : DataW.trod enc Tryd.prog w 0 sp held n 3 ((cs.drop 1).take (Tryd.prog.cellsOf 3)) = _ := hf 1 _ rfl
  have f2 : DataW.trod enc Tryd.prog w 0 sp held n 9 ((cs.drop 2).take (Tryd.prog.cellsOf 9)) = _ := hf 2 _ rfl
  have f3 : DataW.trod enc Tryd.prog w 0 sp held n 25 ((cs.drop 3).take (Tryd.prog.cellsOf 25)) = _ := hf 3 _ rfl
  have f4 : DataW.trod enc Tryd.prog w 0 sp held n 26 ((cs.drop 8).take (Tryd.prog.cellsOf 26)) = _ := hf 4 _ rfl
  rw [c1] at f0 f1
  rw [c2] at f2
  rw [c3] at f3
  rw [c5] at f4
  simp only [List.size_toArray, List.length_cons, List.length_nil] at hlen
  rw [List.getElem?_eq_getElem (by omega)] at f0 f1 f2 f3 f4
  obtain ⟨k, h0, -⟩ := trod_int Tryd.underlying3 f0
  obtain ⟨n', h1, -⟩ := trod_int Tryd.underlying3 f1
  obtain ⟨s, h2, hs⟩ := trod_str Tryd.underlying9 f2
  obtain ⟨tv, h3, htv, hl5⟩ := trod_tree _ _ _ f3
  obtain ⟨A4, l4, c4', h4, hl4, hc4, he4⟩ := trod_row sl26 rfl f4
  have key : ∃ (l : List Fl) (f : Nat → List Value), l.length = l4 ∧ (∀ t ∈ l, t.Fit) ∧ At Any w A4 9 l4 f ∧ ∀ i (hi : i < l.length), RepF Any w l[i] (.agg (f i).toArray) := by
    by_cases hp : 0 < l4
    · obtain ⟨b, o, rfl, hi⟩ := he4 hp
      have hall : ∀ i, ∃ (t : Fl) (cs' : List Value), i < l4 → RepF Any w t (.agg cs'.toArray) ∧ t.Fit ∧ cs'.length = 9 ∧ w.rangeAt b (o + i * 9) cs' := fun i => by
        by_cases hil : i < l4
        · obtain ⟨cs', y, m, hm, -, hr, ht⟩ := hi i hil
          obtain ⟨t, h5, h6, h7⟩ := ih m (by omega) cs' y ht
          exact ⟨t, cs', fun _ => ⟨h5, h6, h7, hr⟩⟩
        · exact ⟨.mk 0 0 ⟨#[]⟩ (.mk 0 0 ⟨#[]⟩ [] []) [], [], fun h => absurd h hil⟩
      refine ⟨(List.range l4).map fun i => (hall i).choose, fun i => (hall i).choose_spec.choose, by simp, fun t ht => ?_, fun _ => ⟨b, o, rfl, trivial, fun i hil => ?_⟩, fun i hil => ?_⟩
      · obtain ⟨i, hi', rfl⟩ := List.mem_map.1 ht
        exact ((hall i).choose_spec.choose_spec (by simpa using hi')).2.1
      · have := (hall i).choose_spec.choose_spec hil
        exact ⟨this.2.2.1, this.2.2.2⟩
      · have := ((hall i).choose_spec.choose_spec (by simpa using hil)).1
        simpa using this
    · obtain rfl : l4 = 0 := by omega
      exact ⟨[], fun _ => [], rfl, fun t ht => by simp at ht, fun h => absurd h (by omega), fun i hi => by simp at hi⟩
  obtain ⟨l, f, hl1, hl2, hl3', hl4'⟩ := key
  refine ⟨.mk k n' s tv l, ?_, .mk hs htv hl2, hl⟩
  match cs, hl with
  | [x0, x1, x2, x3, x4, x5, x6, x7, x8], _ =>
    simp at h0 h1 h2 h3 h4
    subst h0 h1 h2 h4
    subst hl1
    exact RepF.close (y := ⟨x3, x4, x5, x6, x7⟩) h3 ⟨A4, c4', f, rfl, hl4, hc4, hl3', hl4'⟩
theorem open_filt {v : Value} {d : DataW H} {ps : List MemPlace} (h : DataW.Trod enc Tryd.prog w 0 sp held 28 v d ps) : ∃ t : Fl, RepF Any w t v ∧ t.Fit := by
  obtain ⟨fuel, h⟩ := h
  obtain ⟨t, h1, h2, h3⟩ := trod_filt fuel _ _ h
  rw [← agg_of_cells (n := 7) h3] at h1
  exact ⟨t, h1, h2⟩
end
theorem RepF.form {F w t v} (h : RepF F w t v) : ∃ (k n : Int) (s : ByteArray) (y : V5) (v4 : Value), v = .agg #[.int .i64 k, .int .i64 n, .string s, y.a, y.b, y.c, y.d, y.e, v4] := by
  obtain ⟨k, n, s, tv, l⟩ := t
  obtain ⟨y, v4, e, -, -⟩ := h.open
  exact ⟨k, n, s, y, v4, e⟩
end Go.Proofs.YtpfkcblhojkaiaaDoor.Eng
