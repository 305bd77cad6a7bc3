/- What strings.Join gives, as plain data. No statement of the seat is proved here. -/
import Derived.Test.YtpfkcblhojkaiaaDoorRow
import Derived.Test.YtpfkcblhojkaiaaDoorShJ
import Derived.Lib.Join
namespace Go.Proofs.YtpfkcblhojkaiaaDoor.Eng
open Go.RowKit
set_option linter.unusedVariables false
set_option linter.unusedSimpArgs false
theorem Chg.ofBelow {w w' : World} (h : Below w.heap.size w w') : Chg No w w' := by
  obtain ⟨h1, h2, h3, h4, h5⟩ := h
  exact ⟨h1, h2, h3, h4, fun k hk _ => h5 k hk⟩
theorem join_ct (xs : List ByteArray) (v : Value) (w : World) (h : RepS Any w xs v) (hN : xs.length ≤ 1000) (hlen : (Lib.join (xs.map (·.data.toList)) [44]).length ≤ 140737488355328) :
    Calls Tryd.prog 93 #[v, .string ⟨#[44]⟩] w fun e w' => e = .returned (.string ⟨(Lib.join (xs.map (·.data.toList)) [44]).toArray⟩) ∧ Chg No w w' := by
  obtain ⟨A, c, rfl, hlc, hcm, hne⟩ := h
  by_cases h0 : xs = []
  · subst h0
    exact (Tryd.strings_Join_none A c ⟨#[44]⟩ w).mono fun e w' ⟨he, hw⟩ => ⟨he, by rw [hw]; exact Chg.refl _ _⟩
  · obtain ⟨b, o, rfl, -, hi⟩ := hne h0
    have hp : 0 < xs.length := List.length_pos_iff.2 h0
    have hcell : ∀ (j : Nat) x, xs[j]? = some x → w.cell? ⟨b, o + j, none⟩ = some (.string x) := fun j x hx => by
      have hj : j < xs.length := (List.getElem?_eq_some_iff.1 hx).1
      have h1 := hi j hj 0 (.string xs[j]) rfl
      rw [List.getElem?_eq_getElem hj] at hx
      obtain rfl := Option.some.inj hx
      simpa using h1
    exact (Tryd.strings_Join b o c xs ⟨#[44]⟩ w hcell (cell_lt (hcell 0 _ (List.getElem?_eq_getElem hp))) (by omega) hlc hlen).mono fun e w' ⟨he, hw⟩ => ⟨he, Chg.ofBelow hw⟩
end Go.Proofs.YtpfkcblhojkaiaaDoor.Eng
