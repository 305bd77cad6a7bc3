/- What a global variable's operand reads as, and rows of whole numbers. No statement of the seat is proved here. -/
import Derived.Test.YtpfkcblhojkaiaaDoorVal0
namespace Go.Proofs.YtpfkcblhojkaiaaDoor.Eng
open Go.RowKit
set_option linter.unusedVariables false
set_option linter.unusedSimpArgs false
theorem ev_G {S : Env} {g : Bool} {n : Nat} : Ev S g (.global n) (.pointer (some ⟨n, 0, none⟩)) := fun _ _ _ _ => rfl
def iCells (n : Int) : List Value := [.int .i64 n]
/-- The variable holds this row of whole numbers, in places of F alone. -/
def FK (n : Nat) (xs : List Int) (F : Nat → Prop) (w : World) : Prop := ∃ b o c, w.cell? ⟨n, 0, none⟩ = some (.slice (some ⟨b, o, none⟩) xs.length c) ∧ F n ∧ RepE iCells 1 F w xs (.slice (some ⟨b, o, none⟩) xs.length c)
theorem FK.keepX {n : Nat} {xs : List Int} {F X : Nat → Prop} {w w' : World} (h : FK n xs F w) (hc : Chg X w w') (hd : ∀ k, F k → ¬ X k) : FK n xs F w' := by
  obtain ⟨b, o, c, h1, h2, h3⟩ := h
  exact ⟨b, o, c, hc.cell h1 (hd n h2), h2, h3.keep fun k hk hF => hc.block k hk (hd k hF)⟩
theorem FK.chg {n : Nat} {xs : List Int} {F : Nat → Prop} {w w' : World} (h : FK n xs F w) (hc : Chg No w w') : FK n xs F w' := h.keepX hc fun _ _ h => h
theorem FK.weak {n : Nat} {xs : List Int} {F G : Nat → Prop} {w : World} (h : FK n xs F w) (hg : ∀ k, F k → G k) : FK n xs G w := by
  obtain ⟨b, o, c, h1, h2, h3⟩ := h
  exact ⟨b, o, c, h1, hg n h2, h3.weak hg⟩
/-- All of it lies in old memory. -/
theorem FK.old {n : Nat} {xs : List Int} {F : Nat → Prop} {w : World} (h : FK n xs F w) (h0 : xs ≠ []) : FK n xs (fun k => F k ∧ k < w.heap.size) w := by
  obtain ⟨b, o, c, h1, h2, A, c', e, h3, h4, h5⟩ := h
  obtain ⟨b', o', e1, hF, hr⟩ := h5 h0
  obtain ⟨rfl, rfl⟩ : some (⟨b, o, none⟩ : Addr) = A ∧ c = c' := by
    injection e with q1 _ q3
    exact ⟨q1, q3⟩
  obtain ⟨rfl, rfl⟩ : b = b' ∧ o = o' := by simpa using e1
  have hpos : 0 < xs.length := List.length_pos_iff.2 h0
  exact ⟨b, o, c, h1, ⟨h2, cell_lt h1⟩, _, c, rfl, h3, h4, fun _ => ⟨b, o, rfl, ⟨hF, cell_lt (hr 0 hpos 0 (.int .i64 xs[0]) rfl)⟩, hr⟩⟩
theorem RepE.icell {F : Nat → Prop} {w : World} {xs : List Int} {b o m c : Nat} (h : RepE iCells 1 F w xs (.slice (some ⟨b, o, none⟩) m c)) (k : Int) (h0 : 0 ≤ k) (h1 : k.toNat < xs.length) : w.cell? ⟨b, o + k.toNat * 1, none⟩ = some (.int .i64 (xs.getD k.toNat 0)) := by
  obtain ⟨b', o', e, -, hr⟩ := h.at k.toNat h1
  obtain ⟨rfl, rfl⟩ : b = b' ∧ o = o' := by simpa using e
  have := hr 0 (.int .i64 xs[k.toNat]) rfl
  rw [List.getD_eq_getElem?_getD, List.getElem?_eq_getElem h1]
  simpa using this
end Go.Proofs.YtpfkcblhojkaiaaDoor.Eng
