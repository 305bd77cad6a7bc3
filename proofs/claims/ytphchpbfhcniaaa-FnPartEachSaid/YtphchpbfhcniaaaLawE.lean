/- A row of trees of one call, with its cells: what may be read of it at any time. -/
import Derived.Test.YtphchpbfhcniaaaLawT
import Derived.Test.YtphchpbfhcniaaaPairs
namespace Go.Proofs.Ytphchpbfhcniaaa.Eng
open Go.RowKit
set_option linter.unusedVariables false
set_option linter.unusedSimpArgs false
set_option maxHeartbeats 1000000


theorem SepL.els {w : World} {F : Nat → Prop} {l : List Tr} {v : Value} (h : SepL w F l v) : ∃ xs : List V5, xs.length = l.length ∧ RepE enc5 5 F w xs v ∧ ALF F w l xs ∧ ∀ b, F b → b < w.heap.size := by
  obtain ⟨xs, Fk, h1, h2, ⟨x, G, k1, k2, k3, k4, k5⟩, h4, h5, h6⟩ := h
  rw [← h1] at h2
  refine ⟨xs, h1, (own_rep (enc := enc5) (sz := 5) (fun _ => rfl) h2).weak fun b hb => (h4 b hb).1, ⟨h1, fun j hj hj' => ?_⟩, h6⟩
  have e := k1 j hj
  rw [List.getElem?_eq_getElem hj'] at e
  rw [Option.some.inj e]
  exact (k2 j hj).repF.weak fun b hb => h5 b (k3 j hj b hb)
/-- A row of trees and its cells, that nobody writes. -/
def elR (G : Nat → Prop) (l : List Tr) (v : Value) (xs : List V5) : Res := ⟨G, fun w => RepE enc5 5 G w xs v ∧ ALF G w l xs ∧ ∀ b, G b → b < w.heap.size,
  fun w w' h hi => ⟨RepE.keep hi.1 fun k hk hF => h k hk hF, ⟨hi.2.1.1, fun j h1 h2 => (hi.2.1.2 j h1 h2).keep h⟩, lt_keep hi.2.2 h⟩, fun w hi k hk => hi.2.2 k hk⟩
theorem Fr.toEl {X : Nat → Prop} {w0 w : World} {L : List Res} {G : Nat → Prop} {l : List Tr} {A : Option Addr} {m c : Nat} (h : Fr X w0 (sepL G l (.slice A m c) :: L) w) : ∃ xs : List V5, xs.length = l.length ∧ Fr X w0 (elR G l (.slice A m c) xs :: L) w := by
  have hs : SepL w G l (.slice A m c) := h.get 0 rfl
  obtain ⟨xs, h1, h2, h3, h4⟩ := hs.els
  refine ⟨xs, h1, h.tell _ ⟨⟨h2, h3, h4⟩, fun k hk q hq hqk => h.mem.2.1 k hk q hq hqk, h.mem.2.2⟩ fun r hr k hk => ?_⟩
  rcases List.mem_cons.1 hr with rfl | hr
  · exact ⟨sepL G l (.slice A m c), by simp, hk⟩
  · exact ⟨r, by simp [hr], hk⟩
theorem el_at {w : World} {G : Nat → Prop} {l : List Tr} {A : Option Addr} {m c : Nat} {xs : List V5} (h : (elR G l (.slice A m c) xs).is w) (i : Nat) (hi : i < xs.length) : ∃ b o, A = some ⟨b, o, none⟩ := by
  obtain ⟨b, o, e, -⟩ := h.1.at i hi
  exact ⟨b, o, e⟩
theorem el_rng {w : World} {G : Nat → Prop} {l : List Tr} {A : Option Addr} {m c b o : Nat} {xs : List V5} (h : (elR G l (.slice A m c) xs).is w) (e : A = some ⟨b, o, none⟩) (i : Nat) (hi : i < xs.length) : w.rangeAt b (o + i * 5) [xs[i].a, xs[i].b, xs[i].c, xs[i].d, xs[i].e] := by
  obtain ⟨b', o', e', -, hr⟩ := h.1.at i hi
  subst e
  obtain ⟨rfl, rfl⟩ : b = b' ∧ o = o' := by simpa using e'
  exact hr
theorem el_rep {w : World} {G : Nat → Prop} {l : List Tr} {v : Value} {xs : List V5} (h : (elR G l v xs).is w) (i : Nat) (hi : i < l.length) (hx : i < xs.length) : Rep Any w l[i] xs[i].val := (h.2.1.2 i hi hx).weak fun _ _ => trivial

end Go.Proofs.Ytphchpbfhcniaaa.Eng
