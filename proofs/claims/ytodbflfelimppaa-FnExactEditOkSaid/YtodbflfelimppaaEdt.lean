/- Edits as plain data, and what it is that memory holds some. No statement of the seat is proved here. -/
import Derived.Test.YtodbflfelimppaaVal0
import Derived.Test.YtodbflfelimppaaAli
namespace Go.Proofs.Ytodbflfelimppaa.Eng
open Go.RowKit
set_option linter.unusedVariables false
set_option linter.unusedSimpArgs false

theorem Yld.cast {P : Program} {n : Nat} {S : Env} {o : Oper} {g : Bool} {w : World} {v v' : Value} (h : Yld P n S o g w v) (e : g = true → v = v') : Yld P n S o g w v' := fun a hs hg => by rw [← e hg]; exact h a hs hg
structure Ed where
  p : List Stp
  was : Tr
  had : Bool
  now : Tr
  has : Bool
noncomputable instance : DecidableEq Ed := fun a b => Classical.propDecidable (a = b)
structure V13 where
  a : Value
  y : V5
  h : Value
  z : V5
  k : Value
def enc13 (x : V13) : List Value := [x.a, x.y.a, x.y.b, x.y.c, x.y.d, x.y.e, x.h, x.z.a, x.z.b, x.z.c, x.z.d, x.z.e, x.k]
def V13.val (x : V13) : Value := .agg #[x.a, x.y.a, x.y.b, x.y.c, x.y.d, x.y.e, x.h, x.z.a, x.z.b, x.z.c, x.z.d, x.z.e, x.k]
def z13 : V13 := ⟨.slice none 0 0, z5, .bool false, z5, .bool false⟩
theorem enc13_val (x : V13) : Value.agg (enc13 x).toArray = x.val := rfl
/-- These cells are an edit, as memory tells. -/
def RepD (F : Nat → Prop) (w : World) (e : Ed) (x : V13) : Prop := RepP F w e.p x.a ∧ Rep F w e.was x.y.val ∧ x.h = .bool e.had ∧ Rep F w e.now x.z.val ∧ x.k = .bool e.has
theorem RepD.keep {F : Nat → Prop} {w w' : World} {e x} (h : RepD F w e x) (hw : ∀ k, k < w.heap.size → F k → w'.heap[k]? = w.heap[k]?) : RepD F w' e x := ⟨h.1.keep hw, h.2.1.keep hw, h.2.2.1, h.2.2.2.1.keep hw, h.2.2.2.2⟩
theorem RepD.weak {F G : Nat → Prop} {w : World} {e x} (h : RepD F w e x) (hfg : ∀ k, F k → G k) : RepD G w e x := ⟨h.1.weak hfg, h.2.1.weak hfg, h.2.2.1, h.2.2.2.1.weak hfg, h.2.2.2.2⟩
theorem RepD.chg {F : Nat → Prop} {w w' : World} {e x} (h : RepD F w e x) (hc : Chg No w w') : RepD F w' e x := h.keep fun k hk _ => hc.block k hk id
theorem RepD.cells {F w} {e : Ed} {x : V13} (h : RepD F w e x) : (enc13 x).all (·.oneCell') = true := by
  obtain ⟨h1, h2, h3, h4, h5⟩ := h
  rw [← enc5_val] at h2 h4
  have e1 := h1.one
  have e2 := h2.one
  have e4 := h4.one
  simp only [enc5, List.all_cons, List.all_nil, Bool.and_true, Bool.and_eq_true] at e2 e4
  have eb : ∀ b, (Value.bool b).oneCell' = true := fun _ => rfl
  simp only [enc13, List.all_cons, List.all_nil, e1, e2, e4, h3, h5, eb, Bool.and_self]
/-- The slice value holds these edits. -/
def RepDL (F : Nat → Prop) (w : World) (l : List Ed) (v : Value) : Prop := ∃ xs : List V13, xs.length = l.length ∧ RepE enc13 13 F w xs v ∧ ∀ i (h : i < l.length) (h' : i < xs.length), RepD F w l[i] xs[i]
theorem RepDL.weak {F G : Nat → Prop} {w : World} {l v} (h : RepDL F w l v) (hfg : ∀ k, F k → G k) : RepDL G w l v := by
  obtain ⟨xs, h1, h2, h3⟩ := h
  exact ⟨xs, h1, h2.weak hfg, fun i a b => (h3 i a b).weak hfg⟩
theorem RepDL.keep {F : Nat → Prop} {w w' : World} {l v} (h : RepDL F w l v) (hw : ∀ k, k < w.heap.size → F k → w'.heap[k]? = w.heap[k]?) : RepDL F w' l v := by
  obtain ⟨xs, h1, h2, h3⟩ := h
  exact ⟨xs, h1, h2.keep hw, fun i a b => (h3 i a b).keep hw⟩
theorem RepDL.chg {F : Nat → Prop} {w w' : World} {l v} (h : RepDL F w l v) (hc : Chg No w w') : RepDL F w' l v := h.keep fun k hk _ => hc.block k hk id
theorem RepDL.open {F w} {l : List Ed} {v} (h : RepDL F w l v) : ∃ A c, v = .slice A l.length c ∧ l.length ≤ 9223372036854775807 := by
  obtain ⟨xs, h1, h2, h3⟩ := h
  rw [← h1]
  exact h2.open
theorem RepDL.at {F w} {l : List Ed} {A m c} (h : RepDL F w l (.slice A m c)) (i : Nat) (hi : i < l.length) : ∃ b o x, A = some ⟨b, o, none⟩ ∧ F b ∧ w.rangeAt b (o + i * 13) (enc13 x) ∧ RepD F w l[i] x := by
  obtain ⟨xs, h1, h2, h3⟩ := h
  obtain ⟨b, o, e, hF, hr⟩ := h2.at i (by omega)
  exact ⟨b, o, xs[i]'(by omega), e, hF, hr, h3 i hi (by omega)⟩

structure Ed.Fit (e : Ed) : Prop where
  hp : ∀ s ∈ e.p, s.key.size ≤ 9223372036854775807
  was : e.was.Fit
  now : e.now.Fit
def Ed.sz (e : Ed) : Nat := e.p.length + e.p.foldr (fun s n => s.key.size + n) 0
def Ed.wt (e : Ed) : Nat := e.sz + e.was.wt + e.now.wt

def repD (G : Nat → Prop) (t : Ed) (x : V13) : Res := ⟨G, fun w => RepD G w t x ∧ ∀ k, G k → k < w.heap.size, fun _ _ h hi => ⟨hi.1.keep h, lt_keep hi.2 h⟩, fun _ hi => hi.2⟩
def repDL (G : Nat → Prop) (l : List Ed) (v : Value) : Res := ⟨G, fun w => RepDL G w l v ∧ ∀ k, G k → k < w.heap.size, fun _ _ h hi => ⟨hi.1.keep h, lt_keep hi.2 h⟩, fun _ hi => hi.2⟩
/-- Edits told by cells. -/
def kidsD (G : Nat → Prop) (l : List Ed) (xs : List V13) : Res := ⟨G, fun w => (∀ i (h : i < l.length), ∃ x, xs[i]? = some x ∧ RepD G w l[i] x) ∧ ∀ k, G k → k < w.heap.size, fun _ _ h hi => ⟨fun i hl => let ⟨x, h1, h2⟩ := hi.1 i hl; ⟨x, h1, h2.keep h⟩, lt_keep hi.2 h⟩, fun _ hi => hi.2⟩
section
variable {X : Nat → Prop} {w0 w : World} {L : List Res} {r : Res}
theorem Fr.kidsD0 {xs : List V13} (h : Fr X w0 (r :: L) w) : Fr X w0 (r :: kidsD No [] xs :: L) w := by
  obtain ⟨h1, h2, h3⟩ := h.mem
  refine h.tell _ ⟨h1, fun k hk q hq hqk => ?_, ⟨fun i hi => by simp at hi, fun k hk => hk.elim⟩, fun k hk => hk.elim, h3⟩ fun q hq k hk => ?_
  · rcases List.mem_cons.1 hq with rfl | hq
    · exact hqk.elim
    · exact h2 k hk q hq hqk
  · rcases List.mem_cons.1 hq with rfl | hq
    · exact ⟨_, List.mem_cons_self .., hk⟩
    · rcases List.mem_cons.1 hq with rfl | hq
      · exact hk.elim
      · exact ⟨q, by simp [hq], hk⟩
theorem Fr.kidDIn {F Fc : Nat → Prop} {l : List Ed} {xs xs' : List V13} {t : Ed} {x : V13} (h : Fr X w0 (repD Fc t x :: r :: kidsD F l xs :: L) w) (hx : xs'[l.length]? = some x) (hxs : ∀ i, i < l.length → xs'[i]? = xs[i]?) : Fr X w0 (r :: kidsD (fun b => F b ∨ Fc b) (l ++ [t]) xs' :: L) w := by
  obtain ⟨h1, h2, h3, h4, h5, h6, h7⟩ := h.mem
  refine h.tell _ ⟨h3, fun k hk q hq hqk => ?_, ⟨fun i hi => ?_, fun k hk => hk.elim (h5.2 k) (h1.2 k)⟩, fun k hk q hq hqk => ?_, h7⟩ fun q hq k hk => ?_
  · rcases List.mem_cons.1 hq with rfl | hq
    · rcases hqk with hqk | hqk
      · exact h4 k hk (kidsD F l xs) (by simp) hqk
      · exact h2 k hqk r (by simp) hk
    · exact h4 k hk q (by simp [hq]) hqk
  · by_cases hl : i < l.length
    · obtain ⟨y, h8, h9⟩ := h5.1 i hl
      exact ⟨y, by rw [hxs i hl]; exact h8, by rw [List.getElem_append_left hl]; exact h9.weak fun _ h => .inl h⟩
    · have : i = l.length := by simp at hi; omega
      subst this
      refine ⟨x, hx, ?_⟩
      rw [List.getElem_append_right (Nat.le_refl _)]
      simp only [Nat.sub_self, List.getElem_cons_zero]
      exact h1.1.weak fun _ h => .inr h
  · rcases hk with hk | hk
    · exact h6 k hk q hq hqk
    · exact h2 k hk q (by simp [hq]) hqk
  · rcases List.mem_cons.1 hq with rfl | hq
    · exact ⟨q, by simp, hk⟩
    · rcases List.mem_cons.1 hq with rfl | hq
      · rcases hk with hk | hk
        · exact ⟨kidsD F l xs, by simp, hk⟩
        · exact ⟨repD Fc t x, by simp, hk⟩
      · exact ⟨q, by simp [hq], hk⟩
theorem Fr.toRepDL {F : Nat → Prop} {l : List Ed} {v : Value} {xs : List V13} (h : Fr X w0 (own 84 13 v xs.length (xs.flatMap enc13) :: kidsD F l xs :: L) w) (hl : xs.length = l.length) : Fr X w0 (repDL (fun b => v.ownBlock = some b ∨ F b) l v :: L) w := by
  obtain ⟨h1, h2, h3, h4, h5⟩ := h.mem
  have h1' : w.ownsRow 0 84 13 v xs.length (xs.flatMap enc13) := h1
  refine h.tell _ ⟨⟨⟨xs, hl, (own_rep (enc := enc13) (sz := 13) (fun _ => rfl) h1').weak fun _ h => .inl h, fun i a b => ?_⟩, fun k hk => hk.elim ((own 84 13 v _ _).lt w h1 k) (h3.2 k)⟩, fun k hk q hq hqk => ?_, h5⟩ fun q hq k hk => ?_
  · obtain ⟨x, h8, h9⟩ := h3.1 i a
    rw [List.getElem?_eq_getElem b] at h8
    obtain rfl := Option.some.inj h8
    exact h9.weak fun _ h => .inr h
  · rcases hk with hk | hk
    · exact h2 k hk q (by simp [hq]) hqk
    · exact h4 k hk q hq hqk
  · rcases List.mem_cons.1 hq with rfl | hq
    · rcases hk with hk | hk
      · exact ⟨own 84 13 v xs.length (xs.flatMap enc13), by simp, hk⟩
      · exact ⟨kidsD F l xs, by simp, hk⟩
    · exact ⟨q, by simp [hq], hk⟩
/-- A way and two trees make an edit. -/
theorem Fr.toRepD {G1 G2 : Nat → Prop} {p : List Stp} {t u : Tr} {had has : Bool} {v : Value} {y z : V5} (h : Fr X w0 (sep G2 u z.val :: sep G1 t y.val :: own 52 3 v p.length (p.flatMap pCells) :: L) w) : Fr X w0 (repD (fun b => v.ownBlock = some b ∨ G1 b ∨ G2 b) ⟨p, t, had, u, has⟩ ⟨v, y, .bool had, z, .bool has⟩ :: L) w := by
  obtain ⟨h1, h2, h3, h4, h5, h6, h7⟩ := h.mem
  have h1' : Sep w G2 u z.val := h1
  have h3' : Sep w G1 t y.val := h3
  have h5' : w.ownsRow 0 52 3 v p.length (p.flatMap pCells) := h5
  refine h.tell _ ⟨⟨⟨(own_rep (enc := pCells) (sz := 3) (fun _ => rfl) h5').weak fun _ h => .inl h, h3'.repF.weak fun _ h => .inr (.inl h), rfl, h1'.repF.weak fun _ h => .inr (.inr h), rfl⟩, fun k hk => ?_⟩, fun k hk q hq hqk => ?_, h7⟩ fun q hq k hk => ?_
  · rcases hk with hk | hk | hk
    · exact (own 52 3 v _ _).lt w h5 k hk
    · exact h3'.lt k hk
    · exact h1'.lt k hk
  · rcases hk with hk | hk | hk
    · exact h6 k hk q hq hqk
    · exact h4 k hk q (by simp [hq]) hqk
    · exact h2 k hk q (by simp [hq]) hqk
  · rcases List.mem_cons.1 hq with rfl | hq
    · rcases hk with hk | hk | hk
      · exact ⟨own 52 3 v p.length (p.flatMap pCells), by simp, hk⟩
      · exact ⟨sep G1 t y.val, by simp, hk⟩
      · exact ⟨sep G2 u z.val, by simp, hk⟩
    · exact ⟨q, by simp [hq], hk⟩
end
end Go.Proofs.Ytodbflfelimppaa.Eng
