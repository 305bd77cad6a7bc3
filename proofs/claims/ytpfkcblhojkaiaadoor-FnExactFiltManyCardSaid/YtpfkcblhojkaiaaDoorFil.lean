/- Filters as plain data, and what it is that memory holds one. No statement of the seat is proved here. -/
import Derived.Test.YtpfkcblhojkaiaaDoorVal0
import Derived.Test.YtpfkcblhojkaiaaDoorAli
namespace Go.Proofs.YtpfkcblhojkaiaaDoor.Eng
open Go.RowKit
set_option linter.unusedVariables false
set_option linter.unusedSimpArgs false

inductive Fl where
  | mk (k n : Int) (s : ByteArray) (v : Tr) (l : List Fl)
theorem Fl.ind {p : Fl → Prop} (h : ∀ k n s v l, (∀ x ∈ l, p x) → p (.mk k n s v l)) : ∀ t, p t := fun t =>
  Fl.rec (motive_1 := p) (motive_2 := fun l => ∀ x ∈ l, p x) (fun k n s v l hl => h k n s v l hl) (fun x hx => by simp at hx) (fun a l ha hl x hx => by
    rcases List.mem_cons.1 hx with rfl | hx
    · exact ha
    · exact hl x hx) t
noncomputable instance : DecidableEq Fl := fun a b => Classical.propDecidable (a = b)

/-- The value is a filter, as memory tells. -/
inductive RepF (F : Nat → Prop) (w : World) : Fl → Value → Prop
  | mk (k n : Int) (s : ByteArray) (v : Tr) (l : List Fl) (y : V5) (A : Option Addr) (c : Nat) (f : Nat → List Value) (hv : Rep F w v y.val) (hc : l.length ≤ c) (hc' : c ≤ 9223372036854775807) (ha : At F w A 9 l.length f)
      (hr : ∀ i (hi : i < l.length), RepF F w l[i] (.agg (f i).toArray)) : RepF F w (.mk k n s v l) (.agg #[.int .i64 k, .int .i64 n, .string s, y.a, y.b, y.c, y.d, y.e, .slice A l.length c])
def RepFL (F : Nat → Prop) (w : World) (l : List Fl) (v : Value) : Prop :=
  ∃ A c f, v = .slice A l.length c ∧ l.length ≤ c ∧ c ≤ 9223372036854775807 ∧ At F w A 9 l.length f ∧ ∀ i (hi : i < l.length), RepF F w l[i] (.agg (f i).toArray)
theorem RepF.open {F w k n s v l x} (h : RepF F w (.mk k n s v l) x) : ∃ (y : V5) (v4 : Value), x = .agg #[.int .i64 k, .int .i64 n, .string s, y.a, y.b, y.c, y.d, y.e, v4] ∧ Rep F w v y.val ∧ RepFL F w l v4 := by
  cases h with
  | mk k n s v l y A c f hv hc hc' ha hr => exact ⟨y, _, rfl, hv, A, c, f, rfl, hc, hc', ha, hr⟩
theorem RepF.close {F w k n s v l} {y : V5} {v4 : Value} (hv : Rep F w v y.val) (h4 : RepFL F w l v4) : RepF F w (.mk k n s v l) (.agg #[.int .i64 k, .int .i64 n, .string s, y.a, y.b, y.c, y.d, y.e, v4]) := by
  obtain ⟨A, c, f, rfl, hc, hc', ha, hr⟩ := h4
  exact .mk k n s v l y A c f hv hc hc' ha hr
theorem RepF.keep {F : Nat → Prop} {w w' : World} (hw : ∀ k, k < w.heap.size → F k → w'.heap[k]? = w.heap[k]?) {t v} (h : RepF F w t v) : RepF F w' t v := by
  induction h with
  | mk k n s v l y A c f hv hc hc' ha hr ih => exact .mk k n s v l y A c f (hv.keep hw) hc hc' (ha.keep (by omega) hw) ih
theorem RepF.weak {F G : Nat → Prop} {w : World} (hfg : ∀ k, F k → G k) {t v} (h : RepF F w t v) : RepF G w t v := by
  induction h with
  | mk k n s v l y A c f hv hc hc' ha hr ih => exact .mk k n s v l y A c f (hv.weak hfg) hc hc' (ha.weak hfg) ih
theorem RepFL.keep {F : Nat → Prop} {w w' : World} {l v} (h : RepFL F w l v) (hw : ∀ k, k < w.heap.size → F k → w'.heap[k]? = w.heap[k]?) : RepFL F w' l v := by
  obtain ⟨A, c, f, h1, h2, h2', h3, h4⟩ := h
  exact ⟨A, c, f, h1, h2, h2', h3.keep (by omega) hw, fun i hi => (h4 i hi).keep hw⟩
theorem RepFL.weak {F G : Nat → Prop} {w : World} {l v} (h : RepFL F w l v) (hfg : ∀ k, F k → G k) : RepFL G w l v := by
  obtain ⟨A, c, f, h1, h2, h2', h3, h4⟩ := h
  exact ⟨A, c, f, h1, h2, h2', h3.weak hfg, fun i hi => (h4 i hi).weak hfg⟩
theorem RepF.chg {w w' : World} {F t v} (h : RepF F w t v) (hc : Chg No w w') : RepF F w' t v := h.keep fun k hk _ => hc.block k hk id
theorem RepFL.chg {w w' : World} {F t v} (h : RepFL F w t v) (hc : Chg No w w') : RepFL F w' t v := h.keep fun k hk _ => hc.block k hk id
theorem RepFL.open {F w} {xs : List Fl} {v} (h : RepFL F w xs v) : ∃ A c, v = .slice A xs.length c ∧ xs.length ≤ 9223372036854775807 := by
  obtain ⟨A, c, f, h1, h2, h3, _⟩ := h
  exact ⟨A, c, h1, by omega⟩
theorem RepFL.at {F w} {xs : List Fl} {A m c} (h : RepFL F w xs (.slice A m c)) (i : Nat) (hi : i < xs.length) : ∃ b o cs, A = some ⟨b, o, none⟩ ∧ F b ∧ cs.length = 9 ∧ w.rangeAt b (o + i * 9) cs ∧ RepF F w xs[i] (.agg cs.toArray) := by
  obtain ⟨A', c', f, h1, h2, h2', h3, h4⟩ := h
  obtain ⟨rfl, rfl, rfl⟩ : A = A' ∧ m = xs.length ∧ c = c' := by simpa using h1
  obtain ⟨b, o, h5, h6, h7⟩ := h3 (by omega)
  exact ⟨b, o, f i, h5, h6, (h7 i hi).1, (h7 i hi).2, h4 i hi⟩
theorem RepFL.one {F w} {xs : List Fl} {v} (h : RepFL F w xs v) : v.oneCell' = true := by
  obtain ⟨A, c, f, rfl, -⟩ := h
  rfl
inductive Fl.Fit : Fl → Prop
  | mk {k n s v l} (hs : s.size ≤ 9223372036854775807) (hv : v.Fit) (hl : ∀ x ∈ l, Fl.Fit x) : Fl.Fit (.mk k n s v l)
mutual
def Fl.wt : Fl → Nat | .mk _ _ s v l => s.size + v.wt + (l.length + Fl.wt1 l)
def Fl.wt1 : List Fl → Nat | [] => 0 | x :: l => x.wt + Fl.wt1 l
end
theorem Fl.wt1_sum : ∀ l : List Fl, Fl.wt1 l = sumN Fl.wt l
  | [] => by simp [Fl.wt1, sumN]
  | x :: l => by rw [Fl.wt1, Fl.wt1_sum l, sumN_cons]
theorem Fl.wt_mk (k n : Int) (s : ByteArray) (v : Tr) (l : List Fl) : (Fl.mk k n s v l).wt = s.size + v.wt + (l.length + sumN Fl.wt l) := by rw [Fl.wt, Fl.wt1_sum]

/-! ### Cells -/
structure V9 where
  a : Value
  b : Value
  c : Value
  y : V5
  e : Value
def enc9 (x : V9) : List Value := [x.a, x.b, x.c, x.y.a, x.y.b, x.y.c, x.y.d, x.y.e, x.e]
def V9.val (x : V9) : Value := .agg #[x.a, x.b, x.c, x.y.a, x.y.b, x.y.c, x.y.d, x.y.e, x.e]
def z9 : V9 := ⟨.int .i64 0, .int .i64 0, .string ⟨#[]⟩, z5, .slice none 0 0⟩
theorem enc9_val (x : V9) : Value.agg (enc9 x).toArray = x.val := rfl
theorem RepF.cells {F w} {t : Fl} {x : V9} (h : RepF F w t x.val) : (enc9 x).all (·.oneCell') = true := by
  obtain ⟨k, n, s, v, l⟩ := t
  obtain ⟨y, v4, e, hv, h4⟩ := h.open
  obtain ⟨a, b, c, ⟨p, q, r, u, z⟩, d⟩ := x
  obtain ⟨p', q', r', u', z'⟩ := y
  simp only [V9.val, Value.agg.injEq, Array.mk.injEq, List.cons.injEq, and_true] at e
  obtain ⟨rfl, rfl, rfl, rfl, rfl, rfl, rfl, rfl, rfl⟩ := e
  have h1 : (enc5 ⟨p, q, r, u, z⟩).all (·.oneCell') = true := by
    have hv' := hv
    rw [← enc5_val] at hv'
    exact hv'.one
  have h2 := h4.one
  simp [enc5, enc9, Value.oneCell'] at h1 ⊢
  simp [h1]
  exact h2
/-- A filter that lies in blocks of G, which the call owns. -/
def repF (G : Nat → Prop) (t : Fl) (v : Value) : Res := ⟨G, fun w => RepF G w t v ∧ ∀ k, G k → k < w.heap.size, fun _ _ h hi => ⟨hi.1.keep h, lt_keep hi.2 h⟩, fun _ hi => hi.2⟩
def repFL (G : Nat → Prop) (l : List Fl) (v : Value) : Res := ⟨G, fun w => RepFL G w l v ∧ ∀ k, G k → k < w.heap.size, fun _ _ h hi => ⟨hi.1.keep h, lt_keep hi.2 h⟩, fun _ hi => hi.2⟩
/-- Filters told by cells. -/
def kidsF (G : Nat → Prop) (l : List Fl) (xs : List V9) : Res := ⟨G, fun w => (∀ i (h : i < l.length), ∃ x, xs[i]? = some x ∧ RepF G w l[i] x.val) ∧ ∀ k, G k → k < w.heap.size, fun _ _ h hi => ⟨fun i hl => let ⟨x, h1, h2⟩ := hi.1 i hl; ⟨x, h1, h2.keep h⟩, lt_keep hi.2 h⟩, fun _ hi => hi.2⟩
section
variable {X : Nat → Prop} {w0 w : World} {L : List Res} {r : Res}
theorem Fr.kidsF0 {xs : List V9} (h : Fr X w0 (r :: L) w) : Fr X w0 (r :: kidsF No [] xs :: L) w := by
  obtain ⟨h1, h2, h3⟩ := h.mem
  refine h.tell _ ⟨h1, fun k hk q hq hqk => ?_, ⟨fun i hi => by simp at hi, fun k hk => hk.elim⟩, fun k hk => hk.elim, h3⟩ fun q hq k hk => ?_
  · rcases List.mem_cons.1 hq with rfl | hq
    · exact hqk.elim
    · exact h2 k hk q hq hqk
  · rcases List.mem_cons.1 hq with rfl | hq
    · exact ⟨_, List.mem_cons_self .., hk⟩
    · rcases List.mem_cons.1 hq with rfl | hq
      · exact hk.elim
      · exact ⟨q, by simp [hq], hk⟩
theorem Fr.kidFIn {F Fc : Nat → Prop} {l : List Fl} {xs xs' : List V9} {t : Fl} {x : V9} (h : Fr X w0 (repF Fc t x.val :: r :: kidsF F l xs :: L) w) (hx : xs'[l.length]? = some x) (hxs : ∀ i, i < l.length → xs'[i]? = xs[i]?) : Fr X w0 (r :: kidsF (fun b => F b ∨ Fc b) (l ++ [t]) xs' :: L) w := by
  obtain ⟨h1, h2, h3, h4, h5, h6, h7⟩ := h.mem
  refine h.tell _ ⟨h3, fun k hk q hq hqk => ?_, ⟨fun i hi => ?_, fun k hk => hk.elim (h5.2 k) (h1.2 k)⟩, fun k hk q hq hqk => ?_, h7⟩ fun q hq k hk => ?_
  · rcases List.mem_cons.1 hq with rfl | hq
    · rcases hqk with hqk | hqk
      · exact h4 k hk (kidsF F l xs) (by simp) hqk
      · exact h2 k hqk r (by simp) hk
    · exact h4 k hk q (by simp [hq]) hqk
  · by_cases hl : i < l.length
    · obtain ⟨y, h8, h9⟩ := h5.1 i hl
      exact ⟨y, by rw [hxs i hl]; exact h8, by rw [List.getElem_append_left hl]; exact h9.weak fun _ h => .inl h⟩
    · have : i = l.length := by simp at hi; omega
      subst this
      refine ⟨x, hx, ?_⟩
      rw [List.getElem_append_right (Nat.le_refl _)]
      simp only [Nat.sub_self, List.getElem_cons_zero]
      exact h1.1.weak fun _ h => .inr h
  · rcases hk with hk | hk
    · exact h6 k hk q hq hqk
    · exact h2 k hk q (by simp [hq]) hqk
  · rcases List.mem_cons.1 hq with rfl | hq
    · exact ⟨q, by simp, hk⟩
    · rcases List.mem_cons.1 hq with rfl | hq
      · rcases hk with hk | hk
        · exact ⟨kidsF F l xs, by simp, hk⟩
        · exact ⟨repF Fc t x.val, by simp, hk⟩
      · exact ⟨q, by simp [hq], hk⟩
theorem Fr.toRepFL {F : Nat → Prop} {l : List Fl} {v : Value} {xs : List V9} (h : Fr X w0 (own 36 9 v xs.length (xs.flatMap enc9) :: kidsF F l xs :: L) w) (hl : xs.length = l.length) : Fr X w0 (repFL (fun b => v.ownBlock = some b ∨ F b) l v :: L) w := by
  obtain ⟨h1, h2, h3, h4, h5⟩ := h.mem
  have h1' : w.ownsRow 0 36 9 v xs.length (xs.flatMap enc9) := h1
  obtain ⟨A, c, e1, e2, e3, e4⟩ := own_rep (enc := enc9) (sz := 9) (fun _ => rfl) h1'
  rw [hl] at e1 e2
  refine h.tell _ ⟨⟨⟨A, c, fun i => if hi : i < xs.length then enc9 xs[i] else enc9 z9, e1, e2, e3, fun hm => ?_, fun i hi => ?_⟩, fun k hk => hk.elim ((own 36 9 v _ _).lt w h1 k) (h3.2 k)⟩, fun k hk q hq hqk => ?_, h5⟩ fun q hq k hk => ?_
  · obtain ⟨b, o, e5, eF, e6⟩ := e4 (by intro e; rw [e] at hl; simp at hl; omega)
    refine ⟨b, o, e5, .inl eF, fun i hi => ?_⟩
    have hi' : i < xs.length := by omega
    simp only [dif_pos hi']
    exact ⟨rfl, e6 i hi'⟩
  · have hi' : i < xs.length := by omega
    obtain ⟨x, h8, h9⟩ := h3.1 i hi
    rw [List.getElem?_eq_getElem hi'] at h8
    obtain rfl := Option.some.inj h8
    simp only [dif_pos hi']
    rw [enc9_val]
    exact h9.weak fun _ h => .inr h
  · rcases hk with hk | hk
    · exact h2 k hk q (by simp [hq]) hqk
    · exact h4 k hk q hq hqk
  · rcases List.mem_cons.1 hq with rfl | hq
    · rcases hk with hk | hk
      · exact ⟨own 36 9 v xs.length (xs.flatMap enc9), by simp, hk⟩
      · exact ⟨kidsF F l xs, by simp, hk⟩
    · exact ⟨q, by simp [hq], hk⟩
theorem Fr.toRepF {F G : Nat → Prop} {k n : Int} {s : ByteArray} {t : Tr} {l : List Fl} {y : V5} {v4 : Value} (h : Fr X w0 (repFL F l v4 :: sep G t y.val :: L) w) : Fr X w0 (repF (fun b => G b ∨ F b) (.mk k n s t l) (V9.val ⟨.int .i64 k, .int .i64 n, .string s, y, v4⟩) :: L) w := by
  obtain ⟨h1, h2, h3, h4, h5⟩ := h.mem
  have h3' : Sep w G t y.val := h3
  refine h.tell _ ⟨⟨RepF.close (h3'.repF.weak fun _ h => .inl h) (h1.1.weak fun _ h => .inr h), fun k hk => hk.elim (h3'.lt k) (h1.2 k)⟩, fun k hk q hq hqk => ?_, h5⟩ fun q hq k hk => ?_
  · rcases hk with hk | hk
    · exact h4 k hk q hq hqk
    · exact h2 k hk q (by simp [hq]) hqk
  · rcases List.mem_cons.1 hq with rfl | hq
    · rcases hk with hk | hk
      · exact ⟨sep G t y.val, by simp, hk⟩
      · exact ⟨repFL F l v4, by simp, hk⟩
    · exact ⟨q, by simp [hq], hk⟩
end
end Go.Proofs.YtpfkcblhojkaiaaDoor.Eng
