/- Trees as plain data, and what it is that memory holds one. No statement of the seat is proved here. -/
import Derived.Test.YtpfkcblhojkaiaaDoorMem
namespace Go.Proofs.YtpfkcblhojkaiaaDoor.Eng
open Go.RowKit
set_option linter.unusedVariables false
set_option linter.unusedSimpArgs false

inductive Tr where
  | mk (k n : Int) (s : ByteArray) (ks : List ByteArray) (l : List Tr)

theorem Tr.ind {p : Tr → Prop} (h : ∀ k n s ks l, (∀ x ∈ l, p x) → p (.mk k n s ks l)) : ∀ t, p t := fun t =>
  Tr.rec (motive_1 := p) (motive_2 := fun l => ∀ x ∈ l, p x) (fun k n s ks l hl => h k n s ks l hl) (fun x hx => by simp at hx) (fun a l ha hl x hx => by
    rcases List.mem_cons.1 hx with rfl | hx
    · exact ha
    · exact hl x hx) t

noncomputable instance : DecidableEq Tr := fun a b => Classical.propDecidable (a = b)

def Tr.kind : Tr → Int | .mk k _ _ _ _ => k
def Tr.num : Tr → Int | .mk _ n _ _ _ => n
def Tr.str : Tr → ByteArray | .mk _ _ s _ _ => s
def Tr.keys : Tr → List ByteArray | .mk _ _ _ ks _ => ks
def Tr.list : Tr → List Tr | .mk _ _ _ _ l => l

/-- 'm' elements of 'sz' cells lie at 'A': the i-th one's cells are 'f i'. -/
def At (F : Nat → Prop) (w : World) (A : Option Addr) (sz m : Nat) (f : Nat → List Value) : Prop :=
  0 < m → ∃ b o, A = some ⟨b, o, none⟩ ∧ F b ∧ ∀ i, i < m → (f i).length = sz ∧ w.rangeAt b (o + i * sz) (f i)

theorem At.keep {F : Nat → Prop} {w w' : World} {A sz m f} (hsz : 0 < sz) (h : At F w A sz m f) (hw : ∀ k, k < w.heap.size → F k → w'.heap[k]? = w.heap[k]?) : At F w' A sz m f := fun hm => by
  obtain ⟨b, o, h1, h2, h3⟩ := h hm
  refine ⟨b, o, h1, h2, fun i hi => ⟨(h3 i hi).1, fun j v hj => ?_⟩⟩
  have hc := (h3 i hi).2 j v hj
  rw [World.cell?_of_block (w := w) (hw b (cell_lt hc) h2)]
  exact hc
theorem At.weak {F G : Nat → Prop} {w : World} {A sz m f} (h : At F w A sz m f) (hfg : ∀ k, F k → G k) : At G w A sz m f := fun hm => by
  obtain ⟨b, o, h1, h2, h3⟩ := h hm
  exact ⟨b, o, h1, hfg b h2, h3⟩

/-- The slice value holds these elements, each in 'sz' cells. -/
def RepE {α : Type} (enc : α → List Value) (sz : Nat) (F : Nat → Prop) (w : World) (xs : List α) (v : Value) : Prop :=
  ∃ A c, v = .slice A xs.length c ∧ xs.length ≤ c ∧ c ≤ 9223372036854775807 ∧ (xs ≠ [] → ∃ b o, A = some ⟨b, o, none⟩ ∧ F b ∧ ∀ i (hi : i < xs.length), w.rangeAt b (o + i * sz) (enc xs[i]))

def sCells (s : ByteArray) : List Value := [.string s]
/-- The slice value holds these texts. -/
abbrev RepS (F : Nat → Prop) (w : World) (ks : List ByteArray) (v : Value) : Prop := RepE sCells 1 F w ks v

structure Stp where
  m : Bool
  key : ByteArray
  pl : Int
  deriving DecidableEq
def pCells (p : Stp) : List Value := [.bool p.m, .string p.key, .int .i64 p.pl]
/-- The slice value holds these steps. -/
abbrev RepP (F : Nat → Prop) (w : World) (p : List Stp) (v : Value) : Prop := RepE pCells 3 F w p v

/-- The value is a tree, as memory tells. -/
inductive Rep (F : Nat → Prop) (w : World) : Tr → Value → Prop
  | mk (k n : Int) (s : ByteArray) (ks : List ByteArray) (l : List Tr) (v3 : Value) (A : Option Addr) (c : Nat) (f : Nat → List Value) (h3 : RepS F w ks v3) (hc : l.length ≤ c) (hc' : c ≤ 9223372036854775807) (ha : At F w A 5 l.length f)
      (hr : ∀ i (hi : i < l.length), Rep F w l[i] (.agg (f i).toArray)) : Rep F w (.mk k n s ks l) (.agg #[.int .i64 k, .int .i64 n, .string s, v3, .slice A l.length c])

/-- The slice value holds these trees. -/
def RepL (F : Nat → Prop) (w : World) (l : List Tr) (v : Value) : Prop :=
  ∃ A c f, v = .slice A l.length c ∧ l.length ≤ c ∧ c ≤ 9223372036854775807 ∧ At F w A 5 l.length f ∧ ∀ i (hi : i < l.length), Rep F w l[i] (.agg (f i).toArray)

theorem Rep.open {F w k n s ks l v} (h : Rep F w (.mk k n s ks l) v) : ∃ v3 v4, v = .agg #[.int .i64 k, .int .i64 n, .string s, v3, v4] ∧ RepS F w ks v3 ∧ RepL F w l v4 := by
  cases h with
  | mk k n s ks l v3 A c f h3 hc hc' ha hr => exact ⟨v3, _, rfl, h3, A, c, f, rfl, hc, hc', ha, hr⟩
theorem Rep.close {F w k n s ks l v3 v4} (h3 : RepS F w ks v3) (h4 : RepL F w l v4) : Rep F w (.mk k n s ks l) (.agg #[.int .i64 k, .int .i64 n, .string s, v3, v4]) := by
  obtain ⟨A, c, f, rfl, hc, hc', ha, hr⟩ := h4
  exact .mk k n s ks l v3 A c f h3 hc hc' ha hr

theorem Rep.form {F w t v} (h : Rep F w t v) : ∃ v3 v4, v = .agg #[.int .i64 t.kind, .int .i64 t.num, .string t.str, v3, v4] ∧ RepS F w t.keys v3 ∧ RepL F w t.list v4 := by
  obtain ⟨k, n, s, ks, l⟩ := t
  exact h.open

theorem RepE.keep {α : Type} {enc : α → List Value} {sz : Nat} {F : Nat → Prop} {w w' : World} {xs v} (h : RepE enc sz F w xs v) (hw : ∀ k, k < w.heap.size → F k → w'.heap[k]? = w.heap[k]?) : RepE enc sz F w' xs v := by
  obtain ⟨A, c, h1, h2, h2', h3⟩ := h
  refine ⟨A, c, h1, h2, h2', fun hn => ?_⟩
  obtain ⟨b, o, h4, h5, h6⟩ := h3 hn
  refine ⟨b, o, h4, h5, fun i hi j v hj => ?_⟩
  have hc := h6 i hi j v hj
  rw [World.cell?_of_block (w := w) (hw b (cell_lt hc) h5)]
  exact hc
theorem RepE.weak {α : Type} {enc : α → List Value} {sz : Nat} {F G : Nat → Prop} {w : World} {xs v} (h : RepE enc sz F w xs v) (hfg : ∀ k, F k → G k) : RepE enc sz G w xs v := by
  obtain ⟨A, c, h1, h2, h2', h3⟩ := h
  exact ⟨A, c, h1, h2, h2', fun hn => let ⟨b, o, h4, h5, h6⟩ := h3 hn; ⟨b, o, h4, hfg b h5, h6⟩⟩
theorem Rep.keep {F : Nat → Prop} {w w' : World} (hw : ∀ k, k < w.heap.size → F k → w'.heap[k]? = w.heap[k]?) {t v} (h : Rep F w t v) : Rep F w' t v := by
  induction h with
  | mk k n s ks l v3 A c f h3 hc hc' ha hr ih => exact .mk k n s ks l v3 A c f (h3.keep hw) hc hc' (ha.keep (by omega) hw) ih
theorem Rep.weak {F G : Nat → Prop} {w : World} (hfg : ∀ k, F k → G k) {t v} (h : Rep F w t v) : Rep G w t v := by
  induction h with
  | mk k n s ks l v3 A c f h3 hc hc' ha hr ih => exact .mk k n s ks l v3 A c f (h3.weak hfg) hc hc' (ha.weak hfg) ih
theorem RepL.keep {F : Nat → Prop} {w w' : World} {l v} (h : RepL F w l v) (hw : ∀ k, k < w.heap.size → F k → w'.heap[k]? = w.heap[k]?) : RepL F w' l v := by
  obtain ⟨A, c, f, h1, h2, h2', h3, h4⟩ := h
  exact ⟨A, c, f, h1, h2, h2', h3.keep (by omega) hw, fun i hi => (h4 i hi).keep hw⟩
theorem RepL.weak {F G : Nat → Prop} {w : World} {l v} (h : RepL F w l v) (hfg : ∀ k, F k → G k) : RepL G w l v := by
  obtain ⟨A, c, f, h1, h2, h2', h3, h4⟩ := h
  exact ⟨A, c, f, h1, h2, h2', h3.weak hfg, fun i hi => (h4 i hi).weak hfg⟩

/-- Any block. -/
abbrev Any : Nat → Prop := fun _ => True
theorem RepE.chg {α : Type} {enc : α → List Value} {sz : Nat} {w w' : World} {F xs v} (h : RepE enc sz F w xs v) (hc : Chg No w w') : RepE enc sz F w' xs v := h.keep fun k hk _ => hc.block k hk id
theorem RepL.chg {w w' : World} {F l v} (h : RepL F w l v) (hc : Chg No w w') : RepL F w' l v := h.keep fun k hk _ => hc.block k hk id
theorem Rep.chg {w w' : World} {F t v} (h : Rep F w t v) (hc : Chg No w w') : Rep F w' t v := h.keep fun k hk _ => hc.block k hk id

/-- A row's shape. -/
theorem RepE.open {α : Type} {enc : α → List Value} {sz : Nat} {F w} {xs : List α} {v} (h : RepE enc sz F w xs v) : ∃ A c, v = .slice A xs.length c ∧ xs.length ≤ 9223372036854775807 := by
  obtain ⟨A, c, h1, h2, h3, _⟩ := h
  exact ⟨A, c, h1, by omega⟩
theorem RepL.open {F w} {xs : List Tr} {v} (h : RepL F w xs v) : ∃ A c, v = .slice A xs.length c ∧ xs.length ≤ 9223372036854775807 := by
  obtain ⟨A, c, f, h1, h2, h3, _⟩ := h
  exact ⟨A, c, h1, by omega⟩
/-- An element of a row. -/
theorem RepE.at {α : Type} {enc : α → List Value} {sz : Nat} {F w} {xs : List α} {A m c} (h : RepE enc sz F w xs (.slice A m c)) (i : Nat) (hi : i < xs.length) : ∃ b o, A = some ⟨b, o, none⟩ ∧ F b ∧ w.rangeAt b (o + i * sz) (enc xs[i]) := by
  obtain ⟨A', c', h1, h2, h2', h3⟩ := h
  obtain ⟨rfl, rfl, rfl⟩ : A = A' ∧ m = xs.length ∧ c = c' := by simpa using h1
  obtain ⟨b, o, h4, h5, h6⟩ := h3 (by intro e; subst e; simp at hi)
  exact ⟨b, o, h4, h5, h6 i hi⟩
theorem RepL.at {F w} {xs : List Tr} {A m c} (h : RepL F w xs (.slice A m c)) (i : Nat) (hi : i < xs.length) : ∃ b o cs, A = some ⟨b, o, none⟩ ∧ F b ∧ cs.length = 5 ∧ w.rangeAt b (o + i * 5) cs ∧ Rep F w xs[i] (.agg cs.toArray) := by
  obtain ⟨A', c', f, h1, h2, h2', h3, h4⟩ := h
  obtain ⟨rfl, rfl, rfl⟩ : A = A' ∧ m = xs.length ∧ c = c' := by simpa using h1
  obtain ⟨b, o, h5, h6, h7⟩ := h3 (by omega)
  exact ⟨b, o, f i, h5, h6, (h7 i hi).1, (h7 i hi).2, h4 i hi⟩
theorem rangeAt_cell {w : World} {b o j : Nat} {cs : List Value} {v : Value} (h : w.rangeAt b o cs) (hj : cs[j]? = some v) : w.cell? ⟨b, o + j, none⟩ = some v := h j v hj

/-! ### What is told lies in memory that is there -/
theorem range_old {w : World} {b o : Nat} {cs : List Value} (h : w.rangeAt b o cs) (hn : cs ≠ []) : b < w.heap.size := by
  cases cs with
  | nil => exact absurd rfl hn
  | cons c cs => exact cell_lt (h 0 c rfl)
theorem RepE.old {α : Type} {enc : α → List Value} {sz : Nat} {F w} {xs : List α} {v} (he : ∀ x, enc x ≠ []) (h : RepE enc sz F w xs v) : RepE enc sz (fun k => k < w.heap.size) w xs v := by
  obtain ⟨A, c, h1, h2, h3, h4⟩ := h
  refine ⟨A, c, h1, h2, h3, fun hn => ?_⟩
  obtain ⟨b, o, h5, h6, h7⟩ := h4 hn
  have hp : 0 < xs.length := List.length_pos_iff.2 hn
  exact ⟨b, o, h5, range_old (h7 0 hp) (he _), h7⟩
theorem At.old {F w A m f} (h : At F w A 5 m f) : At (fun k => k < w.heap.size) w A 5 m f := fun hm => by
  obtain ⟨b, o, h1, h2, h3⟩ := h hm
  exact ⟨b, o, h1, range_old (h3 0 hm).2 (by have := (h3 0 hm).1; intro e; rw [e] at this; simp at this), h3⟩
theorem Rep.old {F w} {t : Tr} {v} (h : Rep F w t v) : Rep (fun k => k < w.heap.size) w t v := by
  induction h with
  | mk k n s ks l v3 A c f h3 hc hc' ha hr ih => exact .mk k n s ks l v3 A c f (h3.old fun x => by simp [sCells]) hc hc' ha.old ih

/-! ### Sizes -/
inductive Tr.Fit : Tr → Prop
  | mk {k n s ks l} (hs : s.size ≤ 9223372036854775807) (hks : ∀ x ∈ ks, x.size ≤ 9223372036854775807) (hl : ∀ x ∈ l, Tr.Fit x) : Tr.Fit (.mk k n s ks l)
def sumN {α : Type} (f : α → Nat) (xs : List α) : Nat := xs.foldr (fun x n => f x + n) 0
theorem sumN_cons {α : Type} (f : α → Nat) (x : α) (xs : List α) : sumN f (x :: xs) = f x + sumN f xs := rfl
theorem sumN_take {α : Type} (f : α → Nat) (p : List α) (i : Nat) (hi : i < p.length) : sumN f (p.take (i + 1)) = sumN f (p.take i) + f p[i] := by
  induction p generalizing i with
  | nil => simp at hi
  | cons s p ih =>
    cases i with
    | zero => simp [sumN]
    | succ i => simp only [List.take_succ_cons, sumN_cons, List.getElem_cons_succ, ih i (by simpa using hi)]; omega
theorem sumN_take_le {α : Type} (f : α → Nat) (p : List α) (i : Nat) : sumN f (p.take i) ≤ sumN f p := by
  induction p generalizing i with
  | nil => simp
  | cons s p ih =>
    cases i with
    | zero => simp [sumN]
    | succ i => simp only [List.take_succ_cons, sumN_cons]; have := ih i; omega
theorem sumN_mem {α : Type} (f : α → Nat) {p : List α} {x : α} (h : x ∈ p) : f x ≤ sumN f p := by
  induction p with
  | nil => simp at h
  | cons s p ih =>
    rcases List.mem_cons.1 h with rfl | h
    · rw [sumN_cons]; omega
    · have := ih h; rw [sumN_cons]; omega
mutual
def Tr.wt : Tr → Nat | .mk _ _ s ks l => s.size + (ks.length + sumN ByteArray.size ks) + (l.length + Tr.wt1 l)
def Tr.wt1 : List Tr → Nat | [] => 0 | x :: l => x.wt + Tr.wt1 l
end
theorem Tr.wt1_sum : ∀ l : List Tr, Tr.wt1 l = sumN Tr.wt l
  | [] => by simp [Tr.wt1, sumN]
  | x :: l => by rw [Tr.wt1, Tr.wt1_sum l, sumN_cons]
theorem Tr.wt_mk (k n : Int) (s : ByteArray) (ks : List ByteArray) (l : List Tr) : (Tr.mk k n s ks l).wt = s.size + (ks.length + sumN ByteArray.size ks) + (l.length + sumN Tr.wt l) := by rw [Tr.wt, Tr.wt1_sum]

/-- What is left of so many, or -1. -/
def tk (left : Int) (n : Nat) : Int := if left < n then -1 else left - n
theorem tk_neg {left : Int} {n : Nat} (h0 : 0 ≤ left) (h : decide (tk left n < 0) = true) : left < n := by
  have := of_decide_eq_true h
  unfold tk at this
  split at this <;> omega
theorem tk_ok {left : Int} {n : Nat} (h0 : 0 ≤ left) (h : decide (tk left n < 0) = false) : tk left n = left - n ∧ n ≤ left := by
  have := of_decide_eq_false h
  unfold tk at this ⊢
  split at this
  · omega
  · rename_i hn; rw [if_neg hn]; omega
theorem tk_lt {left : Int} {n : Nat} (h : left < n) : tk left n = -1 := if_pos h
theorem tk_ge {left : Int} {n : Nat} (h : (n : Int) ≤ left) : tk left n = left - n := if_neg (by omega)
end Go.Proofs.YtpfkcblhojkaiaaDoor.Eng
