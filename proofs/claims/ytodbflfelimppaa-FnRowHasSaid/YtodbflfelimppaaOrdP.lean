/- The order of trees: one of two is ahead of the other or they are one; three stand in one order. No statement of the seat is proved here. -/
import Derived.Test.YtodbflfelimppaaOrd
namespace Go.Proofs.Ytodbflfelimppaa.Eng
open Go.RowKit
set_option linter.unusedVariables false
set_option linter.unusedSimpArgs false

structure CmpAt {α : Type} (f : α → α → Int) (a : α) : Prop where
  rng : ∀ b, f a b = -1 ∨ f a b = 0 ∨ f a b = 1
  eq : ∀ b, f a b = 0 ↔ a = b
  neg : ∀ b, f b a = - f a b
  tr : ∀ b c, f a b ≤ 0 → f b c ≤ 0 → f a c ≤ 0
section
variable {α β : Type} {f : α → α → Int} {g : β → β → Int} {a : α} {b : β}
theorem CmpAt.strict (h : CmpAt f a) {b c : α} (h1 : f a b ≤ 0) (h3 : f a c = 0) (h2 : f b c ≤ 0) : f a b = 0 := by
  have e := (h.eq c).1 h3
  subst e
  have := h.neg b
  omega
def lx (x y : Int) : Int := if x ≠ 0 then x else y
theorem lx0 {x y : Int} (h : x = 0) : lx x y = y := by simp [lx, h]
theorem lx1 {x y : Int} (h : x ≠ 0) : lx x y = x := by simp [lx, h]
def lxF (f : α → α → Int) (g : β → β → Int) (x y : α × β) : Int := lx (f x.1 y.1) (g x.2 y.2)
theorem CmpAt.lex (hf : CmpAt f a) (hg : CmpAt g b) : CmpAt (lxF f g) (a, b) := by
  refine ⟨fun ⟨c, d⟩ => ?_, fun ⟨c, d⟩ => ?_, fun ⟨c, d⟩ => ?_, fun ⟨c, d⟩ ⟨e, k⟩ h1 h2 => ?_⟩
  · simp only [lxF]
    by_cases h : f a c = 0
    · rw [lx0 h]; exact hg.rng d
    · rw [lx1 h]; exact hf.rng c
  · simp only [lxF, Prod.mk.injEq]
    by_cases h : f a c = 0
    · rw [lx0 h, hg.eq d]
      exact ⟨fun h' => ⟨(hf.eq c).1 h, h'⟩, fun h' => h'.2⟩
    · rw [lx1 h]
      exact ⟨fun h' => absurd h' h, fun h' => absurd ((hf.eq c).2 h'.1) h⟩
  · simp only [lxF]
    have h1 := hf.neg c
    have h2 := hg.neg d
    by_cases h : f a c = 0
    · rw [lx0 h, lx0 (by omega), h2]
    · rw [lx1 h, lx1 (by omega), h1]
  · simp only [lxF] at h1 h2 ⊢
    by_cases h : f a c = 0
    · have e1 := (hf.eq c).1 h
      subst e1
      rw [lx0 h] at h1
      by_cases h3 : f a e = 0
      · rw [lx0 h3] at h2 ⊢
        exact hg.tr _ _ h1 h2
      · rw [lx1 h3] at h2 ⊢
        exact h2
    · rw [lx1 h] at h1
      have h4 : f c e ≤ 0 := by
        by_cases h5 : f c e = 0
        · omega
        · rw [lx1 h5] at h2; exact h2
      have h6 := hf.tr _ _ h1 h4
      by_cases h7 : f a e = 0
      · exact absurd (hf.strict h1 h7 h4) h
      · rw [lx1 h7]; exact h6
theorem CmpAt.list (p : List α) (h : ∀ a ∈ p, CmpAt f a) : CmpAt (listCmp f) p := by
  induction p with
  | nil =>
    refine ⟨fun q => ?_, fun q => ?_, fun q => ?_, fun q r h1 h2 => ?_⟩
    · cases q <;> simp [listCmp]
    · cases q <;> simp [listCmp]
    · cases q <;> simp [listCmp]
    · cases r <;> simp [listCmp]
  | cons a p ih =>
    have hl := CmpAt.lex (h a (by simp)) (ih fun x hx => h x (by simp [hx]))
    refine ⟨fun q => ?_, fun q => ?_, fun q => ?_, fun q r h1 h2 => ?_⟩
    · cases q with
      | nil => simp [listCmp]
      | cons b q => exact hl.rng (b, q)
    · cases q with
      | nil => simp [listCmp]
      | cons b q =>
        have := hl.eq (b, q)
        rw [List.cons.injEq, ← Prod.mk.injEq]
        exact this
    · cases q with
      | nil => simp [listCmp]
      | cons b q => exact hl.neg (b, q)
    · cases q with
      | nil => simp [listCmp] at h1
      | cons b q =>
        cases r with
        | nil => simp [listCmp] at h2
        | cons c r => exact hl.tr (b, q) (c, r) h1 h2
end
theorem cmpI_at (a : Int) : CmpAt cmpI a := by
  refine ⟨fun b => ?_, fun b => ?_, fun b => ?_, fun b c h1 h2 => ?_⟩ <;> unfold cmpI at * <;> (repeat split) <;> omega
theorem ltS_lt {s u : ByteArray} : ltS s u = true ↔ s.toList < u.toList := by unfold ltS; rw [less_eq]; simp
theorem cmpS_at (a : ByteArray) : CmpAt cmpS a := by
  have tri : ∀ s u : ByteArray, s.toList < u.toList ∨ s = u ∨ u.toList < s.toList := fun s u => by
    have := ltS_not s u
    by_cases h1 : ltS s u = true
    · exact .inl (ltS_lt.1 h1)
    · by_cases h2 : ltS u s = true
      · exact .inr (.inr (ltS_lt.1 h2))
      · simp [h1, h2] at this
        exact .inr (.inl this)
  have val : ∀ s u : ByteArray, (cmpS s u = -1 ∧ s.toList < u.toList) ∨ (cmpS s u = 0 ∧ s = u) ∨ (cmpS s u = 1 ∧ u.toList < s.toList) := fun s u => by
    rcases tri s u with h | h | h
    · exact .inl ⟨by rw [cmpS, if_pos (ltS_lt.2 h)], h⟩
    · exact .inr (.inl ⟨by rw [h, cmpS_self], h⟩)
    · exact .inr (.inr ⟨by rw [cmpS, if_neg (fun h' => List.lt_asymm h (ltS_lt.1 h')), if_pos (ltS_lt.2 h)], h⟩)
  refine ⟨fun b => ?_, fun b => ?_, fun b => ?_, fun b c h1 h2 => ?_⟩
  · rcases val a b with h | h | h <;> simp [h.1]
  · rcases val a b with h | h | h
    · rw [h.1]; exact ⟨fun h' => by omega, fun h' => by subst h'; exact absurd h.2 (List.lt_irrefl _)⟩
    · exact ⟨fun _ => h.2, fun _ => h.1⟩
    · rw [h.1]; exact ⟨fun h' => by omega, fun h' => by subst h'; exact absurd h.2 (List.lt_irrefl _)⟩
  · rcases val a b with h | h | h
    · rcases val b a with k | k | k
      · exact absurd h.2 (List.lt_asymm k.2)
      · rw [k.2] at h; exact absurd h.2 (List.lt_irrefl _)
      · omega
    · rw [h.2, cmpS_self]; rfl
    · rcases val b a with k | k | k
      · omega
      · rw [k.2] at h; exact absurd h.2 (List.lt_irrefl _)
      · exact absurd h.2 (List.lt_asymm k.2)
  · rcases val a b with h | h | h
    · rcases val b c with k | k | k
      · rw [cmpS, if_pos (ltS_lt.2 (List.lt_trans h.2 k.2))]; omega
      · rw [← k.2]; omega
      · omega
    · rw [h.2]; exact h2
    · omega
theorem orI_one (a : Int) : orI [a] = a := by
  unfold orI orI
  split <;> omega
theorem orI_cons (a b : Int) (r : List Int) : orI (a :: b :: r) = lx a (orI (b :: r)) := rfl
def Tr.tup (t : Tr) : Int × Int × ByteArray × List ByteArray × List Tr := (t.kind, t.num, t.str, t.keys, t.list)
theorem Tr.tup_inj {a b : Tr} (h : a.tup = b.tup) : a = b := by
  obtain ⟨k, n, s, ks, l⟩ := a
  obtain ⟨k', n', s', ks', l'⟩ := b
  simpa [Tr.tup, Tr.kind, Tr.num, Tr.str, Tr.keys, Tr.list] using h
def tupF : Int × Int × ByteArray × List ByteArray × List Tr → Int × Int × ByteArray × List ByteArray × List Tr → Int := lxF cmpI (lxF cmpI (lxF cmpS (lxF (listCmp cmpS) (listCmp Tr.ord))))
theorem Tr.ord_tup (a b : Tr) : a.ord b = tupF a.tup b.tup := by
  obtain ⟨k, n, s, ks, l⟩ := a
  obtain ⟨k', n', s', ks', l'⟩ := b
  rw [Tr.ord_mk]
  simp only [orI_cons, orI_one]
  rfl
theorem Tr.cmp (t : Tr) : CmpAt Tr.ord t := Tr.ind (p := fun t => CmpAt Tr.ord t) (fun k n s ks l H => by
  have h : CmpAt tupF (Tr.mk k n s ks l).tup := CmpAt.lex (cmpI_at k) (CmpAt.lex (cmpI_at n) (CmpAt.lex (cmpS_at s) (CmpAt.lex (CmpAt.list ks fun a _ => cmpS_at a) (CmpAt.list l H))))
  refine ⟨fun b => ?_, fun b => ?_, fun b => ?_, fun b c h1 h2 => ?_⟩
  · rw [Tr.ord_tup]; exact h.rng _
  · rw [Tr.ord_tup, h.eq]; exact ⟨Tr.tup_inj, fun e => by rw [e]⟩
  · rw [Tr.ord_tup, Tr.ord_tup]; exact h.neg _
  · rw [Tr.ord_tup] at h1 h2 ⊢; exact h.tr _ _ h1 h2) t
end Go.Proofs.Ytodbflfelimppaa.Eng
