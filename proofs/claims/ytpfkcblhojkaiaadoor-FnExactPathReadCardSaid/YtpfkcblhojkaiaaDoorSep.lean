/- Trees that a call owns, no two parts in one block. No statement of the seat is proved here. -/
import Derived.Test.YtpfkcblhojkaiaaDoorRow
namespace Go.Proofs.YtpfkcblhojkaiaaDoor.Eng
open Go.RowKit
set_option linter.unusedVariables false
set_option linter.unusedSimpArgs false

structure V5 where
  a : Value
  b : Value
  c : Value
  d : Value
  e : Value
def enc5 (x : V5) : List Value := [x.a, x.b, x.c, x.d, x.e]
def V5.val (x : V5) : Value := .agg #[x.a, x.b, x.c, x.d, x.e]
def z5 : V5 := ⟨.int .i64 0, .int .i64 0, .string ⟨#[]⟩, .slice none 0 0, .slice none 0 0⟩
def x5 (k n : Int) (s : ByteArray) (v3 v4 : Value) : V5 := ⟨.int .i64 k, .int .i64 n, .string s, v3, v4⟩

/-- The value is a tree whose lists lie in blocks of F, each in one of its own. -/
inductive Sep (w : World) : (Nat → Prop) → Tr → Value → Prop
  | mk (F : Nat → Prop) (k n : Int) (s : ByteArray) (ks : List ByteArray) (l : List Tr) (v3 v4 : Value) (x : Nat → V5) (xs : List V5) (G : Nat → Nat → Prop)
      (h3 : w.ownsRow 0 9 1 v3 ks.length (ks.flatMap sCells)) (hxs : xs.length = l.length) (h4 : w.ownsRow 0 33 5 v4 l.length (xs.flatMap enc5))
      (hx : ∀ i, i < l.length → xs[i]? = some (x i)) (hk : ∀ i (h : i < l.length), Sep w (G i) l[i] (x i).val)
      (f3 : ∀ b, v3.ownBlock = some b → F b) (f4 : ∀ b, v4.ownBlock = some b → F b) (fk : ∀ i, i < l.length → ∀ b, G i b → F b)
      (d34 : ∀ b, v3.ownBlock = some b → v4.ownBlock ≠ some b) (d3 : ∀ i, i < l.length → ∀ b, G i b → v3.ownBlock ≠ some b) (d4 : ∀ i, i < l.length → ∀ b, G i b → v4.ownBlock ≠ some b)
      (dk : ∀ i, i < l.length → ∀ j, j < i → ∀ b, G i b → ¬ G j b) (flt : ∀ b, F b → b < w.heap.size) :
      Sep w F (.mk k n s ks l) (.agg #[.int .i64 k, .int .i64 n, .string s, v3, v4])

theorem own_keep {w w' : World} {e sz n : Nat} {v : Value} {xs : List Value} (hi : w.ownsRow 0 e sz v n xs) (h : ∀ k, k < w.heap.size → v.ownBlock = some k → w'.heap[k]? = w.heap[k]?) : w'.ownsRow 0 e sz v n xs := (own e sz v n xs).keep w w' h hi

theorem Sep.lt {w : World} {F t v} (h : Sep w F t v) : ∀ b, F b → b < w.heap.size := by
  cases h with
  | mk F k n s ks l v3 v4 x xs G h3 hxs h4 hx hk f3 f4 fk d34 d3 d4 dk flt => exact flt

theorem Sep.keep {w w' : World} {F : Nat → Prop} {t : Tr} {v : Value} (h : Sep w F t v) : (∀ k, k < w.heap.size → F k → w'.heap[k]? = w.heap[k]?) → Sep w' F t v := by
  induction h with
  | mk F k n s ks l v3 v4 x xs G h3 hxs h4 hx hk f3 f4 fk d34 d3 d4 dk flt ih =>
    intro hw
    refine .mk F k n s ks l v3 v4 x xs G (own_keep h3 fun k hk h => hw k hk (f3 k h)) hxs (own_keep h4 fun k hk h => hw k hk (f4 k h)) hx (fun i hi => ih i hi fun k hk h => hw k hk (fk i hi k h)) f3 f4 fk d34 d3 d4 dk fun b hb => ?_
    have h1 := flt b hb
    have h2 := hw b h1 hb
    have h3 : w'.heap[b]? = some w.heap[b] := by rw [h2]; exact Array.getElem?_eq_getElem h1
    exact (Array.getElem?_eq_some_iff.1 h3).1

/-- A family of such trees, told by the cells of a row. -/
def Kd (w : World) (F : Nat → Prop) (l : List Tr) (xs : List V5) : Prop :=
  ∃ (x : Nat → V5) (G : Nat → Nat → Prop), (∀ i, i < l.length → xs[i]? = some (x i)) ∧ (∀ i (h : i < l.length), Sep w (G i) l[i] (x i).val) ∧ (∀ i, i < l.length → ∀ b, G i b → F b) ∧ (∀ i, i < l.length → ∀ j, j < i → ∀ b, G i b → ¬ G j b) ∧ ∀ b, F b → b < w.heap.size

theorem lt_keep {w w' : World} {F : Nat → Prop} (flt : ∀ b, F b → b < w.heap.size) (hw : ∀ k, k < w.heap.size → F k → w'.heap[k]? = w.heap[k]?) : ∀ b, F b → b < w'.heap.size := fun b hb => by
  have h1 := flt b hb
  have h2 := hw b h1 hb
  have h3 : w'.heap[b]? = some w.heap[b] := by rw [h2]; exact Array.getElem?_eq_getElem h1
  exact (Array.getElem?_eq_some_iff.1 h3).1

theorem Kd.keep {w w' : World} {F : Nat → Prop} {l xs} (h : Kd w F l xs) (hw : ∀ k, k < w.heap.size → F k → w'.heap[k]? = w.heap[k]?) : Kd w' F l xs := by
  obtain ⟨x, G, h1, h2, h3, h4, h5⟩ := h
  exact ⟨x, G, h1, fun i hi => (h2 i hi).keep fun k hk h => hw k hk (h3 i hi k h), h3, h4, lt_keep h5 hw⟩

theorem Kd.nil (w : World) (xs : List V5) : Kd w No [] xs := ⟨fun _ => z5, fun _ _ => False, fun i h => by simp at h, fun i h => by simp at h, fun i h => by simp at h, fun i h => by simp at h, fun b h => h.elim⟩

theorem Kd.snoc {w : World} {F Fc : Nat → Prop} {l : List Tr} {xs xs' : List V5} {t : Tr} {x : V5} (h : Kd w F l xs) (hc : Sep w Fc t x.val) (hd : ∀ b, Fc b → ¬ F b) (hx : xs'[l.length]? = some x) (hxs : ∀ i, i < l.length → xs'[i]? = xs[i]?) : Kd w (fun b => F b ∨ Fc b) (l ++ [t]) xs' := by
  obtain ⟨y, G, h1, h2, h3, h4, h5⟩ := h
  refine ⟨fun i => if i < l.length then y i else x, fun i => if i < l.length then G i else Fc, fun i hi => ?_, fun i hi => ?_, fun i hi b hb => ?_, fun i hi j hj b hb => ?_, fun b hb => ?_⟩
  · by_cases hl : i < l.length
    · simp only [if_pos hl]; rw [hxs i hl, h1 i hl]
    · have : i = l.length := by simp at hi; omega
      subst this
      simp only [if_neg hl]; exact hx
  · by_cases hl : i < l.length
    · simp only [if_pos hl, List.getElem_append_left hl]; exact h2 i hl
    · have : i = l.length := by simp at hi; omega
      subst this
      simp only [if_neg hl, List.getElem_append_right (Nat.le_refl _), Nat.sub_self, List.getElem_cons_zero]; exact hc
  · by_cases hl : i < l.length
    · simp only [if_pos hl] at hb; exact .inl (h3 i hl b hb)
    · simp only [if_neg hl] at hb; exact .inr hb
  · by_cases hl : i < l.length
    · have hjl : j < l.length := by omega
      simp only [if_pos hl] at hb
      simp only [if_pos hjl]
      exact h4 i hl j hj b hb
    · have hjl : j < l.length := by simp at hi; omega
      simp only [if_neg hl] at hb
      simp only [if_pos hjl]
      exact fun h => hd b hb (h3 j hjl b h)
  · rcases hb with hb | hb
    · exact h5 b hb
    · exact hc.lt b hb

/-- A row of such trees. -/
def SepL (w : World) (F : Nat → Prop) (l : List Tr) (v : Value) : Prop :=
  ∃ (xs : List V5) (Fk : Nat → Prop), xs.length = l.length ∧ w.ownsRow 0 33 5 v l.length (xs.flatMap enc5) ∧ Kd w Fk l xs ∧ (∀ b, v.ownBlock = some b → F b ∧ ¬ Fk b) ∧ (∀ b, Fk b → F b) ∧ ∀ b, F b → b < w.heap.size

theorem SepL.keep {w w' : World} {F : Nat → Prop} {l v} (h : SepL w F l v) (hw : ∀ k, k < w.heap.size → F k → w'.heap[k]? = w.heap[k]?) : SepL w' F l v := by
  obtain ⟨xs, Fk, h1, h2, h3, h4, h5, h6⟩ := h
  exact ⟨xs, Fk, h1, own_keep h2 fun k hk h => hw k hk (h4 k h).1, h3.keep fun k hk h => hw k hk (h5 k h), h4, h5, lt_keep h6 hw⟩

theorem Sep.close {w : World} {F : Nat → Prop} {k n : Int} {s ks l v3 v4} (h3 : w.ownsRow 0 9 1 v3 ks.length (ks.flatMap sCells)) {F4 : Nat → Prop} (h4 : SepL w F4 l v4) (f3 : ∀ b, v3.ownBlock = some b → F b ∧ ¬ F4 b) (f4 : ∀ b, F4 b → F b) (flt : ∀ b, F b → b < w.heap.size) : Sep w F (.mk k n s ks l) (x5 k n s v3 v4).val := by
  obtain ⟨xs, Fk, g1, g2, ⟨x, G, k1, k2, k3, k4, k5⟩, g4, g5, g6⟩ := h4
  refine .mk F k n s ks l v3 v4 x xs G h3 g1 g2 k1 k2 (fun b hb => (f3 b hb).1) (fun b hb => f4 b (g4 b hb).1) (fun i hi b hb => f4 b (g5 b (k3 i hi b hb))) (fun b hb h => (f3 b hb).2 (g4 b h).1) (fun i hi b hb h => (f3 b h).2 (g5 b (k3 i hi b hb))) (fun i hi b hb h => (g4 b h).2 (k3 i hi b hb)) k4 flt

theorem Sep.open {w : World} {F : Nat → Prop} {k n : Int} {s ks l v} (h : Sep w F (.mk k n s ks l) v) : ∃ v3 v4 F4, v = (x5 k n s v3 v4).val ∧ w.ownsRow 0 9 1 v3 ks.length (ks.flatMap sCells) ∧ SepL w F4 l v4 ∧ (∀ b, v3.ownBlock = some b → F b ∧ ¬ F4 b) ∧ (∀ b, F4 b → F b) ∧ ∀ b, F b → b < w.heap.size := by
  cases h with
  | mk F k n s ks l v3 v4 x xs G h3 hxs h4 hx hk f3 f4 fk d34 d3 d4 dk flt =>
    refine ⟨v3, v4, fun b => v4.ownBlock = some b ∨ ∃ i, i < l.length ∧ G i b, rfl, h3, ⟨xs, fun b => ∃ i, i < l.length ∧ G i b, hxs, h4, ⟨x, G, hx, hk, fun i hi b hb => ⟨i, hi, hb⟩, dk, fun b ⟨i, hi, hb⟩ => flt b (fk i hi b hb)⟩, fun b hb => ⟨.inl hb, fun ⟨i, hi, h⟩ => d4 i hi b h hb⟩, fun b hb => .inr hb, fun b hb => ?_⟩, fun b hb => ⟨f3 b hb, fun h => ?_⟩, fun b hb => ?_, flt⟩
    · rcases hb with hb | ⟨i, hi, hb⟩
      · exact flt b (f4 b hb)
      · exact flt b (fk i hi b hb)
    · rcases h with h | ⟨i, hi, h⟩
      · exact d34 b hb h
      · exact d3 i hi b h hb
    · rcases hb with hb | ⟨i, hi, hb⟩
      · exact f4 b hb
      · exact fk i hi b hb

theorem enc5_val (x : V5) : Value.agg (enc5 x).toArray = x.val := rfl

theorem Sep.repF {w : World} {F : Nat → Prop} {t : Tr} {v : Value} (h : Sep w F t v) : Rep F w t v := by
  induction h with
  | mk F k n s ks l v3 v4 x xs G h3 hxs h4 hx hk f3 f4 fk d34 d3 d4 dk flt ih =>
    have hS : RepS F w ks v3 := (own_rep (enc := sCells) (sz := 1) (fun _ => rfl) h3).weak f3
    refine Rep.close hS ?_
    have h4' : w.ownsRow 0 33 5 v4 xs.length (xs.flatMap enc5) := by rw [hxs]; exact h4
    obtain ⟨A, c, e1, e2, e3, e4⟩ := own_rep (enc := enc5) (sz := 5) (fun _ => rfl) h4'
    rw [hxs] at e1 e2
    refine ⟨A, c, fun i => enc5 (x i), e1, e2, e3, fun hm => ?_, fun i hi => by rw [enc5_val]; exact (ih i hi).weak (fk i hi)⟩
    obtain ⟨b, o, e5, eF, e6⟩ := e4 (by intro h; rw [h] at hxs; simp at hxs; omega)
    refine ⟨b, o, e5, f4 b eF, fun i hi => ⟨rfl, ?_⟩⟩
    have h7 := e6 i (by omega)
    have h8 := hx i hi
    rw [List.getElem?_eq_getElem (by omega)] at h8
    show w.rangeAt b (o + i * 5) (enc5 (x i))
    rw [← Option.some.inj h8]
    exact h7

theorem Sep.rep {w : World} {F : Nat → Prop} {t : Tr} {v : Value} (h : Sep w F t v) : Rep Any w t v := h.repF.weak fun _ _ => trivial

theorem SepL.rep {w : World} {F : Nat → Prop} {l : List Tr} {v : Value} (h : SepL w F l v) : RepL Any w l v := by
  obtain ⟨xs, Fk, hxs, h4, ⟨x, G, hx, hk, -⟩, -⟩ := h
  have h4' : w.ownsRow 0 33 5 v xs.length (xs.flatMap enc5) := by rw [hxs]; exact h4
  obtain ⟨A, c, e1, e2, e3, e4⟩ := own_rep (enc := enc5) (sz := 5) (fun _ => rfl) h4'
  rw [hxs] at e1 e2
  refine ⟨A, c, fun i => enc5 (x i), e1, e2, e3, fun hm => ?_, fun i hi => by rw [enc5_val]; exact (hk i hi).rep⟩
  obtain ⟨b, o, e5, -, e6⟩ := e4 (by intro h; rw [h] at hxs; simp at hxs; omega)
  refine ⟨b, o, e5, trivial, fun i hi => ⟨rfl, ?_⟩⟩
  have h7 := e6 i (by omega)
  have h8 := hx i hi
  rw [List.getElem?_eq_getElem (by omega)] at h8
  show w.rangeAt b (o + i * 5) (enc5 (x i))
  rw [← Option.some.inj h8]
  exact h7

theorem own_one {w : World} {e sz n : Nat} {v : Value} {xs : List Value} (h : w.ownsRow 0 e sz v n xs) : v.oneCell' = true := by
  rcases h.2 with ⟨rfl, _⟩ | ⟨g, cap, cur, rfl, _⟩ <;> rfl
theorem one5 {k n : Int} {s : ByteArray} {v3 v4 : Value} (h3 : v3.oneCell' = true) (h4 : v4.oneCell' = true) : [Value.int .i64 k, .int .i64 n, .string s, v3, v4].all (·.oneCell') = true := by
  simp only [List.all_cons, h3, h4, List.all_nil, Bool.and_true]
  rfl
theorem SepL.one {w : World} {F : Nat → Prop} {l v} (h : SepL w F l v) : v.oneCell' = true := by
  obtain ⟨xs, Fk, h1, h2, -⟩ := h
  exact own_one h2
theorem Sep.one {w : World} {F : Nat → Prop} {t : Tr} {x : V5} (h : Sep w F t x.val) : (enc5 x).all (·.oneCell') = true := by
  obtain ⟨k, n, s, ks, l⟩ := t
  obtain ⟨v3, v4, F4, e, h3, h4, -⟩ := h.open
  have h3' := own_one h3
  have h4' := h4.one
  obtain ⟨a, b, c, d, f⟩ := x
  simp [V5.val, x5] at e
  obtain ⟨rfl, rfl, rfl, rfl, rfl⟩ := e
  simp only [enc5, List.all_cons, h3', h4', List.all_nil, Bool.and_true]
  rfl

/-! ### As owned things -/
def sep (F : Nat → Prop) (t : Tr) (v : Value) : Res := ⟨F, fun w => Sep w F t v, fun _ _ h hi => hi.keep h, fun _ hi k hk => hi.lt k hk⟩
def kids (F : Nat → Prop) (l : List Tr) (xs : List V5) : Res := ⟨F, fun w => Kd w F l xs, fun _ _ h hi => hi.keep h, fun _ hi k hk => by obtain ⟨_, _, _, _, _, _, h⟩ := hi; exact h k hk⟩
def sepL (F : Nat → Prop) (l : List Tr) (v : Value) : Res := ⟨F, fun w => SepL w F l v, fun _ _ h hi => hi.keep h, fun _ hi k hk => by obtain ⟨_, _, _, _, _, _, _, h⟩ := hi; exact h k hk⟩

/-- The place of a row's cells, and its elements, as one thing. -/
theorem Fr.toSepL {X : Nat → Prop} {w0 w : World} {L : List Res} {v : Value} {xs : List V5} {F : Nat → Prop} {l : List Tr} (h : Fr X w0 (own 33 5 v xs.length (xs.flatMap enc5) :: kids F l xs :: L) w) (hl : xs.length = l.length) : Fr X w0 (sepL (fun b => v.ownBlock = some b ∨ F b) l v :: L) w := by
  obtain ⟨h1, h2, h3, h4, h5⟩ := h.mem
  have h1' : w.ownsRow 0 33 5 v xs.length (xs.flatMap enc5) := h1
  have h3' : Kd w F l xs := h3
  refine h.tell _ ⟨⟨xs, F, hl, by rw [← hl]; exact h1', h3', fun b hb => ⟨.inl hb, h2 b hb (kids F l xs) (by simp)⟩, fun b hb => .inr hb, fun b hb => ?_⟩, fun k hk q hq hqk => ?_, h5⟩ fun r hr k hk => ?_
  · rcases hb with hb | hb
    · exact (own 33 5 v _ _).lt w h1 b hb
    · exact (kids F l xs).lt w h3 b hb
  · rcases hk with hk | hk
    · exact h2 k hk q (by simp [hq]) hqk
    · exact h4 k hk q hq hqk
  · rcases List.mem_cons.1 hr with rfl | hr
    · rcases hk with hk | hk
      · exact ⟨own 33 5 v xs.length (xs.flatMap enc5), by simp, hk⟩
      · exact ⟨kids F l xs, by simp, hk⟩
    · exact ⟨r, by simp [hr], hk⟩

/-- A child that lies in the row now. -/
theorem Fr.toKid {X : Nat → Prop} {w0 w : World} {L : List Res} {xs xs' : List V5} {F Fc : Nat → Prop} {l : List Tr} {t : Tr} {x : V5} {o : Res} (h : Fr X w0 (sep Fc t x.val :: o :: kids F l xs :: L) w) (hx : xs'[l.length]? = some x) (hxs : ∀ i, i < l.length → xs'[i]? = xs[i]?) : Fr X w0 (o :: kids (fun b => F b ∨ Fc b) (l ++ [t]) xs' :: L) w := by
  obtain ⟨h1, h2, h3, h4, h5, h6, h7⟩ := h.mem
  have h5' : Kd w F l xs := h5
  refine h.tell _ ⟨h3, fun k hk q hq hqk => ?_, h5'.snoc h1 (fun b hb => h2 b hb (kids F l xs) (by simp)) hx hxs, fun k hk q hq hqk => ?_, h7⟩ fun r hr k hk => ?_
  · rcases List.mem_cons.1 hq with rfl | hq
    · rcases hqk with hqk | hqk
      · exact h4 k hk (kids F l xs) (by simp) hqk
      · exact h2 k hqk o (by simp) hk
    · exact h4 k hk q (by simp [hq]) hqk
  · rcases hk with hk | hk
    · exact h6 k hk q hq hqk
    · exact h2 k hk q (by simp [hq]) hqk
  · rcases List.mem_cons.1 hr with rfl | hr
    · exact ⟨r, by simp, hk⟩
    · rcases List.mem_cons.1 hr with rfl | hr
      · rcases hk with hk | hk
        · exact ⟨kids F l xs, by simp, hk⟩
        · exact ⟨sep Fc t x.val, by simp, hk⟩
      · exact ⟨r, by simp [hr], hk⟩

/-- Keys and trees make a tree. -/
theorem Fr.toSep {X : Nat → Prop} {w0 w : World} {L : List Res} {v3 v4 : Value} {k n : Int} {s : ByteArray} {ks : List ByteArray} {F : Nat → Prop} {l : List Tr} (h : Fr X w0 (sepL F l v4 :: own 9 1 v3 ks.length (ks.flatMap sCells) :: L) w) : Fr X w0 (sep (fun b => v3.ownBlock = some b ∨ F b) (.mk k n s ks l) (x5 k n s v3 v4).val :: L) w := by
  obtain ⟨h1, h2, h3, h4, h5⟩ := h.mem
  have h3' : w.ownsRow 0 9 1 v3 ks.length (ks.flatMap sCells) := h3
  refine h.tell _ ⟨Sep.close h3' h1 (fun b hb => ⟨.inl hb, fun hf => h2 b hf _ (List.mem_cons_self ..) hb⟩) (fun b hb => .inr hb) fun b hb => ?_, fun k hk q hq hqk => ?_, h5⟩ fun r hr k hk => ?_
  · rcases hb with hb | hb
    · exact (own 9 1 v3 _ _).lt w h3 b hb
    · exact (sepL F l v4).lt w h1 b hb
  · rcases hk with hk | hk
    · exact h4 k hk q hq hqk
    · exact h2 k hk q (by simp [hq]) hqk
  · rcases List.mem_cons.1 hr with rfl | hr
    · rcases hk with hk | hk
      · exact ⟨own 9 1 v3 ks.length (ks.flatMap sCells), by simp, hk⟩
      · exact ⟨sepL F l v4, by simp, hk⟩
    · exact ⟨r, by simp [hr], hk⟩
theorem RepE.one {α : Type} {enc : α → List Value} {sz : Nat} {F w} {xs : List α} {v} (h : RepE enc sz F w xs v) : v.oneCell' = true := by
  obtain ⟨A, c, rfl, -⟩ := h
  rfl
theorem RepL.one {F w} {xs : List Tr} {v} (h : RepL F w xs v) : v.oneCell' = true := by
  obtain ⟨A, c, f, rfl, -⟩ := h
  rfl
theorem Rep.one {F w} {t : Tr} {cs : List Value} (h : Rep F w t (.agg cs.toArray)) : cs.all (·.oneCell') = true := by
  obtain ⟨k, n, s, ks, l⟩ := t
  obtain ⟨v3, v4, e, h3, h4⟩ := h.open
  have e' : cs = [.int .i64 k, .int .i64 n, .string s, v3, v4] := by simpa using e
  rw [e']
  exact one5 h3.one h4.one
end Go.Proofs.YtpfkcblhojkaiaaDoor.Eng
