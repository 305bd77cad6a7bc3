/- Many owned things as one; rows of rows of steps. No statement of the seat is proved here. -/
import Derived.Test.YtpfkcblhojkaiaaDoorKid
namespace Go.Proofs.YtpfkcblhojkaiaaDoor.Eng
open Go.RowKit
set_option linter.unusedVariables false
set_option linter.unusedSimpArgs false

/-- All of these, as one thing. -/
def bun (M : List Res) : Res where
  fp k := ∃ r ∈ M, r.fp k
  is w := Mem M w
  keep w w' h hi := hi.all fun r hr hri => r.keep w w' (fun k hk hf => h k hk ⟨r, hr, hf⟩) hri
  lt w hi k hk := by
    obtain ⟨r, hr, hf⟩ := hk
    exact r.lt w (hi.is r hr) k hf

theorem Mem.app {w : World} : ∀ {L M : List Res}, Mem L w → Mem M w → (∀ r ∈ L, ∀ q ∈ M, ∀ k, r.fp k → ¬ q.fp k) → Mem (L ++ M) w
  | [], _, _, hm, _ => hm
  | r :: L, M, hl, hm, hd => ⟨hl.1, fun k hk q hq hqk => by
      rcases List.mem_append.1 hq with hq | hq
      · exact hl.2.1 k hk q hq hqk
      · exact hd r (by simp) q hq k hk hqk, Mem.app hl.2.2 hm fun r' hr' => hd r' (by simp [hr'])⟩
theorem Mem.left {w : World} : ∀ {L M : List Res}, Mem (L ++ M) w → Mem L w
  | [], _, _ => trivial
  | r :: L, M, h => ⟨h.1, fun k hk q hq => h.2.1 k hk q (by simp [hq]), Mem.left h.2.2⟩
theorem Mem.right {w : World} : ∀ {L M : List Res}, Mem (L ++ M) w → Mem M w
  | [], _, h => h
  | r :: L, M, h => Mem.right (L := L) h.2.2
theorem Mem.sep {w : World} : ∀ {L M : List Res}, Mem (L ++ M) w → ∀ r ∈ L, ∀ q ∈ M, ∀ k, r.fp k → ¬ q.fp k
  | [], _, _, _, hr, _, _, _, _ => by simp at hr
  | r :: L, M, h, r', hr', q, hq, k, hk => by
    rcases List.mem_cons.1 hr' with rfl | hr'
    · exact h.2.1 k hk q (by simp [hq])
    · exact Mem.sep (L := L) h.2.2 r' hr' q hq k hk

section
variable {X : Nat → Prop} {w0 w w' : World} {L M M' : List Res} {r : Res}
theorem Fr.bunNil (h : Fr X w0 L w) : Fr X w0 (bun [] :: L) w := h.new (Chg.refl _ _) (bun []) trivial fun k hk => by obtain ⟨r, hr, -⟩ := hk; simp at hr
theorem Fr.apt (F : Fr X w0 L w) (i j : Nat) {r q : Res} (hi : L[i]? = some r) (hj : L[j]? = some q) (hij : j ≠ i) : ∀ k, r.fp k → ¬ q.fp k := fun k hk =>
  Mem.apart i hi F.mem q (List.mem_eraseIdx_iff_getElem?.2 ⟨j, hij, hj⟩) k hk
/-- Both bundles as one. -/
theorem Fr.bunApp (h : Fr X w0 (bun M' :: bun M :: L) w) : Fr X w0 (bun (M ++ M') :: L) w := by
  obtain ⟨h1, h2, h3, h4, h5⟩ := h.mem
  have h1' : Mem M' w := h1
  have h3' : Mem M w := h3
  refine h.tell _ ⟨Mem.app h3' h1' fun r hr q hq k hk hqk => h2 k ⟨q, hq, hqk⟩ (bun M) (by simp) ⟨r, hr, hk⟩, fun k hk q hq hqk => ?_, h5⟩ fun q hq k hk => ?_
  · obtain ⟨r, hr, hf⟩ := hk
    rcases List.mem_append.1 hr with hr | hr
    · exact h4 k ⟨r, hr, hf⟩ q hq hqk
    · exact h2 k ⟨r, hr, hf⟩ q (by simp [hq]) hqk
  · rcases List.mem_cons.1 hq with rfl | hq
    · obtain ⟨r, hr, hf⟩ := hk
      rcases List.mem_append.1 hr with hr | hr
      · exact ⟨bun M, by simp, r, hr, hf⟩
      · exact ⟨bun M', by simp, r, hr, hf⟩
    · exact ⟨q, by simp [hq], hk⟩
/-- One thing as a bundle. -/
theorem Fr.bunOne (h : Fr X w0 (r :: L) w) : Fr X w0 (bun [r] :: L) w := by
  obtain ⟨h1, h2, h3⟩ := h.mem
  refine h.tell _ ⟨⟨h1, fun _ _ q hq => by simp at hq, trivial⟩, fun k hk q hq hqk => ?_, h3⟩ fun q hq k hk => ?_
  · obtain ⟨r', hr, hf⟩ := hk
    obtain rfl : r' = r := by simpa using hr
    exact h2 k hf q hq hqk
  · rcases List.mem_cons.1 hq with rfl | hq
    · obtain ⟨r', hr, hf⟩ := hk
      exact ⟨r', by simpa using .inl (by simpa using hr), hf⟩
    · exact ⟨q, by simp [hq], hk⟩
/-- One thing more in a bundle. -/
theorem Fr.bunPut (h : Fr X w0 (r :: bun M :: L) w) : Fr X w0 (bun (M ++ [r]) :: L) w := h.bunOne.bunApp
/-- One thing of a bundle turns. -/
theorem Fr.bunSet {Y : Nat → Prop} (h : Fr X w0 L w) (i : Nat) (hi : L[i]? = some (bun M)) (j : Nat) (hj : M[j]? = some r) (hc : Chg Y w w') (hy : ∀ k, Y k → r.fp k ∨ w.heap.size ≤ k) (r' : Res) (hr' : r'.is w') (hf : ∀ k, r'.fp k → r.fp k ∨ w.heap.size ≤ k) : Fr X w0 (L.set i (bun (M.set j r'))) w' := by
  have hm : Mem M w := h.get i hi
  have hrM := List.mem_of_getElem? hj
  refine h.upd i hi hc (fun k hk => (hy k hk).imp (fun hk => ⟨r, hrM, hk⟩) id) (bun (M.set j r')) (hm.set hc hr' j hj hy hf) fun k hk => ?_
  obtain ⟨q, hq, hqk⟩ := hk
  rcases List.mem_or_eq_of_mem_set hq with hq | rfl
  · exact .inl ⟨q, hq, hqk⟩
  · exact (hf k hqk).imp (fun hk => ⟨r, hrM, hk⟩) id
/-- What stood beside is another thing now: its bundle is opened. -/
theorem Fr.bunOut (h : Fr X w0 (bun M :: L) w) : Fr X w0 (M ++ L) w := by
  obtain ⟨h1, h2, h3⟩ := h.mem
  have h1' : Mem M w := h1
  refine h.tell _ (Mem.app h1' h3 fun r hr q hq k hk => h2 k ⟨r, hr, hk⟩ q hq) fun q hq k hk => ?_
  rcases List.mem_append.1 hq with hq | hq
  · exact ⟨bun M, by simp, q, hq, hk⟩
  · exact ⟨q, by simp [hq], hk⟩
/-- Two things as one. -/
theorem Fr.bunTwo {q : Res} (h : Fr X w0 (r :: q :: L) w) : Fr X w0 (bun [r, q] :: L) w :=
  have h2 : Fr X w0 (q :: bun [r] :: L) w := h.bunOne.pull 1 rfl
  have h3 : Fr X w0 (bun ([r] ++ [q]) :: L) w := h2.bunOne.bunApp
  h3
/-- Owned things come in as a list. -/
theorem Fr.lends (L : List Res) (h : Mem L w) : Fr (fun k => ∃ r ∈ L, r.fp k) w L w := ⟨Chg.refl _ _, h, fun q hq k hk => .inl ⟨q, hq, hk⟩⟩
/-- New memory, in many parts. -/
theorem Fr.news (h : Fr X w0 L w) (hc : Chg No w w') (M : List Res) (hm : Mem M w') (hb : ∀ r ∈ M, ∀ k, r.fp k → w.heap.size ≤ k) : Fr X w0 (M ++ L) w' := by
  have h2 := h.new hc (bun M) hm fun k hk => by obtain ⟨r, hr, hf⟩ := hk; exact hb r hr k hf
  exact h2.bunOut
end

/-- A block of cells as a row. -/
theorem Fr.toOwn {X : Nat → Prop} {w0 w : World} {L : List Res} {b e sz n : Nat} {cs : List Value} (h : Fr X w0 (blk b e cs :: L) w) (hl : cs.length = n * sz) (hn : n ≤ 1000000) : Fr X w0 (own e sz (.slice (some ⟨b, 0, none⟩) n n) n cs :: L) w := by
  obtain ⟨h1, h2, h3⟩ := h.mem
  have h1' : w.heap[b]? = some (.cells cs.toArray e (0, 0)) := h1
  have hfp : ∀ k, (own e sz (.slice (some ⟨b, 0, none⟩) n n) n cs).fp k → k = b := fun k hk => by
    simp [own, Value.ownBlock] at hk; exact hk.symm
  refine h.tell _ ⟨⟨by simpa using hl, .inr ⟨b, n, cs.toArray, rfl, Nat.zero_le _, h1', Nat.le_refl _, by unfold maxLen; omega, by simpa using hl, by simp [← hl]⟩⟩, fun k hk q hq hqk => h2 k (hfp k hk) q hq hqk, h3⟩ fun q hq k hk => ?_
  rcases List.mem_cons.1 hq with rfl | hq
  · exact ⟨blk b e cs, by simp, hfp k hk⟩
  · exact ⟨q, by simp [hq], hk⟩

/-! ### What is told lies in memory that is there, and where it was told to lie -/
theorem RepE.both {α : Type} {enc : α → List Value} {sz : Nat} {F : Nat → Prop} {w : World} {xs : List α} {v} (he : ∀ x, enc x ≠ []) (h : RepE enc sz F w xs v) : RepE enc sz (fun k => F k ∧ k < w.heap.size) w xs v := by
  obtain ⟨A, c, h1, h2, h3, h4⟩ := h
  refine ⟨A, c, h1, h2, h3, fun hn => ?_⟩
  obtain ⟨b, o, h5, h6, h7⟩ := h4 hn
  have hp : 0 < xs.length := List.length_pos_iff.2 hn
  exact ⟨b, o, h5, ⟨h6, range_old (h7 0 hp) (he _)⟩, h7⟩
theorem At.both {F w A m f} (h : At F w A 5 m f) : At (fun k => F k ∧ k < w.heap.size) w A 5 m f := fun hm => by
  obtain ⟨b, o, h1, h2, h3⟩ := h hm
  exact ⟨b, o, h1, ⟨h2, range_old (h3 0 hm).2 (by have := (h3 0 hm).1; intro e; rw [e] at this; simp at this)⟩, h3⟩
theorem Rep.both {F w} {t : Tr} {v} (h : Rep F w t v) : Rep (fun k => F k ∧ k < w.heap.size) w t v := by
  induction h with
  | mk k n s ks l v3 A c f h3 hc hc' ha hr ih => exact .mk k n s ks l v3 A c f (h3.both fun x => by simp [sCells]) hc hc' ha.both ih
theorem RepE.keepX {α : Type} {enc : α → List Value} {sz : Nat} {F X : Nat → Prop} {w w' : World} {xs : List α} {v} (h : RepE enc sz F w xs v) (hc : Chg X w w') (hd : ∀ k, k < w.heap.size → F k → ¬ X k) : RepE enc sz F w' xs v := h.keep fun k hk hF => hc.block k hk (hd k hk hF)
theorem Rep.keepX {F X : Nat → Prop} {w w' : World} {t : Tr} {v} (h : Rep F w t v) (hc : Chg X w w') (hd : ∀ k, k < w.heap.size → F k → ¬ X k) : Rep F w' t v := h.keep fun k hk hF => hc.block k hk (hd k hk hF)

/-- Three operations may come first. -/
theorem Hops.three {P : Program} {n : Nat} {ops : Array Oper} {Q : Exit → Act → World → Prop} {S : Env} {w : World} {o o' o'' : Oper} {C : World → Prop} {fuel : Nat} {listed : Array Bool} (i j k : Nat) (hi : ops[i]? = some o) (hj : ops[j]? = some o') (hk : ops[k]? = some o'') (hr : Region.ready .any ops listed = [i, j, k])
    (h : One P n ops Q o S w fun S w => C w ∧ Hops P n ops Q C fuel (listed.setIfInBounds i true) S w)
    (h' : One P n ops Q o' S w fun S w => C w ∧ Hops P n ops Q C fuel (listed.setIfInBounds j true) S w)
    (h'' : One P n ops Q o'' S w fun S w => C w ∧ Hops P n ops Q C fuel (listed.setIfInBounds k true) S w) : Hops P n ops Q C (fuel + 1) listed S w := fun a hs => by
  have go : ∀ (q : Nat) (oq : Oper), ops[q]? = some oq → (One P n ops Q oq S w fun S w => C w ∧ Hops P n ops Q C fuel (listed.setIfInBounds q true) S w) → wpOp P ops Q q (fun a' w' => C w' ∧ wpAnyH P .any ops Q C fuel (listed.setIfInBounds q true) a' w') a w := fun q oq hq hone => by
    have h2 := hone a hs (fun a' w' => C w' ∧ wpAnyH P .any ops Q C fuel (listed.setIfInBounds q true) a' w') fun S w a hN hs' => ⟨hN.1, hN.2 a hs'⟩
    unfold wpOp
    rw [hq]
    dsimp only
    split
    · rename_i hw; rw [if_pos hw] at h2; exact .inl h2
    · rename_i hw; rw [if_neg hw] at h2; exact h2
  refine wpAnyH_all hr (by simp) fun q hq => ?_
  rcases (by simpa using hq : q = i ∨ q = j ∨ q = k) with rfl | rfl | rfl
  · exact go q o hi h
  · exact go q o' hj h'
  · exact go q o'' hk h''

theorem Fr.bunPick {X : Nat → Prop} {w0 w : World} {L M : List Res} {r : Res} (h : Fr X w0 (bun M :: L) w) (i : Nat) (hi : M[i]? = some r) : Fr X w0 (r :: L) w := by
  obtain ⟨h1, h2, h3⟩ := h.mem
  have h1' : Mem M w := h1
  have hr := List.mem_of_getElem? hi
  refine h.tell _ ⟨h1'.get i hi, fun k hk q hq hqk => h2 k ⟨r, hr, hk⟩ q hq hqk, h3⟩ fun q hq k hk => ?_
  rcases List.mem_cons.1 hq with rfl | hq
  · exact ⟨bun M, by simp, q, hr, hk⟩
  · exact ⟨q, by simp [hq], hk⟩

/-! ### Rows of rows of steps -/
def vCells (x : Value) : List Value := [x]
def rowP (p : List Stp) (x : Value) : Res := own 61 3 x p.length (p.flatMap pCells)
def rowsP : List (List Stp) → List Value → List Res
  | p :: l, x :: xs => rowP p x :: rowsP l xs
  | _, _ => []
theorem rowsP_app : ∀ {l : List (List Stp)} {xs : List Value} (l' : List (List Stp)) (xs' : List Value), xs.length = l.length → rowsP (l ++ l') (xs ++ xs') = rowsP l xs ++ rowsP l' xs'
  | [], [], _, _, _ => rfl
  | [], _ :: _, _, _, h => by simp at h
  | _ :: _, [], _, _, h => by simp at h
  | p :: l, x :: xs, l', xs', h => by simp only [List.cons_append, rowsP]; rw [rowsP_app l' xs' (by simpa using h)]
theorem rowsP_get : ∀ {l : List (List Stp)} {xs : List Value} (i : Nat) (h : i < l.length) (h' : i < xs.length), (rowsP l xs)[i]? = some (rowP l[i] xs[i])
  | [], _, i, h, _ => by simp at h
  | _ :: _, [], i, _, h => by simp at h
  | p :: l, x :: xs, 0, _, _ => rfl
  | p :: l, x :: xs, i + 1, h, h' => by simp only [rowsP, List.getElem?_cons_succ, List.getElem_cons_succ]; exact rowsP_get i (by simpa using h) (by simpa using h')
theorem rowsP_set : ∀ {l : List (List Stp)} {xs : List Value} (i : Nat) (h : i < l.length) (h' : i < xs.length) (p : List Stp), (rowsP l xs).set i (rowP p xs[i]) = rowsP (l.set i p) xs
  | [], _, i, h, _, _ => by simp at h
  | _ :: _, [], i, _, h, _ => by simp at h
  | p :: l, x :: xs, 0, _, _, _ => rfl
  | p :: l, x :: xs, i + 1, h, h', q => by simp only [rowsP, List.set_cons_succ, List.getElem_cons_succ]; rw [rowsP_set i (by simpa using h) (by simpa using h') q]
/-- Rows of steps that the call owns, and their row. -/
def sepP (l : List (List Stp)) (v : Value) (xs : List Value) : List Res := [own 44 1 v xs.length (xs.flatMap vCells), bun (rowsP l xs)]
/-- Rows of steps, to be read. -/
def RepPP (F : Nat → Prop) (w : World) (l : List (List Stp)) (v : Value) : Prop := ∃ xs, xs.length = l.length ∧ RepE vCells 1 F w xs v ∧ ∀ i (h : i < l.length) (h' : i < xs.length), RepP F w l[i] xs[i]
theorem sepP_rep {w : World} {l : List (List Stp)} {v : Value} {xs : List Value} (h1 : (own 44 1 v xs.length (xs.flatMap vCells)).is w) (h2 : (bun (rowsP l xs)).is w) (hl : xs.length = l.length) : RepPP Any w l v :=
  ⟨xs, hl, (own_rep (enc := vCells) (sz := 1) (fun _ => rfl) h1).weak fun _ _ => trivial, fun i h h' => ownP (Mem.get i (rowsP_get i h h') h2)⟩
theorem RepPP.chg {F : Nat → Prop} {w w' : World} {l : List (List Stp)} {v : Value} (h : RepPP F w l v) (hc : Chg No w w') : RepPP F w' l v := by
  obtain ⟨xs, h1, h2, h3⟩ := h
  exact ⟨xs, h1, h2.chg hc, fun i h h' => (h3 i h h').chg hc⟩
theorem RepPP.open {F : Nat → Prop} {w : World} {l : List (List Stp)} {v : Value} (h : RepPP F w l v) : ∃ A c, v = .slice A l.length c ∧ l.length ≤ 9223372036854775807 := by
  obtain ⟨xs, h1, h2, h3⟩ := h
  rw [← h1]
  exact h2.open
theorem RepPP.at {F : Nat → Prop} {w : World} {l : List (List Stp)} {A : Option Addr} {m c : Nat} (h : RepPP F w l (.slice A m c)) (i : Nat) (hi : i < l.length) : ∃ b o x, A = some ⟨b, o, none⟩ ∧ F b ∧ w.rangeAt b (o + i * 1) [x] ∧ RepP F w l[i] x := by
  obtain ⟨xs, h1, h2, h3⟩ := h
  obtain ⟨b, o, e, hF, hr⟩ := h2.at i (by omega)
  exact ⟨b, o, xs[i]'(by omega), e, hF, hr, h3 i hi (by omega)⟩
theorem rowsP_one {w : World} {l : List (List Stp)} {xs : List Value} (h : (bun (rowsP l xs)).is w) (hl : xs.length = l.length) : ∀ x ∈ xs, (vCells x).all (·.oneCell') = true := fun x hx => by
  obtain ⟨i, hi, rfl⟩ := List.getElem_of_mem hx
  have := Mem.get i (rowsP_get i (by omega) hi) h
  simp only [vCells, List.all_cons, List.all_nil, Bool.and_true]
  exact own_one (e := 61) (sz := 3) this
end Go.Proofs.YtpfkcblhojkaiaaDoor.Eng
