/- Rows in order, as plain data: insertion from either end comes to the same. -/
import Derived.Test.YtodbflfelimppaaOrdP
import Derived.Test.YtodbflfelimppaaLawC
namespace Go.Proofs.Ytodbflfelimppaa.Eng
open Go.RowKit
set_option linter.unusedVariables false
set_option linter.unusedSimpArgs false
set_option maxHeartbeats 1000000


theorem Yld.castE {P : Program} {n : Nat} {S : Env} {o : Oper} {g : Bool} {w : World} {v v' : Value} (h : Yld P n S o g w v) (e : g = true → v = v') : Yld P n S o g w v' := fun a hs hg => by rw [← e hg]; exact h a hs hg
section
variable {α : Type} {f : α → α → Int}
structure Pre (f : α → α → Int) : Prop where
  neg : ∀ a b, f b a = - f a b
  tr : ∀ a b c, f a b ≤ 0 → f b c ≤ 0 → f a c ≤ 0
theorem Pre.of (h : ∀ a, CmpAt f a) : Pre f := ⟨fun a b => (h a).neg b, fun a b c => (h a).tr b c⟩
/-- Put into a row in order, behind all that are the same. -/
def ins (f : α → α → Int) (e : α) : List α → List α
  | [] => [e]
  | x :: l => if f x e ≤ 0 then x :: ins f e l else e :: x :: l
def sortL (f : α → α → Int) (l : List α) : List α := l.foldl (fun a x => ins f x a) []
theorem sortL_snoc (l : List α) (x : α) : sortL f (l ++ [x]) = ins f x (sortL f l) := by simp [sortL]
theorem sortL_take (l : List α) (i : Nat) (hi : i < l.length) : sortL f (l.take (i + 1)) = ins f l[i] (sortL f (l.take i)) := by
  rw [List.take_succ_eq_append_getElem hi, sortL_snoc]
theorem ins_perm (e : α) : ∀ l : List α, (ins f e l).Perm (e :: l)
  | [] => List.Perm.refl _
  | x :: l => by
    unfold ins
    split
    · exact ((ins_perm e l).cons x).trans (List.Perm.swap e x l)
    · exact List.Perm.refl _
theorem sortL_perm : ∀ l : List α, (sortL f l).Perm l := fun l => by
  have key : ∀ (l a : List α), (l.foldl (fun a x => ins f x a) a).Perm (a ++ l) := by
    intro l
    induction l with
    | nil => intro a; simp
    | cons x l ih =>
      intro a
      rw [List.foldl_cons]
      refine (ih _).trans ?_
      refine ((ins_perm x a).append_right l).trans ?_
      exact (List.perm_middle (l₁ := a) (l₂ := l) (a := x)).symm
  have := key l []
  simpa [sortL] using this
theorem ins_len (e : α) (l : List α) : (ins f e l).length = l.length + 1 := by rw [(ins_perm e l).length_eq]; rfl
theorem sortL_len (l : List α) : (sortL f l).length = l.length := (sortL_perm l).length_eq
def Srt (f : α → α → Int) (l : List α) : Prop := List.Pairwise (fun a b => f a b ≤ 0) l
theorem ins_srt (hf : Pre f) (e : α) : ∀ {l : List α}, Srt f l → Srt f (ins f e l)
  | [], _ => by simp [ins, Srt]
  | x :: l, h => by
    unfold Srt at h ⊢
    rw [List.pairwise_cons] at h
    unfold ins
    split
    · rename_i hx
      rw [List.pairwise_cons]
      refine ⟨fun y hy => ?_, ins_srt hf e h.2⟩
      rcases List.mem_cons.1 ((ins_perm e l).mem_iff.1 hy) with rfl | hy
      · exact hx
      · exact h.1 y hy
    · rename_i hx
      have hex : f e x ≤ 0 := by have := hf.neg x e; omega
      rw [List.pairwise_cons, List.pairwise_cons]
      refine ⟨fun y hy => ?_, h⟩
      rcases List.mem_cons.1 hy with rfl | hy
      · exact hex
      · exact hf.tr _ _ _ hex (h.1 y hy)
theorem sortL_srt (hf : Pre f) (l : List α) : Srt f (sortL f l) := by
  have key : ∀ (l a : List α), Srt f a → Srt f (l.foldl (fun a x => ins f x a) a) := by
    intro l
    induction l with
    | nil => intro a h; exact h
    | cons x l ih => intro a h; exact ih _ (ins_srt hf x h)
  exact key l [] List.Pairwise.nil
/-- Two rows in order of the same elements are one. -/
theorem srt_uniq (hf : ∀ a, CmpAt f a) : ∀ {l m : List α}, Srt f l → Srt f m → l.Perm m → l = m
  | [], m, _, _, h => by rw [List.nil_perm] at h; exact h.symm
  | _ :: _, [], _, _, h => by have := h.length_eq; simp at this
  | x :: l, y :: m, hl, hm, h => by
    unfold Srt at hl hm
    rw [List.pairwise_cons] at hl hm
    have hxy : f x y ≤ 0 := by
      rcases List.mem_cons.1 (h.mem_iff.2 (List.mem_cons_self ..) : y ∈ x :: l) with e | e
      · rw [e]; have := ((hf x).eq x).2 rfl; omega
      · exact hl.1 y e
    have hyx : f y x ≤ 0 := by
      rcases List.mem_cons.1 (h.mem_iff.1 (List.mem_cons_self ..) : x ∈ y :: m) with e | e
      · rw [e]; have := ((hf y).eq y).2 rfl; omega
      · exact hm.1 x e
    have e : x = y := ((hf x).eq y).1 (by have := (hf x).neg y; omega)
    subst e
    rw [srt_uniq hf hl.2 hm.2 (List.Perm.cons_inv h)]
/-- One exchange with the one ahead. -/
def swp (l : List α) (j : Nat) (h : j + 1 < l.length) : List α := (l.set (j + 1) (l[j]'(by omega))).set j l[j + 1]
theorem swp_len (l : List α) (j : Nat) (h : j + 1 < l.length) : (swp l j h).length = l.length := by simp [swp]
theorem swp_app (p q : List α) (x e : α) (h : p.length + 1 < (p ++ x :: e :: q).length) : swp (p ++ x :: e :: q) p.length h = p ++ e :: x :: q := by
  unfold swp
  have e1 : (p ++ x :: e :: q)[p.length]'(by omega) = x := by simp
  have e2 : (p ++ x :: e :: q)[p.length + 1] = e := by
    rw [List.getElem_append_right (by omega)]
    simp
  rw [e1, e2, List.set_append, if_neg (by omega), List.set_append, if_neg (by omega)]
  simp
theorem ins_end (e : α) (x : α) (hx : ¬ f x e ≤ 0) : ∀ l : List α, ins f e (l ++ [x]) = ins f e l ++ [x]
  | [] => by simp [ins, hx]
  | y :: l => by
    rw [List.cons_append, ins, ins]
    split
    · rw [ins_end e x hx l]; rfl
    · rfl
theorem ins_last (hf : Pre f) (e : α) (x : α) (hx : f x e ≤ 0) : ∀ l : List α, Srt f (l ++ [x]) → ins f e (l ++ [x]) = l ++ [x, e]
  | [], _ => by simp [ins, hx]
  | y :: l, h => by
    unfold Srt at h
    rw [List.cons_append, List.pairwise_cons] at h
    rw [List.cons_append, ins, if_pos (hf.tr _ _ _ (h.1 x (by simp)) hx), ins_last hf e x hx l h.2]
    rfl
end
theorem Tr.cmpf : ∀ t : Tr, CmpAt Tr.ord t := Tr.cmp
/-- A tree and where it lies. -/
def ordZ (a b : Tr × V5) : Int := Tr.ord a.1 b.1
theorem ins_map (e : Tr × V5) : ∀ l : List (Tr × V5), (ins ordZ e l).map (·.1) = ins Tr.ord e.1 (l.map (·.1))
  | [] => rfl
  | x :: l => by
    rw [List.map_cons, ins, ins]
    show (if Tr.ord x.1 e.1 ≤ 0 then _ else _ : List (Tr × V5)).map _ = _
    split
    · rw [List.map_cons, ins_map e l]
    · rfl
theorem sort_map (l : List (Tr × V5)) : (sortL ordZ l).map (·.1) = sortL Tr.ord (l.map (·.1)) := by
  have key : ∀ (l a : List (Tr × V5)), (l.foldl (fun a x => ins ordZ x a) a).map (·.1) = (l.map (·.1)).foldl (fun a x => ins Tr.ord x a) (a.map (·.1)) := by
    intro l
    induction l with
    | nil => intro a; rfl
    | cons x l ih => intro a; rw [List.foldl_cons, ih, List.map_cons, List.foldl_cons, ins_map]
  exact key l []
theorem ordZ_pre : Pre ordZ := ⟨fun a b => (Tr.cmp a.1).neg b.1, fun a b c => (Tr.cmp a.1).tr b.1 c.1⟩
/-- The element e on its way down a row in order. -/
def IS {α : Type} (P : List α) (e : α) (R : List α) (j : Nat) : List α := P.take j ++ e :: (P.drop j ++ R)
theorem IS_len {α : Type} (P : List α) (e : α) (R : List α) (j : Nat) : (IS P e R j).length = P.length + 1 + R.length := by
  have := congrArg List.length (List.take_append_drop j P)
  rw [List.length_append] at this
  simp only [IS, List.length_append, List.length_cons]
  omega
theorem IS_at {α : Type} (P : List α) (e : α) (R : List α) (j : Nat) (h : j ≤ P.length) : (IS P e R j)[j]? = some e := by
  unfold IS
  rw [List.getElem?_append_right (by simp; omega)]
  simp [Nat.min_eq_left h]
theorem IS_pre {α : Type} (P : List α) (e : α) (R : List α) (j : Nat) (h : j < P.length) : (IS P e R (j + 1))[j]? = some P[j] := by
  unfold IS
  rw [List.getElem?_append_left (by simp; omega), List.getElem?_take, if_pos (by omega), List.getElem?_eq_getElem h]
theorem IS_swap {α : Type} (P : List α) (e : α) (R : List α) (j : Nat) (h : j < P.length) : ((IS P e R (j + 1)).set (j + 1) P[j]).set j e = IS P e R j := by
  have h1 : IS P e R (j + 1) = P.take j ++ P[j] :: e :: (P.drop (j + 1) ++ R) := by
    unfold IS
    rw [List.take_succ_eq_append_getElem h, List.append_assoc]
    rfl
  have h2 : IS P e R j = P.take j ++ e :: P[j] :: (P.drop (j + 1) ++ R) := by
    unfold IS
    rw [List.drop_eq_getElem_cons h]
    rfl
  have hl : (P.take j).length = j := by simp; omega
  rw [h1, h2, List.set_append, if_neg (by omega), List.set_append, if_neg (by omega), hl, Nat.sub_self, show j + 1 - j = 1 by omega]
  rfl
theorem IS_full {α : Type} (P : List α) (e : α) (R : List α) : IS P e R P.length = P ++ e :: R := by simp [IS]
section
variable {α : Type} {f : α → α → Int}
/-- What is ahead of e, and what e has passed. -/
def Way (f : α → α → Int) (P : List α) (e : α) (j : Nat) : Prop := ins f e P = ins f e (P.take j) ++ P.drop j
theorem Way.full (P : List α) (e : α) : Way f P e P.length := by simp [Way]
theorem Way.down {P : List α} {e : α} {j : Nat} (h : Way f P e (j + 1)) (hj : j < P.length) (hlt : ¬ f P[j] e ≤ 0) : Way f P e j := by
  unfold Way at h ⊢
  rw [h, List.take_succ_eq_append_getElem hj, ins_end e _ hlt, List.append_assoc, List.drop_eq_getElem_cons hj]
  rfl
theorem Way.zero {P R : List α} {e : α} (h : Way f P e 0) : IS P e R 0 = ins f e P ++ R := by
  unfold Way at h
  rw [h]
  simp [IS, ins]
theorem Way.stop (hf : Pre f) {P R : List α} {e : α} {j : Nat} (h : Way f P e (j + 1)) (hj : j < P.length) (hs : Srt f P) (hle : f P[j] e ≤ 0) : IS P e R (j + 1) = ins f e P ++ R := by
  unfold Way at h
  have h2 : Srt f (P.take j ++ [P[j]]) := by
    rw [← List.take_succ_eq_append_getElem hj]
    exact List.Pairwise.sublist (List.take_sublist _ _) hs
  rw [h, List.take_succ_eq_append_getElem hj, ins_last hf e _ hle _ h2]
  unfold IS
  rw [List.take_succ_eq_append_getElem hj]
  simp only [List.append_assoc, List.cons_append, List.nil_append]
end
/-- The first i + 1 are in order. -/
def srtZ (zs : List (Tr × V5)) (i : Nat) : List (Tr × V5) := sortL ordZ (zs.take (i + 1)) ++ zs.drop (i + 1)
theorem srtZ_len (zs : List (Tr × V5)) (i : Nat) : (srtZ zs i).length = zs.length := by
  have := congrArg List.length (List.take_append_drop (i + 1) zs)
  rw [List.length_append] at this
  unfold srtZ
  rw [List.length_append, sortL_len]; omega
theorem srtZ_zero (zs : List (Tr × V5)) : srtZ zs 0 = zs := by
  unfold srtZ
  cases zs with
  | nil => rfl
  | cons z zs => rfl
theorem srtZ_end (zs : List (Tr × V5)) (i : Nat) (h : zs.length ≤ i + 1) : srtZ zs i = sortL ordZ zs := by
  unfold srtZ
  rw [List.take_of_length_le h, List.drop_eq_nil_of_le h, List.append_nil]
theorem srtZ_is (zs : List (Tr × V5)) (i : Nat) (h : i + 1 < zs.length) : IS (sortL ordZ (zs.take (i + 1))) zs[i + 1] (zs.drop (i + 2)) (i + 1) = srtZ zs i := by
  have hl : (sortL ordZ (zs.take (i + 1))).length = i + 1 := by rw [sortL_len]; simp; omega
  have := IS_full (sortL ordZ (zs.take (i + 1))) zs[i + 1] (zs.drop (i + 2))
  rw [hl] at this
  rw [this]
  unfold srtZ
  rw [List.drop_eq_getElem_cons h]
theorem srtZ_next (zs : List (Tr × V5)) (i : Nat) (h : i + 1 < zs.length) : srtZ zs (i + 1) = ins ordZ zs[i + 1] (sortL ordZ (zs.take (i + 1))) ++ zs.drop (i + 2) := by
  unfold srtZ
  rw [sortL_take zs (i + 1) h]
theorem srtZ_perm (zs : List (Tr × V5)) (i : Nat) : (srtZ zs i).Perm zs := by
  unfold srtZ
  exact ((sortL_perm _).append_right _).trans (by rw [List.take_append_drop])
theorem IS_mem {α : Type} {P R : List α} {e y : α} {j : Nat} (h : y ∈ IS P e R j) : y ∈ P ++ e :: R := by
  unfold IS at h
  rcases List.mem_append.1 h with h | h
  · exact List.mem_append.2 (.inl (List.mem_of_mem_take h))
  · rcases List.mem_cons.1 h with rfl | h
    · simp
    · rcases List.mem_append.1 h with h | h
      · exact List.mem_append.2 (.inl (List.mem_of_mem_drop h))
      · simp [h]
/-- Each once, of a row in order. -/
noncomputable def onceG (p : Tr) : List Tr → List Tr
  | [] => []
  | x :: l => if x = p then onceG p l else x :: onceG x l
noncomputable def onceL : List Tr → List Tr
  | [] => []
  | x :: l => x :: onceG x l
theorem onceG_mem (p y : Tr) : ∀ l : List Tr, y ∈ p :: onceG p l ↔ y ∈ p :: l
  | [] => by simp [onceG]
  | x :: l => by
    unfold onceG
    split
    · rename_i h
      subst h
      rw [onceG_mem x y l]
      simp
    · have := onceG_mem x y l
      rw [List.mem_cons, this, List.mem_cons (a := y) (b := p)]
theorem onceL_mem (y : Tr) : ∀ l : List Tr, y ∈ onceL l ↔ y ∈ l
  | [] => by simp [onceL]
  | x :: l => by rw [onceL, onceG_mem]

end Go.Proofs.Ytodbflfelimppaa.Eng
