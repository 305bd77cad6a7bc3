/- A child taken out of a family of owned trees and put back; a cell of an owned row's element turned. No statement of the seat is proved here. -/
import Derived.Test.YtpfkcblhojkaiaaDoorDec
namespace Go.Proofs.YtpfkcblhojkaiaaDoor.Eng
open Go.RowKit
set_option linter.unusedVariables false
set_option linter.unusedSimpArgs false

def KdX (w : World) (F : Nat → Prop) (i : Nat) (l : List Tr) (xs : List V5) : Prop :=
  ∃ (x : Nat → V5) (G : Nat → Nat → Prop), (∀ j, j < l.length → j ≠ i → xs[j]? = some (x j)) ∧ (∀ j (h : j < l.length), j ≠ i → Sep w (G j) l[j] (x j).val) ∧ (∀ j, j < l.length → j ≠ i → ∀ b, G j b → F b) ∧ (∀ j, j < l.length → ∀ m, m < j → j ≠ i → m ≠ i → ∀ b, G j b → ¬ G m b) ∧ ∀ b, F b → b < w.heap.size
theorem KdX.keep {w w' : World} {F : Nat → Prop} {i l xs} (h : KdX w F i l xs) (hw : ∀ k, k < w.heap.size → F k → w'.heap[k]? = w.heap[k]?) : KdX w' F i l xs := by
  obtain ⟨x, G, h1, h2, h3, h4, h5⟩ := h
  exact ⟨x, G, h1, fun j hj hn => (h2 j hj hn).keep fun k hk h => hw k hk (h3 j hj hn k h), h3, h4, lt_keep h5 hw⟩
def kidsX (F : Nat → Prop) (i : Nat) (l : List Tr) (xs : List V5) : Res := ⟨F, fun w => KdX w F i l xs, fun _ _ h hi => hi.keep h, fun _ hi k hk => by obtain ⟨_, _, _, _, _, _, h⟩ := hi; exact h k hk⟩

theorem Sep.grow {w : World} {F F' : Nat → Prop} {t : Tr} {v : Value} (h : Sep w F t v) (hF : ∀ b, F b → F' b) (hlt : ∀ b, F' b → b < w.heap.size) : Sep w F' t v := by
  cases h with
  | mk F k n s ks l v3 v4 x xs G h3 hxs h4 hx hk f3 f4 fk d34 d3 d4 dk flt =>
    exact .mk F' k n s ks l v3 v4 x xs G h3 hxs h4 hx hk (fun b hb => hF b (f3 b hb)) (fun b hb => hF b (f4 b hb)) (fun i hi b hb => hF b (fk i hi b hb)) d34 d3 d4 dk hlt

theorem Tr.eta (t : Tr) : ∃ k n s ks l, t = .mk k n s ks l := by
  obtain ⟨k, n, s, ks, l⟩ := t
  exact ⟨_, _, _, _, _, rfl⟩
theorem V5.inj {x y : V5} (h : x.val = y.val) : x = y := by
  obtain ⟨a, b, c, d, e⟩ := x
  obtain ⟨a', b', c', d', e'⟩ := y
  simpa [V5.val] using h

section
variable {X : Nat → Prop} {w0 w : World} {L : List Res} {r : Res}
/-- A thing that was there, lent. -/
theorem Fr.lend (r : Res) (h : r.is w) : Fr r.fp w [r] w := ⟨Chg.refl _ _, ⟨h, fun _ _ _ hq => by simp at hq, trivial⟩, fun q hq k hk => by simp at hq; subst hq; exact .inl hk⟩

theorem Fr.kidOut {F : Nat → Prop} {l : List Tr} {xs : List V5} (h : Fr X w0 (r :: kids F l xs :: L) w) (i : Nat) (hi : i < l.length) :
    ∃ x Gi F', xs[i]? = some x ∧ (∀ b, Gi b → F b) ∧ (∀ b, F' b → F b) ∧ Fr X w0 (sep Gi l[i] x.val :: r :: kidsX F' i l xs :: L) w := by
  obtain ⟨h1, h2, h3, h4, h5⟩ := h.mem
  have h3' : Kd w F l xs := h3
  obtain ⟨x, G, k1, k2, k3, k4, k5⟩ := h3'
  refine ⟨x i, G i, fun b => F b ∧ ¬ G i b, k1 i hi, k3 i hi, fun b hb => hb.1, h.tell _ ⟨k2 i hi, fun k hk q hq hqk => ?_, h1, fun k hk q hq hqk => ?_, ⟨x, G, fun j hj _ => k1 j hj, fun j hj _ => k2 j hj, fun j hj hn b hb => ⟨k3 j hj b hb, fun hgi => ?_⟩, fun j hj m hm _ _ => k4 j hj m hm, fun b hb => k5 b hb.1⟩, fun k hk q hq => h4 k hk.1 q hq, h5⟩ fun q hq k hk => ?_⟩
  · rcases List.mem_cons.1 hq with rfl | hq
    · exact h2 k hqk (kids F l xs) (by simp) (k3 i hi k hk)
    · rcases List.mem_cons.1 hq with rfl | hq
      · exact hqk.2 hk
      · exact h4 k (k3 i hi k hk) q hq hqk
  · rcases List.mem_cons.1 hq with rfl | hq
    · exact h2 k hk (kids F l xs) (by simp) hqk.1
    · exact h2 k hk q (by simp [hq]) hqk
  · rcases Nat.lt_or_gt_of_ne hn with hlt | hgt
    · exact k4 i hi j hlt b hgi hb
    · exact k4 j hj i hgt b hb hgi
  · rcases List.mem_cons.1 hq with rfl | hq
    · exact ⟨kids F l xs, by simp, k3 i hi k hk⟩
    · rcases List.mem_cons.1 hq with rfl | hq
      · exact ⟨q, by simp, hk⟩
      · rcases List.mem_cons.1 hq with rfl | hq
        · exact ⟨kids F l xs, by simp, hk.1⟩
        · exact ⟨q, by simp [hq], hk⟩

theorem Fr.kidIn {F Gi : Nat → Prop} {i : Nat} {l : List Tr} {xs xs' : List V5} {t : Tr} {x : V5} (h : Fr X w0 (sep Gi t x.val :: r :: kidsX F i l xs :: L) w) (hi : i < l.length) (hx : xs'[i]? = some x) (hxs : ∀ j, j ≠ i → xs'[j]? = xs[j]?) :
    Fr X w0 (r :: kids (fun b => F b ∨ Gi b) (l.set i t) xs' :: L) w := by
  obtain ⟨h1, h2, h3, h4, h5, h6, h7⟩ := h.mem
  have h1' : Sep w Gi t x.val := h1
  have h5' : KdX w F i l xs := h5
  obtain ⟨y, G, k1, k2, k3, k4, k5⟩ := h5'
  have hGF : ∀ b, Gi b → ¬ F b := fun b hb hf => h2 b hb (kidsX F i l xs) (by simp) hf
  have hlen : (l.set i t).length = l.length := by simp
  refine h.tell _ ⟨h3, fun k hk q hq hqk => ?_, ⟨fun j => if j = i then x else y j, fun j => if j = i then Gi else G j, fun j hj => ?_, fun j hj => ?_, fun j hj b hb => ?_, fun j hj m hm b hb => ?_, fun b hb => ?_⟩, fun k hk q hq hqk => ?_, h7⟩ fun q hq k hk => ?_
  · rcases List.mem_cons.1 hq with rfl | hq
    · rcases hqk with hqk | hqk
      · exact h4 k hk (kidsX F i l xs) (by simp) hqk
      · exact h2 k hqk r (by simp) hk
    · exact h4 k hk q (by simp [hq]) hqk
  · by_cases hji : j = i
    · subst hji; simp only [if_pos rfl]; exact hx
    · simp only [if_neg hji]; rw [hxs j hji]; exact k1 j (by omega) hji
  · by_cases hji : j = i
    · subst hji; simp only [if_pos rfl, List.getElem_set_self]; exact h1'
    · simp only [if_neg hji, List.getElem_set_ne (Ne.symm hji)]; exact k2 j (by omega) hji
  · by_cases hji : j = i
    · simp only [if_pos hji] at hb; exact .inr hb
    · simp only [if_neg hji] at hb; exact .inl (k3 j (by omega) hji b hb)
  · by_cases hji : j = i
    · have hmi : m ≠ i := by omega
      simp only [if_pos hji] at hb
      simp only [if_neg hmi]
      exact fun hg => hGF b hb (k3 m (by omega) hmi b hg)
    · simp only [if_neg hji] at hb
      by_cases hmi : m = i
      · simp only [if_pos hmi]
        exact fun hg => hGF b hg (k3 j (by omega) hji b hb)
      · simp only [if_neg hmi]
        exact k4 j (by omega) m hm hji hmi b hb
  · rcases hb with hb | hb
    · exact k5 b hb
    · exact h1'.lt b hb
  · rcases hk with hk | hk
    · exact h6 k hk q hq hqk
    · exact h2 k hk q (by simp [hq]) hqk
  · rcases List.mem_cons.1 hq with rfl | hq
    · exact ⟨q, by simp, hk⟩
    · rcases List.mem_cons.1 hq with rfl | hq
      · rcases hk with hk | hk
        · exact ⟨kidsX F i l xs, by simp, hk⟩
        · exact ⟨sep Gi t x.val, by simp, hk⟩
      · exact ⟨q, by simp [hq], hk⟩

theorem Fr.sepOut {F : Nat → Prop} {k n : Int} {s : ByteArray} {ks : List ByteArray} {l : List Tr} {v : Value} (h : Fr X w0 (sep F (.mk k n s ks l) v :: L) w) :
    ∃ v3 v4 F4, v = (x5 k n s v3 v4).val ∧ (∀ b, v3.ownBlock = some b ∨ F4 b → F b) ∧ Fr X w0 (sepL F4 l v4 :: own 9 1 v3 ks.length (ks.flatMap sCells) :: L) w := by
  obtain ⟨h1, h2, h3⟩ := h.mem
  have h1' : Sep w F (.mk k n s ks l) v := h1
  obtain ⟨v3, v4, F4, e1, e2, e3, e4, e5, e6⟩ := h1'.open
  have hsub : ∀ b, v3.ownBlock = some b ∨ F4 b → F b := fun b hb => hb.elim (fun h => (e4 b h).1) (e5 b)
  refine ⟨v3, v4, F4, e1, hsub, h.tell _ ⟨e3, fun k hk q hq hqk => ?_, e2, fun k hk q hq hqk => h2 k (hsub k (.inl hk)) q hq hqk, h3⟩ fun q hq k hk => ?_⟩
  · rcases List.mem_cons.1 hq with rfl | hq
    · exact (e4 k hqk).2 hk
    · exact h2 k (hsub k (.inr hk)) q hq hqk
  · rcases List.mem_cons.1 hq with rfl | hq
    · exact ⟨_, List.mem_cons_self .., hsub k (.inr hk)⟩
    · rcases List.mem_cons.1 hq with rfl | hq
      · exact ⟨_, List.mem_cons_self .., hsub k (.inl hk)⟩
      · exact ⟨q, by simp [hq], hk⟩

/-- A list of owned trees, lent, and told by its row and its children. -/
theorem Fr.lendL {F : Nat → Prop} {l : List Tr} {v : Value} (h : SepL w F l v) : ∃ xs Fk, xs.length = l.length ∧ (∀ b, v.ownBlock = some b → F b) ∧ (∀ b, Fk b → F b) ∧ Fr F w [own 33 5 v l.length (xs.flatMap enc5), kids Fk l xs] w := by
  obtain ⟨xs, Fk, h1, h2, h3, h4, h5, h6⟩ := h
  refine ⟨xs, Fk, h1, fun b hb => (h4 b hb).1, h5, Chg.refl _ _, ⟨h2, fun k hk q hq hqk => ?_, h3, fun _ _ q hq => by simp at hq, trivial⟩, fun r hr k hk => ?_⟩
  · simp at hq; subst hq; exact (h4 k hk).2 hqk
  · rcases List.mem_cons.1 hr with rfl | hr
    · exact .inl (h4 k hk).1
    · simp at hr; subst hr; exact .inl (h5 k hk)
theorem Fr.backL {F Fk : Nat → Prop} {l : List Tr} {v : Value} {n : Nat} {xs : List V5} (h : Fr X w0 [own 33 5 v n (xs.flatMap enc5), kids Fk l xs] w) (hn : n = l.length) (hxl : xs.length = l.length) (hv : ∀ b, v.ownBlock = some b → F b) (hk : ∀ b, Fk b → F b) (hlt : ∀ b, F b → b < w.heap.size) : SepL w F l v := by
  subst hn
  obtain ⟨h1, h2, h3, -⟩ := h.mem
  exact ⟨xs, Fk, hxl, h1, h3, fun b hb => ⟨hv b hb, fun hf => h2 b hb (kids Fk l xs) (by simp) hf⟩, hk, hlt⟩
end

theorem set_flat {α : Type} {enc : α → List Value} {sz : Nat} (he : ∀ x, (enc x).length = sz) (hsz : 0 < sz) (xs : List α) (i f : Nat) (hi : i < xs.length) (hf : f < sz) (x' : α) (v : Value) (hx : enc x' = (enc xs[i]).set f v) : (xs.flatMap enc).set (i * sz + f) v = (xs.set i x').flatMap enc := by
  rw [← putAt_flat he hsz xs i hi x', hx]
  apply List.ext_getElem?
  intro q
  rw [putAt_get, List.getElem?_set, List.length_set, he, flat_length he]
  have hm : (i + 1) * sz ≤ xs.length * sz := Nat.mul_le_mul_right _ hi
  have hm' : (i + 1) * sz = i * sz + sz := by rw [Nat.add_mul]; omega
  by_cases h1 : i * sz ≤ q ∧ q < i * sz + sz ∧ q < xs.length * sz
  · rw [if_pos h1, List.getElem?_set]
    have hg := flat_get he xs i (q - i * sz) hi (by omega)
    rw [show i * sz + (q - i * sz) = q by omega] at hg
    by_cases h2 : i * sz + f = q
    · rw [if_pos h2, if_pos (by omega), if_pos (by omega), if_pos (by rw [he]; exact hf)]
    · rw [if_neg h2, if_neg (by omega), hg]
  · rw [if_neg h1, if_neg (by omega)]

theorem own_cell {α : Type} {enc : α → List Value} {sz : Nat} (he : ∀ x, (enc x).length = sz) {w : World} {e b len cap n : Nat} {xs : List α} (h : (own e sz (.slice (some ⟨b, 0, none⟩) len cap) n (xs.flatMap enc)).is w) (hn : xs.length = n) (i f : Nat) {x : α} (hx : xs[i]? = some x) {v : Value} (hv : (enc x)[f]? = some v) : w.cell? ⟨b, 0 + i * sz + f, none⟩ = some v := by
  subst hn
  obtain ⟨hi, rfl⟩ := List.getElem?_eq_some_iff.1 hx
  have := own_range he h i hi f v hv
  rw [Nat.zero_add]
  exact this

section
variable {P : Program} {n : Nat} {ops : Array Oper} {Q : Exit → Act → World → Prop} {S : Env} {o : Oper} {d : Nat} {g : Bool} {v : Value} {N : Env → World → Prop} {X : Nat → Prop} {w0 w : World} {L : List Res} {x y : Operand}
theorem One.storeCell {α : Type} {enc : α → List Value} {sz : Nat} {ty e b i len cap : Nat} {xs : List α} {x0 : α} {u : Value} (x' : α) (f : Nat) (he : ∀ x, (enc x).length = sz) (hsz : Nat.blt f sz = true) (F : Fr X w0 L w) (k : Nat) (hi : L[k]? = some (own e sz (.slice (some ⟨b, 0, none⟩) len cap) len (xs.flatMap enc))) (hl : xs.length = len) (hx0 : xs[i]? = some x0) (hx' : enc x' = (enc x0).set f u) (ht : sizeT P ty 1 = true) (hg : o.guard = none) (hd : o.dst = none) (ho : o.op = .store ty x y)
    (hx : Ev S true x (.pointer (some ⟨b, 0 + i * sz + f, none⟩))) (hy : Ev S true y u) (hv : u.oneCell' = true)
    (h : ∀ w', Fr X w0 (L.set k (own e sz (.slice (some ⟨b, 0, none⟩) len cap) len ((xs.set i x').flatMap enc))) w' → N S w') : One P n ops Q o S w N := by
  subst hl
  have hfs : f < sz := by simpa using hsz
  obtain ⟨hil, hxi⟩ := List.getElem?_eq_some_iff.1 hx0
  have hO : w.ownsRow 0 e sz (.slice (some ⟨b, 0, none⟩) xs.length cap) xs.length (xs.flatMap enc) := F.get k hi
  have hO' := (hO.stored (i * sz + f) u).1
  rw [set_flat he (by omega) xs i f hil hfs x' u (by rw [hxi]; exact hx')] at hO'
  refine One.skp (w' := w.setCell ⟨b, i * sz + f, none⟩ u) hg hd (fun a hs => ?_) (h _ (F.upd k hi (Chg.setCell w ⟨b, i * sz + f, none⟩ u) (fun k' hk => Or.inl (by have h1 : k' = b := hk; subst h1; rfl)) (own e sz _ _ _) hO' fun _ hk => Or.inl hk))
  have ex := hx n a hs rfl
  have ey := hy n a hs rfl
  generalize a.eval = ρ at ex ey ⊢
  rw [Nat.zero_add] at ex
  have hc := own_range he hO i hil f _ (List.getElem?_eq_getElem (by rw [he]; exact hfs))
  have hr := run_store1 (P := P) (w := w) (ad := ⟨b, i * sz + f, none⟩) ht hv (by rw [hc]; rfl) (hO.frozenAt _)
  simp [execOp, ho, ex, ey, hr]
end
end Go.Proofs.YtpfkcblhojkaiaaDoor.Eng
