/- What is put or set lies there, all else where it lay: plain laws. -/
import Derived.Test.YtmmgobhoakaaaaaLawP
import Derived.Test.YtmmgobhoakaaaaaDraw3
namespace Go.Proofs.Ytmmgobhoakaaaaa.Eng
open Go.RowKit
set_option linter.unusedVariables false
set_option linter.unusedSimpArgs false
set_option maxHeartbeats 1000000


theorem Fr.none {X : Nat → Prop} {w0 w : World} {L : List Res} (h : Fr X w0 L w) : Fr X w0 [] w := h.tell [] trivial fun r hr => by simp at hr
theorem range_eq {w : World} {b o : Nat} {p q : List Value} (hp : w.rangeAt b o p) (hq : w.rangeAt b o q) (hl : p.length = q.length) : p = q := by
  apply List.ext_getElem hl
  intro j h1 h2
  have e1 := hp j p[j] (List.getElem?_eq_getElem h1)
  have e2 := hq j q[j] (List.getElem?_eq_getElem h2)
  rw [e1] at e2
  exact Option.some.inj e2
/-- Drawn trees, with the cells of the first one's row. -/
def rpsE (G : Nat → Prop) (l : List (Tr × Value)) (xs : List V5) : Res := ⟨G, fun w => (rps G l).is w ∧ ∃ t k n s v3 v4, l[0]? = some (t, (x5 k n s v3 v4).val) ∧ RepE enc5 5 G w xs v4 ∧ RepL G w t.list v4 ∧ xs.length = t.list.length,
  fun w w' h hi => ⟨(rps G l).keep w w' h hi.1, by
    obtain ⟨-, t, k, n, s, v3, v4, h1, h2, h3, h4⟩ := hi
    exact ⟨t, k, n, s, v3, v4, h1, RepE.keep h2 fun k hk hF => h k hk hF, h3.keep h, h4⟩⟩, fun w hi k hk => (rps G l).lt w hi.1 k hk⟩
theorem rpsE_get {G : Nat → Prop} {l : List (Tr × Value)} {xs : List V5} {w : World} (h : (rpsE G l xs).is w) (i : Nat) {t : Tr} {v : Value} (hi : l[i]? = some (t, v)) : Rep Any w t v := rps_get h.1 i hi
theorem Fr.toRpsE {X : Nat → Prop} {w0 w : World} {L : List Res} {G : Nat → Prop} {t : Tr} {k n : Int} {s : ByteArray} {v3 v4 : Value} {l : List (Tr × Value)} (h : Fr X w0 L w) (i : Nat) (hi : L[i]? = some (rps G ((t, (x5 k n s v3 v4).val) :: l))) : ∃ xs : List V5, xs.length = t.list.length ∧ Fr X w0 (L.set i (rpsE G ((t, (x5 k n s v3 v4).val) :: l) xs)) w := by
  have hr : (rps G ((t, (x5 k n s v3 v4).val) :: l)).is w := h.get i hi
  have ht := hr.1 0 t _ rfl
  have hl := rep_l ht
  obtain ⟨xs, h1, h2⟩ := hl.v5
  exact ⟨xs, h2.1, h.upd i hi (Chg.refl No w) (fun _ h => h.elim) (rpsE G _ xs) ⟨hr, t, k, n, s, v3, v4, rfl, h1, hl, h2.1⟩ fun _ hk => .inl hk⟩
theorem rpsE_at {G : Nat → Prop} {t : Tr} {k n : Int} {s : ByteArray} {v3 : Value} {A : Option Addr} {m c : Nat} {l : List (Tr × Value)} {xs : List V5} {w : World} (h : (rpsE G ((t, (x5 k n s v3 (.slice A m c)).val) :: l) xs).is w) (i : Nat) (hi : i < xs.length) : ∃ b o, A = some ⟨b, o, none⟩ ∧ w.rangeAt b (o + i * 5) (enc5 xs[i]) := by
  obtain ⟨-, t', k', n', s', v3', v4', h1, h2, h3, h4⟩ := h
  have e : (x5 k n s v3 (.slice A m c)).val = (x5 k' n' s' v3' v4').val := by
    have := Option.some.inj h1
    exact (Prod.mk.inj this).2
  have e2 := V5.inj e
  have e3 : Value.slice A m c = v4' := congrArg V5.e e2
  subst e3
  obtain ⟨b, o, e, -, hr⟩ := h2.at i hi
  exact ⟨b, o, e, hr⟩
theorem rpsE_rng {G : Nat → Prop} {t : Tr} {k n : Int} {s : ByteArray} {v3 : Value} {A : Option Addr} {m c b o : Nat} {l : List (Tr × Value)} {xs : List V5} {w : World} (h : (rpsE G ((t, (x5 k n s v3 (.slice A m c)).val) :: l) xs).is w) (e : A = some ⟨b, o, none⟩) (i : Nat) (hi : i < xs.length) : w.rangeAt b (o + i * 5) [xs[i].a, xs[i].b, xs[i].c, xs[i].d, xs[i].e] := by
  obtain ⟨b', o', e', hr⟩ := rpsE_at h i hi
  subst e
  obtain ⟨rfl, rfl⟩ : b = b' ∧ o = o' := by simpa using e'
  exact hr
theorem rpsE_rep {G : Nat → Prop} {t : Tr} {k n : Int} {s : ByteArray} {v3 : Value} {A : Option Addr} {m c : Nat} {l : List (Tr × Value)} {xs : List V5} {w : World} (h : (rpsE G ((t, (x5 k n s v3 (.slice A m c)).val) :: l) xs).is w) (i : Nat) (hi : i < t.list.length) (hx : i < xs.length) : Rep Any w t.list[i] xs[i].val := by
  obtain ⟨b, o, e, hr⟩ := rpsE_at h i hx
  have ht := rep_l (rps_get h.1 0 rfl)
  subst e
  have hm : m = t.list.length := by
    obtain ⟨A', c', e, -⟩ := ht.open
    have := Value.slice.inj e
    exact this.2.1
  obtain ⟨b', o', x, e', -, hr', hx'⟩ := at5 ht i hi
  obtain ⟨rfl, rfl⟩ : b = b' ∧ o = o' := by simpa using e'
  have := range_eq hr' hr rfl
  obtain rfl : x = xs[i] := by
    generalize xs[i] = y at this
    obtain ⟨x1, x2, x3, x4, x5⟩ := x
    obtain ⟨y1, y2, y3, y4, y5⟩ := y
    simpa [enc5] using this
  exact hx'
theorem rs_rng {F : Nat → Prop} {w : World} {ks : List ByteArray} {A : Option Addr} {m c b o : Nat} (h : RepS F w ks (.slice A m c)) (e : A = some ⟨b, o, none⟩) (i : Nat) (hi : i < ks.length) : w.rangeAt b (o + i * 1) [.string (nth ks i)] := by
  obtain ⟨b', o', e', -, hr⟩ := h.at i hi
  subst e
  obtain ⟨rfl, rfl⟩ : b = b' ∧ o = o' := by simpa using e'
  rw [nth_eq hi]
  exact hr
theorem put_other {α : Type} (key k' : ByteArray) (x : α) (hne : k' ≠ key) : ∀ (ks : List ByteArray) (l : List α), ks.length = l.length → ks.findIdx (fun y => decide (y = k')) < ks.length → (putL ks l key x)[(putK ks key).findIdx (fun y => decide (y = k'))]? = l[ks.findIdx (fun y => decide (y = k'))]? ∧ (putK ks key).findIdx (fun y => decide (y = k')) < (putK ks key).length
  | [], _, _, h => by simp at h
  | _ :: _, [], h, _ => by simp at h
  | k :: ks, u :: l, h, hlt => by
    rw [List.findIdx_cons] at hlt
    rw [putK_cons, putL_cons, List.findIdx_cons (l := ks)]
    by_cases hk : k = k'
    · subst hk
      have e : ¬ k = key := hne
      split
      · rw [List.findIdx_cons]; simp
      · try rw [if_neg e]
        simp [List.findIdx_cons, Ne.symm hne]
    · have hlt' : ks.findIdx (fun y => decide (y = k')) < ks.length := by simpa [hk] using hlt
      obtain ⟨i1, i2⟩ := put_other key k' x hne ks l (by simpa using h) hlt'
      split
      · rw [List.findIdx_cons]; simp [hk, i1, i2]
      · split
        · rw [List.findIdx_cons]; simp [hk, hlt']
        · rw [List.findIdx_cons, List.findIdx_cons]
          simp [hk, Ne.symm hne, hlt']
theorem get_other {t x : Tr} {key : ByteArray} {i : Nat} (h : okT t = true) (hk : t.kind = 0 ∨ t.kind = 6) (ho : okT (putT t key x) = true) (hi : i < t.keys.length) (hil : i < t.list.length) (hne : nth t.keys i ≠ key) : partGetR (putT t key x) (nth t.keys i) = some t.list[i] := by
  have hl := put_len h hk
  have hks : okS (nth t.keys i) = true := ((okT_six h).2.2 i hi).1
  have hz := keyZ_nth h hi
  have hf : t.keys.findIdx (fun y => decide (y = nth t.keys i)) = i := by
    unfold keyZ at hz
    split at hz <;> omega
  obtain ⟨i1, i2⟩ := put_other key (nth t.keys i) x hne t.keys t.list hl (by omega)
  have hz2 : keyZ (putK t.keys key) (nth t.keys i) = (((putK t.keys key).findIdx (fun y => decide (y = nth t.keys i)) : Nat) : Int) := by unfold keyZ; rw [if_pos i2]
  have hlt : (putK t.keys key).findIdx (fun y => decide (y = nth t.keys i)) < (putL t.keys t.list key x).length := by
    rw [← put_len2 hl]; exact i2
  unfold partGetR getT
  rw [ho, hks, Bool.and_self, if_pos rfl, if_neg (by show ¬ (6 : Int) = 0; omega), if_neg (by show ¬ (6 : Int) ≠ 6; omega)]
  have e1 : (putT t key x).keys = putK t.keys key := rfl
  have e2 : (putT t key x).list = putL t.keys t.list key x := rfl
  rw [dif_pos (by rw [e1, e2, hz2]; exact ⟨by omega, by simpa using hlt⟩)]
  have e3 : (keyZ (putT t key x).keys (nth t.keys i)).toNat = (putK t.keys key).findIdx (fun y => decide (y = nth t.keys i)) := by rw [e1, hz2]; simp
  rw [hf, List.getElem?_eq_getElem hlt, List.getElem?_eq_getElem hil] at i1
  rw [← Option.some.inj i1]
  congr 1
  simp only [e3]
  rfl
theorem no74 {t x : Tr} {k : ByteArray} {r r2 : Option Tr} (hr : r = putR t k x) (h : r.isSome = true) (hr2 : r2 = partGetR (r.getD zeroT) k) (hc : (!r2.isSome || !(decide (r2.getD zeroT = x))) = true) : False := by
  obtain ⟨hp, e, ho⟩ := putR_some hr h
  rw [e] at hr2
  have e2 : r2 = some x := by rw [hr2]; exact partGet_put hp ho
  rw [e2] at hc
  simp at hc
theorem no112 {a key : ByteArray} {r : Option Tr} {x : Tr} (h : a ≠ key → r = some x) (hc : ((!decide (a = key)) && (!r.isSome || !(decide (r.getD zeroT = x)))) = true) : False := by
  by_cases e : a = key
  · simp [e] at hc
  · rw [h e] at hc; simp at hc
theorem setR_some {t x : Tr} {g : Int} {r : Option Tr} (hr : r = setR t x g) (h : r.isSome = true) : setB t x g = true ∧ r = some (setT t x g) ∧ okT (setT t x g) = true := by
  subst hr
  unfold setR at h ⊢
  split at h
  · rename_i h1
    unfold toldR at h ⊢
    rw [if_pos h1]
    split at h
    · rename_i h2
      exact ⟨h1, if_pos h2, by simpa using h2⟩
    · cases h
  · cases h
theorem setL_len (l : List Tr) (i : Nat) (x : Tr) : (setL l i x).length = max l.length (i + 1) := by
  unfold setL
  simp
  omega
theorem setL_at (l : List Tr) (i : Nat) (x : Tr) (h : i < (setL l i x).length) : (setL l i x)[i] = x := by
  simp only [setL, List.getElem_set_self]
theorem setL_other (l : List Tr) (i j : Nat) (x : Tr) (hij : j ≠ i) (hj : j < l.length) (h : j < (setL l i x).length) : (setL l i x)[j] = l[j] := by
  simp only [setL]
  rw [List.getElem_set_ne (Ne.symm hij), List.getElem_append_left hj]
theorem setZ_le {t x : Tr} {g : Int} (h : setB t x g = true) : (setZ t g : Int) = (if g < 0 then g + t.list.length else g) := by
  obtain ⟨h1, h2, h3, h4, h5⟩ := setB_facts h
  unfold setZ
  split <;> omega
theorem at_set {t x : Tr} {g : Int} (h : setB t x g = true) (ho : okT (setT t x g) = true) : partAtR (setT t x g) g = some x := by
  have hz := setZ_le h
  have hl : (setT t x g).list.length = max t.list.length (setZ t g + 1) := setL_len _ _ _
  obtain ⟨h1, h2, h3, h4, h5⟩ := setB_facts h
  have hlt : setZ t g < (setT t x g).list.length := by rw [hl]; omega
  unfold partAtR atT
  rw [if_pos ho, if_neg (by show ¬ (5 : Int) = 0; omega), if_neg (by show ¬ (5 : Int) ≠ 5; omega)]
  by_cases hg : g < 0
  · rw [if_pos hg] at hz
    have hll : (setT t x g).list.length = t.list.length := by rw [hl]; omega
    have hp : placeZ g (setT t x g).list.length = setZ t g := by
      unfold placeZ
      rw [hll, if_neg (by omega), if_pos hg]
      omega
    rw [dif_pos (by rw [hp]; exact ⟨by omega, by simpa using hlt⟩)]
    have e : (placeZ g (setT t x g).list.length).toNat = setZ t g := by rw [hp]; simp
    simp only [e]
    congr 1
    exact setL_at _ _ _ _
  · rw [if_neg hg] at hz
    have hp : placeZ g (setT t x g).list.length = setZ t g := by
      unfold placeZ
      rw [if_neg (by omega), if_neg hg]
      omega
    rw [dif_pos (by rw [hp]; exact ⟨by omega, by simpa using hlt⟩)]
    have e : (placeZ g (setT t x g).list.length).toNat = setZ t g := by rw [hp]; simp
    simp only [e]
    congr 1
    exact setL_at _ _ _ _
theorem at_other {t x : Tr} {g : Int} {i : Nat} (h : setB t x g = true) (ho : okT (setT t x g) = true) (hi : i < t.list.length) (h1 : (i : Int) ≠ g) (h2 : (i : Int) ≠ g + t.list.length) : partAtR (setT t x g) (i : Int) = some t.list[i] := by
  have hz := setZ_le h
  have hne : i ≠ setZ t g := by split at hz <;> omega
  have hl : (setT t x g).list.length = max t.list.length (setZ t g + 1) := setL_len _ _ _
  rw [partAt_nth ho rfl (i := i) (by omega)]
  congr 1
  exact setL_other _ _ _ _ hne hi _
theorem no190 {a b d : Int} {r : Option Tr} {x : Tr} (h : a ≠ b → a ≠ d → r = some x) (hc : (((a != b) && (a != d)) && !(decide (r.getD zeroT = x))) = true) : False := by
  by_cases e : a = b
  · simp [e] at hc
  · by_cases e2 : a = d
    · simp [e2] at hc
    · rw [h e e2] at hc; simp at hc

end Go.Proofs.Ytmmgobhoakaaaaa.Eng
