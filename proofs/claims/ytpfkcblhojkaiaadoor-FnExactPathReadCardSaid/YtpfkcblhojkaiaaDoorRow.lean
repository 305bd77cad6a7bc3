/- Rows that a call owns: made, stored into, appended to, read. No statement of the seat is proved here. -/
import Derived.Test.YtpfkcblhojkaiaaDoorTr
namespace Go.Proofs.YtpfkcblhojkaiaaDoor.Eng
open Go.RowKit
set_option linter.unusedVariables false
set_option linter.unusedSimpArgs false

/-! ### Lists of cells -/
section
variable {α : Type} {enc : α → List Value} {sz : Nat}

theorem flat_length (he : ∀ x, (enc x).length = sz) : ∀ xs : List α, (xs.flatMap enc).length = xs.length * sz
  | [] => by simp
  | x :: xs => by simp [flat_length he xs, he, Nat.add_mul, Nat.add_comm]

theorem flat_get (he : ∀ x, (enc x).length = sz) : ∀ (xs : List α) (i j : Nat) (hi : i < xs.length), j < sz → (xs.flatMap enc)[i * sz + j]? = (enc xs[i])[j]?
  | x :: xs, 0, j, hi, hj => by
    rw [List.flatMap_cons, List.getElem?_append_left (by rw [he]; omega)]; simp
  | x :: xs, i + 1, j, hi, hj => by
    rw [List.flatMap_cons, List.getElem?_append_right (by rw [he, Nat.add_mul]; omega), he, show (i + 1) * sz + j - sz = i * sz + j by rw [Nat.add_mul]; omega, flat_get he xs i j (by simpa using hi) hj]
    simp

theorem putAt_get : ∀ (vs cs : List Value) (q k : Nat), (putAt cs q vs)[k]? = if q ≤ k ∧ k < q + vs.length ∧ k < cs.length then vs[k - q]? else cs[k]?
  | [], cs, q, k => by rw [putAt, if_neg (by simp; omega)]
  | v :: vs, cs, q, k => by
    rw [putAt, putAt_get vs (cs.set q v) (q + 1) k]
    simp only [List.length_set, List.length_cons]
    by_cases h1 : q + 1 ≤ k ∧ k < q + 1 + vs.length ∧ k < cs.length
    · rw [if_pos h1, if_pos (by omega), show k - q = (k - (q + 1)) + 1 by omega]; simp
    · rw [if_neg h1, List.getElem?_set]
      by_cases h2 : q = k
      · subst h2
        by_cases h3 : q < cs.length
        · simp [h3]
        · simp [h3]
      · rw [if_neg h2, if_neg (by omega)]

theorem putAt_flat (he : ∀ x, (enc x).length = sz) (hsz : 0 < sz) (xs : List α) (i : Nat) (hi : i < xs.length) (x : α) : putAt (xs.flatMap enc) (i * sz) (enc x) = (xs.set i x).flatMap enc := by
  apply List.ext_getElem?
  intro k
  rw [putAt_get, flat_length he, he]
  have hm : (i + 1) * sz ≤ xs.length * sz := Nat.mul_le_mul_right _ hi
  have hm' : (i + 1) * sz = i * sz + sz := by rw [Nat.add_mul]; omega
  by_cases hk : k < xs.length * sz
  · have hq : k / sz < xs.length := (Nat.div_lt_iff_lt_mul hsz).2 hk
    have hkk : k = k / sz * sz + k % sz := by rw [Nat.mul_comm]; exact (Nat.div_add_mod k sz).symm
    have hmod : k % sz < sz := Nat.mod_lt _ hsz
    have h1 : ((xs.set i x).flatMap enc)[k]? = (enc ((xs.set i x)[k / sz]'(by simpa using hq)))[k % sz]? := by
      conv => lhs; rw [hkk]
      exact flat_get he (xs.set i x) (k / sz) (k % sz) (by simpa using hq) hmod
    have h2 : (xs.flatMap enc)[k]? = (enc xs[k / sz])[k % sz]? := by
      conv => lhs; rw [hkk]
      exact flat_get he xs (k / sz) (k % sz) hq hmod
    rw [h1]
    by_cases hki : i = k / sz
    · subst hki
      rw [if_pos (by omega), List.getElem_set_self]
      congr 1; omega
    · rw [List.getElem_set_ne hki, if_neg, h2]
      intro ⟨h3, h4, _⟩
      have : k / sz = i := by
        apply Nat.div_eq_of_lt_le
        · exact h3
        · rw [Nat.succ_mul]; exact h4
      exact hki this.symm
  · rw [if_neg (by omega), List.getElem?_eq_none (by rw [flat_length he]; omega), List.getElem?_eq_none (by rw [flat_length he, List.length_set]; omega)]
end

/-! ### A row of a call's own -/
def own (e : TypeId) (sz : Nat) (v : Value) (n : Nat) (xs : List Value) : Res where
  fp k := v.ownBlock = some k
  is w := w.ownsRow 0 e sz v n xs
  keep w w' h hi := by
    refine ⟨hi.1, ?_⟩
    rcases hi.2 with h1 | ⟨g, cap, cur, rfl, h2, h3, h4⟩
    · exact .inl h1
    · exact .inr ⟨g, cap, cur, rfl, h2, (h g (blk_lt h3) rfl).trans h3, h4⟩
  lt w hi k hk := (hi.lt k hk).2

theorem own_range {α : Type} {enc : α → List Value} {sz : Nat} (he : ∀ x, (enc x).length = sz) {w : World} {e b len cap : Nat} {xs : List α} (h : w.ownsRow 0 e sz (.slice (some ⟨b, 0, none⟩) len cap) xs.length (xs.flatMap enc)) (i : Nat) (hi : i < xs.length) : w.rangeAt b (i * sz) (enc xs[i]) := fun j v hj => by
  have hjs : j < sz := by have := (List.getElem?_eq_some_iff.1 hj).1; rw [he] at this; exact this
  have := h.cells (g := b) rfl (i * sz + j) v (by rw [flat_get he xs i j hi hjs]; exact hj)
  rw [Addr.add_mid, Nat.zero_add] at this
  exact this

theorem own_rep {α : Type} {enc : α → List Value} {sz : Nat} (he : ∀ x, (enc x).length = sz) {w : World} {e : Nat} {v : Value} {xs : List α} (h : w.ownsRow 0 e sz v xs.length (xs.flatMap enc)) : RepE enc sz (fun k => v.ownBlock = some k) w xs v := by
  rcases h.2 with ⟨rfl, h2⟩ | ⟨g, cap, cur, rfl, h2, h3, h4, h5, h6⟩
  · have : xs = [] := List.eq_nil_of_length_eq_zero h2
    subst this
    exact ⟨none, 0, rfl, Nat.le_refl _, by omega, fun h => absurd rfl h⟩
  · refine ⟨some ⟨g, 0, none⟩, cap, rfl, h4, by simpa [maxLen] using h5, fun _ => ⟨g, 0, rfl, rfl, fun i hi => ?_⟩⟩
    rw [Nat.zero_add]
    exact own_range he h i hi

theorem ownP {w : World} {e : Nat} {v : Value} {p : List Stp} (h : (own e 3 v p.length (p.flatMap pCells)).is w) : RepP Any w p v := (own_rep (enc := pCells) (sz := 3) (fun _ => rfl) h).weak fun _ _ => trivial
theorem ownS {w : World} {e : Nat} {v : Value} {p : List ByteArray} (h : (own e 1 v p.length (p.flatMap sCells)).is w) : RepS Any w p v := (own_rep (enc := sCells) (sz := 1) (fun _ => rfl) h).weak fun _ _ => trivial

section
variable {P : Program} {n : Nat} {ops : Array Oper} {Q : Exit → Act → World → Prop} {S : Env} {o : Oper} {d : Nat} {g : Bool} {v : Value} {N : Env → World → Prop} {X : Nat → Prop} {w0 w : World} {L : List Res} {x y : Operand}

theorem One.make {α : Type} {enc : α → List Value} {sz : Nat} {t e by' m : Nat} {z : Value} (zx : α) (F : Fr X w0 L w) (ht : sliceT P t e sz by' = true) (hz : (P.info? e).bind (·.zero) = some z) (hze : z.cells.toList = enc zx) (hsz : Nat.blt 0 sz = true) (he : ∀ x, (enc x).length = sz)
    (hg : o.guard = none) (hd : o.dst = some d) (hn : Nat.blt d n = true) (ho : o.op = .makeSlice t x y) (hx : Ev S true x (.int .i64 (m : Int))) (hy : Ev S true y (.int .i64 (m : Int))) (hm : by' * m ≤ 281474976710656) (hm' : m ≤ 9223372036854775807)
    (h : ∀ b w', w.heap.size = b → Fr X w0 (own e sz (.slice (some ⟨b, 0, none⟩) m m) m ((List.replicate m zx).flatMap enc) :: L) w' → N ((d, true, .slice (some ⟨b, 0, none⟩) m m) :: S) w') : One P n ops Q o S w N := by
  obtain ⟨h1, i, h2, h3, h4⟩ := sliceT_spec ht
  have hz' : i.zero = some z := by simpa [h2] using hz
  have hsz' : 0 < sz := by simpa using hsz
  obtain ⟨w', hr, hown, hgr⟩ := run_make_full (P := P) w 0 t e i z sz h1 h2 hz' h3 .i64 .i64 m (by rw [h4]; exact hm) (by simpa [maxLen] using hm') (Nat.zero_le _)
  have hcells : (madeCells z.cells (m * sz)).toList = (List.replicate m zx).flatMap enc := by
    apply List.ext_getElem?
    intro k
    by_cases hk : k < m * sz
    · have hq : k / sz < m := (Nat.div_lt_iff_lt_mul hsz').2 hk
      have hkk : k = k / sz * sz + k % sz := by rw [Nat.mul_comm]; exact (Nat.div_add_mod k sz).symm
      have hmod : k % sz < sz := Nat.mod_lt _ hsz'
      have e2 : ((List.replicate m zx).flatMap enc)[k]? = (enc zx)[k % sz]? := by
        conv => lhs; rw [hkk]
        rw [flat_get he (List.replicate m zx) (k / sz) (k % sz) (by simpa using hq) hmod]
        simp
      rw [e2, ← hze]
      have hzs : z.cells.size = sz := by rw [← Array.length_toList, hze, he]
      simp [madeCells, hk, hzs, hmod]
    · rw [List.getElem?_eq_none (by simp [madeCells]; omega), List.getElem?_eq_none (by rw [flat_length he]; simp; omega)]
  rw [hcells] at hown
  refine One.wrd hg hd hn (fun a hs => ?_) (h _ w' rfl (F.new (Chg.grown hgr |>.mono fun _ _ h => by simp at h) (own e sz _ m _) hown fun k hk => ?_))
  · have ex := hx n a hs rfl
    have ey := hy n a hs rfl
    generalize a.eval = ρ at ex ey ⊢
    simp [execOp, ho, ex, ey, hr]
  · simp [own, Value.ownBlock] at hk; omega

theorem ownsRow_setCells {w : World} {e sz b len cap q : Nat} {xs : List Value} {vs : List Value} (h : w.ownsRow 0 e sz (.slice (some ⟨b, 0, none⟩) len cap) len xs) : (w.setCells b q vs).ownsRow 0 e sz (.slice (some ⟨b, 0, none⟩) len cap) len (putAt xs q vs) := by
  induction vs generalizing w q xs with
  | nil => exact h
  | cons v vs ih =>
    exact ih (h.stored q v).1

theorem One.storeRow {α : Type} {enc : α → List Value} {sz : Nat} {ty e b i len cap : Nat} {xs : List α} (x' : α) (he : ∀ x, (enc x).length = sz) (F : Fr X w0 L w) (k : Nat) (hi : L[k]? = some (own e sz (.slice (some ⟨b, 0, none⟩) len cap) len (xs.flatMap enc))) (hl : xs.length = len) (hil : i < len) (ht : sizeT P ty sz = true) (hsz : Nat.blt 0 sz = true) (hg : o.guard = none) (hd : o.dst = none) (ho : o.op = .store ty x y)
    (hx : Ev S true x (.pointer (some ⟨b, 0 + i * sz, none⟩))) (hy : Ev S true y (.agg (enc x').toArray)) (hv : (enc x').all (·.oneCell') = true)
    (h : ∀ w', Fr X w0 (L.set k (own e sz (.slice (some ⟨b, 0, none⟩) len cap) len ((xs.set i x').flatMap enc))) w' → N S w') : One P n ops Q o S w N := by
  subst hl
  have hO : w.ownsRow 0 e sz (.slice (some ⟨b, 0, none⟩) xs.length cap) xs.length (xs.flatMap enc) := F.get k hi
  have hO' := ownsRow_setCells (q := i * sz) (vs := enc x') hO
  rw [putAt_flat he (by simpa using hsz) xs i hil] at hO'
  refine One.skp (w' := w.setCells b (i * sz) (enc x')) hg hd (fun a hs => ?_) (h _ (F.upd k hi (Chg.setCells b (enc x') (i * sz) w) (fun k' hk => Or.inl (by have h1 : k' = b := hk; subst h1; rfl)) (own e sz _ _ _) hO' fun _ hk => Or.inl hk))
  have ex := hx n a hs rfl
  have ey := hy n a hs rfl
  generalize a.eval = ρ at ex ey ⊢
  rw [Nat.zero_add] at ex
  have hr := run_storeAt_mid (P := P) w b (i * sz) ty (enc x').toArray (fun j hj => by
    have hj' : j < sz := by simpa [he] using hj
    refine ⟨?_, hO.frozenAt _⟩
    have := own_range he hO i hil j _ (List.getElem?_eq_getElem (by rw [he]; exact hj'))
    rw [this]; rfl) (by rw [sizeT_size ht]; simp [he]) (all_oneCell_toArray (fun v hv' => (List.all_eq_true.1 hv) v hv'))
  simp [execOp, ho, ex, ey, hr]

theorem One.storeRow1 {α : Type} {enc : α → List Value} {ty e b i len cap : Nat} {xs : List α} {u : Value} (x' : α) (he : ∀ x, (enc x).length = 1) (F : Fr X w0 L w) (k : Nat) (hi : L[k]? = some (own e 1 (.slice (some ⟨b, 0, none⟩) len cap) len (xs.flatMap enc))) (hl : xs.length = len) (hil : i < len) (ht : sizeT P ty 1 = true) (hg : o.guard = none) (hd : o.dst = none) (ho : o.op = .store ty x y)
    (hx : Ev S true x (.pointer (some ⟨b, 0 + i * 1, none⟩))) (hy : Ev S true y u) (hu : enc x' = [u]) (hv : u.oneCell' = true)
    (h : ∀ w', Fr X w0 (L.set k (own e 1 (.slice (some ⟨b, 0, none⟩) len cap) len ((xs.set i x').flatMap enc))) w' → N S w') : One P n ops Q o S w N := by
  subst hl
  have hO : w.ownsRow 0 e 1 (.slice (some ⟨b, 0, none⟩) xs.length cap) xs.length (xs.flatMap enc) := F.get k hi
  have hO' := ownsRow_setCells (q := i * 1) (vs := enc x') hO
  rw [putAt_flat he (by omega) xs i hil] at hO'
  refine One.skp (w' := w.setCells b (i * 1) (enc x')) hg hd (fun a hs => ?_) (h _ (F.upd k hi (Chg.setCells b (enc x') (i * 1) w) (fun k' hk => Or.inl (by have h1 : k' = b := hk; subst h1; rfl)) (own e 1 _ _ _) hO' fun _ hk => Or.inl hk))
  have ex := hx n a hs rfl
  have ey := hy n a hs rfl
  generalize a.eval = ρ at ex ey ⊢
  rw [Nat.zero_add] at ex
  have hc := own_range he hO i hil 0 _ (List.getElem?_eq_getElem (by rw [he]; omega))
  have hr := run_store1 (P := P) (w := w) (ad := ⟨b, i * 1, none⟩) ht hv (by rw [Nat.add_zero] at hc; rw [hc]; rfl) (hO.frozenAt _)
  rw [hu]
  simp only [Nat.mul_one] at hr ex ⊢
  simp [execOp, ho, ex, ey, hr, World.setCells]
end

/-! ### A result that lies in memory -/
theorem retc {P : Program} {n : Nat} {S : Env} {fn : Func} {t : Tmp} {ty b m : Nat} {cs : List Value} {w : World} {R : Ending → World → Prop} {a : Act} (h : fn.results = #[.cell t ty]) (hs : St n S a) (ht : aggT P ty m = true) (hv : look S t = some (true, .pointer (some ⟨b, 0, none⟩))) (hb : w.rangeAt b 0 cs) (hl : cs.length = m) (hR : R (.returned (.agg cs.toArray)) w) : bodyPost P fn R .ret a w := by
  obtain ⟨d, h1, h2, h3⟩ := aggT_row ht
  subst hl
  refine ⟨hs.df, _, ?_, hR⟩
  have hp := hs.get hv
  have hp' : a.tmps[t]?.getD undef = .pointer (some ⟨b, 0, none⟩) := by simpa using hp
  simp [results, h, hp', asAddr, run_loadVar_mid w b 0 ty cs d hb h1 h2 h3]
theorem retct {P : Program} {n : Nat} {S : Env} {fn : Func} {t u : Tmp} {ty b m : Nat} {cs : List Value} {v : Value} {w : World} {R : Ending → World → Prop} {a : Act} (h : fn.results = #[.cell t ty, .tmp u]) (hs : St n S a) (ht : aggT P ty m = true) (hv : look S t = some (true, .pointer (some ⟨b, 0, none⟩))) (hu : look S u = some (true, v)) (hb : w.rangeAt b 0 cs) (hl : cs.length = m) (hR : R (.returned (.tuple #[.agg cs.toArray, v])) w) : bodyPost P fn R .ret a w := by
  obtain ⟨d, h1, h2, h3⟩ := aggT_row ht
  subst hl
  refine ⟨hs.df, _, ?_, hR⟩
  have hp := hs.get hv
  have hp' : a.tmps[t]?.getD undef = .pointer (some ⟨b, 0, none⟩) := by simpa using hp
  have hq := hs.get hu
  have hq' : a.tmps[u]?.getD undef = v := by simpa using hq
  simp [results, h, hp', hq', asAddr, run_loadVar_mid w b 0 ty cs d hb h1 h2 h3]
theorem retcc {P : Program} {n : Nat} {S : Env} {fn : Func} {t u : Tmp} {ty b m ty' b' m' : Nat} {cs cs' : List Value} {w : World} {R : Ending → World → Prop} {a : Act} (h : fn.results = #[.cell t ty, .cell u ty']) (hs : St n S a) (ht : aggT P ty m = true) (ht' : aggT P ty' m' = true) (hv : look S t = some (true, .pointer (some ⟨b, 0, none⟩))) (hu : look S u = some (true, .pointer (some ⟨b', 0, none⟩))) (hb : w.rangeAt b 0 cs) (hb' : w.rangeAt b' 0 cs') (hl : cs.length = m) (hl' : cs'.length = m') (hR : R (.returned (.tuple #[.agg cs.toArray, .agg cs'.toArray])) w) : bodyPost P fn R .ret a w := by
  obtain ⟨d, h1, h2, h3⟩ := aggT_row ht
  obtain ⟨d', h1', h2', h3'⟩ := aggT_row ht'
  subst hl; subst hl'
  refine ⟨hs.df, _, ?_, hR⟩
  have hp := hs.get hv
  have hp' : a.tmps[t]?.getD undef = .pointer (some ⟨b, 0, none⟩) := by simpa using hp
  have hq := hs.get hu
  have hq' : a.tmps[u]?.getD undef = .pointer (some ⟨b', 0, none⟩) := by simpa using hq
  simp [results, h, hp', hq', asAddr, run_loadVar_mid w b 0 ty cs d hb h1 h2 h3, run_loadVar_mid w b' 0 ty' cs' d' hb' h1' h2' h3']
theorem take_set {α : Type} (p : List α) (i : Nat) (z : α) (hi : i < p.length) : (p.take i ++ List.replicate (p.length - i) z).set i p[i] = p.take (i + 1) ++ List.replicate (p.length - (i + 1)) z := by
  rw [List.set_append_right _ _ (by simp; omega), List.length_take, Nat.min_eq_left (by omega), Nat.sub_self, show p.length - i = (p.length - (i + 1)) + 1 by omega, List.replicate_succ, List.set_cons_zero, List.take_succ_eq_append_getElem hi, List.append_assoc]
  rfl
theorem list_eq_of {α : Type} {p q : List α} (hl : p.length = q.length) (h : ∀ i (hi : i < p.length) (hj : i < q.length), p[i] = q[i]) : p = q := List.ext_getElem hl fun i h1 h2 => h i h1 h2
theorem set_get_self {α : Type} {xs : List α} {i : Nat} {x : α} (h : i < xs.length) : (xs.set i x)[i]? = some x := by simp [h]
theorem set_get_ne {α : Type} {xs : List α} {i j : Nat} {x : α} (h : j < i) : (xs.set i x)[j]? = xs[j]? := by rw [List.getElem?_set]; rw [if_neg (by omega)]
theorem five {cs : List Value} (h : cs.length = 5) : ∃ a b c d e, cs = [a, b, c, d, e] := by
  match cs, h with
  | [a, b, c, d, e], _ => exact ⟨a, b, c, d, e, rfl⟩
end Go.Proofs.YtpfkcblhojkaiaaDoor.Eng
