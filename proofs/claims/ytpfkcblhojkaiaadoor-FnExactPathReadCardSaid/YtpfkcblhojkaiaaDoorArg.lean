/- What an argument that can be read as data gives: rows of steps, texts, trees; and a row's last step where nothing old has turned. No statement of the seat is proved here. -/
import Derived.Test.YtpfkcblhojkaiaaDoorFacts
import Derived.Test.YtpfkcblhojkaiaaDoorRow
import Derived.ProofKit
import Derived.OpenShut
import Derived.WideKeyArgs
namespace Go.Proofs.YtpfkcblhojkaiaaDoor.Eng
open Go.RowKit Go.ChangeShapes Go.WideShapes Go.ChangeAt
set_option linter.unusedVariables false
set_option linter.unusedSimpArgs false
set_option linter.constructorNameAsVariable false

theorem laidOut : laidOutB Tryd.prog = true := by kernel_rfl

section
variable {H : Type} {enc : TypeId × Value → H} {P : Program}

/-- All arguments read as they did: nothing old has turned. -/
theorem args_stay (hl : laidOutB P = true) {W W' : World} (hc : Chg No W W') {sp : Nat → Bool} : ∀ (ts : List TypeId) (vs : List Value) (ds : List (DataW H)) (ps : List MemPlace), (∀ t ∈ ts, P.readableRec t = true ∧ t < P.types.size) →
    DataW.TrodAll enc P W 0 (fun _ => true) true ts vs ds ps → (∀ x ∈ ps, x.block < W.heap.size) → (∀ x ∈ ps, sp x.block = true) → DataW.TrodAll enc P W' 0 sp true ts vs ds ps
  | [], vs, ds, ps, _, h, _, _ => by
    obtain ⟨rfl, rfl, rfl⟩ := trodAll_nil h
    exact trodAll_mk0
  | t :: ts, vs, ds, ps, ht, h, hlt, hsp => by
    obtain ⟨v, vs', d, ds', p, q, rfl, rfl, rfl, hd, hrest⟩ := trodAll_cons h
    have h1 := ht t (by simp)
    exact ⟨p, q, WideElems.Trod_stays hl h1.1 h1.2 hd (fun x hx => hc.below.same (hlt x (by simp [hx]))) (fun x hx => hsp x (by simp [hx])),
      args_stay hl hc ts vs' ds' q (fun t ht' => ht t (by simp [ht'])) hrest (fun x hx => hlt x (by simp [hx])) (fun x hx => hsp x (by simp [hx])), rfl⟩

/-- The last step of a law's row: one bool comes back, and nothing old has turned. -/
theorem post_chg {f : Func} {s : ChangeSpec} {W W' : World} {args : Array Value} {v : Value} {ds gs : List (DataW H)} {before : List MemPlace}
    (hl : laidOutB P = true) (hs : s.vars = []) (hts : ∀ t ∈ f.params.toList, P.readableRec t = true ∧ t < P.types.size)
    (hW : DataW.Whole enc P f.params.toList s.vars false W args.toList ds gs before)
    (hres : ∀ (b : Nat) (sp : Nat → Bool) (hd : Bool), DataW.TrodAll enc P W' b sp hd f.resultTypes.toList (v.resultList f.resultTypes.size) (s.fn H (ds ++ gs)).results [])
    (hds : (s.fn H (ds ++ gs)).args = ds) (hgs : (s.fn H (ds ++ gs)).vars = []) (hc : Chg No W W')
    (hok : ∀ (j : Nat) (t : TypeId) (r : Value), f.resultTypes[j]? = some t → (v.resultList f.resultTypes.size)[j]? = some r → Value.okWide P W' .any 0 t r) :
    s.post enc P f false true false false W args v W' := by
  have hlt : ∀ p ∈ before, p.block < W.heap.size := fun p hp => hW.lt p hp
  have hW' := hW
  obtain ⟨p, q, hA, hV, hpq, hz, hn⟩ := hW
  rw [hs] at hV
  obtain ⟨rfl, rfl⟩ := trodVars_none hV
  rw [List.append_nil] at hpq
  subst hpq
  refine ⟨ds, [], before, [], before, [], hW', hres _ _ _, ?_, ?_, World.keptBut_mono (fun x hx => ⟨hx, Or.inr (Or.inl hx)⟩) (hc.below.frame (· ∈ before)), fun h => by cases h⟩
  · rw [hds]; exact args_stay hl hc _ _ _ _ hts hA hlt fun x hx => by simpa using hlt x hx
  · rw [hs, hgs]; rfl
end

section
variable {H : Type} {enc : TypeId × Value → H} {w : World} {sp : Nat → Bool} {held : Bool}

theorem cells_range {a : Addr} {n : Nat} {cs : List Value} (h : w.cells? 0 a n = some cs) (hn : 0 < n) : ∃ b o, a = ⟨b, o, none⟩ ∧ cs.length = n ∧ w.rangeAt b o cs := by
  unfold World.cells? at h
  rw [if_pos (Nat.zero_le _)] at h
  have hlen := mapM_some_length h
  have hget : ∀ i, i < n → w.cell? (a.add i) = cs[i]? := fun i hi => mapM_some_get h i i (by simp [hi])
  simp only [List.length_range] at hlen
  obtain ⟨b, o, s⟩ := a
  have h0 := hget 0 hn
  rw [Addr.add_zero'] at h0
  have hs : s = none := by
    rw [List.getElem?_eq_getElem (by omega)] at h0
    unfold World.cell? at h0
    split at h0
    · split at h0
      · cases h0
      · rename_i hsp; simpa using hsp
    · cases h0
  subst hs
  refine ⟨b, o, rfl, hlen, fun j v hj => ?_⟩
  have := hget j (by have := (List.getElem?_eq_some_iff.1 hj).1; omega)
  rw [Addr.add_mid] at this
  rw [this, hj]

theorem trod_int {t : TypeId} {k : IntKind} {fuel : Nat} {cs : List Value} {x : DataW H × List MemPlace} (ht : Tryd.prog.underlying t = some (.int k)) (h : DataW.trod enc Tryd.prog w 0 sp held fuel t cs = some x) : ∃ n, cs = [.int k n] ∧ k.min ≤ n ∧ n ≤ k.max := by
  cases fuel with
  | zero => simp [DataW.trod] at h
  | succ m =>
    unfold DataW.trod at h
    rw [ht] at h
    split at h <;> simp_all
    obtain ⟨⟨h1, h2⟩, -⟩ := h
    simpa [Lit.wf] using h2
theorem trod_bool {t : TypeId} {fuel : Nat} {cs : List Value} {x : DataW H × List MemPlace} (ht : Tryd.prog.underlying t = some .bool) (h : DataW.trod enc Tryd.prog w 0 sp held fuel t cs = some x) : ∃ b, cs = [.bool b] := by
  cases fuel with
  | zero => simp [DataW.trod] at h
  | succ m =>
    unfold DataW.trod at h
    rw [ht] at h
    split at h <;> simp_all
theorem trod_str {t : TypeId} {fuel : Nat} {cs : List Value} {x : DataW H × List MemPlace} (ht : Tryd.prog.underlying t = some .string) (h : DataW.trod enc Tryd.prog w 0 sp held fuel t cs = some x) : ∃ s, cs = [.string s] ∧ s.size ≤ 9223372036854775807 := by
  cases fuel with
  | zero => simp [DataW.trod] at h
  | succ m =>
    unfold DataW.trod at h
    rw [ht] at h
    split at h <;> simp_all
    exact h.1

/-- A slice's elements, each in 'sz' cells: what the reader says of each. -/
theorem trod_row {t e sz by' : TypeId} {fuel : Nat} {cs : List Value} {x : DataW H × List MemPlace} (ht : sliceT Tryd.prog t e sz by' = true) (hsz : Nat.blt 0 sz = true) (h : DataW.trod enc Tryd.prog w 0 sp held fuel t cs = some x) :
    ∃ A len cap, cs = [.slice A len cap] ∧ len ≤ cap ∧ cap ≤ 9223372036854775807 ∧ (0 < len → ∃ b o, A = some ⟨b, o, none⟩ ∧ ∀ i, i < len → ∃ cs' y m, m < fuel ∧ cs'.length = sz ∧ w.rangeAt b (o + i * sz) cs' ∧ DataW.trod enc Tryd.prog w 0 sp held m e cs' = some y) := by
  obtain ⟨h1, i, h2, h3, h4⟩ := sliceT_spec ht
  have hcells : Tryd.prog.cellsOf e = sz := by simp [Program.cellsOf, h2, h3]
  have hsz' : 0 < sz := by simpa using hsz
  rcases DataW.trod_slice h1 h with ⟨rfl, _⟩ | ⟨a, len, cap, elems, rest, n, rfl, rfl, rfl, hb, hlc, hcm, hlen, hel, _, _⟩
  · exact ⟨none, 0, 0, rfl, Nat.le_refl _, by omega, fun h => absurd h (by omega)⟩
  · refine ⟨some a, len, cap, rfl, hlc, by simpa [maxLen] using hcm, fun h0 => ?_⟩
    rw [hcells] at hel
    have key : ∀ i, i < len → ∃ cs' y, w.cells? 0 (a.add (i * sz)) sz = some cs' ∧ DataW.trod enc Tryd.prog w 0 sp held n e cs' = some y := fun i hi => by
      have h5 := hel i hi
      rw [List.getElem?_eq_getElem (by omega)] at h5
      obtain ⟨cs', h6, h7⟩ := Option.bind_eq_some_iff.1 h5
      exact ⟨cs', _, h6, h7⟩
    obtain ⟨cs0, y0, h6, h7⟩ := key 0 h0
    rw [Nat.zero_mul, Addr.add_zero'] at h6
    obtain ⟨b, o, rfl, -, -⟩ := cells_range h6 hsz'
    refine ⟨b, o, rfl, fun i hi => ?_⟩
    obtain ⟨cs', y, h8, h9⟩ := key i hi
    rw [Addr.add_mid] at h8
    obtain ⟨b', o', e', hl', hr'⟩ := cells_range h8 hsz'
    obtain ⟨rfl, rfl⟩ : b = b' ∧ o + i * sz = o' := by simpa using e'
    exact ⟨cs', y, n, by omega, hl', hr', h9⟩

/-- The elements of a slice, told by plain data. -/
theorem row_rep {α : Type} {ec : α → List Value} {sz len cap : Nat} {A : Option Addr} (p : α → Prop) (hlc : len ≤ cap) (hcm : cap ≤ 9223372036854775807)
    (h : 0 < len → ∃ b o, A = some ⟨b, o, none⟩ ∧ ∀ i, i < len → ∃ x : α, p x ∧ w.rangeAt b (o + i * sz) (ec x)) : ∃ xs : List α, xs.length = len ∧ RepE ec sz Any w xs (.slice A len cap) ∧ ∀ x ∈ xs, p x := by
  by_cases h0 : 0 < len
  · obtain ⟨b, o, rfl, hi⟩ := h h0
    have : ∃ f : Nat → α, ∀ i, i < len → p (f i) ∧ w.rangeAt b (o + i * sz) (ec (f i)) := by
      obtain ⟨x0, -⟩ := hi 0 h0
      refine ⟨fun i => if hh : i < len then (hi i hh).choose else x0, fun i hh => ?_⟩
      simp only [dif_pos hh]
      exact (hi i hh).choose_spec
    obtain ⟨f, hf⟩ := this
    refine ⟨(List.range len).map f, by simp, ⟨some ⟨b, o, none⟩, cap, by simp, by simpa using hlc, hcm, fun _ => ⟨b, o, rfl, trivial, fun i hi => ?_⟩⟩, fun x hx => ?_⟩
    · have := (hf i (by simpa using hi)).2
      simpa using this
    · obtain ⟨i, hi, rfl⟩ := List.mem_map.1 hx
      exact (hf i (by simpa using hi)).1
  · obtain rfl : len = 0 := by omega
    exact ⟨[], rfl, ⟨A, cap, rfl, by simp, hcm, fun h => absurd rfl h⟩, fun x hx => by simp at hx⟩

theorem agg_of_cells {v : Value} {n : Nat} (h : v.cells.toList.length = n + 2) : v = .agg v.cells.toList.toArray := by
  cases v <;> simp_all [Value.cells]

/-! ### Steps -/
set_option maxRecDepth 100000 in
theorem trod_step {fuel : Nat} {cs : List Value} {x : DataW H × List MemPlace} (h : DataW.trod enc Tryd.prog w 0 sp held fuel 75 cs = some x) : ∃ s : Stp, cs = pCells s ∧ s.key.size ≤ 9223372036854775807 := by
  obtain ⟨xs, n, -, -, hl, hlen, hf⟩ := DataW.trod_struct Tryd.underlying75 h
  have c1 : Tryd.prog.cellsOf 4 = 1 := by kernel_rfl
  have c2 : Tryd.prog.cellsOf 9 = 1 := by kernel_rfl
  have c3 : Tryd.prog.cellsOf 3 = 1 := by kernel_rfl
  have c4 : Tryd.prog.cellsOf 75 = 3 := by kernel_rfl
  rw [c4] at hl
  have f0 := hf 0 _ rfl
  have f1 := hf 1 _ rfl
  have f2 := hf 2 _ rfl
  have f0 : DataW.trod enc Tryd.prog w 0 sp held n 4 ((cs.drop 0).take (Tryd.prog.cellsOf 4)) = _ := f0
  have f1 : DataW.trod enc Tryd.prog w 0 sp held n 9 ((cs.drop 1).take (Tryd.prog.cellsOf 9)) = _ := f1
  have f2 : DataW.trod enc Tryd.prog w 0 sp held n 3 ((cs.drop 2).take (Tryd.prog.cellsOf 3)) = _ := f2
  rw [c1] at f0
  rw [c2] at f1
  rw [c3] at f2
  simp only [List.size_toArray, List.length_cons, List.length_nil] at hlen
  rw [List.getElem?_eq_getElem (by omega)] at f0 f1 f2
  obtain ⟨b, h0⟩ := trod_bool Tryd.underlying4 f0
  obtain ⟨s, h1, hs⟩ := trod_str Tryd.underlying9 f1
  obtain ⟨i, h2, -⟩ := trod_int Tryd.underlying3 f2
  refine ⟨⟨b, s, i⟩, ?_, hs⟩
  match cs, hl with
  | [x0, x1, x2], _ => simp at h0 h1 h2; simp [pCells, h0, h1, h2]

/-- A slice argument's outer form. -/
theorem slice_form {t e sz by' base : Nat} {v : Value} (ht : sliceT Tryd.prog t e sz by' = true) (hv : Value.okWide Tryd.prog w .any base t v) : v.cells = #[v] := by
  have h1 := (sliceT_spec ht).1
  unfold Value.okWide at hv
  rw [h1] at hv
  cases v with
  | agg cs => simp [Cell.okWide, Cell.ok, h1] at hv
  | _ => rfl

set_option maxRecDepth 100000 in
theorem open_steps {v : Value} {d : DataW H} {ps : List MemPlace} {base : Nat} (hval : Value.okWide Tryd.prog w .any base 41 v) (h : DataW.Trod enc Tryd.prog w 0 sp held 41 v d ps) : ∃ p, RepP Any w p v ∧ ∀ s ∈ p, s.key.size ≤ 9223372036854775807 := by
  obtain ⟨fuel, h⟩ := h
  obtain ⟨A, len, cap, hcs, hlc, hcm, hel⟩ := trod_row sl41 rfl h
  rw [slice_form sl41 hval] at hcs
  have hv : v = .slice A len cap := by simpa using hcs
  subst hv
  obtain ⟨p, rfl, hp, hq⟩ := row_rep (w := w) (A := A) (ec := pCells) (sz := 3) (fun s => s.key.size ≤ 9223372036854775807) hlc hcm fun h0 => by
    obtain ⟨b, o, rfl, hi⟩ := hel h0
    refine ⟨b, o, rfl, fun i hil => ?_⟩
    obtain ⟨cs', y, m, -, -, hr, ht⟩ := hi i hil
    obtain ⟨s, rfl, hs⟩ := trod_step ht
    exact ⟨s, hs, hr⟩
  exact ⟨p, hp, hq⟩

theorem row_str {A : Option Addr} {len cap fuel : Nat} (hlc : len ≤ cap) (hcm : cap ≤ 9223372036854775807)
    (hel : 0 < len → ∃ b o, A = some ⟨b, o, none⟩ ∧ ∀ i, i < len → ∃ cs' y m, m < fuel ∧ cs'.length = 1 ∧ w.rangeAt b (o + i * 1) cs' ∧ DataW.trod enc Tryd.prog w 0 sp held m 9 cs' = some y) :
    ∃ ks : List ByteArray, ks.length = len ∧ RepS Any w ks (.slice A len cap) ∧ ∀ x ∈ ks, x.size ≤ 9223372036854775807 :=
  row_rep (w := w) (A := A) (ec := sCells) (sz := 1) (fun s => s.size ≤ 9223372036854775807) hlc hcm fun h0 => by
    obtain ⟨b, o, rfl, hi⟩ := hel h0
    refine ⟨b, o, rfl, fun i hil => ?_⟩
    obtain ⟨cs', y, m, -, -, hr, ht⟩ := hi i hil
    obtain ⟨s, rfl, hs⟩ := trod_str Tryd.underlying9 ht
    exact ⟨s, hs, hr⟩

set_option maxRecDepth 100000 in
theorem openI {v : Value} {d : DataW H} {ps : List MemPlace} {base : Nat} (hval : Value.okWide Tryd.prog w .any base 3 v) (h : DataW.Trod enc Tryd.prog w 0 sp held 3 v d ps) : ∃ n : Int, v = .int .i64 n ∧ -9223372036854775808 ≤ n ∧ n ≤ 9223372036854775807 := by
  obtain ⟨fuel, h⟩ := h
  obtain ⟨n, hcs, h1, h2⟩ := trod_int Tryd.underlying3 h
  have hc : v.cells = #[v] := by
    unfold Value.okWide at hval
    rw [Tryd.underlying3] at hval
    cases v with
    | agg cs => simp [Cell.okWide, Cell.ok, Tryd.underlying3] at hval
    | _ => rfl
  rw [hc] at hcs
  have e1 : IntKind.i64.min = (-9223372036854775808 : Int) := by decide
  have e2 : IntKind.i64.max = (9223372036854775807 : Int) := by decide
  rw [e1] at h1
  rw [e2] at h2
  exact ⟨n, by simpa using hcs, h1, h2⟩
set_option maxRecDepth 100000 in
theorem openS {v : Value} {d : DataW H} {ps : List MemPlace} {base : Nat} (hval : Value.okWide Tryd.prog w .any base 9 v) (h : DataW.Trod enc Tryd.prog w 0 sp held 9 v d ps) : ∃ s : ByteArray, v = .string s ∧ s.size ≤ 9223372036854775807 := by
  obtain ⟨fuel, h⟩ := h
  obtain ⟨s, hcs, hs⟩ := trod_str Tryd.underlying9 h
  have hc : v.cells = #[v] := by
    unfold Value.okWide at hval
    rw [Tryd.underlying9] at hval
    cases v with
    | agg cs => simp [Cell.okWide, Cell.ok, Tryd.underlying9] at hval
    | _ => rfl
  rw [hc] at hcs
  exact ⟨s, by simpa using hcs, hs⟩
/-! ### Trees -/
set_option maxRecDepth 100000 in
theorem trod_tree : ∀ (fuel : Nat) (cs : List Value) (x : DataW H × List MemPlace), DataW.trod enc Tryd.prog w 0 sp held fuel 25 cs = some x → ∃ t : Tr, Rep Any w t (.agg cs.toArray) ∧ t.Fit ∧ cs.length = 5 := by
  intro fuel
  induction fuel using Nat.strongRecOn with
  | _ fuel ih =>
  intro cs x h
  obtain ⟨xs, n, hfu, -, hl, hlen, hf⟩ := DataW.trod_struct Tryd.underlying25 h
  have c1 : Tryd.prog.cellsOf 3 = 1 := by kernel_rfl
  have c2 : Tryd.prog.cellsOf 9 = 1 := by kernel_rfl
  have c3 : Tryd.prog.cellsOf 22 = 1 := by kernel_rfl
  have c5 : Tryd.prog.cellsOf 23 = 1 := by kernel_rfl
  have c4 : Tryd.prog.cellsOf 25 = 5 := by kernel_rfl
  rw [c4] at hl
  have f0 : DataW.trod enc Tryd.prog w 0 sp held n 3 ((cs.drop 0).take (Tryd.prog.cellsOf 3)) = _ := hf 0 _ rfl
  have f1 : DataW.trod enc Tryd.prog w 0 sp held n 3 ((cs.drop 1).take (Tryd.prog.cellsOf 3)) = _ := hf 1 _ rfl
  have f2 : DataW.trod enc Tryd.prog w 0 sp held n 9 ((cs.drop 2).take (Tryd.prog.cellsOf 9)) = _ := hf 2 _ rfl
  have f3 : DataW.trod enc Tryd.prog w 0 sp held n 22 ((cs.drop 3).take (Tryd.prog.cellsOf 22)) = _ := hf 3 _ rfl
  have f4 : DataW.trod enc Tryd.prog w 0 sp held n 23 ((cs.drop 4).take (Tryd.prog.cellsOf 23)) = _ := hf 4 _ rfl
  rw [c1] at f0 f1
  rw [c2] at f2
  rw [c3] at f3
  rw [c5] at f4
  simp only [List.size_toArray, List.length_cons, List.length_nil] at hlen
  rw [List.getElem?_eq_getElem (by omega)] at f0 f1 f2 f3 f4
  obtain ⟨k, h0, -⟩ := trod_int Tryd.underlying3 f0
  obtain ⟨n', h1, -⟩ := trod_int Tryd.underlying3 f1
  obtain ⟨s, h2, hs⟩ := trod_str Tryd.underlying9 f2
  obtain ⟨A3, l3, c3', h3, hl3, hc3, he3⟩ := trod_row sl22 rfl f3
  obtain ⟨A4, l4, c4', h4, hl4, hc4, he4⟩ := trod_row sl23 rfl f4
  obtain ⟨ks, hk1, hk2, hk3⟩ := row_str hl3 hc3 he3
  have key : ∃ (l : List Tr) (f : Nat → List Value), l.length = l4 ∧ (∀ t ∈ l, t.Fit) ∧ At Any w A4 5 l4 f ∧ ∀ i (hi : i < l.length), Rep Any w l[i] (.agg (f i).toArray) := by
    by_cases hp : 0 < l4
    · obtain ⟨b, o, rfl, hi⟩ := he4 hp
      have hall : ∀ i, ∃ (t : Tr) (cs' : List Value), i < l4 → Rep Any w t (.agg cs'.toArray) ∧ t.Fit ∧ cs'.length = 5 ∧ w.rangeAt b (o + i * 5) cs' := fun i => by
        by_cases hil : i < l4
        · obtain ⟨cs', y, m, hm, -, hr, ht⟩ := hi i hil
          obtain ⟨t, h5, h6, h7⟩ := ih m (by omega) cs' y ht
          exact ⟨t, cs', fun _ => ⟨h5, h6, h7, hr⟩⟩
        · exact ⟨.mk 0 0 ⟨#[]⟩ [] [], [], fun h => absurd h hil⟩
      refine ⟨(List.range l4).map fun i => (hall i).choose, fun i => (hall i).choose_spec.choose, by simp, fun t ht => ?_, fun _ => ⟨b, o, rfl, trivial, fun i hil => ?_⟩, fun i hil => ?_⟩
      · obtain ⟨i, hi', rfl⟩ := List.mem_map.1 ht
        exact ((hall i).choose_spec.choose_spec (by simpa using hi')).2.1
      · have := (hall i).choose_spec.choose_spec hil
        exact ⟨this.2.2.1, this.2.2.2⟩
      · have := ((hall i).choose_spec.choose_spec (by simpa using hil)).1
        simpa using this
    · obtain rfl : l4 = 0 := by omega
      exact ⟨[], fun _ => [], rfl, fun t ht => by simp at ht, fun h => absurd h (by omega), fun i hi => by simp at hi⟩
  obtain ⟨l, f, hl1, hl2, hl3', hl4'⟩ := key
  refine ⟨.mk k n' s ks l, ?_, .mk hs hk3 hl2, hl⟩
  have hcs : cs = [.int .i64 k, .int .i64 n', .string s, .slice A3 l3 c3', .slice A4 l4 c4'] := by
    match cs, hl with
    | [x0, x1, x2, x3, x4], _ => simp at h0 h1 h2 h3 h4; simp [h0, h1, h2, h3, h4]
  rw [hcs]
  subst hl1
  exact Rep.close hk2 ⟨A4, c4', f, rfl, hl4, hc4, hl3', hl4'⟩

theorem open_tree {v : Value} {d : DataW H} {ps : List MemPlace} (h : DataW.Trod enc Tryd.prog w 0 sp held 25 v d ps) : ∃ t : Tr, Rep Any w t v ∧ t.Fit := by
  obtain ⟨fuel, h⟩ := h
  obtain ⟨t, h1, h2, h3⟩ := trod_tree fuel _ _ h
  rw [← agg_of_cells (n := 3) h3] at h1
  exact ⟨t, h1, h2⟩
end
end Go.Proofs.YtpfkcblhojkaiaaDoor.Eng
