/- What an argument that can be read as data gives: rows of bytes; and a row's last step where nothing old has turned. No statement of the seat is proved here. -/
import Derived.Test.YtpfkcblhojkaiaaDoorFacts
import Derived.Test.YtpfkcblhojkaiaaDoorRow
import Derived.Test.YtpfkcblhojkaiaaDoorRd
import Derived.ProofKit
import Derived.OpenShut
import Derived.WideKeyArgs
namespace Go.Proofs.YtpfkcblhojkaiaaDoor.Eng
open Go.RowKit Go.ChangeShapes Go.WideShapes Go.ChangeAt
set_option linter.unusedVariables false
set_option linter.unusedSimpArgs false
set_option linter.constructorNameAsVariable false

theorem laidOut : laidOutB Tryd.prog = true := by kernel_rfl

section
variable {H : Type} {enc : TypeId × Value → H} {P : Program}

/-- All arguments read as they did: nothing old has turned. -/
theorem args_stay (hl : laidOutB P = true) {W W' : World} (hc : Chg No W W') {sp : Nat → Bool} : ∀ (ts : List TypeId) (vs : List Value) (ds : List (DataW H)) (ps : List MemPlace), (∀ t ∈ ts, P.readableRec t = true ∧ t < P.types.size) →
    DataW.TrodAll enc P W 0 (fun _ => true) true ts vs ds ps → (∀ x ∈ ps, x.block < W.heap.size) → (∀ x ∈ ps, sp x.block = true) → DataW.TrodAll enc P W' 0 sp true ts vs ds ps
  | [], vs, ds, ps, _, h, _, _ => by
    obtain ⟨rfl, rfl, rfl⟩ := trodAll_nil h
    exact trodAll_mk0
  | t :: ts, vs, ds, ps, ht, h, hlt, hsp => by
    obtain ⟨v, vs', d, ds', p, q, rfl, rfl, rfl, hd, hrest⟩ := trodAll_cons h
    have h1 := ht t (by simp)
    exact ⟨p, q, WideElems.Trod_stays hl h1.1 h1.2 hd (fun x hx => hc.below.same (hlt x (by simp [hx]))) (fun x hx => hsp x (by simp [hx])),
      args_stay hl hc ts vs' ds' q (fun t ht' => ht t (by simp [ht'])) hrest (fun x hx => hlt x (by simp [hx])) (fun x hx => hsp x (by simp [hx])), rfl⟩

/-- The last step of a law's row: one bool comes back, and nothing old has turned. -/
theorem post_chg {f : Func} {s : ChangeSpec} {W W' : World} {args : Array Value} {v : Value} {ds gs : List (DataW H)} {before : List MemPlace}
    (hl : laidOutB P = true) (hs : s.vars = []) (hts : ∀ t ∈ f.params.toList, P.readableRec t = true ∧ t < P.types.size)
    (hW : DataW.Whole enc P f.params.toList s.vars false W args.toList ds gs before)
    (hres : ∀ (b : Nat) (sp : Nat → Bool) (hd : Bool), DataW.TrodAll enc P W' b sp hd f.resultTypes.toList (v.resultList f.resultTypes.size) (s.fn H (ds ++ gs)).results [])
    (hds : (s.fn H (ds ++ gs)).args = ds) (hgs : (s.fn H (ds ++ gs)).vars = []) (hc : Chg No W W')
    (hok : ∀ (j : Nat) (t : TypeId) (r : Value), f.resultTypes[j]? = some t → (v.resultList f.resultTypes.size)[j]? = some r → Value.okWide P W' .any 0 t r) :
    s.post enc P f false true false false W args v W' := by
  have hlt : ∀ p ∈ before, p.block < W.heap.size := fun p hp => hW.lt p hp
  have hW' := hW
  obtain ⟨p, q, hA, hV, hpq, hz, hn⟩ := hW
  rw [hs] at hV
  obtain ⟨rfl, rfl⟩ := trodVars_none hV
  rw [List.append_nil] at hpq
  subst hpq
  refine ⟨ds, [], before, [], before, [], hW', hres _ _ _, ?_, ?_, World.keptBut_mono (fun x hx => ⟨hx, Or.inr (Or.inl hx)⟩) (hc.below.frame (· ∈ before)), fun h => by cases h⟩
  · rw [hds]; exact args_stay hl hc _ _ _ _ hts hA hlt fun x hx => by simpa using hlt x hx
  · rw [hs, hgs]; rfl
end

section
variable {H : Type} {enc : TypeId × Value → H} {w : World} {sp : Nat → Bool} {held : Bool}

theorem cells_range {a : Addr} {n : Nat} {cs : List Value} (h : w.cells? 0 a n = some cs) (hn : 0 < n) : ∃ b o, a = ⟨b, o, none⟩ ∧ cs.length = n ∧ w.rangeAt b o cs := by
  unfold World.cells? at h
  rw [if_pos (Nat.zero_le _)] at h
  have hlen := mapM_some_length h
  have hget : ∀ i, i < n → w.cell? (a.add i) = cs[i]? := fun i hi => mapM_some_get h i i (by simp [hi])
  simp only [List.length_range] at hlen
  obtain ⟨b, o, s⟩ := a
  have h0 := hget 0 hn
  rw [Addr.add_zero'] at h0
  have hs : s = none := by
    rw [List.getElem?_eq_getElem (by omega)] at h0
    unfold World.cell? at h0
    split at h0
    · split at h0
      · cases h0
      · rename_i hsp; simpa using hsp
    · cases h0
  subst hs
  refine ⟨b, o, rfl, hlen, fun j v hj => ?_⟩
  have := hget j (by have := (List.getElem?_eq_some_iff.1 hj).1; omega)
  rw [Addr.add_mid] at this
  rw [this, hj]

theorem trod_int {t : TypeId} {k : IntKind} {fuel : Nat} {cs : List Value} {x : DataW H × List MemPlace} (ht : Tryd.prog.underlying t = some (.int k)) (h : DataW.trod enc Tryd.prog w 0 sp held fuel t cs = some x) : ∃ n, cs = [.int k n] ∧ k.min ≤ n ∧ n ≤ k.max := by
  cases fuel with
  | zero => simp [DataW.trod] at h
  | succ m =>
    unfold DataW.trod at h
    rw [ht] at h
    split at h <;> simp_all
    obtain ⟨⟨h1, h2⟩, -⟩ := h
    simpa [Lit.wf] using h2
theorem trod_bool {t : TypeId} {fuel : Nat} {cs : List Value} {x : DataW H × List MemPlace} (ht : Tryd.prog.underlying t = some .bool) (h : DataW.trod enc Tryd.prog w 0 sp held fuel t cs = some x) : ∃ b, cs = [.bool b] := by
  cases fuel with
  | zero => simp [DataW.trod] at h
  | succ m =>
    unfold DataW.trod at h
    rw [ht] at h
    split at h <;> simp_all
theorem trod_str {t : TypeId} {fuel : Nat} {cs : List Value} {x : DataW H × List MemPlace} (ht : Tryd.prog.underlying t = some .string) (h : DataW.trod enc Tryd.prog w 0 sp held fuel t cs = some x) : ∃ s, cs = [.string s] ∧ s.size ≤ 9223372036854775807 := by
  cases fuel with
  | zero => simp [DataW.trod] at h
  | succ m =>
    unfold DataW.trod at h
    rw [ht] at h
    split at h <;> simp_all
    exact h.1

/-- A slice's elements, each in 'sz' cells: what the reader says of each. -/
theorem trod_row {t e sz by' : TypeId} {fuel : Nat} {cs : List Value} {x : DataW H × List MemPlace} (ht : sliceT Tryd.prog t e sz by' = true) (hsz : Nat.blt 0 sz = true) (h : DataW.trod enc Tryd.prog w 0 sp held fuel t cs = some x) :
    ∃ A len cap, cs = [.slice A len cap] ∧ len ≤ cap ∧ cap ≤ 9223372036854775807 ∧ (0 < len → ∃ b o, A = some ⟨b, o, none⟩ ∧ ∀ i, i < len → ∃ cs' y m, m < fuel ∧ cs'.length = sz ∧ w.rangeAt b (o + i * sz) cs' ∧ DataW.trod enc Tryd.prog w 0 sp held m e cs' = some y) := by
  obtain ⟨h1, i, h2, h3, h4⟩ := sliceT_spec ht
  have hcells : Tryd.prog.cellsOf e = sz := by simp [Program.cellsOf, h2, h3]
  have hsz' : 0 < sz := by simpa using hsz
  rcases DataW.trod_slice h1 h with ⟨rfl, _⟩ | ⟨a, len, cap, elems, rest, n, rfl, rfl, rfl, hb, hlc, hcm, hlen, hel, _, _⟩
  · exact ⟨none, 0, 0, rfl, Nat.le_refl _, by omega, fun h => absurd h (by omega)⟩
  · refine ⟨some a, len, cap, rfl, hlc, by simpa [maxLen] using hcm, fun h0 => ?_⟩
    rw [hcells] at hel
    have key : ∀ i, i < len → ∃ cs' y, w.cells? 0 (a.add (i * sz)) sz = some cs' ∧ DataW.trod enc Tryd.prog w 0 sp held n e cs' = some y := fun i hi => by
      have h5 := hel i hi
      rw [List.getElem?_eq_getElem (by omega)] at h5
      obtain ⟨cs', h6, h7⟩ := Option.bind_eq_some_iff.1 h5
      exact ⟨cs', _, h6, h7⟩
    obtain ⟨cs0, y0, h6, h7⟩ := key 0 h0
    rw [Nat.zero_mul, Addr.add_zero'] at h6
    obtain ⟨b, o, rfl, -, -⟩ := cells_range h6 hsz'
    refine ⟨b, o, rfl, fun i hi => ?_⟩
    obtain ⟨cs', y, h8, h9⟩ := key i hi
    rw [Addr.add_mid] at h8
    obtain ⟨b', o', e', hl', hr'⟩ := cells_range h8 hsz'
    obtain ⟨rfl, rfl⟩ : b = b' ∧ o + i * sz = o' := by simpa using e'
    exact ⟨cs', y, n, by omega, hl', hr', h9⟩

/-- The elements of a slice, told by plain data. -/
theorem row_rep {α : Type} {ec : α → List Value} {sz len cap : Nat} {A : Option Addr} (p : α → Prop) (hlc : len ≤ cap) (hcm : cap ≤ 9223372036854775807)
    (h : 0 < len → ∃ b o, A = some ⟨b, o, none⟩ ∧ ∀ i, i < len → ∃ x : α, p x ∧ w.rangeAt b (o + i * sz) (ec x)) : ∃ xs : List α, xs.length = len ∧ RepE ec sz Any w xs (.slice A len cap) ∧ ∀ x ∈ xs, p x := by
  by_cases h0 : 0 < len
  · obtain ⟨b, o, rfl, hi⟩ := h h0
    have : ∃ f : Nat → α, ∀ i, i < len → p (f i) ∧ w.rangeAt b (o + i * sz) (ec (f i)) := by
      obtain ⟨x0, -⟩ := hi 0 h0
      refine ⟨fun i => if hh : i < len then (hi i hh).choose else x0, fun i hh => ?_⟩
      simp only [dif_pos hh]
      exact (hi i hh).choose_spec
    obtain ⟨f, hf⟩ := this
    refine ⟨(List.range len).map f, by simp, ⟨some ⟨b, o, none⟩, cap, by simp, by simpa using hlc, hcm, fun _ => ⟨b, o, rfl, trivial, fun i hi => ?_⟩⟩, fun x hx => ?_⟩
    · have := (hf i (by simpa using hi)).2
      simpa using this
    · obtain ⟨i, hi, rfl⟩ := List.mem_map.1 hx
      exact (hf i (by simpa using hi)).1
  · obtain rfl : len = 0 := by omega
    exact ⟨[], rfl, ⟨A, cap, rfl, by simp, hcm, fun h => absurd rfl h⟩, fun x hx => by simp at hx⟩

theorem agg_of_cells {v : Value} {n : Nat} (h : v.cells.toList.length = n + 2) : v = .agg v.cells.toList.toArray := by
  cases v <;> simp_all [Value.cells]

/-- A slice argument's outer form. -/
theorem slice_form {t e sz by' base : Nat} {v : Value} (ht : sliceT Tryd.prog t e sz by' = true) (hv : Value.okWide Tryd.prog w .any base t v) : v.cells = #[v] := by
  have h1 := (sliceT_spec ht).1
  unfold Value.okWide at hv
  rw [h1] at hv
  cases v with
  | agg cs => simp [Cell.okWide, Cell.ok, h1] at hv
  | _ => rfl


set_option maxRecDepth 100000 in
theorem open_bytes {v : Value} {d : DataW H} {ps : List MemPlace} {base : Nat} (hval : Value.okWide Tryd.prog w .any base 57 v) (h : DataW.Trod enc Tryd.prog w 0 sp held 57 v d ps) : ∃ code : List UInt8, RepE bCells 1 Any w code v := by
  obtain ⟨fuel, h⟩ := h
  obtain ⟨A, len, cap, hcs, hlc, hcm, hel⟩ := trod_row sl57 rfl h
  rw [slice_form sl57 hval] at hcs
  have hv : v = .slice A len cap := by simpa using hcs
  subst hv
  obtain ⟨p, rfl, hp, -⟩ := row_rep (w := w) (A := A) (ec := bCells) (sz := 1) (fun _ => True) hlc hcm fun h0 => by
    obtain ⟨b, o, rfl, hi⟩ := hel h0
    refine ⟨b, o, rfl, fun i hil => ?_⟩
    obtain ⟨cs', y, m, -, -, hr, ht⟩ := hi i hil
    obtain ⟨n, rfl, h1, h2⟩ := trod_int Tryd.underlying5 ht
    have e1 : IntKind.u8.min = (0 : Int) := by decide
    have e2 : IntKind.u8.max = (255 : Int) := by decide
    rw [e1] at h1
    rw [e2] at h2
    refine ⟨UInt8.ofNat n.toNat, trivial, ?_⟩
    have hn : ((UInt8.ofNat n.toNat).toNat : Int) = n := by
      rw [UInt8.toNat_ofNat']
      omega
    unfold bCells
    rw [hn]
    exact hr
  exact ⟨p, hp⟩
end
end Go.Proofs.YtpfkcblhojkaiaaDoor.Eng
