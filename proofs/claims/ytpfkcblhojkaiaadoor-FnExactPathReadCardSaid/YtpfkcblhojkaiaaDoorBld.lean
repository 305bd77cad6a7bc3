/- Literals: rows and structs that are built of parts. No statement of the seat is proved here. -/
import Derived.Test.YtpfkcblhojkaiaaDoorSep
namespace Go.Proofs.YtpfkcblhojkaiaaDoor.Eng
open Go.RowKit
set_option linter.unusedVariables false
set_option linter.unusedSimpArgs false

section
variable {P : Program} {n : Nat} {ops : Array Oper} {Q : Exit → Act → World → Prop} {S : Env} {o : Oper} {d : Nat} {g : Bool} {v : Value} {N : Env → World → Prop} {X : Nat → Prop} {w0 w : World} {L : List Res} {x y : Operand}

/-- The parts' values. -/
def Evp (S : Env) (g : Bool) (parts : Array (Nat × Operand)) (vals : List (Nat × Value)) : Prop := ∀ n a, St n S a → g = true → (parts.map fun (i, x) => (i, a.eval x)).toList = vals
theorem evp0 : Evp S g #[] [] := fun n a hs hg => by simp
theorem evp1 {i1 : Nat} {x1 : Operand} {v1 : Value} (h1 : Ev S g x1 v1) : Evp S g #[(i1, x1)] [(i1, v1)] := fun n a hs hg => by simp [h1 n a hs hg]
theorem evp2 {i1 i2 : Nat} {x1 x2 : Operand} {v1 v2 : Value} (h1 : Ev S g x1 v1) (h2 : Ev S g x2 v2) : Evp S g #[(i1, x1), (i2, x2)] [(i1, v1), (i2, v2)] := fun n a hs hg => by simp [h1 n a hs hg, h2 n a hs hg]
theorem evp3 {i1 i2 i3 : Nat} {x1 x2 x3 : Operand} {v1 v2 v3 : Value} (h1 : Ev S g x1 v1) (h2 : Ev S g x2 v2) (h3 : Ev S g x3 v3) : Evp S g #[(i1, x1), (i2, x2), (i3, x3)] [(i1, v1), (i2, v2), (i3, v3)] := fun n a hs hg => by simp [h1 n a hs hg, h2 n a hs hg, h3 n a hs hg]
theorem evp4 {i1 i2 i3 i4 : Nat} {x1 x2 x3 x4 : Operand} {v1 v2 v3 v4 : Value} (h1 : Ev S g x1 v1) (h2 : Ev S g x2 v2) (h3 : Ev S g x3 v3) (h4 : Ev S g x4 v4) : Evp S g #[(i1, x1), (i2, x2), (i3, x3), (i4, x4)] [(i1, v1), (i2, v2), (i3, v3), (i4, v4)] := fun n a hs hg => by simp [h1 n a hs hg, h2 n a hs hg, h3 n a hs hg, h4 n a hs hg]
theorem evp5 {i1 i2 i3 i4 i5 : Nat} {x1 x2 x3 x4 x5 : Operand} {v1 v2 v3 v4 v5 : Value} (h1 : Ev S g x1 v1) (h2 : Ev S g x2 v2) (h3 : Ev S g x3 v3) (h4 : Ev S g x4 v4) (h5 : Ev S g x5 v5) : Evp S g #[(i1, x1), (i2, x2), (i3, x3), (i4, x4), (i5, x5)] [(i1, v1), (i2, v2), (i3, v3), (i4, v4), (i5, v5)] := fun n a hs hg => by simp [h1 n a hs hg, h2 n a hs hg, h3 n a hs hg, h4 n a hs hg, h5 n a hs hg]

/-- A field of a value. -/
def fvT (P : Program) (s f off : Nat) : Bool :=
  match P.underlying s with
  | some (.struct fs) =>
    match fs[f]? with
    | some fl => fl.offset == off && oneT P fl.type
    | none => false
  | _ => false
theorem fvT_spec {s f off : Nat} (h : fvT P s f off = true) : ∃ fs fl, P.underlying s = some (.struct fs) ∧ fs[f]? = some fl ∧ fl.offset = off ∧ oneT P fl.type = true := by
  unfold fvT at h
  split at h
  · rename_i fs h1
    split at h
    · rename_i fl h2
      simp only [Bool.and_eq_true, beq_iff_eq] at h
      exact ⟨fs, fl, h1, h2, h.1, h.2⟩
    · cases h
  · cases h
theorem yld_fieldv {s f off : Nat} {cs : Array Value} (ht : fvT P s f off = true) (ho : o.op = .field s x f) (hx : Ev S g x (.agg cs)) (hv : cs[off]? = some v) : Yld P n S o g w v := fun a hs hg => by
  have ex := hx n a hs hg
  generalize a.eval = ρ at ex ⊢
  obtain ⟨fs, fl, h1, h2, h3, h4⟩ := fvT_spec ht
  obtain ⟨d, h5, h6, -⟩ := oneT_one h4
  have hagg : (isAgg fl.type).run P w = .ok false w := by
    unfold isAgg
    rw [Sem.run_bind, run_underlying h5 w]
    cases d <;> simp_all [TypeDesc.isRow]
  simp [execOp, ho, ex, Instr.field, run_underlying h1, h2, part, asAgg, Sem.run_bind, hagg, h3, hv]

theorem One.buildSlice {t e sz by' len : Nat} {z : Value} {parts : Array (Nat × Operand)} {vals : List (Nat × Value)} {cells : List Value} (F : Fr X w0 L w) (ht : sliceT P t e sz by' = true) (hz : (P.info? e).bind (·.zero) = some z)
    (hg : o.guard = none) (hd : o.dst = some d) (hn : Nat.blt d n = true) (ho : o.op = .buildSlice t len parts) (hp : Evp S true parts vals) (h1 : Nat.ble 1 (len * sz) = true) (h2 : Nat.ble (len * sz) 1000 = true)
    (hf : Instr.fill (fun i => some (i * sz, sz)) ((Array.range (len * sz)).map (z.cells[· % z.cells.size]!)) vals = some cells.toArray)
    (h : ∀ b w', w.heap.size = b → Fr X w0 (blk b e cells :: L) w' → N ((d, true, .slice (some ⟨b, 0, none⟩) len len) :: S) w') : One P n ops Q o S w N := by
  obtain ⟨hu, i, hi, hs, -⟩ := sliceT_spec ht
  have hzz : i.zero = some z := by simpa [hi] using hz
  have l1 : 1 ≤ len * sz := by simpa using h1
  have l2 : len * sz ≤ 1000 := by simpa using h2
  refine One.wrd (w' := w.alloc (.cells cells.toArray e)) (v := .slice (some ⟨w.heap.size, 0, none⟩) len len) hg hd hn (fun a hs' => ?_) (h _ _ rfl (F.alloc e cells))
  have ep := hp n a hs' rfl
  have hr := run_buildSlice (P := P) w t e len (parts.map fun (i, x) => (i, a.eval x)) cells.toArray i z hu hi hzz (by rw [hs]; omega) (by rw [hs]; omega) (by rw [hs, ep]; exact hf)
  generalize a.eval = ρ at hr ⊢
  simp [execOp, ho, hr]

theorem yld_build {t : TypeId} {parts : Array (Nat × Operand)} {vals : List (Nat × Value)} {cells : List Value} (ho : o.op = .build t parts) (hp : Evp S g parts vals) (hb : P.built t vals = some cells.toArray) : Yld P n S o g w (.agg cells.toArray) := fun a hs hg => by
  have ep := hp n a hs hg
  have hr := run_build (P := P) w t (parts.map fun (i, x) => (i, a.eval x)) cells.toArray (by rw [ep]; exact hb)
  generalize a.eval = ρ at hr ⊢
  simp [execOp, ho, hr]
end

/-- A block that holds a row. -/
theorem blk_rep {α : Type} {enc : α → List Value} {sz : Nat} (he : ∀ x, (enc x).length = sz) {w : World} {b ty c : Nat} {xs : List α} (h : (blk b ty (xs.flatMap enc)).is w) (hc : xs.length ≤ c) (hc' : c ≤ 9223372036854775807) : RepE enc sz (· = b) w xs (.slice (some ⟨b, 0, none⟩) xs.length c) :=
  ⟨some ⟨b, 0, none⟩, c, rfl, hc, hc', fun _ => ⟨b, 0, rfl, rfl, fun i hi j v hj => by
    have hjs : j < sz := by have := (List.getElem?_eq_some_iff.1 hj).1; rw [he] at this; exact this
    rw [Nat.zero_add]
    exact blk_cell h (by rw [flat_get he xs i j hi hjs]; exact hj)⟩⟩

end Go.Proofs.YtpfkcblhojkaiaaDoor.Eng
