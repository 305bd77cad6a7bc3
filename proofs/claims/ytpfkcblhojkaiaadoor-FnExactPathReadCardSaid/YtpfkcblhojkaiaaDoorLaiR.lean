/- Rows that list package-level variables: what the premise on them gives, and a row's last step. No statement of the seat is proved here. -/
import Derived.Test.YtpfkcblhojkaiaaDoorLai
import Derived.LaidMore
import Derived.ChangeVars
import Derived.LaidLaws
import Derived.Lay
import Derived.Handed
import Derived.JoinedOf
import Derived.OpenShut
import Derived.ProofKit
import Derived.WideKeyArgs
import Derived.SevenTiedAt
namespace Go.Proofs.YtpfkcblhojkaiaaDoor.Eng
open Go.RowKit Go.ChangeShapes Go.WideShapes Go.ChangeAt
set_option linter.unusedVariables false
set_option linter.unusedSimpArgs false
section
variable {H : Type} {enc : TypeId × Value → H} {P : Program}
theorem trod_lit {w : World} {base : Nat} {sp : Nat → Bool} {held : Bool} {t : TypeId} {k : IntKind} {m : Int} {fuel : Nat} {cs : List Value} {p : List MemPlace} (ht : P.underlying t = some (.int k)) (h : DataW.trod enc P w base sp held fuel t cs = some (.lit (.int k m), p)) : cs = [.int k m] := by
  cases fuel with
  | zero => simp [DataW.trod] at h
  | succ f =>
    unfold DataW.trod at h
    rw [ht] at h
    split at h <;> simp_all
/-- A listed row of whole numbers. -/
theorem laid_ints {n : String} {g : Nat} {t e by' : TypeId} {fuel : Nat} {W : World} {cs : Array Value} {p : List MemPlace} (xs : List Int) (hne : xs ≠ []) (hg : P.globalNamed n = some g) (hsl : sliceT P t e 1 by' = true) (he : P.underlying e = some (.int .i64))
    (hv : W.var? P n = some cs) (hd : DataW.trod enc P W 0 (fun _ => true) false fuel t cs.toList = some (.slice (xs.map fun x => .lit (.int .i64 x)) [], p)) : FK g xs Any W := by
  obtain ⟨h1, i, h2, h3, h4⟩ := sliceT_spec hsl
  have hcells : P.cellsOf e = 1 := by simp [Program.cellsOf, h2, h3]
  obtain ⟨a, cap, hcs, hlc, hel⟩ := open_row h1 hcells hd
  rw [List.length_map] at hcs hlc
  have h0 := World.var?_cell hg hv 0
  rw [Array.eq_one_of_toList hcs] at h0
  have h0' : W.cell? ⟨g, 0, none⟩ = some (.slice (some a) xs.length cap) := by simpa using h0
  have hcap : cap ≤ 9223372036854775807 := by
    rcases DataW.trod_slice h1 hd with ⟨_, hx⟩ | ⟨a', len, cap', elems, rest, n', rfl, hcs', -, hb, hlc', hcm, -⟩
    · simp at hx
    · rw [hcs] at hcs'
      simp only [List.cons.injEq, Value.slice.injEq, and_true] at hcs'
      rw [hcs'.2.2]
      simpa [maxLen] using hcm
  obtain ⟨b, o, s⟩ := a
  have hs : s = none := by
    have hpos : 0 < xs.length := List.length_pos_iff.2 hne
    obtain ⟨u, m, q, hu, -⟩ := hel 0 (.lit (.int .i64 xs[0])) (by simp [hpos])
    rw [Addr.add_zero'] at hu
    unfold World.cell? at hu
    split at hu
    · split at hu
      · cases hu
      · rename_i hsp; simpa using hsp
    · cases hu
  subst hs
  refine ⟨b, o, cap, h0', trivial, _, cap, rfl, hlc, hcap, fun _ => ⟨b, o, rfl, trivial, fun j hj k v hk => ?_⟩⟩
  obtain ⟨u, m, q, hu, hdu⟩ := hel j (.lit (.int .i64 xs[j])) (by simp [hj])
  have hu' := trod_lit he hdu
  obtain rfl : u = .int .i64 xs[j] := by simpa using hu'
  cases k with
  | zero =>
    obtain rfl : Value.int .i64 xs[j] = v := by simpa [iCells] using hk
    rw [Addr.add_mid] at hu
    simpa using hu
  | succ k => simp [iCells] at hk
/-- One listed variable reads as it did. -/
theorem vars_stay1 (hl : laidOutB P = true) {W W' : World} (hc : Chg No W W') {sp : Nat → Bool} {n : String} {gs : List (DataW H)} {q : List MemPlace} (ht : ∀ g t, P.globalNamed n = some g → (P.globals[g]?).map (·.type) = some t → P.readableRec t = true ∧ t < P.types.size)
    (h : DataW.TrodVars enc P W (fun _ => true) [n] gs q) (hlt : ∀ x ∈ q, x.block < W.heap.size) (hsp : ∀ x ∈ q, sp x.block = true) : ∃ pv, DataW.TrodVars enc P W' sp [n] gs pv := by
  obtain ⟨g, t, cs, fuel, d, p, rfl, h1, h2, h3, h4, rfl⟩ := trodVars_one h
  have hr := ht g t h1 h2
  have hv : W'.var? P n = some cs := by
    simp only [World.var?, h1, Option.bind_some] at h3 ⊢
    split at h3
    · rename_i c t' fr hb
      have hg : g < W.heap.size := (Array.getElem?_eq_some_iff.1 hb).1
      rw [hc.block g hg id, hb]
      exact h3
    · cases h3
  exact ⟨_, trodVars_mk1 h1 h2 hv (DataW.trod_stays (kids_book hl hr.1) (book_sized hr.1) (fun h => by cases h) ⟨hr.2, book_self t⟩ h4 (fun x hx => hc.below.same (hlt x (by simp [hx]))) fun x hx => hsp x (by simp [hx]))⟩
/-- The last step of a row that lists variables. -/
theorem post_chgV {f : Func} {s : ChangeSpec} {W W' : World} {args : Array Value} {v : Value} {ds gs : List (DataW H)} {before pa pv : List MemPlace}
    (hW : DataW.Whole enc P f.params.toList s.vars false W args.toList ds gs before)
    (hres : ∀ (b : Nat) (sp : Nat → Bool) (hd : Bool), DataW.TrodAll enc P W' b sp hd f.resultTypes.toList (v.resultList f.resultTypes.size) (s.fn H (ds ++ gs)).results [])
    (hargs : DataW.TrodAll enc P W' 0 (fun b => decide (b < W.heap.size)) true f.params.toList args.toList (s.fn H (ds ++ gs)).args pa)
    (hvars : DataW.TrodVars enc P W' (fun b => decide (b < W.heap.size)) s.vars (s.fn H (ds ++ gs)).vars pv) (hc : Chg No W W') :
    s.post enc P f false true false false W args v W' :=
  ⟨ds, gs, before, [], pa, pv, hW, hres _ _ _, hargs, hvars, hc.below.frame _, fun h => by cases h⟩
end
end Go.Proofs.YtpfkcblhojkaiaaDoor.Eng
