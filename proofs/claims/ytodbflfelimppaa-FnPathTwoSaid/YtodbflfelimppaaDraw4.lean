/- Walks of the functions that draw a tree with a place, a key, or another tree. -/
import Derived.Test.YtodbflfelimppaaDraw3
namespace Go.Proofs.Ytodbflfelimppaa.Eng
open Go.RowKit
set_option linter.unusedVariables false
set_option linter.unusedSimpArgs false
set_option maxHeartbeats 1000000


theorem retctc {P : Program} {n : Nat} {S : Env} {fn : Func} {t k u : Tmp} {ty b m ty' b' m' : Nat} {cs cs' : List Value} {v : Value} {w : World} {R : Ending → World → Prop} {a : Act} (h : fn.results = #[.cell t ty, .tmp k, .cell u ty']) (hs : St n S a) (ht : aggT P ty m = true) (ht' : aggT P ty' m' = true) (hv : look S t = some (true, .pointer (some ⟨b, 0, none⟩))) (hk : look S k = some (true, v)) (hu : look S u = some (true, .pointer (some ⟨b', 0, none⟩))) (hb : w.rangeAt b 0 cs) (hb' : w.rangeAt b' 0 cs') (hl : cs.length = m) (hl' : cs'.length = m') (hR : R (.returned (.tuple #[.agg cs.toArray, v, .agg cs'.toArray])) w) : bodyPost P fn R .ret a w := by
  obtain ⟨d, h1, h2, h3⟩ := aggT_row ht
  obtain ⟨d', h1', h2', h3'⟩ := aggT_row ht'
  subst hl; subst hl'
  refine ⟨hs.df, _, ?_, hR⟩
  have hp := hs.get hv
  have hp' : a.tmps[t]?.getD undef = .pointer (some ⟨b, 0, none⟩) := by simpa using hp
  have hq := hs.get hu
  have hq' : a.tmps[u]?.getD undef = .pointer (some ⟨b', 0, none⟩) := by simpa using hq
  have hx := hs.get hk
  have hx' : a.tmps[k]?.getD undef = v := by simpa using hx
  simp [results, h, hp', hq', hx', asAddr, run_loadVar_mid w b 0 ty cs d hb h1 h2 h3, run_loadVar_mid w b' 0 ty' cs' d' hb' h1' h2' h3']
theorem retctt {P : Program} {n : Nat} {S : Env} {fn : Func} {t k u : Tmp} {ty b m : Nat} {cs : List Value} {v v' : Value} {w : World} {R : Ending → World → Prop} {a : Act} (h : fn.results = #[.cell t ty, .tmp k, .tmp u]) (hs : St n S a) (ht : aggT P ty m = true) (hv : look S t = some (true, .pointer (some ⟨b, 0, none⟩))) (hk : look S k = some (true, v)) (hu : look S u = some (true, v')) (hb : w.rangeAt b 0 cs) (hl : cs.length = m) (hR : R (.returned (.tuple #[.agg cs.toArray, v, v'])) w) : bodyPost P fn R .ret a w := by
  obtain ⟨d, h1, h2, h3⟩ := aggT_row ht
  subst hl
  refine ⟨hs.df, _, ?_, hR⟩
  have hp := hs.get hv
  have hp' : a.tmps[t]?.getD undef = .pointer (some ⟨b, 0, none⟩) := by simpa using hp
  have hq := hs.get hu
  have hq' : a.tmps[u]?.getD undef = v' := by simpa using hq
  have hx := hs.get hk
  have hx' : a.tmps[k]?.getD undef = v := by simpa using hx
  simp [results, h, hp', hq', hx', asAddr, run_loadVar_mid w b 0 ty cs d hb h1 h2 h3]
def R64 (a : Int) : Prop := -9223372036854775808 ≤ a ∧ a ≤ 9223372036854775807
def atID : List Int := [0, 1, 2, -1, -2, 5, -5, 100]
def cutID : List Int := [0, 1, 2, -1, -2, 9, -9, 9223372036854775807, -9223372036854775808]
def cutJD : List Int := [0, 1, 3, -1, 9, -9, 9223372036854775807, -9223372036854775808]
def setID : List Int := [0, 1, 2, -1, -2, 5, 60, -9, 59]
def cutSD : List ByteArray := [⟨#[]⟩, ⟨#[97, 98, 99]⟩, ⟨#[122, 122]⟩, ⟨#[97, 98, 99, 100, 101, 102, 103, 104, 105, 106, 107, 108]⟩]
def keyD : List ByteArray := [⟨#[97]⟩, ⟨#[98]⟩, ⟨#[99]⟩, ⟨#[97]⟩, ⟨#[98]⟩, ⟨#[100]⟩, ⟨#[]⟩, ⟨#[65]⟩, ⟨#[122, 122]⟩]

theorem mem64 {a : Int} {l : List Int} (h : a ∈ l) (hl : l.all (fun x => decide (-9223372036854775808 ≤ x) && decide (x ≤ 9223372036854775807)) = true) : R64 a := by
  have := List.all_eq_true.1 hl a h
  simp at this
  exact this
theorem memS {s : ByteArray} {l : List ByteArray} (h : s ∈ l) (hl : l.all (fun x => decide (x.size ≤ 12)) = true) : s.size ≤ 12 := by
  have := List.all_eq_true.1 hl s h
  simpa using this
/-- What a function gives that draws a tree and more. -/
def DrawI (w : World) (e : Ending) (w' : World) : Prop := ∃ (x : V5) (t : Tr) (a : Int), e = .returned (.tuple #[x.val, .int .i64 a]) ∧ Chg No w w' ∧ (rps (New w w') [(t, x.val)]).is w' ∧ Dr t ∧ R64 a
def DrawS (w : World) (e : Ending) (w' : World) : Prop := ∃ (x : V5) (t : Tr) (s : ByteArray), e = .returned (.tuple #[x.val, .string s]) ∧ Chg No w w' ∧ (rps (New w w') [(t, x.val)]).is w' ∧ Dr t ∧ s.size ≤ 12
def DrawII (w : World) (e : Ending) (w' : World) : Prop := ∃ (x : V5) (t : Tr) (a b : Int), e = .returned (.tuple #[x.val, .int .i64 a, .int .i64 b]) ∧ Chg No w w' ∧ (rps (New w w') [(t, x.val)]).is w' ∧ Dr t ∧ R64 a ∧ R64 b
def DrawIT (w : World) (e : Ending) (w' : World) : Prop := ∃ (x y : V5) (t u : Tr) (a : Int), e = .returned (.tuple #[x.val, .int .i64 a, y.val]) ∧ Chg No w w' ∧ (rps (New w w') [(t, x.val), (u, y.val)]).is w' ∧ Dr t ∧ Dr u ∧ R64 a
def DrawST (w : World) (e : Ending) (w' : World) : Prop := ∃ (x y : V5) (t u : Tr) (s : ByteArray), e = .returned (.tuple #[x.val, .string s, y.val]) ∧ Chg No w w' ∧ (rps (New w w') [(t, x.val), (u, y.val)]).is w' ∧ Dr t ∧ Dr u ∧ s.size ≤ 12
theorem LeafT.dr {t : Tr} (h : LeafT t) : Dr t := ⟨h.fit, by have := h.wt; omega, by have := h.len; omega⟩
theorem SomeT.dr {t : Tr} (h : SomeT t) : Dr t := ⟨h.fit, by have := h.wt; omega, by have := h.len; omega⟩


theorem Fr.setSep {X : Nat → Prop} {w0 w : World} {L : List Res} (F : Fr X w0 L w) (i : Nat) {G : Nat → Prop} {t u : Tr} {v y : Value} (hi : L[i]? = some (sep G t v)) (h : Sep w No u y) : Fr X w0 (L.set i (sep No u y)) w :=
  F.upd i hi (Chg.refl No w) (fun _ h => h.elim) (sep No u y) h fun k hk => hk.elim

end Go.Proofs.Ytodbflfelimppaa.Eng
