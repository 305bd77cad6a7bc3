/- What trees come to that parts are set in: plain laws. -/
import Derived.Test.YtodbflfelimppaaLawC
import Derived.Test.YtodbflfelimppaaSame
import Derived.Test.YtodbflfelimppaaEach
import Derived.Test.YtodbflfelimppaaBin
namespace Go.Proofs.Ytodbflfelimppaa.Eng
open Go.RowKit
set_option linter.unusedVariables false
set_option linter.unusedSimpArgs false
set_option maxHeartbeats 1000000


theorem cnt_list (t : Tr) : t.cnt = 1 + sumN Tr.cnt t.list := by
  obtain ⟨k, n, s, ks, l⟩ := t
  exact Tr.cnt_mk k n s ks l
theorem rowT_eta {t : Tr} (h : okT t = true) (h5 : t.kind = 5) : t = .mk 5 0 ⟨#[]⟩ [] t.list := by
  obtain ⟨k, n, s, ks, l⟩ := t
  have hk : k = 5 := h5
  have hp := (Form.iff.1 (okT_node h).1).2.1
  have h3 := hp.z3 (by omega)
  have h4 := hp.z4 (by omega)
  have h6 := hp.z6 (by omega)
  subst hk
  show _ = Tr.mk 5 0 ⟨#[]⟩ [] l
  rw [h3, h4, h6]
theorem okT_row {l : List Tr} : okT (.mk 5 0 ⟨#[]⟩ [] l) = true ↔ (∀ x ∈ l, Form 5 x) ∧ sumN Tr.cnt l ≤ 59 := by
  unfold okT
  simp only [Bool.and_eq_true, decide_eq_true_eq]
  rw [Form.iff, Tr.cnt_mk]
  constructor
  · intro h
    exact ⟨h.1.2.2, by have := h.2; omega⟩
  · intro h
    exact ⟨⟨by omega, ⟨by omega, fun _ => rfl, fun _ => rfl, by omega, by omega, by omega, by omega, by omega, okS_nil, fun h => by omega, KeysP.nil⟩, h.1⟩, by have := h.2; omega⟩
theorem sumN_set {α : Type} {f : α → Nat} : ∀ {l : List α} {i : Nat} {x : α} (h : i < l.length), sumN f (l.set i x) + f l[i] = sumN f l + f x
  | [], i, x, h => by simp at h
  | a :: l, 0, x, h => by simp [sumN]; omega
  | a :: l, i + 1, x, h => by
    have := sumN_set (f := f) (l := l) (i := i) (x := x) (by simpa using h)
    simp only [List.set_cons_succ, sumN_cons, List.getElem_cons_succ]
    omega
theorem okT_of {t : Tr} (hf : Form 6 t) (hc : t.cnt ≤ 60) : okT t = true := by
  unfold okT
  simp only [Bool.and_eq_true, decide_eq_true_eq]
  exact ⟨hf, by omega⟩
theorem okT_cnt {t : Tr} (h : okT t = true) : t.cnt ≤ 60 := by have := (okT_node h).2; omega
theorem form_child {t x : Tr} (h : okT t = true) (hx : x ∈ t.list) : Form 5 x := by
  have h1 := (okT_node h).1
  obtain ⟨k, n, s, ks, l⟩ := t
  exact (Form.iff.1 h1).2.2 x hx
theorem toldR_true {t : Tr} (h : okT t = true) : toldR true t = some t := by unfold toldR; rw [h]; rfl
theorem at5 {F : Nat → Prop} {w : World} {xs : List Tr} {A : Option Addr} {m c : Nat} (h : RepL F w xs (.slice A m c)) (i : Nat) (hi : i < xs.length) : ∃ b o, ∃ x : V5, A = some ⟨b, o, none⟩ ∧ F b ∧ w.rangeAt b (o + i * 5) (enc5 x) ∧ Rep F w xs[i] x.val := by
  obtain ⟨b, o, cs, rfl, hF, hl, hr, ht⟩ := h.at i hi
  match cs, hl, hr, ht with
  | [x1, x2, x3, x4, x5], _, hr, ht => exact ⟨b, o, ⟨x1, x2, x3, x4, x5⟩, rfl, hF, hr, ht⟩
theorem okT_sorted' {t : Tr} (h : okT t = true) : ∀ a b, a < b → b < t.keys.length → ltS (nth t.keys a) (nth t.keys b) = true := by
  intro a b hab hb
  have hs := (okT_six h).2.2
  induction b with
  | zero => omega
  | succ b ih =>
    have h1 := (hs (b + 1) hb).2 (by omega)
    rw [Nat.add_sub_cancel] at h1
    by_cases e : a = b
    · rw [e]; exact h1
    · exact ltS_tr (ih (by omega) (by omega)) h1
theorem keyZ_nth {t : Tr} (h : okT t = true) {i : Nat} (hi : i < t.keys.length) : keyZ t.keys (nth t.keys i) = (i : Int) :=
  keyZ_at i hi (nth_eq hi).symm fun j hj hji e => by
    have h1 := okT_sorted' h j i hji hi
    rw [nth_eq hj, e, ltS_self] at h1
    cases h1
theorem partGet_nth {t : Tr} (h : okT t = true) (h6 : t.kind = 6) {i : Nat} (hi : i < t.list.length) : partGetR t (nth t.keys i) = some t.list[i] := by
  have hl := okT_len h h6
  have hk : okS (nth t.keys i) = true := ((okT_six h).2.2 i (by omega)).1
  have hz := keyZ_nth h (i := i) (by omega)
  unfold partGetR getT
  rw [h, hk, Bool.and_self, if_pos rfl, if_neg (by omega), if_neg (by omega)]
  have : (keyZ t.keys (nth t.keys i)).toNat = i := by omega
  simp [hz, hi]
theorem partAt_nth {t : Tr} (h : okT t = true) (h5 : t.kind = 5) {i : Nat} (hi : i < t.list.length) : partAtR t (i : Int) = some t.list[i] := by
  unfold partAtR atT
  have hp : placeZ (i : Int) t.list.length = i := by
    unfold placeZ
    rw [if_neg (by omega), if_neg (by omega)]
  rw [if_pos h, if_neg (by omega), if_neg (by omega)]
  simp [hp, hi]
theorem each_ok {t : Tr} (h : eachB t = true) : okT t = true ∧ 5 ≤ t.kind ∧ eachL t = t.list := by
  have h0 := h
  unfold eachB at h
  simp only [Bool.and_eq_true, decide_eq_true_eq] at h
  exact ⟨h.1, h.2, by unfold eachL; rw [if_pos h0]⟩
theorem keysR_yes {t : Tr} (h : okT t = true) (h5 : 5 ≤ t.kind) : keysR t = some (keysT t) := by unfold keysR; rw [if_pos ⟨h, h5⟩]
theorem lenR_yes {t : Tr} (h : okT t = true) (h5 : 5 ≤ t.kind) : lenR t = some (numT t.list.length) := by
  have h6 := (okT_six h).1
  unfold lenR
  rw [if_pos h, if_neg (by omega), if_neg (by omega), if_neg (by omega), if_pos (by omega)]
theorem keysL_len (t : Tr) (m : Nat) : (keysL t m).length = m := by simp [keysL]
theorem keysL_get (t : Tr) (m : Nat) {i : Nat} (hi : i < (keysL t m).length) : (keysL t m)[i] = keyT t i := by simp [keysL]

end Go.Proofs.Ytodbflfelimppaa.Eng
