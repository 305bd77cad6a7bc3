/- What trees come to that parts are set in: plain laws. -/
import Derived.Test.YtphchpbfhcniaaaLawC
import Derived.Test.YtphchpbfhcniaaaSame
namespace Go.Proofs.Ytphchpbfhcniaaa.Eng
open Go.RowKit
set_option linter.unusedVariables false
set_option linter.unusedSimpArgs false
set_option maxHeartbeats 1000000


theorem cnt_list (t : Tr) : t.cnt = 1 + sumN Tr.cnt t.list := by
  obtain ⟨k, n, s, ks, l⟩ := t
  exact Tr.cnt_mk k n s ks l
theorem rowT_eta {t : Tr} (h : okT t = true) (h5 : t.kind = 5) : t = .mk 5 0 ⟨#[]⟩ [] t.list := by
  obtain ⟨k, n, s, ks, l⟩ := t
  have hk : k = 5 := h5
  have hp := (Form.iff.1 (okT_node h).1).2.1
  have h3 := hp.z3 (by omega)
  have h4 := hp.z4 (by omega)
  have h6 := hp.z6 (by omega)
  subst hk
  show _ = Tr.mk 5 0 ⟨#[]⟩ [] l
  rw [h3, h4, h6]
theorem okT_row {l : List Tr} : okT (.mk 5 0 ⟨#[]⟩ [] l) = true ↔ (∀ x ∈ l, Form 5 x) ∧ sumN Tr.cnt l ≤ 59 := by
  unfold okT
  simp only [Bool.and_eq_true, decide_eq_true_eq]
  rw [Form.iff, Tr.cnt_mk]
  constructor
  · intro h
    exact ⟨h.1.2.2, by have := h.2; omega⟩
  · intro h
    exact ⟨⟨by omega, ⟨by omega, fun _ => rfl, fun _ => rfl, by omega, by omega, by omega, by omega, by omega, okS_nil, fun h => by omega, KeysP.nil⟩, h.1⟩, by have := h.2; omega⟩
theorem sumN_set {α : Type} {f : α → Nat} : ∀ {l : List α} {i : Nat} {x : α} (h : i < l.length), sumN f (l.set i x) + f l[i] = sumN f l + f x
  | [], i, x, h => by simp at h
  | a :: l, 0, x, h => by simp [sumN]; omega
  | a :: l, i + 1, x, h => by
    have := sumN_set (f := f) (l := l) (i := i) (x := x) (by simpa using h)
    simp only [List.set_cons_succ, sumN_cons, List.getElem_cons_succ]
    omega
theorem okT_of {t : Tr} (hf : Form 6 t) (hc : t.cnt ≤ 60) : okT t = true := by
  unfold okT
  simp only [Bool.and_eq_true, decide_eq_true_eq]
  exact ⟨hf, by omega⟩
theorem okT_cnt {t : Tr} (h : okT t = true) : t.cnt ≤ 60 := by have := (okT_node h).2; omega
theorem form_child {t x : Tr} (h : okT t = true) (hx : x ∈ t.list) : Form 5 x := by
  have h1 := (okT_node h).1
  obtain ⟨k, n, s, ks, l⟩ := t
  exact (Form.iff.1 h1).2.2 x hx
theorem toldR_true {t : Tr} (h : okT t = true) : toldR true t = some t := by unfold toldR; rw [h]; rfl

end Go.Proofs.Ytphchpbfhcniaaa.Eng
