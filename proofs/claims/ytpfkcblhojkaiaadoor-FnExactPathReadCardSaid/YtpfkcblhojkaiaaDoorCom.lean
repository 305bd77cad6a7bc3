/- What many walks use: sums over lists, trees that are ok, empty rows. No statement of the seat is proved here. -/
import Derived.Test.YtpfkcblhojkaiaaDoorTold
import Derived.Test.YtpfkcblhojkaiaaDoorAli
namespace Go.Proofs.YtpfkcblhojkaiaaDoor.Eng
open Go.RowKit
set_option linter.unusedVariables false
set_option linter.unusedSimpArgs false
set_option maxHeartbeats 1000000


theorem RepE.nil {α : Type} {enc : α → List Value} {sz : Nat} (F : Nat → Prop) (w : World) : RepE enc sz F w [] (.slice none 0 0) := ⟨none, 0, rfl, Nat.le_refl _, by omega, fun h => absurd rfl h⟩
theorem RepL.nil (F : Nat → Prop) (w : World) : RepL F w [] (.slice none 0 0) := ⟨none, 0, fun _ => [], rfl, Nat.le_refl _, by omega, fun h => absurd h (by simp), fun i h => by simp at h⟩
theorem Tr.Fit.list {t : Tr} (h : t.Fit) : ∀ x ∈ t.list, x.Fit := by
  cases h with
  | mk hs hks hl => exact hl
theorem okT_node {t : Tr} (h : okT t = true) : Form 6 t ∧ (t.cnt : Int) ≤ 60 := by
  unfold okT at h
  simpa using h
theorem okT_zero {t : Tr} (h : okT t = true) (hk : t.kind = 0) : t = zeroT := by
  obtain ⟨k, n, s, ks, l⟩ := t
  have hp := (Form.iff.1 (okT_node h).1).2.1
  have hk' : k = 0 := hk
  subst hk'
  rw [hp.z3 (by omega), hp.z4 (by omega), hp.z6 (by omega), hp.z5 (by omega)]
  rfl
theorem Form.mono {d d' : Int} {t : Tr} (h : Form d t) (hd : d ≤ d') : Form d' t := by
  induction h generalizing d' with
  | mk hd1 hn hl ih => exact .mk (by omega) hn fun x hx => ih x hx (by omega)
theorem okT_child {t x : Tr} (h : okT t = true) (hx : x ∈ t.list) : okT x = true := by
  obtain ⟨k, n, s, ks, l⟩ := t
  obtain ⟨h1, h2⟩ := okT_node h
  have h3 := (Form.iff.1 h1).2.2 x hx
  have h4 := sumN_mem Tr.cnt hx
  rw [Tr.cnt_mk] at h2
  have h5 : sumN Tr.cnt (Tr.mk k n s ks l).list = sumN Tr.cnt l := rfl
  unfold okT
  simp only [Bool.and_eq_true, decide_eq_true_eq]
  exact ⟨h3.mono (by omega), by omega⟩
theorem okT_zeroT : okT zeroT = true := by
  unfold okT
  simp only [Bool.and_eq_true, decide_eq_true_eq]
  exact ⟨leaf_form (by omega) (fun _ => rfl) (fun _ => rfl) (fun _ => rfl) (fun _ => rfl) (by omega), by show ((Tr.cnt zeroT : Nat) : Int) ≤ 60; unfold zeroT; rw [Tr.cnt_mk]; decide⟩
theorem okT_len {t : Tr} (h : okT t = true) (hk : t.kind = 6) : t.keys.length = t.list.length := by
  obtain ⟨k, n, s, ks, l⟩ := t
  exact (Form.iff.1 (okT_node h).1).2.1.len hk
theorem V5.one {w : World} {t : Tr} {x : V5} (h : Rep Any w t x.val) : (enc5 x).all (·.oneCell') = true := by
  rw [← enc5_val] at h
  exact h.one
theorem wt_mkn (T : Tr) (n : Nat) (h : T.wt ≤ n) : T.keys.length + sumN Tr.mkn T.list ≤ 3 * n + 3 := by
  have := T.mkn_list
  omega
theorem sumN_append {α : Type} (f : α → Nat) : ∀ p q : List α, sumN f (p ++ q) = sumN f p + sumN f q
  | [], q => by simp [sumN]
  | x :: p, q => by rw [List.cons_append, sumN_cons, sumN_cons, sumN_append f p q]; omega
theorem row_wt (l : List Tr) : (Tr.mk 5 0 ⟨#[]⟩ [] l).wt = l.length + sumN Tr.wt l := by
  rw [Tr.wt_mk]
  show 0 + (0 + 0) + _ = _
  omega
theorem told_mkn (T : Tr) : ((toldR true T).getD zeroT).keys.length + sumN Tr.mkn ((toldR true T).getD zeroT).list ≤ 3 * T.wt + 3 := by
  have := T.mkn_list
  unfold toldR
  split
  · exact this
  · show 0 + 0 ≤ _
    omega
theorem okT_six {t : Tr} (h : okT t = true) : t.kind ≤ 6 ∧ (t.kind = 6 → t.keys.length = t.list.length) ∧ KeysP t.keys := by
  obtain ⟨k, n, s, ks, l⟩ := t
  have hp := (Form.iff.1 (okT_node h).1).2.1
  exact ⟨hp.k6, hp.len, hp.keys⟩
theorem Tr.cnt_pos (t : Tr) : 1 ≤ t.cnt := by
  obtain ⟨k, n, s, ks, l⟩ := t
  rw [Tr.cnt_mk]; omega
theorem sumN_ge {α : Type} {f : α → Nat} : ∀ {l : List α}, (∀ x ∈ l, 1 ≤ f x) → l.length ≤ sumN f l
  | [], _ => by simp [sumN]
  | x :: l, h => by
    have h1 := h x (by simp)
    have h2 := sumN_ge (l := l) fun y hy => h y (by simp [hy])
    simp only [sumN_cons, List.length_cons]
    omega
theorem okT_short {t : Tr} (h : okT t = true) : t.list.length ≤ 59 := by
  obtain ⟨k, n, s, ks, l⟩ := t
  have h1 := (okT_node h).2
  rw [Tr.cnt_mk] at h1
  have h2 : l.length ≤ sumN Tr.cnt l := sumN_ge fun x _ => x.cnt_pos
  show l.length ≤ 59
  omega
theorem sumN_one {α : Type} {f : α → Nat} : ∀ {l : List α}, (∀ x ∈ l, f x = 1) → sumN f l = l.length
  | [], _ => by simp [sumN]
  | x :: l, h => by rw [sumN_cons, h x (by simp), sumN_one fun y hy => h y (by simp [hy]), List.length_cons]; omega
theorem sumN_bound {α : Type} {f : α → Nat} {b : Nat} : ∀ {l : List α}, (∀ x ∈ l, f x ≤ b) → sumN f l ≤ l.length * b
  | [], _ => by simp [sumN]
  | x :: l, h => by
    have h1 := h x (by simp)
    have h2 := sumN_bound (l := l) fun y hy => h y (by simp [hy])
    rw [sumN_cons, List.length_cons, Nat.add_mul]
    omega
theorem sumNa {α : Type} (f : α → Nat) : ∀ p q : List α, sumN f (p ++ q) = sumN f p + sumN f q
  | [], q => by simp [sumN]
  | x :: p, q => by rw [List.cons_append, sumN_cons, sumN_cons, sumNa f p q]; omega
theorem sumNg {α : Type} {f : α → Nat} : ∀ {l : List α}, (∀ x ∈ l, 1 ≤ f x) → l.length ≤ sumN f l
  | [], _ => by simp [sumN]
  | x :: l, h => by
    have h1 := h x (by simp)
    have h2 := sumNg (l := l) fun y hy => h y (by simp [hy])
    simp only [sumN_cons, List.length_cons]
    omega
theorem sumNb {α : Type} {f : α → Nat} {b : Nat} : ∀ {l : List α}, (∀ x ∈ l, f x ≤ b) → sumN f l ≤ l.length * b
  | [], _ => by simp [sumN]
  | x :: l, h => by
    have h1 := h x (by simp)
    have h2 := sumNb (l := l) fun y hy => h y (by simp [hy])
    rw [sumN_cons, List.length_cons, Nat.add_mul]
    omega
theorem sumN_mul {α : Type} {f g : α → Nat} {a c : Nat} : ∀ {l : List α}, (∀ x ∈ l, f x + a ≤ c * g x) → sumN f l + a * l.length ≤ c * sumN g l
  | [], _ => by simp [sumN]
  | x :: l, h => by
    have h1 := h x (by simp)
    have h2 := sumN_mul (l := l) fun y hy => h y (by simp [hy])
    rw [sumN_cons, sumN_cons, Nat.mul_add, List.length_cons, Nat.mul_add]
    omega
theorem cntp (t : Tr) : 1 ≤ t.cnt := by
  obtain ⟨k, n, s, ks, l⟩ := t
  rw [Tr.cnt_mk]; omega
theorem Tr.Fit.keys {t : Tr} (h : t.Fit) : ∀ x ∈ t.keys, x.size ≤ 9223372036854775807 := by
  cases h with
  | mk hs hks hl => exact hks
theorem Tr.wt_keys (t : Tr) : sumN ByteArray.size t.keys + (t.list.length + sumN Tr.wt t.list) ≤ t.wt := by
  obtain ⟨k, n, s, ks, l⟩ := t
  rw [Tr.wt_mk]
  simp only [Tr.keys, Tr.list]
  omega
theorem form_wt {d : Int} {t : Tr} (h : Form d t) : t.wt + 14 ≤ 26 * t.cnt := by
  induction h with
  | @mk d k n s ks l hd hn hl ih =>
    rw [Tr.wt_mk, Tr.cnt_mk]
    have h1 := okS_size hn.ok
    have h2 : sumN Tr.wt l + 14 * l.length ≤ 26 * sumN Tr.cnt l := sumN_mul ih
    have h3 : l.length ≤ sumN Tr.cnt l := sumNg fun x _ => cntp x
    by_cases hk : k = 6
    · have h4 := hn.len hk
      have h5 : sumN ByteArray.size ks ≤ ks.length * 12 := sumNb fun x hx => by
        obtain ⟨i, hi, rfl⟩ := List.getElem_of_mem hx
        have := (hn.keys i hi).1
        rw [nth_eq hi] at this
        exact okS_size this
      have h6 := hn.z4 (by omega)
      have h7 : s.size = 0 := by rw [h6]; rfl
      omega
    · have h4 := hn.z6 hk
      subst h4
      show s.size + (0 + 0) + _ + 14 ≤ _
      omega
theorem okT_len60 {t : Tr} (h : okT t = true) : t.list.length ≤ 59 := by
  obtain ⟨k, n, s, ks, l⟩ := t
  have h1 := (okT_node h).2
  rw [Tr.cnt_mk] at h1
  have h2 : l.length ≤ sumN Tr.cnt l := sumNg fun x _ => cntp x
  show l.length ≤ 59
  omega
theorem okT_wt {t : Tr} (h : okT t = true) : t.wt ≤ 1560 := by
  obtain ⟨h1, h2⟩ := okT_node h
  have := form_wt h1
  omega
theorem rep_zero (w : World) : Rep Any w zeroT z5.val := Rep.close (RepE.nil _ _) (RepL.nil _ _)
theorem AL.snocz {w : World} {l : List Tr} {k : Nat} {xs : List V5} (h : AL w (l ++ List.replicate k zeroT) xs) : AL w (l ++ List.replicate (k + 1) zeroT) (xs ++ [z5]) := by
  rw [List.replicate_succ', ← List.append_assoc]
  exact h.append (AL.one (rep_zero w))

end Go.Proofs.YtpfkcblhojkaiaaDoor.Eng
