/- What a law's walk uses of what functions give: that it is ok or nothing. No statement of the seat is proved here. -/
import Derived.Test.YtpfkcblhojkaiaaDoorDraw3
import Derived.Test.YtpfkcblhojkaiaaDoorMany
import Derived.Test.YtpfkcblhojkaiaaDoorGet
import Derived.Test.YtpfkcblhojkaiaaDoorKeys
import Derived.Test.YtpfkcblhojkaiaaDoorLen
import Derived.Test.YtpfkcblhojkaiaaDoorSet
import Derived.Test.YtpfkcblhojkaiaaDoorFlat
import Derived.Test.YtpfkcblhojkaiaaDoorBack
import Derived.Test.YtpfkcblhojkaiaaDoorCut
import Derived.Test.YtpfkcblhojkaiaaDoorEach
namespace Go.Proofs.YtpfkcblhojkaiaaDoor.Eng
open Go.RowKit
set_option linter.unusedVariables false
set_option linter.unusedSimpArgs false
set_option maxHeartbeats 1000000


theorem form_fit {d : Int} {t : Tr} (h : Form d t) : t.Fit := by
  induction h with
  | @mk d k n s ks l hd hn hl ih =>
    refine .mk (by have := okS_size hn.ok; omega) (fun x hx => ?_) fun x hx => ih x hx
    obtain ⟨i, hi, rfl⟩ := List.getElem_of_mem hx
    have := (hn.keys i hi).1
    rw [nth_eq hi] at this
    have := okS_size this
    omega
theorem okT_fit {t : Tr} (h : okT t = true) : t.Fit := form_fit (okT_node h).1
theorem okT_w {t : Tr} (h : okT t = true) : t.wt ≤ 1048576 := by have := okT_wt h; omega
theorem rep_leaf (w : World) (k n : Int) (s : ByteArray) : Rep Any w (.mk k n s [] []) (x5 k n s (.slice none 0 0) (.slice none 0 0)).val := Rep.close (RepE.nil _ _) (RepL.nil _ _)
theorem leaf_fit (k n : Int) {s : ByteArray} (hs : s.size ≤ 100) : (Tr.mk k n s [] []).Fit := .mk (by omega) (by simp) (by simp)
theorem leaf_wt (k n : Int) {s : ByteArray} (hs : s.size ≤ 100) : (Tr.mk k n s [] []).wt ≤ 1048576 := by
  rw [Tr.wt_mk]
  show s.size + (0 + 0) + (0 + 0) ≤ _
  omega
theorem many_pos (t : Tr) : decide (0 < manyOf t) = okT t := by
  unfold manyOf
  have := t.cnt_pos
  have e : (decide (Form 6 t) && decide ((t.cnt : Int) ≤ 60)) = okT t := rfl
  rw [e]
  cases h : okT t
  · simp
  · simp; omega
theorem many_ok {t : Tr} (h : okT t = true) : manyOf t = t.cnt := by
  have h' : (decide (Form 6 t) && decide ((t.cnt : Int) ≤ 60)) = true := h
  unfold manyOf
  rw [if_pos h']
theorem many_no {t : Tr} (h : okT t = false) : manyOf t = 0 := by
  have h' : (decide (Form 6 t) && decide ((t.cnt : Int) ≤ 60)) = false := h
  unfold manyOf
  rw [h']; rfl
theorem many_rng (t : Tr) : 0 ≤ manyOf t ∧ manyOf t ≤ 60 := by
  cases h : okT t
  · rw [many_no h]; omega
  · rw [many_ok h]
    have := (okT_node h).2
    omega
theorem getD_ok {r : Option Tr} (h : ∀ x, r = some x → okT x = true) : okT (r.getD zeroT) = true := by
  cases r with
  | none => exact okT_zeroT
  | some x => exact h x rfl
theorem toldR_ok (b : Bool) (t : Tr) : okT ((toldR b t).getD zeroT) = true := getD_ok fun x hx => by
  unfold toldR at hx
  split at hx
  · rename_i h
    obtain rfl := Option.some.inj hx
    simp at h; exact h.2
  · cases hx
theorem partAtR_ok (t : Tr) (a : Int) : okT ((partAtR t a).getD zeroT) = true := getD_ok fun x hx => by
  unfold partAtR at hx
  split at hx
  · rename_i h; exact atT_ok h hx
  · cases hx
theorem getT_ok {t x : Tr} {key : ByteArray} (h : okT t = true) (hx : getT t key = some x) : okT x = true := by
  rcases getT_in hx with rfl | hx
  · exact okT_zeroT
  · exact okT_child h hx
theorem partGetR_ok (t : Tr) (key : ByteArray) : okT ((partGetR t key).getD zeroT) = true := getD_ok fun x hx => by
  unfold partGetR at hx
  split at hx
  · rename_i h
    simp at h
    exact getT_ok h.1 hx
  · cases hx
theorem setR_ok (t x : Tr) (g : Int) : okT ((setR t x g).getD zeroT) = true := by
  unfold setR
  split
  · exact toldR_ok _ _
  · exact okT_zeroT
theorem flatR_ok (t : Tr) (_ : t.Fit) : okT ((flatR t).getD zeroT) = true := by
  unfold flatR
  split
  · exact toldR_ok _ _
  · exact okT_zeroT
theorem backR_ok (t : Tr) (_ : t.Fit) : okT ((backR t).getD zeroT) = true := by
  unfold backR
  split
  · exact toldR_ok _ _
  · exact okT_zeroT
theorem keysR_ok (t : Tr) (_ : t.Fit) : okT ((keysR t).getD zeroT) = true := by
  unfold keysR
  split
  · rename_i h; exact (keysT_ok h.1 h.2).1
  · exact okT_zeroT
theorem okT_leaf {k n : Int} {s : ByteArray} (h3 : k ≠ 3 → n = 0) (h4 : k ≠ 4 → s = ⟨#[]⟩) (k0 : 0 ≤ k) (k5 : k ≤ 4) (n0 : -1000000 ≤ n) (n1 : n ≤ 1000000) (hs : okS s = true) : okT (.mk k n s [] []) = true := by
  unfold okT
  simp only [Bool.and_eq_true, decide_eq_true_eq]
  exact ⟨.mk (by omega) (leafP h3 h4 (fun _ => rfl) (fun _ => rfl) k0 (by omega) ⟨n0, n1⟩ hs) (by simp), by rw [Tr.cnt_mk]; show ((1 + 0 : Nat) : Int) ≤ 60; omega⟩
theorem lenR_ok (t : Tr) (_ : t.Fit) : okT ((lenR t).getD zeroT) = true := by
  unfold lenR
  split
  · rename_i h
    have h1 := okT_num h
    have h2 := okT_len60 h
    have hn : ∀ n : Int, -1000000 ≤ n → n ≤ 1000000 → okT (numT n) = true := fun n a b => okT_leaf (fun h => absurd rfl h) (fun _ => rfl) (by omega) (by omega) a b okS_nil
    have hs : t.str.size ≤ 12 := by
      obtain ⟨k, n, s, ks, l⟩ := t
      exact okS_size (Form.iff.1 (okT_node h).1).2.1.ok
    by_cases k0 : t.kind = 0
    · rw [if_pos k0]; exact hn 0 (by omega) (by omega)
    rw [if_neg k0]
    by_cases k3 : t.kind = 3
    · rw [if_pos k3]; exact hn _ (by split <;> omega) (by split <;> omega)
    rw [if_neg k3]
    by_cases k4 : t.kind = 4
    · rw [if_pos k4]; exact hn _ (by omega) (by omega)
    rw [if_neg k4]
    by_cases k5 : t.kind = 5 ∨ t.kind = 6
    · rw [if_pos k5]; exact hn _ (by omega) (by omega)
    rw [if_neg k5]; exact okT_zeroT
  · exact okT_zeroT
theorem dr_row {t u : Tr} (h : Dr t) (h' : Dr u) : (Tr.mk 5 0 ⟨#[]⟩ [] [t, u]).Fit ∧ (Tr.mk 5 0 ⟨#[]⟩ [] [t, u]).wt ≤ 1048576 := by
  refine ⟨.mk (by decide) (by simp) fun x hx => ?_, ?_⟩
  · rcases (by simpa using hx : x = t ∨ x = u) with rfl | rfl
    · exact h.fit
    · exact h'.fit
  · rw [row_wt, sumN_cons, sumN_cons]
    have h1 := h.wt
    have h2 := h'.wt
    show 2 + (t.wt + (u.wt + 0)) ≤ _
    omega
theorem row1_fit {t : Tr} (h : t.Fit) (hw : t.wt ≤ 1000000) : (Tr.mk 5 0 ⟨#[]⟩ [] [t]).Fit ∧ (Tr.mk 5 0 ⟨#[]⟩ [] [t]).wt ≤ 1048576 := by
  refine ⟨.mk (by decide) (by simp) fun x hx => ?_, by rw [wrap_wt]; omega⟩
  obtain rfl := List.mem_singleton.1 hx; exact h
theorem repRow {w : World} {rs : List Tr} {xs : List V5} {b ty : Nat} {k : Int} (hb : (blk b ty (xs.flatMap enc5)).is w) (ha : AL w rs xs) (hc : xs.length ≤ 9223372036854775807) : Rep Any w (.mk k 0 ⟨#[]⟩ [] rs) (x5 k 0 ⟨#[]⟩ (.slice none 0 0) (.slice (some ⟨b, 0, none⟩) xs.length xs.length)).val :=
  Rep.close (RepE.nil _ _) (repL_ofE ((blk_rep (enc := enc5) (sz := 5) (fun _ => rfl) hb (Nat.le_refl _) hc).weak fun _ _ => trivial) ⟨ha.1, ha.2⟩)
theorem rep_x {F : Nat → Prop} {w : World} {t : Tr} {x : V5} (h : Rep F w t x.val) : ∃ A3 c3 A4 c4, x = x5 t.kind t.num t.str (.slice A3 t.keys.length c3) (.slice A4 t.list.length c4) := by
  obtain ⟨v3, v4, e, h3, h4⟩ := h.form
  obtain ⟨A3, c3, rfl, -⟩ := h3.open
  obtain ⟨A4, c4, rfl, -⟩ := h4.open
  exact ⟨A3, c3, A4, c4, V5.inj e⟩
theorem rep_l {F : Nat → Prop} {w : World} {t : Tr} {k n : Int} {s : ByteArray} {v3 v4 : Value} (h : Rep F w t (x5 k n s v3 v4).val) : RepL F w t.list v4 := by
  obtain ⟨u3, u4, e, h3, h4⟩ := h.form
  have h5 : x5 k n s v3 v4 = x5 t.kind t.num t.str u3 u4 := V5.inj e
  have : v4 = u4 := congrArg V5.e h5
  rw [this]; exact h4
theorem rep_s {F : Nat → Prop} {w : World} {t : Tr} {k n : Int} {s : ByteArray} {v3 v4 : Value} (h : Rep F w t (x5 k n s v3 v4).val) : RepS F w t.keys v3 := by
  obtain ⟨u3, u4, e, h3, h4⟩ := h.form
  have h5 : x5 k n s v3 v4 = x5 t.kind t.num t.str u3 u4 := V5.inj e
  have : v3 = u3 := congrArg V5.d h5
  rw [this]; exact h3
theorem no_ok {t : Tr} (h : okT t = true) (hc : (!(decide (Form 6 t) && decide ((t.cnt : Int) ≤ 60))) = true) : False := by
  have e : (decide (Form 6 t) && decide ((t.cnt : Int) ≤ 60)) = okT t := rfl
  rw [e, h] at hc
  cases hc
theorem AL.two {w : World} {t u : Tr} {x y : V5} (h : Rep Any w t x.val) (h' : Rep Any w u y.val) : AL w [t, u] [x, y] := (AL.one h).append (AL.one h')

end Go.Proofs.YtpfkcblhojkaiaaDoor.Eng
