/- What trees by keys come to that trees are put into: plain laws. -/
import Derived.Test.YtmmgobhoakaaaaaLawT
import Derived.Test.YtmmgobhoakaaaaaRKeysP
namespace Go.Proofs.Ytmmgobhoakaaaaa.Eng
open Go.RowKit
set_option linter.unusedVariables false
set_option linter.unusedSimpArgs false
set_option maxHeartbeats 1000000


theorem posK_cons (k : ByteArray) (ks : List ByteArray) (key : ByteArray) : posK (k :: ks) key = if ltS k key = true then posK ks key + 1 else 0 := rfl
theorem putB_cons (k : ByteArray) (ks : List ByteArray) (key : ByteArray) : putB (k :: ks) key = if ltS k key = true then putB ks key else decide (k = key) := by
  unfold putB hasAt
  rw [posK_cons]
  by_cases h : ltS k key = true
  · simp [if_pos h, nth_succ]
  · simp [if_neg h, nth_zero]
theorem putK_cons (k : ByteArray) (ks : List ByteArray) (key : ByteArray) : putK (k :: ks) key = if ltS k key = true then k :: putK ks key else if k = key then k :: ks else key :: k :: ks := by
  unfold putK
  rw [putB_cons, posK_cons]
  by_cases h : ltS k key = true
  · simp only [if_pos h, List.take_succ_cons, List.drop_succ_cons, List.cons_append]
    split <;> rfl
  · simp only [if_neg h]
    by_cases h2 : k = key <;> simp [h2]
theorem putL_cons {α : Type} (k : ByteArray) (ks : List ByteArray) (a : α) (l : List α) (key : ByteArray) (x : α) : putL (k :: ks) (a :: l) key x = if ltS k key = true then a :: putL ks l key x else if k = key then x :: l else x :: a :: l := by
  unfold putL
  rw [putB_cons, posK_cons]
  by_cases h : ltS k key = true
  · simp only [if_pos h, List.take_succ_cons, List.drop_succ_cons, List.cons_append, List.set_cons_succ]
    split <;> rfl
  · simp only [if_neg h]
    by_cases h2 : k = key <;> simp [h2]
theorem putK_nil (key : ByteArray) : putK [] key = [key] := by
  unfold putK putB hasAt posK
  simp
theorem putL_nil {α : Type} (key : ByteArray) (x : α) : putL [] [] key x = [x] := by
  unfold putL putB hasAt posK
  simp
theorem ltS_ne {a b : ByteArray} (h : ltS a b = true) : a ≠ b := fun e => by
  rw [e, ltS_self] at h
  cases h
theorem ltS_or {a b : ByteArray} (h : ¬ ltS a b = true) (hne : a ≠ b) : ltS b a = true := ltS_nlt (by simpa using h) hne
theorem ltS_as {a b : ByteArray} (h : ltS a b = true) : ¬ ltS b a = true := fun h2 => by
  have := ltS_tr h h2
  rw [ltS_self] at this
  cases this
/-- Put twice at one key: the last one stays. -/
theorem putK_same (key : ByteArray) : ∀ ks : List ByteArray, putK (putK ks key) key = putK ks key
  | [] => by rw [putK_nil, putK_cons, ltS_self]; simp
  | k :: ks => by
    rw [putK_cons]
    split
    · rename_i h
      rw [putK_cons, if_pos h, putK_same key ks]
    · rename_i h
      split
      · rename_i h2
        rw [putK_cons, if_neg h, if_pos h2]
      · rw [putK_cons, ltS_self]
        simp
theorem putL_same {α : Type} (key : ByteArray) (x y : α) : ∀ (ks : List ByteArray) (l : List α), ks.length = l.length → putL (putK ks key) (putL ks l key x) key y = putL ks l key y
  | [], [], _ => by rw [putK_nil, putL_nil, putL_cons, ltS_self, putL_nil]; simp
  | [], _ :: _, h => by simp at h
  | _ :: _, [], h => by simp at h
  | k :: ks, a :: l, h => by
    rw [putK_cons, putL_cons, putL_cons]
    split
    · rename_i h1
      rw [putL_cons, if_pos h1, putL_same key x y ks l (by simpa using h)]
    · rename_i h1
      split
      · rename_i h2
        rw [putL_cons, if_neg h1, if_pos h2]
      · rw [putL_cons, ltS_self]
        simp
/-- Put at two keys, in either order. -/
theorem put_comm {α : Type} {a b : ByteArray} (hab : ltS a b = true) (x y : α) : ∀ (ks : List ByteArray) (l : List α), ks.length = l.length →
    putK (putK ks a) b = putK (putK ks b) a ∧ putL (putK ks a) (putL ks l a x) b y = putL (putK ks b) (putL ks l b y) a x
  | [], [], _ => by
    have h1 := ltS_as hab
    have h2 := ltS_ne hab
    simp only [putK_nil, putL_nil, putK_cons, putL_cons, if_pos hab, if_neg h1, if_neg (Ne.symm h2)]
    exact ⟨trivial, trivial⟩
  | [], _ :: _, h => by simp at h
  | _ :: _, [], h => by simp at h
  | k :: ks, u :: l, h => by
    have h1 := ltS_as hab
    have h2 := ltS_ne hab
    obtain ⟨i1, i2⟩ := put_comm hab x y ks l (by simpa using h)
    by_cases ka : ltS k a = true
    · have kb := ltS_tr ka hab
      simp only [putK_cons, putL_cons, if_pos ka, if_pos kb, i1, i2]
      exact ⟨trivial, trivial⟩
    · by_cases ea : k = a
      · subst ea
        simp only [putK_cons, putL_cons, if_neg ka, if_pos hab, if_true]
        exact ⟨trivial, trivial⟩
      · by_cases kb : ltS k b = true
        · simp only [putK_cons, putL_cons, if_neg ka, if_neg ea, if_pos kb, if_pos hab]
          exact ⟨trivial, trivial⟩
        · by_cases eb : k = b
          · subst eb
            simp only [putK_cons, putL_cons, if_neg ka, if_neg ea, if_neg kb, if_pos hab, if_true]
            exact ⟨trivial, trivial⟩
          · simp only [putK_cons, putL_cons, if_neg ka, if_neg ea, if_neg kb, if_neg eb, if_pos hab, if_neg h1, if_neg (Ne.symm h2)]
            exact ⟨trivial, trivial⟩
theorem putT_same (t : Tr) (h : t.keys.length = t.list.length) (key : ByteArray) (x y : Tr) : putT (putT t key x) key y = putT t key y := by
  show Tr.mk 6 0 ⟨#[]⟩ (putK (putK t.keys key) key) (putL (putK t.keys key) (putL t.keys t.list key x) key y) = _
  rw [putK_same, putL_same _ _ _ _ _ h]
  rfl
theorem putT_comm (t : Tr) (h : t.keys.length = t.list.length) {a b : ByteArray} (hab : a ≠ b) (x y : Tr) : putT (putT t a x) b y = putT (putT t b y) a x := by
  show Tr.mk 6 0 ⟨#[]⟩ (putK (putK t.keys a) b) (putL (putK t.keys a) (putL t.keys t.list a x) b y) = Tr.mk 6 0 ⟨#[]⟩ (putK (putK t.keys b) a) (putL (putK t.keys b) (putL t.keys t.list b y) a x)
  by_cases h1 : ltS a b = true
  · obtain ⟨e1, e2⟩ := put_comm h1 x y t.keys t.list h
    rw [e1, e2]
  · obtain ⟨e1, e2⟩ := put_comm (ltS_or h1 hab) y x t.keys t.list h
    rw [e1, e2]
theorem put_find {α : Type} (key : ByteArray) (x : α) : ∀ (ks : List ByteArray) (l : List α), ks.length = l.length → (putL ks l key x)[(putK ks key).findIdx (fun y => decide (y = key))]? = some x ∧ (putK ks key).findIdx (fun y => decide (y = key)) < (putK ks key).length
  | [], [], _ => by rw [putK_nil, putL_nil]; simp
  | [], _ :: _, h => by simp at h
  | _ :: _, [], h => by simp at h
  | k :: ks, u :: l, h => by
    obtain ⟨i1, i2⟩ := put_find key x ks l (by simpa using h)
    rw [putK_cons, putL_cons]
    split
    · rename_i h1
      have h2 := ltS_ne h1
      rw [List.findIdx_cons]
      simp [h2, i1, i2]
    · split
      · rename_i h2
        rw [List.findIdx_cons]
        simp [h2]
      · rw [List.findIdx_cons]
        simp
theorem put_get {t : Tr} (h : t.keys.length = t.list.length) (key : ByteArray) (x : Tr) : getT (putT t key x) key = some x := by
  obtain ⟨i1, i2⟩ := put_find key x t.keys t.list h
  have hz : keyZ (putK t.keys key) key = (((putK t.keys key).findIdx (fun y => decide (y = key)) : Nat) : Int) := by unfold keyZ; rw [if_pos i2]
  unfold getT
  rw [if_neg (by show ¬ (6 : Int) = 0; omega), if_neg (by show ¬ (6 : Int) ≠ 6; omega)]
  have e1 : (putT t key x).keys = putK t.keys key := rfl
  have e2 : (putT t key x).list = putL t.keys t.list key x := rfl
  have hlt : (putK t.keys key).findIdx (fun y => decide (y = key)) < (putL t.keys t.list key x).length := by
    rw [← put_len2 h]; exact i2
  rw [dif_pos (by rw [e1, e2, hz]; exact ⟨by omega, by simpa using hlt⟩)]
  have e3 : (keyZ (putT t key x).keys key).toNat = (putK t.keys key).findIdx (fun y => decide (y = key)) := by rw [e1, hz]; simp
  rw [List.getElem?_eq_getElem hlt] at i1
  rw [← i1]
  congr 1
  simp only [e3]
  rfl
theorem putR_some {t x : Tr} {key : ByteArray} {r : Option Tr} (hr : r = putR t key x) (h : r.isSome = true) : putC t x key = true ∧ r = some (putT t key x) ∧ okT (putT t key x) = true := by
  subst hr
  unfold putR at h ⊢
  split at h
  · rename_i h1
    unfold toldR at h ⊢
    rw [if_pos h1]
    split at h
    · rename_i h2
      exact ⟨h1, if_pos h2, by simpa using h2⟩
    · cases h
  · cases h
theorem putR_ok (t : Tr) (key : ByteArray) (x : Tr) : okT ((putR t key x).getD zeroT) = true := by
  unfold putR
  split
  · exact toldR_ok _ _
  · exact okT_zeroT
theorem putC_of {t x : Tr} {key : ByteArray} (h1 : okT t = true) (h2 : okT x = true) (h3 : okS key = true) (h4 : t.kind = 0 ∨ t.kind = 6) : putC t x key = true := by
  unfold putC
  rw [h1, h2, h3]
  rcases h4 with h | h <;> simp [h]
theorem putR_of {t x : Tr} {key : ByteArray} (h : putC t x key = true) : putR t key x = toldR true (putT t key x) := by unfold putR; rw [if_pos h]
theorem partGet_put {t x : Tr} {key : ByteArray} (hc : putC t x key = true) (ho : okT (putT t key x) = true) : partGetR (putT t key x) key = some x := by
  obtain ⟨h1, h2, h3, h4⟩ := putC_facts hc
  unfold partGetR
  rw [ho, h3, Bool.and_self, if_pos rfl, put_get (put_len h1 h4)]

end Go.Proofs.Ytmmgobhoakaaaaa.Eng
