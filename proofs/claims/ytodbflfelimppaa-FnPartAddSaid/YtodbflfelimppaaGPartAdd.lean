/- FnPartAdd returns true for all bytes: both PartAdd give the same; the empty tree is a unit; addition is associative; numbers add. No condition. -/
import Derived.Test.YtodbflfelimppaaPPut
import Derived.Test.YtodbflfelimppaaLawT
import Derived.Test.YtodbflfelimppaaAdd6
import Derived.Test.YtodbflfelimppaaDraw6
import Derived.Test.YtodbflfelimppaaArgB
import Derived.Test.YtodbflfelimppaaRows
namespace Go.Proofs.Ytodbflfelimppaa.Eng
open Go.RowKit Go.ChangeShapes Go.WideShapes Go.ChangeAt
set_option linter.unusedVariables false
set_option linter.unusedSimpArgs false
set_option maxHeartbeats 1000000
set_option linter.constructorNameAsVariable false
namespace GPartAdd


theorem posK_cons (k : ByteArray) (ks : List ByteArray) (key : ByteArray) : posK (k :: ks) key = if ltS k key = true then posK ks key + 1 else 0 := rfl
theorem putB_cons (k : ByteArray) (ks : List ByteArray) (key : ByteArray) : putB (k :: ks) key = if ltS k key = true then putB ks key else decide (k = key) := by
  unfold putB hasAt
  rw [posK_cons]
  by_cases h : ltS k key = true
  · simp [if_pos h, nth_succ]
  · simp [if_neg h, nth_zero]
theorem putK_cons (k : ByteArray) (ks : List ByteArray) (key : ByteArray) : putK (k :: ks) key = if ltS k key = true then k :: putK ks key else if k = key then k :: ks else key :: k :: ks := by
  unfold putK
  rw [putB_cons, posK_cons]
  by_cases h : ltS k key = true
  · simp only [if_pos h, List.take_succ_cons, List.drop_succ_cons, List.cons_append]
    split <;> rfl
  · simp only [if_neg h]
    by_cases h2 : k = key <;> simp [h2]
theorem putL_cons {α : Type} (k : ByteArray) (ks : List ByteArray) (a : α) (l : List α) (key : ByteArray) (x : α) : putL (k :: ks) (a :: l) key x = if ltS k key = true then a :: putL ks l key x else if k = key then x :: l else x :: a :: l := by
  unfold putL
  rw [putB_cons, posK_cons]
  by_cases h : ltS k key = true
  · simp only [if_pos h, List.take_succ_cons, List.drop_succ_cons, List.cons_append, List.set_cons_succ]
    split <;> rfl
  · simp only [if_neg h]
    by_cases h2 : k = key <;> simp [h2]
theorem putK_nil (key : ByteArray) : putK [] key = [key] := by
  unfold putK putB hasAt posK
  simp
theorem putL_nil {α : Type} (key : ByteArray) (x : α) : putL [] [] key x = [x] := by
  unfold putL putB hasAt posK
  simp
theorem ltS_ne {a b : ByteArray} (h : ltS a b = true) : a ≠ b := fun e => by
  rw [e, ltS_self] at h
  cases h
theorem ltS_or {a b : ByteArray} (h : ¬ ltS a b = true) (hne : a ≠ b) : ltS b a = true := ltS_nlt (by simpa using h) hne
theorem ltS_as {a b : ByteArray} (h : ltS a b = true) : ¬ ltS b a = true := fun h2 => by
  have := ltS_tr h h2
  rw [ltS_self] at this
  cases this
/-- Put twice at one key: the last one stays. -/
theorem putK_same (key : ByteArray) : ∀ ks : List ByteArray, putK (putK ks key) key = putK ks key
  | [] => by rw [putK_nil, putK_cons, ltS_self]; simp
  | k :: ks => by
    rw [putK_cons]
    split
    · rename_i h
      rw [putK_cons, if_pos h, putK_same key ks]
    · rename_i h
      split
      · rename_i h2
        rw [putK_cons, if_neg h, if_pos h2]
      · rw [putK_cons, ltS_self]
        simp
theorem putL_same {α : Type} (key : ByteArray) (x y : α) : ∀ (ks : List ByteArray) (l : List α), ks.length = l.length → putL (putK ks key) (putL ks l key x) key y = putL ks l key y
  | [], [], _ => by rw [putK_nil, putL_nil, putL_cons, ltS_self, putL_nil]; simp
  | [], _ :: _, h => by simp at h
  | _ :: _, [], h => by simp at h
  | k :: ks, a :: l, h => by
    rw [putK_cons, putL_cons, putL_cons]
    split
    · rename_i h1
      rw [putL_cons, if_pos h1, putL_same key x y ks l (by simpa using h)]
    · rename_i h1
      split
      · rename_i h2
        rw [putL_cons, if_neg h1, if_pos h2]
      · rw [putL_cons, ltS_self]
        simp
/-- Put at two keys, in either order. -/
theorem put_comm {α : Type} {a b : ByteArray} (hab : ltS a b = true) (x y : α) : ∀ (ks : List ByteArray) (l : List α), ks.length = l.length →
    putK (putK ks a) b = putK (putK ks b) a ∧ putL (putK ks a) (putL ks l a x) b y = putL (putK ks b) (putL ks l b y) a x
  | [], [], _ => by
    have h1 := ltS_as hab
    have h2 := ltS_ne hab
    simp only [putK_nil, putL_nil, putK_cons, putL_cons, if_pos hab, if_neg h1, if_neg (Ne.symm h2)]
    exact ⟨trivial, trivial⟩
  | [], _ :: _, h => by simp at h
  | _ :: _, [], h => by simp at h
  | k :: ks, u :: l, h => by
    have h1 := ltS_as hab
    have h2 := ltS_ne hab
    obtain ⟨i1, i2⟩ := put_comm hab x y ks l (by simpa using h)
    by_cases ka : ltS k a = true
    · have kb := ltS_tr ka hab
      simp only [putK_cons, putL_cons, if_pos ka, if_pos kb, i1, i2]
      exact ⟨trivial, trivial⟩
    · by_cases ea : k = a
      · subst ea
        simp only [putK_cons, putL_cons, if_neg ka, if_pos hab, if_true]
        exact ⟨trivial, trivial⟩
      · by_cases kb : ltS k b = true
        · simp only [putK_cons, putL_cons, if_neg ka, if_neg ea, if_pos kb, if_pos hab]
          exact ⟨trivial, trivial⟩
        · by_cases eb : k = b
          · subst eb
            simp only [putK_cons, putL_cons, if_neg ka, if_neg ea, if_neg kb, if_pos hab, if_true]
            exact ⟨trivial, trivial⟩
          · simp only [putK_cons, putL_cons, if_neg ka, if_neg ea, if_neg kb, if_neg eb, if_pos hab, if_neg h1, if_neg (Ne.symm h2)]
            exact ⟨trivial, trivial⟩
theorem putT_same (t : Tr) (h : t.keys.length = t.list.length) (key : ByteArray) (x y : Tr) : putT (putT t key x) key y = putT t key y := by
  show Tr.mk 6 0 ⟨#[]⟩ (putK (putK t.keys key) key) (putL (putK t.keys key) (putL t.keys t.list key x) key y) = _
  rw [putK_same, putL_same _ _ _ _ _ h]
  rfl
theorem putT_comm (t : Tr) (h : t.keys.length = t.list.length) {a b : ByteArray} (hab : a ≠ b) (x y : Tr) : putT (putT t a x) b y = putT (putT t b y) a x := by
  show Tr.mk 6 0 ⟨#[]⟩ (putK (putK t.keys a) b) (putL (putK t.keys a) (putL t.keys t.list a x) b y) = Tr.mk 6 0 ⟨#[]⟩ (putK (putK t.keys b) a) (putL (putK t.keys b) (putL t.keys t.list b y) a x)
  by_cases h1 : ltS a b = true
  · obtain ⟨e1, e2⟩ := put_comm h1 x y t.keys t.list h
    rw [e1, e2]
  · obtain ⟨e1, e2⟩ := put_comm (ltS_or h1 hab) y x t.keys t.list h
    rw [e1, e2]
theorem put_find {α : Type} (key : ByteArray) (x : α) : ∀ (ks : List ByteArray) (l : List α), ks.length = l.length → (putL ks l key x)[(putK ks key).findIdx (fun y => decide (y = key))]? = some x ∧ (putK ks key).findIdx (fun y => decide (y = key)) < (putK ks key).length
  | [], [], _ => by rw [putK_nil, putL_nil]; simp
  | [], _ :: _, h => by simp at h
  | _ :: _, [], h => by simp at h
  | k :: ks, u :: l, h => by
    obtain ⟨i1, i2⟩ := put_find key x ks l (by simpa using h)
    rw [putK_cons, putL_cons]
    split
    · rename_i h1
      have h2 := ltS_ne h1
      rw [List.findIdx_cons]
      simp [h2, i1, i2]
    · split
      · rename_i h2
        rw [List.findIdx_cons]
        simp [h2]
      · rw [List.findIdx_cons]
        simp
theorem put_get {t : Tr} (h : t.keys.length = t.list.length) (key : ByteArray) (x : Tr) : getT (putT t key x) key = some x := by
  obtain ⟨i1, i2⟩ := put_find key x t.keys t.list h
  have hz : keyZ (putK t.keys key) key = (((putK t.keys key).findIdx (fun y => decide (y = key)) : Nat) : Int) := by unfold keyZ; rw [if_pos i2]
  unfold getT
  rw [if_neg (by show ¬ (6 : Int) = 0; omega), if_neg (by show ¬ (6 : Int) ≠ 6; omega)]
  have e1 : (putT t key x).keys = putK t.keys key := rfl
  have e2 : (putT t key x).list = putL t.keys t.list key x := rfl
  have hlt : (putK t.keys key).findIdx (fun y => decide (y = key)) < (putL t.keys t.list key x).length := by
    rw [← put_len2 h]; exact i2
  rw [dif_pos (by rw [e1, e2, hz]; exact ⟨by omega, by simpa using hlt⟩)]
  have e3 : (keyZ (putT t key x).keys key).toNat = (putK t.keys key).findIdx (fun y => decide (y = key)) := by rw [e1, hz]; simp
  rw [List.getElem?_eq_getElem hlt] at i1
  rw [← i1]
  congr 1
  simp only [e3]
  rfl
theorem putR_some {t x : Tr} {key : ByteArray} {r : Option Tr} (hr : r = putR t key x) (h : r.isSome = true) : putC t x key = true ∧ r = some (putT t key x) ∧ okT (putT t key x) = true := by
  subst hr
  unfold putR at h ⊢
  split at h
  · rename_i h1
    unfold toldR at h ⊢
    rw [if_pos h1]
    split at h
    · rename_i h2
      exact ⟨h1, if_pos h2, by simpa using h2⟩
    · cases h
  · cases h
theorem putR_ok (t : Tr) (key : ByteArray) (x : Tr) : okT ((putR t key x).getD zeroT) = true := by
  unfold putR
  split
  · exact toldR_ok _ _
  · exact okT_zeroT
theorem putC_of {t x : Tr} {key : ByteArray} (h1 : okT t = true) (h2 : okT x = true) (h3 : okS key = true) (h4 : t.kind = 0 ∨ t.kind = 6) : putC t x key = true := by
  unfold putC
  rw [h1, h2, h3]
  rcases h4 with h | h <;> simp [h]
theorem putR_of {t x : Tr} {key : ByteArray} (h : putC t x key = true) : putR t key x = toldR true (putT t key x) := by unfold putR; rw [if_pos h]
theorem partGet_put {t x : Tr} {key : ByteArray} (hc : putC t x key = true) (ho : okT (putT t key x) = true) : partGetR (putT t key x) key = some x := by
  obtain ⟨h1, h2, h3, h4⟩ := putC_facts hc
  unfold partGetR
  rw [ho, h3, Bool.and_self, if_pos rfl, put_get (put_len h1 h4)]


theorem addKL_nf : ∀ (K : List ByteArray) (L : List Tr) (a : List ByteArray) (b : List Tr), a.length = b.length → addKL K L a b = .mk 6 0 ⟨#[]⟩ (addKL K L a b).keys (addKL K L a b).list ∧ (addKL K L a b).keys.length = (addKL K L a b).list.length
  | [], L, a, b, h => by rw [addKL]; exact ⟨rfl, h⟩
  | _ :: _, [], a, b, h => by rw [addKL]; exact ⟨rfl, h⟩
  | k :: K, x :: L, a, b, h => by rw [addKL]; exact addKL_nf K L _ _ (put_len2 h)
theorem addKL_swap {k : ByteArray} (x : Tr) : ∀ (K : List ByteArray) (L : List Tr) (a : List ByteArray) (b : List Tr), K.length = L.length → a.length = b.length → k ∉ K → addKL K L (putK a k) (putL a b k x) = putT (addKL K L a b) k x
  | [], [], a, b, _, _, _ => by rw [addKL, addKL]; rfl
  | [], _ :: _, _, _, h, _, _ => by simp at h
  | _ :: _, [], _, _, h, _, _ => by simp at h
  | k0 :: K, x0 :: L, a, b, h, hab, hk => by
    have hne : k ≠ k0 := fun e => hk (by simp [e])
    rw [addKL, addKL]
    have e : putK (putK a k) k0 = putK (putK a k0) k ∧ putL (putK a k) (putL a b k x) k0 x0 = putL (putK a k0) (putL a b k0 x0) k x := by
      by_cases h1 : ltS k k0 = true
      · exact put_comm h1 x x0 a b hab
      · have h2 := put_comm (ltS_or h1 hne) x0 x a b hab
        exact ⟨h2.1.symm, h2.2.symm⟩
    rw [e.1, e.2]
    exact addKL_swap x K L _ _ (by simpa using h) (put_len2 hab) fun e => hk (by simp [e])
theorem addKL_put {k : ByteArray} (x : Tr) : ∀ (K : List ByteArray) (L : List Tr) (a : List ByteArray) (b : List Tr), K.length = L.length → a.length = b.length → List.Pairwise (fun x y => ltS x y = true) K → addKL (putK K k) (putL K L k x) a b = putT (addKL K L a b) k x
  | [], [], a, b, _, _, _ => by rw [putK_nil, putL_nil, addKL, addKL, addKL]; rfl
  | [], _ :: _, _, _, h, _, _ => by simp at h
  | _ :: _, [], _, _, h, _, _ => by simp at h
  | k0 :: K, x0 :: L, a, b, h, hab, hpw => by
    rw [List.pairwise_cons] at hpw
    have hl : K.length = L.length := by simpa using h
    rw [putK_cons, putL_cons]
    by_cases h1 : ltS k0 k = true
    · rw [if_pos h1, if_pos h1, addKL, addKL]
      exact addKL_put x K L _ _ hl (put_len2 hab) hpw.2
    · rw [if_neg h1, if_neg h1]
      by_cases h2 : k0 = k
      · subst h2
        have hn : k0 ∉ K := fun hm => ltS_ne (hpw.1 k0 hm) rfl
        rw [if_pos rfl, if_pos rfl, addKL, addKL, ← addKL_swap x K L _ _ hl (put_len2 hab) hn, putK_same, putL_same _ _ _ _ _ hab]
      · have hlt := ltS_or h1 h2
        have hn : k ∉ k0 :: K := fun hm => by
          rcases List.mem_cons.1 hm with e | hm
          · exact h2 e.symm
          · exact ltS_ne (ltS_tr hlt (hpw.1 k hm)) rfl
        rw [if_neg h2, if_neg h2, addKL]
        exact addKL_swap x (k0 :: K) (x0 :: L) a b h hab hn
theorem pw_of {K : List ByteArray} (h : Sorted K) : List.Pairwise (fun x y => ltS x y = true) K := by
  rw [List.pairwise_iff_getElem]
  intro i j hi hj hij
  have := h.lt j i hij hj
  rwa [nth_eq hi, nth_eq hj] at this
theorem addKL_assoc : ∀ (C : List ByteArray) (CL : List Tr) (B : List ByteArray) (BL : List Tr) (a : List ByteArray) (b : List Tr), C.length = CL.length → B.length = BL.length → a.length = b.length → Sorted B →
    addKL (addKL C CL B BL).keys (addKL C CL B BL).list a b = addKL C CL (addKL B BL a b).keys (addKL B BL a b).list
  | [], [], B, BL, a, b, _, _, hab, _ => by
    rw [addKL, addKL]
    exact (addKL_nf B BL a b hab).1
  | [], _ :: _, _, _, _, _, h, _, _, _ => by simp at h
  | _ :: _, [], _, _, _, _, h, _, _, _ => by simp at h
  | c :: C, y :: CL, B, BL, a, b, h, hB, hab, hs => by
    rw [addKL, addKL_assoc C CL _ _ a b (by simpa using h) (put_len2 hB) hab (putK_sorted hs), addKL_put y B BL a b hB hab (pw_of hs), addKL]
    rfl

/-- The sum, whether it is small enough or not. -/
def addP (t u : Tr) : Option Tr := if t.kind = 0 then some u else if u.kind = 0 then some t else if t.kind ≠ u.kind then none else if t.kind = 3 then some (numT (t.num + u.num)) else if t.kind = 4 then some (strT' (t.str ++ u.str)) else if t.kind = 5 then some (.mk 5 0 ⟨#[]⟩ [] (t.list ++ u.list)) else if t.kind = 6 then some (addKL u.keys u.list t.keys t.list) else none
theorem addR_addP {t u : Tr} (h : okT t = true) (h' : okT u = true) : addR t u = (addP t u).bind (toldR true) := by
  unfold addR addP
  rw [if_neg (by rw [h, h']; simp)]
  repeat' split
  all_goals rfl
theorem addR_some {t u : Tr} {r : Option Tr} (hr : r = addR t u) (h : r.isSome = true) : okT t = true ∧ okT u = true ∧ ∃ x, addP t u = some x ∧ r = some x ∧ okT x = true := by
  subst hr
  by_cases ho : okT t = true ∧ okT u = true
  · refine ⟨ho.1, ho.2, ?_⟩
    rw [addR_addP ho.1 ho.2] at h ⊢
    cases hx : addP t u with
    | none => rw [hx] at h; cases h
    | some x =>
      rw [hx] at h
      have h2 : (toldR true x).isSome = true := h
      unfold toldR at h2
      split at h2
      · rename_i h3
        refine ⟨x, rfl, ?_, by simpa using h3⟩
        show toldR true x = some x
        unfold toldR
        rw [if_pos h3]
      · cases h2
  · unfold addR at h
    rw [if_pos ho] at h
    cases h
theorem str_app (a b c : ByteArray) : a ++ b ++ c = a ++ (b ++ c) := ByteArray.append_assoc
theorem addP_assoc {a b c x q p r : Tr} (ha : okT a = true) (hb : okT b = true) (hc : okT c = true) (h1 : addP a b = some x) (h2 : addP b c = some q) (h3 : addP x c = some p) (h4 : addP a q = some r) : p = r := by
  by_cases a0 : a.kind = 0
  · unfold addP at h1 h4
    rw [if_pos a0] at h1 h4
    obtain rfl := Option.some.inj h1
    obtain rfl := Option.some.inj h4
    rw [h2] at h3
    exact (Option.some.inj h3).symm
  by_cases b0 : b.kind = 0
  · unfold addP at h1 h2
    rw [if_neg a0, if_pos b0] at h1
    rw [if_pos b0] at h2
    obtain rfl := Option.some.inj h1
    obtain rfl := Option.some.inj h2
    rw [h3] at h4
    exact Option.some.inj h4
  by_cases c0 : c.kind = 0
  · have e2 : q = b := by
      unfold addP at h2
      rw [if_neg b0, if_pos c0] at h2
      exact (Option.some.inj h2).symm
    subst e2
    rw [h1] at h4
    obtain rfl := Option.some.inj h4
    have hx : ∀ y, addP y c = some p → y = p ∨ (y.kind = 0 ∧ p = c) := fun y hy => by
      unfold addP at hy
      split at hy
      · rename_i hk; exact .inr ⟨hk, (Option.some.inj hy).symm⟩
      · first | exact .inl (Option.some.inj hy) | (rw [if_pos c0] at hy; exact .inl (Option.some.inj hy))
    rcases hx x h3 with e | ⟨e, -⟩
    · exact e.symm
    · exfalso
      unfold addP at h1
      rw [if_neg a0, if_neg b0] at h1
      split at h1
      · cases h1
      · repeat' split at h1
        all_goals first
          | (cases h1; done)
          | (obtain rfl := Option.some.inj h1; revert e; first | (show ¬ (3 : Int) = 0; omega) | (show ¬ (4 : Int) = 0; omega) | (show ¬ (5 : Int) = 0; omega) | (rw [(addKL_nf _ _ _ _ (okT_len ha (by assumption))).1]; show ¬ (6 : Int) = 0; omega))
  unfold addP at h1 h2
  rw [if_neg a0, if_neg b0] at h1
  rw [if_neg b0, if_neg c0] at h2
  by_cases hab : a.kind = b.kind
  case neg => rw [if_pos hab] at h1; cases h1
  by_cases hbc : b.kind = c.kind
  case neg => rw [if_pos hbc] at h2; cases h2
  rw [if_neg (fun h => h hab)] at h1
  rw [if_neg (fun h => h hbc)] at h2
  by_cases k3 : a.kind = 3
  · rw [if_pos k3] at h1
    rw [if_pos (by omega)] at h2
    obtain rfl := Option.some.inj h1
    obtain rfl := Option.some.inj h2
    unfold addP at h3 h4
    rw [if_neg (by show ¬ (3 : Int) = 0; omega), if_neg c0, if_neg (fun h => h (by show (3 : Int) = _; omega)), if_pos (by rfl)] at h3
    rw [if_neg a0, if_neg (by show ¬ (3 : Int) = 0; omega), if_neg (fun h => h (by show _ = (3 : Int); omega)), if_pos k3] at h4
    obtain rfl := Option.some.inj h3
    obtain rfl := Option.some.inj h4
    show numT (a.num + b.num + c.num) = numT (a.num + (b.num + c.num))
    rw [Int.add_assoc]
  rw [if_neg k3] at h1
  rw [if_neg (by omega)] at h2
  by_cases k4 : a.kind = 4
  · rw [if_pos k4] at h1
    rw [if_pos (by omega)] at h2
    obtain rfl := Option.some.inj h1
    obtain rfl := Option.some.inj h2
    unfold addP at h3 h4
    rw [if_neg (by show ¬ (4 : Int) = 0; omega), if_neg c0, if_neg (fun h => h (by show (4 : Int) = _; omega)), if_neg (by show ¬ (4 : Int) = 3; omega), if_pos (by rfl)] at h3
    rw [if_neg a0, if_neg (by show ¬ (4 : Int) = 0; omega), if_neg (fun h => h (by show _ = (4 : Int); omega)), if_neg k3, if_pos k4] at h4
    obtain rfl := Option.some.inj h3
    obtain rfl := Option.some.inj h4
    show strT' (a.str ++ b.str ++ c.str) = strT' (a.str ++ (b.str ++ c.str))
    rw [str_app]
  rw [if_neg k4] at h1
  rw [if_neg (by omega)] at h2
  by_cases k5 : a.kind = 5
  · rw [if_pos k5] at h1
    rw [if_pos (by omega)] at h2
    obtain rfl := Option.some.inj h1
    obtain rfl := Option.some.inj h2
    unfold addP at h3 h4
    rw [if_neg (by show ¬ (5 : Int) = 0; omega), if_neg c0, if_neg (fun h => h (by show (5 : Int) = _; omega)), if_neg (by show ¬ (5 : Int) = 3; omega), if_neg (by show ¬ (5 : Int) = 4; omega), if_pos (by rfl)] at h3
    rw [if_neg a0, if_neg (by show ¬ (5 : Int) = 0; omega), if_neg (fun h => h (by show _ = (5 : Int); omega)), if_neg k3, if_neg k4, if_pos k5] at h4
    obtain rfl := Option.some.inj h3
    obtain rfl := Option.some.inj h4
    show Tr.mk 5 0 ⟨#[]⟩ [] (a.list ++ b.list ++ c.list) = Tr.mk 5 0 ⟨#[]⟩ [] (a.list ++ (b.list ++ c.list))
    rw [List.append_assoc]
  rw [if_neg k5] at h1
  rw [if_neg (by omega)] at h2
  by_cases k6 : a.kind = 6
  · rw [if_pos k6] at h1
    rw [if_pos (by omega)] at h2
    obtain rfl := Option.some.inj h1
    obtain rfl := Option.some.inj h2
    have la := okT_len ha k6
    have lb := okT_len hb (by omega)
    have lc := okT_len hc (by omega)
    have kx : (addKL b.keys b.list a.keys a.list).kind = 6 := by rw [(addKL_nf _ _ _ _ la).1]; rfl
    have kq : (addKL c.keys c.list b.keys b.list).kind = 6 := by rw [(addKL_nf _ _ _ _ lb).1]; rfl
    unfold addP at h3 h4
    rw [if_neg (by omega), if_neg c0, if_neg (fun h => h (by omega)), if_neg (by omega), if_neg (by omega), if_neg (by omega), if_pos kx] at h3
    rw [if_neg a0, if_neg (by omega), if_neg (fun h => h (by omega)), if_neg k3, if_neg k4, if_neg k5, if_pos k6] at h4
    obtain rfl := Option.some.inj h3
    obtain rfl := Option.some.inj h4
    exact (addKL_assoc c.keys c.list b.keys b.list a.keys a.list lc lb la (okT_sorted hb)).symm
  · rw [if_neg k6] at h1
    cases h1
theorem unit_r {t : Tr} {r : Option Tr} (hr : r = addR t (.mk 0 0 ⟨#[]⟩ [] [])) (h : okT t = true) : r = some t := by
  have hz : okT (Tr.mk 0 0 ⟨#[]⟩ [] []) = true := okT_zeroT
  rw [hr, addR_addP h hz]
  unfold addP
  by_cases h0 : t.kind = 0
  · rw [if_pos h0, okT_zero h h0]
    exact toldR_true okT_zeroT
  · rw [if_neg h0, if_pos (by rfl)]
    exact toldR_true h
theorem unit_l {t : Tr} {r : Option Tr} (hr : r = addR (.mk 0 0 ⟨#[]⟩ [] []) t) (h : okT t = true) : r = some t := by
  have hz : okT (Tr.mk 0 0 ⟨#[]⟩ [] []) = true := okT_zeroT
  rw [hr, addR_addP hz h]
  unfold addP
  rw [if_pos (by rfl)]
  exact toldR_true h
theorem no88 {t : Tr} {r2 r3 : Option Tr} (h2 : r2 = some t) (h3 : r3 = some t) (h : ((((!r2.isSome || !r3.isSome) || !decide (r2.getD zeroT = t))) || !decide (r3.getD zeroT = t)) = true) : False := by
  subst h2 h3
  simp at h
theorem none14 {r : Option Tr} (h : (!r.isSome) = true) : ((r.getD zeroT).kind == 0) = true := by
  cases r with
  | none => rfl
  | some x => simp at h
theorem no_ok {t u : Tr} {r : Option Tr} (hr : r = addR t u) (hno : okT t = false) (h : (!r.isSome) = false) : False := by
  have h2 := addR_some hr (by simpa using h)
  rw [h2.1] at hno
  cases hno
theorem fin {a b c : Tr} {r1 r4 r5 r6 : Option Tr} (hr1 : r1 = addR a b) (h1 : r1.isSome = true) (hr4 : r4 = addR (r1.getD zeroT) c) (hr5 : r5 = addR b c) (hr6 : r6 = addR a (r5.getD zeroT)) :
    ((okT (r1.getD zeroT) && (((!r4.isSome || !r5.isSome) || !r6.isSome) || decide (r4.getD zeroT = r6.getD zeroT))) && (((a.kind != 3) || (b.kind != 3)) || ((r1.getD zeroT).num == a.num + b.num))) = true := by
  obtain ⟨oa, ob, x, hx, e1, ox⟩ := addR_some hr1 h1
  rw [e1] at hr4 ⊢
  have hr4' : r4 = addR x c := hr4
  have q1 : okT ((some x).getD zeroT) = true := ox
  have q3 : (((a.kind != 3) || (b.kind != 3)) || (((some x).getD zeroT).num == a.num + b.num)) = true := by
    by_cases ka : a.kind = 3
    · by_cases kb : b.kind = 3
      · have : x = numT (a.num + b.num) := by
          unfold addP at hx
          rw [if_neg (by omega), if_neg (by omega), if_neg (by omega), if_pos ka] at hx
          exact (Option.some.inj hx).symm
        subst this
        simp [ka, kb]
        rfl
      · simp [kb]
    · simp [ka]
  rw [q1, q3, Bool.true_and, Bool.and_true]
  cases h4 : r4.isSome
  · rfl
  cases h5 : r5.isSome
  · rfl
  cases h6 : r6.isSome
  · rfl
  obtain ⟨-, oc, p, hp, e4, -⟩ := addR_some hr4' h4
  obtain ⟨-, -, q, hq, e5, oq⟩ := addR_some hr5 h5
  rw [e5] at hr6
  obtain ⟨-, -, r, hrr, e6, -⟩ := addR_some (show r6 = addR a q from hr6) h6
  have := addP_assoc oa ob oc hx hq hp hrr
  rw [e4, e6, this]
  simp

set_option maxHeartbeats 4000000 in
set_option maxRecDepth 100000 in
theorem walk (code more : List UInt8) (v u : Value) (w : World) (hp : RepE bCells 1 Any w code v) (hq : RepE bCells 1 Any w more u) :
    Calls Try.prog 8 #[v, u] w fun e w' => e = .returned (.bool true) ∧ Chg No w w' := by
  obtain ⟨A, c, rfl, -⟩ := hp.open
  obtain ⟨B, d, rfl, -⟩ := hq.open
  refine enter Try.func8 rfl rfl rfl ?_
  have F0 := Fr.start w
  refine Cod.seq fun K1 hK1 => ?_
  refine Cod.region ?_
  refine Ops.step (One.val rfl rfl rfl (yld_assign rfl ev_c) ?_)
  refine Ops.nil fun a hS => ?_
  refine hK1 _ _ ?_ a hS
  refine Cod.seq fun K2 hK2 => ?_
  refine Cod.seq fun K3 hK3 => ?_
  refine Cod.region ?_
  refine Ops.step (One.val rfl rfl rfl (yld_move rfl (ev_t rfl)) ?_)
  refine Ops.step (One.val rfl rfl rfl (yld_len sl45 rfl (ev_t rfl)) ?_)
  refine Ops.step (One.val rfl rfl rfl (yld_gtr rfl (ev_t rfl) ev_c) ?_)
  refine Ops.step (One.val rfl rfl rfl (yld_move rfl (ev_t rfl)) ?_)
  refine Ops.step (One.val (gd_some rfl rfl) rfl rfl (yld_move rfl (ev_t rfl)) ?_)
  refine Ops.step (One.val (gd_some rfl rfl) rfl rfl (yld_len sl45 rfl (ev_g rfl)) ?_)
  refine Ops.step (One.val (gd_some rfl rfl) rfl rfl (yld_gtr rfl (ev_g rfl) ev_c) ?_)
  refine Ops.step (One.val rfl rfl rfl (yld_or rfl (ev_t rfl) (ev_g rfl)) ?_)
  refine Ops.nil fun a hS => ?_
  refine hK3 _ _ ?_ a hS
  refine Cod.cond rfl (fun hc30 => ?_) (fun hc30 => ?_)
  · skip
    refine Cod.seq fun K4 hK4 => ?_
    refine Cod.region ?_
    refine Ops.step (One.val rfl rfl rfl (yld_assign rfl ev_c) ?_)
    refine Ops.nil fun a hS => ?_
    refine hK4 _ _ ?_ a hS
    refine Cod.ret fun a hS => ?_
    try simp only [Exit.then, Exit.inBlock]
    exact ret1 (t := 4) rfl hS rfl ⟨rfl, F0.chg⟩
  · skip
    refine Cod.skip fun a hS => ?_
    refine hK2 _ _ ?_ a hS
    refine Cod.seq fun K5 hK5 => ?_
    refine Cod.region ?_
    refine Ops.step (One.val rfl rfl rfl (yld_move rfl (ev_t rfl)) ?_)
    refine Ops.step (One.call rfl rfl rfl (ent_f rfl (evl1 (ev_t rfl)) (enters en39)) (drawAdd_ct code _ _ (hp.chg F0.chg)) (fun e w1 hw1 => ?_))
    obtain ⟨xa, xb, ta, tb, rfl, C1, hrsa, hda, hdb⟩ := hw1
    have hwa := hda.wt
    have hwb := hdb.wt
    obtain ⟨Grsa, hGa⟩ : ∃ G, G = New w w1 := ⟨_, rfl⟩
    rw [← hGa] at hrsa
    obtain ⟨A3a, c3a, A4a, c4a, hxa⟩ := rep_x (rps_get hrsa 0 rfl)
    obtain ⟨A3b, c3b, A4b, c4b, hxb⟩ := rep_x (rps_get hrsa 1 rfl)
    subst hxa
    subst hxb
    have F1 := F0.new C1 (rps Grsa [(ta, (x5 ta.kind ta.num ta.str (.slice A3a ta.keys.length c3a) (.slice A4a ta.list.length c4a)).val), (tb, (x5 tb.kind tb.num tb.str (.slice A3b tb.keys.length c3b) (.slice A4b tb.list.length c4b)).val)]) hrsa (by rw [hGa]; exact New.new)
    refine ⟨_, rfl, ?_⟩
    refine Ops.step (One.val rfl rfl rfl (yld_move rfl (ev_t rfl)) ?_)
    refine Ops.step (One.val rfl rfl rfl (yld_extract rfl (ev_t rfl) rfl) ?_)
    refine Ops.step (One.val rfl rfl rfl (yld_extract rfl (ev_t rfl) rfl) ?_)
    refine Ops.step (One.alloc F1 zero31 rfl rfl rfl rfl ?_)
    intro b1 w2 hb1 F2
    change Fr _ _ [blk _ _ [_, _, _, _, _], _] _ at F2
    refine Ops.step (One.alloc F2 zero31 rfl rfl rfl rfl ?_)
    intro b2 w3 hb2 F3
    change Fr _ _ [blk _ _ [_, _, _, _, _], blk _ _ [_, _, _, _, _], _] _ at F3
    refine Ops.step (One.storeN (vs := [_, _, _, _, _]) F3 1 rfl sz31 rfl rfl rfl (ev_t rfl) (ev_t rfl) rfl rfl (rps_oneC (F3.get 2 rfl) 0 rfl) ?_)
    intro w4 F4
    change Fr _ _ [blk _ _ [_, _, _, _, _], blk _ _ [_, _, _, _, _], _] _ at F4
    refine Ops.step (One.storeN (vs := [_, _, _, _, _]) F4 0 rfl sz31 rfl rfl rfl (ev_t rfl) (ev_t rfl) rfl rfl (rps_oneC (F4.get 2 rfl) 1 rfl) ?_)
    intro w5 F5
    change Fr _ _ [blk _ _ [_, _, _, _, _], blk _ _ [_, _, _, _, _], _] _ at F5
    refine Ops.nil fun a hS => ?_
    refine hK5 _ _ ?_ a hS
    refine Cod.seq fun K6 hK6 => ?_
    refine Cod.region ?_
    refine Ops.step (One.val rfl rfl rfl (yld_loadN ag31 rfl (ev_t rfl) (fun _ => F5.range (m := 5) (cs' := [_, _, _, _, _]) 1 rfl rfl) rfl) ?_)
    refine Ops.step (One.val rfl rfl rfl (yld_loadN ag31 rfl (ev_t rfl) (fun _ => F5.range (m := 5) (cs' := [_, _, _, _, _]) 0 rfl rfl) rfl) ?_)
    refine Ops.step (One.call rfl rfl rfl (ent_f rfl (evl2 (ev_t rfl) (ev_t rfl)) (enters en40)) (partAdd_ct ta tb _ _ _ (rps_get (F5.get 2 rfl) 0 rfl) (rps_get (F5.get 2 rfl) 1 rfl) hda.fit hdb.fit (by omega) (by omega)) (fun e w6 hw6 => ?_))
    obtain ⟨R1, hR1⟩ : ∃ R, R = addR ta tb := ⟨_, rfl⟩
    have hO1 : okT (R1.getD zeroT) = true := by rw [hR1]; exact addR_ok ta tb
    rw [← hR1] at hw6
    obtain ⟨e1, E1, rfl, C6, hE1, hEb1⟩ := hw6
    obtain ⟨A3e1, c3e1, A4e1, c4e1, hxe1⟩ := rep_x hE1.rep
    subst hxe1
    have F6 := F5.new C6 (sep E1 (R1.getD zeroT) (x5 (R1.getD zeroT).kind (R1.getD zeroT).num (R1.getD zeroT).str (.slice A3e1 (R1.getD zeroT).keys.length c3e1) (.slice A4e1 (R1.getD zeroT).list.length c4e1)).val) hE1 hEb1
    refine ⟨_, rfl, ?_⟩
    refine Ops.step (One.val rfl rfl rfl (yld_move rfl (ev_t rfl)) ?_)
    refine Ops.step (One.val rfl rfl rfl (yld_extract rfl (ev_t rfl) rfl) ?_)
    refine Ops.step (One.val rfl rfl rfl (yld_extract rfl (ev_t rfl) rfl) ?_)
    refine Ops.step (One.alloc F6 zero31 rfl rfl rfl rfl ?_)
    intro b3 w7 hb3 F7
    change Fr _ _ [blk _ _ [_, _, _, _, _], _, blk _ _ [_, _, _, _, _], blk _ _ [_, _, _, _, _], _] _ at F7
    refine Ops.step (One.storeN (vs := [_, _, _, _, _]) F7 0 rfl sz31 rfl rfl rfl (ev_t rfl) (ev_t rfl) rfl rfl (Sep.one (x := (x5 (R1.getD zeroT).kind (R1.getD zeroT).num (R1.getD zeroT).str (.slice A3e1 (R1.getD zeroT).keys.length c3e1) (.slice A4e1 (R1.getD zeroT).list.length c4e1))) (F7.get 1 rfl)) ?_)
    intro w8 F8
    change Fr _ _ [blk _ _ [_, _, _, _, _], _, blk _ _ [_, _, _, _, _], blk _ _ [_, _, _, _, _], _] _ at F8
    refine Ops.step (One.val rfl rfl rfl (yld_assign rfl (ev_t rfl)) ?_)
    refine Ops.nil fun a hS => ?_
    refine hK6 _ _ ?_ a hS
    refine Cod.seq fun K7 hK7 => ?_
    refine Cod.region ?_
    refine Ops.step (One.val rfl rfl rfl (yld_loadN ag31 rfl (ev_t rfl) (fun _ => F8.range (m := 5) (cs' := [_, _, _, _, _]) 3 rfl rfl) rfl) ?_)
    refine Ops.step (One.val rfl rfl rfl (yld_loadN ag31 rfl (ev_t rfl) (fun _ => F8.range (m := 5) (cs' := [_, _, _, _, _]) 2 rfl rfl) rfl) ?_)
    refine Ops.step (One.call rfl rfl rfl (ent_f rfl (evl2 (ev_t rfl) (ev_t rfl)) (enters en41)) (specPartAdd_ct ta tb _ _ _ (rps_get (F8.get 4 rfl) 0 rfl) (rps_get (F8.get 4 rfl) 1 rfl) hda.fit hdb.fit (by omega) (by omega)) (fun e w9 hw9 => ?_))
    rw [← hR1] at hw9
    obtain ⟨e2, E2, rfl, C9, hE2, hEb2⟩ := hw9
    obtain ⟨A3e2, c3e2, A4e2, c4e2, hxe2⟩ := rep_x hE2.rep
    subst hxe2
    have F9 := F8.new C9 (sep E2 (R1.getD zeroT) (x5 (R1.getD zeroT).kind (R1.getD zeroT).num (R1.getD zeroT).str (.slice A3e2 (R1.getD zeroT).keys.length c3e2) (.slice A4e2 (R1.getD zeroT).list.length c4e2)).val) hE2 hEb2
    refine ⟨_, rfl, ?_⟩
    refine Ops.step (One.val rfl rfl rfl (yld_move rfl (ev_t rfl)) ?_)
    refine Ops.step (One.val rfl rfl rfl (yld_extract rfl (ev_t rfl) rfl) ?_)
    refine Ops.step (One.val rfl rfl rfl (yld_extract rfl (ev_t rfl) rfl) ?_)
    refine Ops.step (One.alloc F9 zero31 rfl rfl rfl rfl ?_)
    intro b4 w10 hb4 F10
    change Fr _ _ [blk _ _ [_, _, _, _, _], _, blk _ _ [_, _, _, _, _], _, blk _ _ [_, _, _, _, _], blk _ _ [_, _, _, _, _], _] _ at F10
    refine Ops.step (One.storeN (vs := [_, _, _, _, _]) F10 0 rfl sz31 rfl rfl rfl (ev_t rfl) (ev_t rfl) rfl rfl (Sep.one (x := (x5 (R1.getD zeroT).kind (R1.getD zeroT).num (R1.getD zeroT).str (.slice A3e2 (R1.getD zeroT).keys.length c3e2) (.slice A4e2 (R1.getD zeroT).list.length c4e2))) (F10.get 1 rfl)) ?_)
    intro w11 F11
    change Fr _ _ [blk _ _ [_, _, _, _, _], _, blk _ _ [_, _, _, _, _], _, blk _ _ [_, _, _, _, _], blk _ _ [_, _, _, _, _], _] _ at F11
    refine Ops.step (One.val rfl rfl rfl (yld_assign rfl (ev_t rfl)) ?_)
    refine Ops.nil fun a hS => ?_
    refine hK7 _ _ ?_ a hS
    refine Cod.seq fun K8 hK8 => ?_
    refine Cod.seq fun K9 hK9 => ?_
    refine Cod.region ?_
    refine Ops.step (One.val rfl rfl rfl (yld_move rfl (ev_t rfl)) ?_)
    refine Ops.step (One.val rfl rfl rfl (yld_move rfl (ev_t rfl)) ?_)
    refine Ops.step (One.val rfl rfl rfl (yld_bneq Try.underlying4 rfl (ev_t rfl) (ev_t rfl)) ?_)
    refine Ops.step (One.val rfl rfl rfl (yld_move rfl (ev_t rfl)) ?_)
    refine Ops.step (One.val (gd_some rfl rfl) rfl rfl (yld_loadN ag31 rfl (ev_t rfl) (fun _ => F11.range (m := 5) (cs' := [_, _, _, _, _]) 2 rfl rfl) rfl) ?_)
    refine Ops.step (One.val (gd_some rfl rfl) rfl rfl (yld_loadN ag31 rfl (ev_t rfl) (fun _ => F11.range (m := 5) (cs' := [_, _, _, _, _]) 0 rfl rfl) rfl) ?_)
    refine Ops.step (One.gcall (R := Chg No w11) (gd_some rfl rfl) rfl rfl (ent_f rfl (evl2 (ev_g rfl) (ev_g rfl)) (enters en27)) (Chg.refl _ _) (fun hg => valSame_ct (R1.getD zeroT) (R1.getD zeroT) _ _ _ (F11.get 3 rfl).rep (F11.get 1 rfl).rep) ?_)
    intro w12 C12
    have F12 := F11.call C12
    refine Ops.step (One.val (gd_some rfl rfl) rfl rfl (yld_not rfl (ev_g rfl)) ?_)
    refine Ops.step (One.val rfl rfl rfl (yld_or rfl (ev_t rfl) (ev_g rfl)) ?_)
    refine Ops.nil fun a hS => ?_
    refine hK9 _ _ ?_ a hS
    refine Cod.cond rfl (fun hc56 => ?_) (fun hc56 => ?_)
    · skip
      simp at hc56
    · skip
      refine Cod.skip fun a hS => ?_
      refine hK8 _ _ ?_ a hS
      refine Cod.seq fun K10 hK10 => ?_
      refine Cod.seq fun K11 hK11 => ?_
      refine Cod.region ?_
      refine Ops.step (One.val rfl rfl rfl (yld_loadN ag31 rfl (ev_t rfl) (fun _ => F12.range (m := 5) (cs' := [_, _, _, _, _]) 5 rfl rfl) rfl) ?_)
      refine Ops.step (One.call rfl rfl rfl (ent_f rfl (evl1 (ev_t rfl)) (enters en42)) (specOk_ct ta _ _ (rps_get (F12.get 6 rfl) 0 rfl) hda.fit (by omega)) (fun e w13 hw13 => ?_))
      obtain ⟨rfl, C13⟩ := hw13
      have F13 := F12.call C13
      refine ⟨_, rfl, ?_⟩
      refine Ops.nil fun a hS => ?_
      refine hK11 _ _ ?_ a hS
      refine Cod.cond rfl (fun hc58 => ?_) (fun hc58 => ?_)
      · skip
        have hoa : okT ta = true := hc58
        refine Cod.seq fun K12 hK12 => ?_
        refine Cod.region ?_
        refine Ops.step (One.val rfl rfl rfl (yld_loadN ag31 rfl (ev_t rfl) (fun _ => F13.range (m := 5) (cs' := [_, _, _, _, _]) 5 rfl rfl) rfl) ?_)
        refine Ops.step (One.val rfl rfl rfl (yld_build (cells := [.int .i64 0, .int .i64 0, .string ⟨#[]⟩, .slice none 0 0, .slice none 0 0]) rfl (evp0) (by kernel_rfl)) ?_)
        refine Ops.step (One.call rfl rfl rfl (ent_f rfl (evl2 (ev_t rfl) (ev_t rfl)) (enters en40)) (partAdd_ct ta (Tr.mk 0 0 ⟨#[]⟩ [] []) _ _ _ (rps_get (F13.get 6 rfl) 0 rfl) (rep_leaf _ 0 0 ⟨#[]⟩) hda.fit (leaf_fit 0 0 (by decide)) (by omega) (leaf_wt 0 0 (by decide))) (fun e w14 hw14 => ?_))
        obtain ⟨R2, hR2⟩ : ∃ R, R = addR ta (Tr.mk 0 0 ⟨#[]⟩ [] []) := ⟨_, rfl⟩
        have hO2 : okT (R2.getD zeroT) = true := by rw [hR2]; exact addR_ok ta (Tr.mk 0 0 ⟨#[]⟩ [] [])
        rw [← hR2] at hw14
        obtain ⟨e3, E3, rfl, C14, hE3, hEb3⟩ := hw14
        obtain ⟨A3e3, c3e3, A4e3, c4e3, hxe3⟩ := rep_x hE3.rep
        subst hxe3
        have F14 := F13.new C14 (sep E3 (R2.getD zeroT) (x5 (R2.getD zeroT).kind (R2.getD zeroT).num (R2.getD zeroT).str (.slice A3e3 (R2.getD zeroT).keys.length c3e3) (.slice A4e3 (R2.getD zeroT).list.length c4e3)).val) hE3 hEb3
        refine ⟨_, rfl, ?_⟩
        refine Ops.step (One.val rfl rfl rfl (yld_move rfl (ev_t rfl)) ?_)
        refine Ops.step (One.val rfl rfl rfl (yld_extract rfl (ev_t rfl) rfl) ?_)
        refine Ops.step (One.val rfl rfl rfl (yld_extract rfl (ev_t rfl) rfl) ?_)
        refine Ops.step (One.alloc F14 zero31 rfl rfl rfl rfl ?_)
        intro b5 w15 hb5 F15
        change Fr _ _ [blk _ _ [_, _, _, _, _], _, blk _ _ [_, _, _, _, _], _, blk _ _ [_, _, _, _, _], _, blk _ _ [_, _, _, _, _], blk _ _ [_, _, _, _, _], _] _ at F15
        refine Ops.step (One.storeN (vs := [_, _, _, _, _]) F15 0 rfl sz31 rfl rfl rfl (ev_t rfl) (ev_t rfl) rfl rfl (Sep.one (x := (x5 (R2.getD zeroT).kind (R2.getD zeroT).num (R2.getD zeroT).str (.slice A3e3 (R2.getD zeroT).keys.length c3e3) (.slice A4e3 (R2.getD zeroT).list.length c4e3))) (F15.get 1 rfl)) ?_)
        intro w16 F16
        change Fr _ _ [blk _ _ [_, _, _, _, _], _, blk _ _ [_, _, _, _, _], _, blk _ _ [_, _, _, _, _], _, blk _ _ [_, _, _, _, _], blk _ _ [_, _, _, _, _], _] _ at F16
        refine Ops.step (One.val rfl rfl rfl (yld_assign rfl (ev_t rfl)) ?_)
        refine Ops.nil fun a hS => ?_
        refine hK12 _ _ ?_ a hS
        refine Cod.seq fun K13 hK13 => ?_
        refine Cod.region ?_
        refine Ops.step (One.val rfl rfl rfl (yld_build (cells := [.int .i64 0, .int .i64 0, .string ⟨#[]⟩, .slice none 0 0, .slice none 0 0]) rfl (evp0) (by kernel_rfl)) ?_)
        refine Ops.step (One.val rfl rfl rfl (yld_loadN ag31 rfl (ev_t rfl) (fun _ => F16.range (m := 5) (cs' := [_, _, _, _, _]) 7 rfl rfl) rfl) ?_)
        refine Ops.step (One.call rfl rfl rfl (ent_f rfl (evl2 (ev_t rfl) (ev_t rfl)) (enters en40)) (partAdd_ct (Tr.mk 0 0 ⟨#[]⟩ [] []) ta _ _ _ (rep_leaf _ 0 0 ⟨#[]⟩) (rps_get (F16.get 8 rfl) 0 rfl) (leaf_fit 0 0 (by decide)) hda.fit (leaf_wt 0 0 (by decide)) (by omega)) (fun e w17 hw17 => ?_))
        obtain ⟨R3, hR3⟩ : ∃ R, R = addR (Tr.mk 0 0 ⟨#[]⟩ [] []) ta := ⟨_, rfl⟩
        have hO3 : okT (R3.getD zeroT) = true := by rw [hR3]; exact addR_ok (Tr.mk 0 0 ⟨#[]⟩ [] []) ta
        rw [← hR3] at hw17
        obtain ⟨e4, E4, rfl, C17, hE4, hEb4⟩ := hw17
        obtain ⟨A3e4, c3e4, A4e4, c4e4, hxe4⟩ := rep_x hE4.rep
        subst hxe4
        have F17 := F16.new C17 (sep E4 (R3.getD zeroT) (x5 (R3.getD zeroT).kind (R3.getD zeroT).num (R3.getD zeroT).str (.slice A3e4 (R3.getD zeroT).keys.length c3e4) (.slice A4e4 (R3.getD zeroT).list.length c4e4)).val) hE4 hEb4
        refine ⟨_, rfl, ?_⟩
        refine Ops.step (One.val rfl rfl rfl (yld_move rfl (ev_t rfl)) ?_)
        refine Ops.step (One.val rfl rfl rfl (yld_extract rfl (ev_t rfl) rfl) ?_)
        refine Ops.step (One.val rfl rfl rfl (yld_extract rfl (ev_t rfl) rfl) ?_)
        refine Ops.step (One.alloc F17 zero31 rfl rfl rfl rfl ?_)
        intro b6 w18 hb6 F18
        change Fr _ _ [blk _ _ [_, _, _, _, _], _, blk _ _ [_, _, _, _, _], _, blk _ _ [_, _, _, _, _], _, blk _ _ [_, _, _, _, _], _, blk _ _ [_, _, _, _, _], blk _ _ [_, _, _, _, _], _] _ at F18
        refine Ops.step (One.storeN (vs := [_, _, _, _, _]) F18 0 rfl sz31 rfl rfl rfl (ev_t rfl) (ev_t rfl) rfl rfl (Sep.one (x := (x5 (R3.getD zeroT).kind (R3.getD zeroT).num (R3.getD zeroT).str (.slice A3e4 (R3.getD zeroT).keys.length c3e4) (.slice A4e4 (R3.getD zeroT).list.length c4e4))) (F18.get 1 rfl)) ?_)
        intro w19 F19
        change Fr _ _ [blk _ _ [_, _, _, _, _], _, blk _ _ [_, _, _, _, _], _, blk _ _ [_, _, _, _, _], _, blk _ _ [_, _, _, _, _], _, blk _ _ [_, _, _, _, _], blk _ _ [_, _, _, _, _], _] _ at F19
        refine Ops.step (One.val rfl rfl rfl (yld_assign rfl (ev_t rfl)) ?_)
        refine Ops.nil fun a hS => ?_
        refine hK13 _ _ ?_ a hS
        refine Cod.seq fun K14 hK14 => ?_
        refine Cod.region ?_
        refine Ops.step (One.val rfl rfl rfl (yld_move rfl (ev_t rfl)) ?_)
        refine Ops.step (One.val rfl rfl rfl (yld_not rfl (ev_t rfl)) ?_)
        refine Ops.step (One.val rfl rfl rfl (yld_move rfl (ev_t rfl)) ?_)
        refine Ops.step (One.val (gd_some rfl rfl) rfl rfl (yld_move rfl (ev_t rfl)) ?_)
        refine Ops.step (One.val (gd_some rfl rfl) rfl rfl (yld_not rfl (ev_g rfl)) ?_)
        refine Ops.step (One.val rfl rfl rfl (yld_or rfl (ev_t rfl) (ev_g rfl)) ?_)
        refine Ops.step (One.val rfl rfl rfl (yld_move rfl (ev_t rfl)) ?_)
        refine Ops.step (One.val (gd_some rfl rfl) rfl rfl (yld_loadN ag31 rfl (ev_t rfl) (fun _ => F19.range (m := 5) (cs' := [_, _, _, _, _]) 2 rfl rfl) rfl) ?_)
        refine Ops.step (One.val (gd_some rfl rfl) rfl rfl (yld_loadN ag31 rfl (ev_t rfl) (fun _ => F19.range (m := 5) (cs' := [_, _, _, _, _]) 9 rfl rfl) rfl) ?_)
        refine Ops.step (One.gcall (R := Chg No w19) (gd_some rfl rfl) rfl rfl (ent_f rfl (evl2 (ev_g rfl) (ev_g rfl)) (enters en27)) (Chg.refl _ _) (fun hg => valSame_ct (R2.getD zeroT) ta _ _ _ (F19.get 3 rfl).rep (rps_get (F19.get 10 rfl) 0 rfl)) ?_)
        intro w20 C20
        have F20 := F19.call C20
        refine Ops.step (One.val (gd_some rfl rfl) rfl rfl (yld_not rfl (ev_g rfl)) ?_)
        refine Ops.step (One.val rfl rfl rfl (yld_or rfl (ev_t rfl) (ev_g rfl)) ?_)
        refine Ops.step (One.val rfl rfl rfl (yld_move rfl (ev_t rfl)) ?_)
        refine Ops.step (One.val (gd_some rfl rfl) rfl rfl (yld_loadN ag31 rfl (ev_t rfl) (fun _ => F20.range (m := 5) (cs' := [_, _, _, _, _]) 0 rfl rfl) rfl) ?_)
        refine Ops.step (One.val (gd_some rfl rfl) rfl rfl (yld_loadN ag31 rfl (ev_t rfl) (fun _ => F20.range (m := 5) (cs' := [_, _, _, _, _]) 9 rfl rfl) rfl) ?_)
        refine Ops.step (One.gcall (R := Chg No w20) (gd_some rfl rfl) rfl rfl (ent_f rfl (evl2 (ev_g rfl) (ev_g rfl)) (enters en27)) (Chg.refl _ _) (fun hg => valSame_ct (R3.getD zeroT) ta _ _ _ (F20.get 1 rfl).rep (rps_get (F20.get 10 rfl) 0 rfl)) ?_)
        intro w21 C21
        have F21 := F20.call C21
        refine Ops.step (One.val (gd_some rfl rfl) rfl rfl (yld_not rfl (ev_g rfl)) ?_)
        refine Ops.step (One.val rfl rfl rfl (yld_or rfl (ev_t rfl) (ev_g rfl)) ?_)
        refine Ops.nil fun a hS => ?_
        refine hK14 _ _ ?_ a hS
        refine Cod.cond rfl (fun hc88 => ?_) (fun hc88 => ?_)
        · skip
          exact (no88 (unit_r hR2 hoa) (unit_l hR3 hoa) hc88).elim
        · skip
          refine Cod.skip fun a hS => ?_
          refine hK10 _ _ ?_ a hS
          refine Cod.seq fun K15 hK15 => ?_
          refine Cod.seq fun K16 hK16 => ?_
          refine Cod.region ?_
          refine Ops.step (One.val rfl rfl rfl (yld_move rfl (ev_t rfl)) ?_)
          refine Ops.step (One.val rfl rfl rfl (yld_not rfl (ev_t rfl)) ?_)
          refine Ops.nil fun a hS => ?_
          refine hK16 _ _ ?_ a hS
          refine Cod.cond rfl (fun hc90 => ?_) (fun hc90 => ?_)
          · skip
            refine Cod.seq fun K17 hK17 => ?_
            refine Cod.region ?_
            refine Ops.step (One.val rfl rfl rfl (yld_field fi31_0 rfl (ev_t rfl)) ?_)
            refine Ops.step (One.val rfl rfl rfl (yld_load1 on3 rfl (ev_t rfl) (fun _ => F21.cell 6 rfl rfl)) ?_)
            refine Ops.step (One.val rfl rfl rfl (yld_eql rfl (ev_t rfl) ev_c) ?_)
            refine Ops.step (One.val rfl rfl rfl (yld_assign rfl (ev_t rfl)) ?_)
            refine Ops.nil fun a hS => ?_
            refine hK17 _ _ ?_ a hS
            refine Cod.ret fun a hS => ?_
            try simp only [Exit.then, Exit.inBlock]
            exact ret1 (t := 4) rfl hS rfl ⟨ret_b (none14 hc90), F21.chg⟩
          · skip
            have hsome : R1.isSome = true := by simpa using hc90
            obtain ⟨hoa2, hob2, -⟩ := addR_some hR1 hsome
            have hna := okT_num hoa2
            have hnb := okT_num hob2
            refine Cod.skip fun a hS => ?_
            refine hK15 _ _ ?_ a hS
            refine Cod.seq fun K18 hK18 => ?_
            refine Cod.region ?_
            refine Ops.step (One.val rfl rfl rfl (yld_move rfl (ev_t rfl)) ?_)
            refine Ops.step (One.call rfl rfl rfl (ent_f rfl (evl1 (ev_t rfl)) (enters en39)) (drawAdd_ct more _ _ (hq.chg F21.chg)) (fun e w22 hw22 => ?_))
            obtain ⟨xp, xq, tp, tq, rfl, C22, hrsp, hdp, hdq⟩ := hw22
            have hwp := hdp.wt
            have hwq := hdq.wt
            obtain ⟨Grsp, hGp⟩ : ∃ G, G = New w21 w22 := ⟨_, rfl⟩
            rw [← hGp] at hrsp
            obtain ⟨A3p, c3p, A4p, c4p, hxp⟩ := rep_x (rps_get hrsp 0 rfl)
            obtain ⟨A3q, c3q, A4q, c4q, hxq⟩ := rep_x (rps_get hrsp 1 rfl)
            subst hxp
            subst hxq
            have F22 := F21.new C22 (rps Grsp [(tp, (x5 tp.kind tp.num tp.str (.slice A3p tp.keys.length c3p) (.slice A4p tp.list.length c4p)).val), (tq, (x5 tq.kind tq.num tq.str (.slice A3q tq.keys.length c3q) (.slice A4q tq.list.length c4q)).val)]) hrsp (by rw [hGp]; exact New.new)
            refine ⟨_, rfl, ?_⟩
            refine Ops.step (One.val rfl rfl rfl (yld_move rfl (ev_t rfl)) ?_)
            refine Ops.step (One.val rfl rfl rfl (yld_extract rfl (ev_t rfl) rfl) ?_)
            refine Ops.step (One.val rfl rfl rfl (yld_extract rfl (ev_t rfl) rfl) ?_)
            refine Ops.step (One.alloc F22 zero31 rfl rfl rfl rfl ?_)
            intro b7 w23 hb7 F23
            change Fr _ _ [blk _ _ [_, _, _, _, _], _, blk _ _ [_, _, _, _, _], _, blk _ _ [_, _, _, _, _], _, blk _ _ [_, _, _, _, _], _, blk _ _ [_, _, _, _, _], _, blk _ _ [_, _, _, _, _], blk _ _ [_, _, _, _, _], _] _ at F23
            refine Ops.step (One.alloc F23 zero31 rfl rfl rfl rfl ?_)
            intro b8 w24 hb8 F24
            change Fr _ _ [blk _ _ [_, _, _, _, _], blk _ _ [_, _, _, _, _], _, blk _ _ [_, _, _, _, _], _, blk _ _ [_, _, _, _, _], _, blk _ _ [_, _, _, _, _], _, blk _ _ [_, _, _, _, _], _, blk _ _ [_, _, _, _, _], blk _ _ [_, _, _, _, _], _] _ at F24
            refine Ops.step (One.storeN (vs := [_, _, _, _, _]) F24 1 rfl sz31 rfl rfl rfl (ev_t rfl) (ev_t rfl) rfl rfl (rps_oneC (F24.get 2 rfl) 0 rfl) ?_)
            intro w25 F25
            change Fr _ _ [blk _ _ [_, _, _, _, _], blk _ _ [_, _, _, _, _], _, blk _ _ [_, _, _, _, _], _, blk _ _ [_, _, _, _, _], _, blk _ _ [_, _, _, _, _], _, blk _ _ [_, _, _, _, _], _, blk _ _ [_, _, _, _, _], blk _ _ [_, _, _, _, _], _] _ at F25
            refine Ops.step (One.storeN (vs := [_, _, _, _, _]) F25 0 rfl sz31 rfl rfl rfl (ev_t rfl) (ev_t rfl) rfl rfl (rps_oneC (F25.get 2 rfl) 1 rfl) ?_)
            intro w26 F26
            change Fr _ _ [blk _ _ [_, _, _, _, _], blk _ _ [_, _, _, _, _], _, blk _ _ [_, _, _, _, _], _, blk _ _ [_, _, _, _, _], _, blk _ _ [_, _, _, _, _], _, blk _ _ [_, _, _, _, _], _, blk _ _ [_, _, _, _, _], blk _ _ [_, _, _, _, _], _] _ at F26
            refine Ops.nil fun a hS => ?_
            refine hK18 _ _ ?_ a hS
            refine Cod.seq fun K19 hK19 => ?_
            refine Cod.region ?_
            refine Ops.step (One.val rfl rfl rfl (yld_loadN ag31 rfl (ev_t rfl) (fun _ => F26.range (m := 5) (cs' := [_, _, _, _, _]) 9 rfl rfl) rfl) ?_)
            refine Ops.step (One.val rfl rfl rfl (yld_loadN ag31 rfl (ev_t rfl) (fun _ => F26.range (m := 5) (cs' := [_, _, _, _, _]) 0 rfl rfl) rfl) ?_)
            refine Ops.step (One.call rfl rfl rfl (ent_f rfl (evl2 (ev_t rfl) (ev_t rfl)) (enters en40)) (partAdd_ct (R1.getD zeroT) tq _ _ _ (F26.get 10 rfl).rep (rps_get (F26.get 2 rfl) 1 rfl) (okT_fit hO1) hdq.fit (okT_w hO1) (by omega)) (fun e w27 hw27 => ?_))
            obtain ⟨R4, hR4⟩ : ∃ R, R = addR (R1.getD zeroT) tq := ⟨_, rfl⟩
            have hO4 : okT (R4.getD zeroT) = true := by rw [hR4]; exact addR_ok (R1.getD zeroT) tq
            rw [← hR4] at hw27
            obtain ⟨e5, E5, rfl, C27, hE5, hEb5⟩ := hw27
            obtain ⟨A3e5, c3e5, A4e5, c4e5, hxe5⟩ := rep_x hE5.rep
            subst hxe5
            have F27 := F26.new C27 (sep E5 (R4.getD zeroT) (x5 (R4.getD zeroT).kind (R4.getD zeroT).num (R4.getD zeroT).str (.slice A3e5 (R4.getD zeroT).keys.length c3e5) (.slice A4e5 (R4.getD zeroT).list.length c4e5)).val) hE5 hEb5
            refine ⟨_, rfl, ?_⟩
            refine Ops.step (One.val rfl rfl rfl (yld_move rfl (ev_t rfl)) ?_)
            refine Ops.step (One.val rfl rfl rfl (yld_extract rfl (ev_t rfl) rfl) ?_)
            refine Ops.step (One.val rfl rfl rfl (yld_extract rfl (ev_t rfl) rfl) ?_)
            refine Ops.step (One.alloc F27 zero31 rfl rfl rfl rfl ?_)
            intro b9 w28 hb9 F28
            change Fr _ _ [blk _ _ [_, _, _, _, _], _, blk _ _ [_, _, _, _, _], blk _ _ [_, _, _, _, _], _, blk _ _ [_, _, _, _, _], _, blk _ _ [_, _, _, _, _], _, blk _ _ [_, _, _, _, _], _, blk _ _ [_, _, _, _, _], _, blk _ _ [_, _, _, _, _], blk _ _ [_, _, _, _, _], _] _ at F28
            refine Ops.step (One.storeN (vs := [_, _, _, _, _]) F28 0 rfl sz31 rfl rfl rfl (ev_t rfl) (ev_t rfl) rfl rfl (Sep.one (x := (x5 (R4.getD zeroT).kind (R4.getD zeroT).num (R4.getD zeroT).str (.slice A3e5 (R4.getD zeroT).keys.length c3e5) (.slice A4e5 (R4.getD zeroT).list.length c4e5))) (F28.get 1 rfl)) ?_)
            intro w29 F29
            change Fr _ _ [blk _ _ [_, _, _, _, _], _, blk _ _ [_, _, _, _, _], blk _ _ [_, _, _, _, _], _, blk _ _ [_, _, _, _, _], _, blk _ _ [_, _, _, _, _], _, blk _ _ [_, _, _, _, _], _, blk _ _ [_, _, _, _, _], _, blk _ _ [_, _, _, _, _], blk _ _ [_, _, _, _, _], _] _ at F29
            refine Ops.step (One.val rfl rfl rfl (yld_assign rfl (ev_t rfl)) ?_)
            refine Ops.nil fun a hS => ?_
            refine hK19 _ _ ?_ a hS
            refine Cod.seq fun K20 hK20 => ?_
            refine Cod.region ?_
            refine Ops.step (One.val rfl rfl rfl (yld_loadN ag31 rfl (ev_t rfl) (fun _ => F29.range (m := 5) (cs' := [_, _, _, _, _]) 13 rfl rfl) rfl) ?_)
            refine Ops.step (One.val rfl rfl rfl (yld_loadN ag31 rfl (ev_t rfl) (fun _ => F29.range (m := 5) (cs' := [_, _, _, _, _]) 2 rfl rfl) rfl) ?_)
            refine Ops.step (One.call rfl rfl rfl (ent_f rfl (evl2 (ev_t rfl) (ev_t rfl)) (enters en40)) (partAdd_ct tb tq _ _ _ (rps_get (F29.get 15 rfl) 1 rfl) (rps_get (F29.get 4 rfl) 1 rfl) hdb.fit hdq.fit (by omega) (by omega)) (fun e w30 hw30 => ?_))
            obtain ⟨R5, hR5⟩ : ∃ R, R = addR tb tq := ⟨_, rfl⟩
            have hO5 : okT (R5.getD zeroT) = true := by rw [hR5]; exact addR_ok tb tq
            rw [← hR5] at hw30
            obtain ⟨e6, E6, rfl, C30, hE6, hEb6⟩ := hw30
            obtain ⟨A3e6, c3e6, A4e6, c4e6, hxe6⟩ := rep_x hE6.rep
            subst hxe6
            have F30 := F29.new C30 (sep E6 (R5.getD zeroT) (x5 (R5.getD zeroT).kind (R5.getD zeroT).num (R5.getD zeroT).str (.slice A3e6 (R5.getD zeroT).keys.length c3e6) (.slice A4e6 (R5.getD zeroT).list.length c4e6)).val) hE6 hEb6
            refine ⟨_, rfl, ?_⟩
            refine Ops.step (One.val rfl rfl rfl (yld_move rfl (ev_t rfl)) ?_)
            refine Ops.step (One.val rfl rfl rfl (yld_extract rfl (ev_t rfl) rfl) ?_)
            refine Ops.step (One.val rfl rfl rfl (yld_extract rfl (ev_t rfl) rfl) ?_)
            refine Ops.step (One.alloc F30 zero31 rfl rfl rfl rfl ?_)
            intro b10 w31 hb10 F31
            change Fr _ _ [blk _ _ [_, _, _, _, _], _, blk _ _ [_, _, _, _, _], _, blk _ _ [_, _, _, _, _], blk _ _ [_, _, _, _, _], _, blk _ _ [_, _, _, _, _], _, blk _ _ [_, _, _, _, _], _, blk _ _ [_, _, _, _, _], _, blk _ _ [_, _, _, _, _], _, blk _ _ [_, _, _, _, _], blk _ _ [_, _, _, _, _], _] _ at F31
            refine Ops.step (One.storeN (vs := [_, _, _, _, _]) F31 0 rfl sz31 rfl rfl rfl (ev_t rfl) (ev_t rfl) rfl rfl (Sep.one (x := (x5 (R5.getD zeroT).kind (R5.getD zeroT).num (R5.getD zeroT).str (.slice A3e6 (R5.getD zeroT).keys.length c3e6) (.slice A4e6 (R5.getD zeroT).list.length c4e6))) (F31.get 1 rfl)) ?_)
            intro w32 F32
            change Fr _ _ [blk _ _ [_, _, _, _, _], _, blk _ _ [_, _, _, _, _], _, blk _ _ [_, _, _, _, _], blk _ _ [_, _, _, _, _], _, blk _ _ [_, _, _, _, _], _, blk _ _ [_, _, _, _, _], _, blk _ _ [_, _, _, _, _], _, blk _ _ [_, _, _, _, _], _, blk _ _ [_, _, _, _, _], blk _ _ [_, _, _, _, _], _] _ at F32
            refine Ops.step (One.val rfl rfl rfl (yld_assign rfl (ev_t rfl)) ?_)
            refine Ops.nil fun a hS => ?_
            refine hK20 _ _ ?_ a hS
            refine Cod.seq fun K21 hK21 => ?_
            refine Cod.region ?_
            refine Ops.step (One.val rfl rfl rfl (yld_loadN ag31 rfl (ev_t rfl) (fun _ => F32.range (m := 5) (cs' := [_, _, _, _, _]) 16 rfl rfl) rfl) ?_)
            refine Ops.step (One.val rfl rfl rfl (yld_loadN ag31 rfl (ev_t rfl) (fun _ => F32.range (m := 5) (cs' := [_, _, _, _, _]) 0 rfl rfl) rfl) ?_)
            refine Ops.step (One.call rfl rfl rfl (ent_f rfl (evl2 (ev_t rfl) (ev_t rfl)) (enters en40)) (partAdd_ct ta (R5.getD zeroT) _ _ _ (rps_get (F32.get 17 rfl) 0 rfl) (F32.get 1 rfl).rep hda.fit (okT_fit hO5) (by omega) (okT_w hO5)) (fun e w33 hw33 => ?_))
            obtain ⟨R6, hR6⟩ : ∃ R, R = addR ta (R5.getD zeroT) := ⟨_, rfl⟩
            have hO6 : okT (R6.getD zeroT) = true := by rw [hR6]; exact addR_ok ta (R5.getD zeroT)
            rw [← hR6] at hw33
            obtain ⟨e7, E7, rfl, C33, hE7, hEb7⟩ := hw33
            obtain ⟨A3e7, c3e7, A4e7, c4e7, hxe7⟩ := rep_x hE7.rep
            subst hxe7
            have F33 := F32.new C33 (sep E7 (R6.getD zeroT) (x5 (R6.getD zeroT).kind (R6.getD zeroT).num (R6.getD zeroT).str (.slice A3e7 (R6.getD zeroT).keys.length c3e7) (.slice A4e7 (R6.getD zeroT).list.length c4e7)).val) hE7 hEb7
            refine ⟨_, rfl, ?_⟩
            refine Ops.step (One.val rfl rfl rfl (yld_move rfl (ev_t rfl)) ?_)
            refine Ops.step (One.val rfl rfl rfl (yld_extract rfl (ev_t rfl) rfl) ?_)
            refine Ops.step (One.val rfl rfl rfl (yld_extract rfl (ev_t rfl) rfl) ?_)
            refine Ops.step (One.alloc F33 zero31 rfl rfl rfl rfl ?_)
            intro b11 w34 hb11 F34
            change Fr _ _ [blk _ _ [_, _, _, _, _], _, blk _ _ [_, _, _, _, _], _, blk _ _ [_, _, _, _, _], _, blk _ _ [_, _, _, _, _], blk _ _ [_, _, _, _, _], _, blk _ _ [_, _, _, _, _], _, blk _ _ [_, _, _, _, _], _, blk _ _ [_, _, _, _, _], _, blk _ _ [_, _, _, _, _], _, blk _ _ [_, _, _, _, _], blk _ _ [_, _, _, _, _], _] _ at F34
            refine Ops.step (One.storeN (vs := [_, _, _, _, _]) F34 0 rfl sz31 rfl rfl rfl (ev_t rfl) (ev_t rfl) rfl rfl (Sep.one (x := (x5 (R6.getD zeroT).kind (R6.getD zeroT).num (R6.getD zeroT).str (.slice A3e7 (R6.getD zeroT).keys.length c3e7) (.slice A4e7 (R6.getD zeroT).list.length c4e7))) (F34.get 1 rfl)) ?_)
            intro w35 F35
            change Fr _ _ [blk _ _ [_, _, _, _, _], _, blk _ _ [_, _, _, _, _], _, blk _ _ [_, _, _, _, _], _, blk _ _ [_, _, _, _, _], blk _ _ [_, _, _, _, _], _, blk _ _ [_, _, _, _, _], _, blk _ _ [_, _, _, _, _], _, blk _ _ [_, _, _, _, _], _, blk _ _ [_, _, _, _, _], _, blk _ _ [_, _, _, _, _], blk _ _ [_, _, _, _, _], _] _ at F35
            refine Ops.step (One.val rfl rfl rfl (yld_assign rfl (ev_t rfl)) ?_)
            refine Ops.nil fun a hS => ?_
            refine hK21 _ _ ?_ a hS
            refine Cod.seq fun K22 hK22 => ?_
            refine Cod.region ?_
            refine Ops.step (One.val rfl rfl rfl (yld_loadN ag31 rfl (ev_t rfl) (fun _ => F35.range (m := 5) (cs' := [_, _, _, _, _]) 15 rfl rfl) rfl) ?_)
            refine Ops.step (One.call rfl rfl rfl (ent_f rfl (evl1 (ev_t rfl)) (enters en43)) (valOk_ct (R1.getD zeroT) _ _ (F35.get 16 rfl).rep (okT_fit hO1)) (fun e w36 hw36 => ?_))
            obtain ⟨rfl, C36⟩ := hw36
            have F36 := F35.call C36
            refine ⟨_, rfl, ?_⟩
            refine Ops.step (One.val rfl rfl rfl (yld_move rfl (ev_t rfl)) ?_)
            refine Ops.step (One.val (gd_some rfl rfl) rfl rfl (yld_move rfl (ev_t rfl)) ?_)
            refine Ops.step (One.val (gd_some rfl rfl) rfl rfl (yld_not rfl (ev_g rfl)) ?_)
            refine Ops.step (One.val (gd_some rfl rfl) rfl rfl (yld_move rfl (ev_g rfl)) ?_)
            refine Ops.step (One.val (gd_some rfl rfl) rfl rfl (yld_move rfl (ev_t rfl)) ?_)
            refine Ops.step (One.val (gd_some rfl rfl) rfl rfl (yld_not rfl (ev_g rfl)) ?_)
            refine Ops.step (One.val (gd_some rfl rfl) rfl rfl (yld_or rfl (ev_g rfl) (ev_g rfl)) ?_)
            refine Ops.step (One.val (gd_some rfl rfl) rfl rfl (yld_move rfl (ev_g rfl)) ?_)
            refine Ops.step (One.val (gd_some rfl rfl) rfl rfl (yld_move rfl (ev_t rfl)) ?_)
            refine Ops.step (One.val (gd_some rfl rfl) rfl rfl (yld_not rfl (ev_g rfl)) ?_)
            refine Ops.step (One.val (gd_some rfl rfl) rfl rfl (yld_or rfl (ev_g rfl) (ev_g rfl)) ?_)
            refine Ops.step (One.val (gd_some rfl rfl) rfl rfl (yld_move rfl (ev_g rfl)) ?_)
            refine Ops.step (One.val (gd_some rfl rfl) rfl rfl (yld_loadN ag31 rfl (ev_t rfl) (fun _ => F36.range (m := 5) (cs' := [_, _, _, _, _]) 4 rfl rfl) rfl) ?_)
            refine Ops.step (One.val (gd_some rfl rfl) rfl rfl (yld_loadN ag31 rfl (ev_t rfl) (fun _ => F36.range (m := 5) (cs' := [_, _, _, _, _]) 0 rfl rfl) rfl) ?_)
            refine Ops.step (One.gcall (R := Chg No w36) (gd_some rfl rfl) rfl rfl (ent_f rfl (evl2 (ev_g rfl) (ev_g rfl)) (enters en27)) (Chg.refl _ _) (fun hg => valSame_ct (R4.getD zeroT) (R6.getD zeroT) _ _ _ (F36.get 5 rfl).rep (F36.get 1 rfl).rep) ?_)
            intro w37 C37
            have F37 := F36.call C37
            refine Ops.step (One.val (gd_some rfl rfl) rfl rfl (yld_or rfl (ev_g rfl) (ev_g rfl)) ?_)
            refine Ops.step (One.val rfl rfl rfl (yld_and rfl (ev_t rfl) (ev_g rfl)) ?_)
            refine Ops.step (One.val rfl rfl rfl (yld_move rfl (ev_t rfl)) ?_)
            refine Ops.step (One.val (gd_some rfl rfl) rfl rfl (yld_field fi31_0 rfl (ev_t rfl)) ?_)
            refine Ops.step (One.val (gd_some rfl rfl) rfl rfl (yld_load1 on3 rfl (ev_g rfl) (fun _ => F37.cell 18 rfl rfl)) ?_)
            refine Ops.step (One.val (gd_some rfl rfl) rfl rfl (yld_neq rfl (ev_g rfl) ev_c) ?_)
            refine Ops.step (One.val (gd_some rfl rfl) rfl rfl (yld_move rfl (ev_g rfl)) ?_)
            refine Ops.step (One.val (gd_some rfl rfl) rfl rfl (yld_field fi31_0 rfl (ev_t rfl)) ?_)
            refine Ops.step (One.val (gd_some rfl rfl) rfl rfl (yld_load1 on3 rfl (ev_g rfl) (fun _ => F37.cell 17 rfl rfl)) ?_)
            refine Ops.step (One.val (gd_some rfl rfl) rfl rfl (yld_neq rfl (ev_g rfl) ev_c) ?_)
            refine Ops.step (One.val (gd_some rfl rfl) rfl rfl (yld_or rfl (ev_g rfl) (ev_g rfl)) ?_)
            refine Ops.step (One.val (gd_some rfl rfl) rfl rfl (yld_move rfl (ev_g rfl)) ?_)
            refine Ops.step (One.val (gd_some rfl rfl) rfl rfl (yld_field fi31_1 rfl (ev_t rfl)) ?_)
            refine Ops.step (One.val (gd_some rfl rfl) rfl rfl (yld_load1 on3 rfl (ev_g rfl) (fun _ => F37.cell 15 rfl rfl)) ?_)
            refine Ops.step (One.val (gd_some rfl rfl) rfl rfl (yld_field fi31_1 rfl (ev_t rfl)) ?_)
            refine Ops.step (One.val (gd_some rfl rfl) rfl rfl (yld_load1 on3 rfl (ev_g rfl) (fun _ => F37.cell 18 rfl rfl)) ?_)
            refine Ops.step (One.val (gd_some rfl rfl) rfl rfl (yld_field fi31_1 rfl (ev_t rfl)) ?_)
            refine Ops.step (One.val (gd_some rfl rfl) rfl rfl (yld_load1 on3 rfl (ev_g rfl) (fun _ => F37.cell 17 rfl rfl)) ?_)
            refine Ops.step (One.val (gd_some rfl rfl) rfl rfl (yld_add rfl (ev_g rfl) (ev_g rfl) (fun _ => by omega)) ?_)
            refine Ops.step (One.val (gd_some rfl rfl) rfl rfl (yld_eql rfl (ev_g rfl) (ev_g rfl)) ?_)
            refine Ops.step (One.val (gd_some rfl rfl) rfl rfl (yld_or rfl (ev_g rfl) (ev_g rfl)) ?_)
            refine Ops.step (One.val rfl rfl rfl (yld_and rfl (ev_t rfl) (ev_g rfl)) ?_)
            refine Ops.step (One.val rfl rfl rfl (yld_assign rfl (ev_t rfl)) ?_)
            refine Ops.nil fun a hS => ?_
            refine hK22 _ _ ?_ a hS
            refine Cod.ret fun a hS => ?_
            try simp only [Exit.then, Exit.inBlock]
            exact ret1 (t := 4) rfl hS rfl ⟨ret_b (fin hR1 hsome hR4 hR5 hR6), F37.chg⟩
      · skip
        have hnoa : okT ta = false := hc58
        refine Cod.skip fun a hS => ?_
        refine hK10 _ _ ?_ a hS
        refine Cod.seq fun K23 hK23 => ?_
        refine Cod.seq fun K24 hK24 => ?_
        refine Cod.region ?_
        refine Ops.step (One.val rfl rfl rfl (yld_move rfl (ev_t rfl)) ?_)
        refine Ops.step (One.val rfl rfl rfl (yld_not rfl (ev_t rfl)) ?_)
        refine Ops.nil fun a hS => ?_
        refine hK24 _ _ ?_ a hS
        refine Cod.cond rfl (fun hc90 => ?_) (fun hc90 => ?_)
        · skip
          refine Cod.seq fun K25 hK25 => ?_
          refine Cod.region ?_
          refine Ops.step (One.val rfl rfl rfl (yld_field fi31_0 rfl (ev_t rfl)) ?_)
          refine Ops.step (One.val rfl rfl rfl (yld_load1 on3 rfl (ev_t rfl) (fun _ => F13.cell 2 rfl rfl)) ?_)
          refine Ops.step (One.val rfl rfl rfl (yld_eql rfl (ev_t rfl) ev_c) ?_)
          refine Ops.step (One.val rfl rfl rfl (yld_assign rfl (ev_t rfl)) ?_)
          refine Ops.nil fun a hS => ?_
          refine hK25 _ _ ?_ a hS
          refine Cod.ret fun a hS => ?_
          try simp only [Exit.then, Exit.inBlock]
          exact ret1 (t := 4) rfl hS rfl ⟨ret_b (none14 hc90), F13.chg⟩
        · skip
          exact (no_ok hR1 hnoa hc90).elim


theorem ownKnob_none : ownKnob Try.prog.godebug = none := by kernel_rfl
theorem params_ok : ∀ t ∈ Try.f8.params.toList, Try.prog.readableRec t = true ∧ t < Try.prog.types.size := by
  rw [Try.params8]
  intro t ht
  simp only [List.mem_cons, List.not_mem_nil, or_false] at ht
  rcases ht with rfl | rfl <;> exact ⟨by kernel_rfl, of_decide_eq_true (by kernel_rfl)⟩
set_option maxRecDepth 100000 in
theorem lifted (os : Os) (started : os.Started) (H : Type) (enc : TypeId × Value → H) :
    ReturnsInHanded {} Try.checked os 8 .any (Rows.fnPartAddSpec.pre6 enc Try.prog Try.f8 Rows.fnPartAddRow.domain false) (Rows.fnPartAddSpec.post enc Try.prog Try.f8 false true false false) := by
  refine returnsInHanded_of_change (C := Try.checked) ownKnob_none started (by kernel_rfl) Try.func8
    (ChangeSpec.witness6 (enc := enc) (C := Try.checked) false ⟨#[], #[.slice none 0 0, .slice none 0 0], []⟩ 8 (by kernel_rfl) (by kernel_rfl) (by kernel_rfl) (by kernel_rfl)) ?_
  intro W base args ds gs before hval0 hW hcnd _
  have hval : ∀ (j : Nat) t v, Try.f8.params[j]? = some t → args[j]? = some v → Value.okWide Try.prog W .any base t v := hval0
  have hW' := hW
  obtain ⟨p, q, hA0, hV, rfl, hfz, hnd⟩ := hW
  have hA : DataW.TrodAll enc Try.prog W 0 (fun _ => true) true Try.f8.params.toList args.toList ds p := hA0
  rw [Try.params8] at hA hval
  obtain ⟨v0, v1, d0, d1, p0, p1, rfl, rfl, rfl, h0, h1⟩ := trodAll_two hA
  obtain ⟨rfl, rfl⟩ := trodVars_none hV
  obtain ⟨code, hp⟩ := open_bytes (hval 0 _ v0 rfl rfl) h0
  obtain ⟨more, hq⟩ := open_bytes (hval 1 _ v1 rfl rfl) h1
  refine (walk code more v0 v1 W hp hq).mono fun e W' ⟨he, hc⟩ => ?_
  subst he
  exact ⟨_, rfl, post_chg laidOut rfl params_ok hW' (fun _ _ _ => (trodAll_cons_mk (shut_bool Try.underlying4 _) trodAll_mk0)) rfl rfl hc (ok_one (by kernel_rfl) rfl (okWide_bool_mk Try.underlying4 _))⟩

theorem over : Rows.fnPartAddRow.holds Try.pinned (OpenSpec.ofChange Rows.fnPartAddSpec) :=
  OpenClaim.holds_of_wide 8 Try.f8 rfl rfl rfl rfl rfl rfl rfl ⟨rfl, rfl, rfl, rfl, rfl⟩ rfl rfl rfl rfl rfl (by kernel_rfl) Try.func8 (by kernel_rfl)
    (of_decide_eq_true (by kernel_rfl)) (by unfold Func.isWrapper; first | (rw [if_pos (by decide +kernel)]; kernel_rfl) | (rw [if_neg (by decide +kernel)]; exact ⟨rfl, rfl⟩))
    (fun os started H enc _ => lifted os started H enc)

/-- The statement. -/
theorem proved : Rows.FnPartAddSaid := over
#print axioms proved

end GPartAdd
end Go.Proofs.Ytodbflfelimppaa.Eng
