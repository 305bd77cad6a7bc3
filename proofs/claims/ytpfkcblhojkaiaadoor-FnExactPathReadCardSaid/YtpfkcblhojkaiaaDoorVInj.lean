/- The text of a tree tells the tree: plain laws. -/
import Derived.Test.YtpfkcblhojkaiaaDoorVTxt
namespace Go.Proofs.YtpfkcblhojkaiaaDoor.Eng
open Go.RowKit
set_option linter.unusedVariables false
set_option linter.unusedSimpArgs false
set_option maxHeartbeats 1000000


def Stop (P : UInt8 → Bool) (r : List UInt8) : Prop := ∀ c r0, r = c :: r0 → P c = false
theorem span_inj {P : UInt8 → Bool} : ∀ (a b r r' : List UInt8), (∀ x ∈ a, P x = true) → (∀ x ∈ b, P x = true) → Stop P r → Stop P r' → a ++ r = b ++ r' → a = b ∧ r = r'
  | [], [], r, r', _, _, _, _, h => ⟨rfl, h⟩
  | [], y :: b, r, r', _, hb, hr, _, h => by
    have h1 := hr y (b ++ r') h
    rw [hb y (by simp)] at h1
    cases h1
  | x :: a, [], r, r', ha, _, _, hr', h => by
    have h1 := hr' x (a ++ r) h.symm
    rw [ha x (by simp)] at h1
    cases h1
  | x :: a, y :: b, r, r', ha, hb, hr, hr', h => by
    rw [List.cons_append, List.cons_append, List.cons.injEq] at h
    obtain ⟨rfl, h⟩ := h
    obtain ⟨rfl, rfl⟩ := span_inj a b r r' (fun z hz => ha z (by simp [hz])) (fun z hz => hb z (by simp [hz])) hr hr' h
    exact ⟨rfl, rfl⟩
def isD (c : UInt8) : Bool := decide (48 ≤ c.toNat) && decide (c.toNat ≤ 57)
theorem dig_nat {u : Nat} (h : u < 10) : (UInt8.ofNat (48 + u)).toNat = 48 + u := by
  rw [UInt8.toNat_ofNat']
  omega
theorem dec_all : ∀ (u : Nat) x, x ∈ Lib.decDigits u → isD x = true := by
  intro u
  induction u using Nat.strongRecOn with
  | _ u ih =>
    intro x hx
    by_cases h : u < 10
    · rw [Lib.decDigits_one h] at hx
      obtain rfl := List.mem_singleton.1 hx
      unfold isD
      rw [dig_nat h]
      simp
      omega
    · rw [dec_step (by omega)] at hx
      rcases List.mem_append.1 hx with hx | hx
      · exact ih (u / 10) (by omega) x hx
      · obtain rfl := List.mem_singleton.1 hx
        unfold isD
        rw [dig_nat (by omega)]
        simp
        omega
theorem dec_pos (u : Nat) : 1 ≤ (Lib.decDigits u).length := by
  rw [Lib.decDigits_length]
  exact Lib.nDigits_pos u
theorem ofNat_inj {u v : Nat} (hu : u < 10) (hv : v < 10) (h : UInt8.ofNat (48 + u) = UInt8.ofNat (48 + v)) : u = v := by
  have := congrArg UInt8.toNat h
  rw [dig_nat hu, dig_nat hv] at this
  omega
theorem dec_inj : ∀ u v : Nat, Lib.decDigits u = Lib.decDigits v → u = v := by
  intro u
  induction u using Nat.strongRecOn with
  | _ u ih =>
    intro v h
    by_cases hu : u < 10
    · rw [Lib.decDigits_one hu] at h
      by_cases hv : v < 10
      · rw [Lib.decDigits_one hv] at h
        exact ofNat_inj hu hv (by simpa using h)
      · rw [dec_step (by omega)] at h
        have h1 := congrArg List.length h
        have h2 := dec_pos (v / 10)
        simp only [List.length_append, List.length_cons, List.length_nil] at h1
        omega
    · rw [dec_step (by omega)] at h
      by_cases hv : v < 10
      · rw [Lib.decDigits_one hv] at h
        have h1 := congrArg List.length h
        have h2 := dec_pos (u / 10)
        simp only [List.length_append, List.length_cons, List.length_nil] at h1
        omega
      · rw [dec_step (by omega : 10 ≤ v)] at h
        obtain ⟨h1, h2⟩ := List.append_inj' h rfl
        have h3 := ih (u / 10) (by omega) (v / 10) h1
        have h4 := ofNat_inj (Nat.mod_lt _ (by omega)) (Nat.mod_lt _ (by omega)) (by simpa using h2)
        omega
theorem dec_head (u : Nat) : ∃ c r, Lib.decDigits u = c :: r ∧ isD c = true := by
  have h1 := dec_pos u
  cases h : Lib.decDigits u with
  | nil => rw [h] at h1; simp at h1
  | cons c r => exact ⟨c, r, rfl, dec_all u c (by rw [h]; simp)⟩
theorem itoa_inj {m n : Int} {r r' : List UInt8} (hr : Stop isD r) (hr' : Stop isD r') (h : Lib.itoa m ++ r = Lib.itoa n ++ r') : m = n ∧ r = r' := by
  have h45 : isD 45 = false := by decide
  unfold Lib.itoa at h
  by_cases hm : m < 0 <;> by_cases hn : n < 0
  · rw [if_pos hm, if_pos hn, List.cons_append, List.cons_append, List.cons.injEq] at h
    obtain ⟨h1, h2⟩ := span_inj _ _ _ _ (dec_all _) (dec_all _) hr hr' h.2
    have := dec_inj _ _ h1
    exact ⟨by omega, h2⟩
  · rw [if_pos hm, if_neg hn] at h
    obtain ⟨c, q, e, hc⟩ := dec_head n.toNat
    rw [e, List.cons_append, List.cons_append, List.cons.injEq] at h
    rw [← h.1, h45] at hc
    cases hc
  · rw [if_neg hm, if_pos hn] at h
    obtain ⟨c, q, e, hc⟩ := dec_head m.toNat
    rw [e, List.cons_append, List.cons_append, List.cons.injEq] at h
    rw [h.1, h45] at hc
    cases hc
  · rw [if_neg hm, if_neg hn] at h
    obtain ⟨h1, h2⟩ := span_inj _ _ _ _ (dec_all _) (dec_all _) hr hr' h
    have := dec_inj _ _ h1
    exact ⟨by omega, h2⟩
/-- What may stand behind a tree's text. -/
def End (r : List UInt8) : Prop := ∀ c r0, r = c :: r0 → c = 44 ∨ c = 93 ∨ c = 125
theorem End.stop {r : List UInt8} (h : End r) : Stop isD r := fun c r0 e => by
  rcases h c r0 e with rfl | rfl | rfl <;> decide
theorem End.cons {c : UInt8} (hc : c = 44 ∨ c = 93 ∨ c = 125) (r : List UInt8) : End (c :: r) := fun d r0 e => by
  rw [List.cons.injEq] at e
  rw [← e.1]
  exact hc
theorem low_all {s : ByteArray} (h : okS s = true) : ∀ x ∈ s.data.toList, low x = true := by
  unfold okS lowB at h
  rw [Bool.and_eq_true, List.all_eq_true] at h
  exact h.1
theorem data_inj {s u : ByteArray} (h : s.data.toList = u.data.toList) : s = u := by rw [bs_eq s, bs_eq u, h]
def tag (c : UInt8) : Int := if c = 110 then 0 else if c = 102 then 1 else if c = 116 then 2 else if c = 39 then 4 else if c = 91 then 5 else if c = 123 then 6 else if c = 93 ∨ c = 125 ∨ c = 44 then 9 else 3
theorem tag_dig {c : UInt8} (h : isD c = true) : tag c = 3 := by
  unfold isD at h
  simp at h
  have e : ∀ d : UInt8, 57 < d.toNat ∨ d.toNat < 48 → c ≠ d := fun d hd he => by rw [he] at h; omega
  unfold tag
  rw [if_neg (e 110 (by decide)), if_neg (e 102 (by decide)), if_neg (e 116 (by decide)), if_neg (e 39 (by decide)), if_neg (e 91 (by decide)), if_neg (e 123 (by decide)), if_neg]
  rintro (he | he | he)
  · exact e 93 (by decide) he
  · exact e 125 (by decide) he
  · exact e 44 (by decide) he
theorem txt_head {t : Tr} {d : Int} (h : Form d t) : ∃ c r, t.txt = c :: r ∧ tag c = t.kind := by
  obtain ⟨k, n, s, ks, l⟩ := t
  obtain ⟨-, hp, -⟩ := Form.iff.1 h
  have h0 := hp.k0
  have h6 := hp.k6
  show ∃ c r, (Tr.mk k n s ks l).txt = c :: r ∧ tag c = k
  rw [Tr.txt]
  by_cases e0 : k = 0
  · rw [if_pos e0]; exact ⟨_, _, rfl, by rw [e0]; decide⟩
  rw [if_neg e0]
  by_cases e1 : k = 1
  · rw [if_pos e1]; exact ⟨_, _, rfl, by rw [e1]; decide⟩
  rw [if_neg e1]
  by_cases e2 : k = 2
  · rw [if_pos e2]; exact ⟨_, _, rfl, by rw [e2]; decide⟩
  rw [if_neg e2]
  by_cases e3 : k = 3
  · rw [if_pos e3]
    unfold Lib.itoa
    split
    · exact ⟨_, _, rfl, by rw [e3]; decide⟩
    · obtain ⟨c, q, e, hc⟩ := dec_head n.toNat
      exact ⟨c, q, e, by rw [e3]; exact tag_dig hc⟩
  rw [if_neg e3]
  by_cases e4 : k = 4
  · rw [if_pos e4]; exact ⟨_, _, rfl, by rw [e4]; decide⟩
  rw [if_neg e4]
  by_cases e6 : k = 6
  · rw [if_pos e6]; exact ⟨_, _, rfl, by rw [e6]; decide⟩
  rw [if_neg e6]
  exact ⟨_, _, rfl, by rw [show k = 5 by omega]; decide⟩
def tailR : List Tr → List UInt8 → List UInt8
  | [], r => r
  | x :: l, r => 44 :: (x.txt ++ tailR l r)
def rowB : List Tr → List UInt8 → List UInt8
  | [], r => r
  | x :: l, r => x.txt ++ tailR l r
def tailM : List ByteArray → List Tr → List UInt8 → List UInt8
  | key :: ks, x :: l, r => 44 :: (key.data.toList ++ 58 :: (x.txt ++ tailM ks l r))
  | _, _, r => r
def mapB : List ByteArray → List Tr → List UInt8 → List UInt8
  | key :: ks, x :: l, r => key.data.toList ++ 58 :: (x.txt ++ tailM ks l r)
  | _, _, r => r
theorem itemL5 {k : Int} (h : k ≠ 6) (ks : List ByteArray) (ts : List (List UInt8)) : itemL k ks ts = ts := by
  unfold itemL
  refine List.ext_getElem (by simp) fun i h1 h2 => ?_
  simp only [List.getElem_mapIdx]
  unfold itemAt
  rw [if_neg h]
theorem itemL6 (key : ByteArray) (ks : List ByteArray) (t : List UInt8) (ts : List (List UInt8)) : itemL 6 (key :: ks) (t :: ts) = (key.data.toList ++ 58 :: t) :: itemL 6 ks ts := by
  unfold itemL
  rw [List.mapIdx_cons]
  rfl
theorem joinTail_row : ∀ (l : List Tr) (r : List UInt8), Lib.joinTail [44] (Tr.txts l) ++ r = tailR l r
  | [], r => rfl
  | x :: l, r => by
    rw [tailR, ← joinTail_row l r, Tr.txts]
    unfold Lib.joinTail
    simp
theorem join_row (l : List Tr) (r : List UInt8) : Lib.join (Tr.txts l) [44] ++ r = rowB l r := by
  cases l with
  | nil => rfl
  | cons x l => rw [Tr.txts, Lib.join_cons, rowB, ← joinTail_row, List.append_assoc]
theorem joinTail_map : ∀ (ks : List ByteArray) (l : List Tr) (r : List UInt8), ks.length = l.length → Lib.joinTail [44] (itemL 6 ks (Tr.txts l)) ++ r = tailM ks l r
  | [], [], r, _ => rfl
  | [], _ :: _, _, h => by simp at h
  | _ :: _, [], _, h => by simp at h
  | key :: ks, x :: l, r, h => by
    rw [tailM, ← joinTail_map ks l r (by simpa using h), Tr.txts, itemL6]
    unfold Lib.joinTail
    simp
theorem join_map (ks : List ByteArray) (l : List Tr) (r : List UInt8) (h : ks.length = l.length) : Lib.join (itemL 6 ks (Tr.txts l)) [44] ++ r = mapB ks l r := by
  cases ks with
  | nil => cases l with
    | nil => rfl
    | cons _ _ => simp at h
  | cons key ks => cases l with
    | nil => simp at h
    | cons x l => rw [Tr.txts, itemL6, Lib.join_cons, mapB, ← joinTail_map ks l r (by simpa using h)]; simp
def Inj (t : Tr) : Prop := ∀ (d d' : Int) (t' : Tr) (r r' : List UInt8), Form d t → Form d' t' → End r → End r' → t.txt ++ r = t'.txt ++ r' → t = t' ∧ r = r'
theorem tailR_end : ∀ (l : List Tr) (r : List UInt8), End (tailR l (93 :: r))
  | [], r => End.cons (by simp) r
  | x :: l, r => End.cons (by simp) _
theorem tailM_end : ∀ (ks : List ByteArray) (l : List Tr) (r : List UInt8), End (tailM ks l (125 :: r))
  | [], _, r => End.cons (by simp) r
  | _ :: _, [], r => End.cons (by simp) r
  | _ :: _, _ :: _, r => End.cons (by simp) _
theorem tailR_inj {d d' : Int} : ∀ (l l' : List Tr) (r r' : List UInt8), (∀ x ∈ l, Inj x) → (∀ x ∈ l, Form d x) → (∀ x ∈ l', Form d' x) → tailR l (93 :: r) = tailR l' (93 :: r') → l = l' ∧ r = r'
  | [], [], r, r', _, _, _, h => ⟨rfl, by simpa [tailR] using h⟩
  | [], y :: l', r, r', _, _, _, h => by simp [tailR] at h
  | x :: l, [], r, r', _, _, _, h => by simp [tailR] at h
  | x :: l, y :: l', r, r', H, hf, hf', h => by
    rw [tailR, tailR, List.cons.injEq] at h
    obtain ⟨rfl, h2⟩ := H x (by simp) d d' y _ _ (hf x (by simp)) (hf' y (by simp)) (tailR_end l r) (tailR_end l' r') h.2
    obtain ⟨rfl, rfl⟩ := tailR_inj l l' r r' (fun z hz => H z (by simp [hz])) (fun z hz => hf z (by simp [hz])) (fun z hz => hf' z (by simp [hz])) h2
    exact ⟨rfl, rfl⟩
theorem head_no {t : Tr} {d : Int} (h : Form d t) {r r' : List UInt8} {c : UInt8} (hc : tag c = 9) : c :: r ≠ t.txt ++ r' := fun e => by
  obtain ⟨c', q, e1, e2⟩ := txt_head h
  rw [e1, List.cons_append, List.cons.injEq] at e
  rw [← e.1, hc] at e2
  obtain ⟨k, n, s, ks, l⟩ := t
  have := (Form.iff.1 h).2.1.k6
  simp only [Tr.kind] at e2
  omega
theorem rowB_inj {d d' : Int} (l l' : List Tr) (r r' : List UInt8) (H : ∀ x ∈ l, Inj x) (hf : ∀ x ∈ l, Form d x) (hf' : ∀ x ∈ l', Form d' x) (h : rowB l (93 :: r) = rowB l' (93 :: r')) : l = l' ∧ r = r' := by
  cases l with
  | nil => cases l' with
    | nil => exact ⟨rfl, by simpa [rowB] using h⟩
    | cons y l' => exact absurd h (head_no (hf' y (by simp)) (by decide))
  | cons x l => cases l' with
    | nil => exact absurd h.symm (head_no (hf x (by simp)) (by decide))
    | cons y l' =>
      rw [rowB, rowB] at h
      obtain ⟨rfl, h2⟩ := H x (by simp) d d' y _ _ (hf x (by simp)) (hf' y (by simp)) (tailR_end l r) (tailR_end l' r') h
      obtain ⟨rfl, rfl⟩ := tailR_inj l l' r r' (fun z hz => H z (by simp [hz])) (fun z hz => hf z (by simp [hz])) (fun z hz => hf' z (by simp [hz])) h2
      exact ⟨rfl, rfl⟩
theorem stop58 (r : List UInt8) : Stop low (58 :: r) := fun c r0 e => by
  rw [List.cons.injEq] at e
  rw [← e.1]
  decide
theorem stop39 (r : List UInt8) : Stop low (39 :: r) := fun c r0 e => by
  rw [List.cons.injEq] at e
  rw [← e.1]
  decide
theorem pair_inj {d d' : Int} {key key' : ByteArray} {x y : Tr} {r r' : List UInt8} (H : Inj x) (hk : okS key = true) (hk' : okS key' = true) (hx : Form d x) (hy : Form d' y) (hr : End r) (hr' : End r') (h : key.data.toList ++ 58 :: (x.txt ++ r) = key'.data.toList ++ 58 :: (y.txt ++ r')) : key = key' ∧ x = y ∧ r = r' := by
  obtain ⟨h1, h2⟩ := span_inj _ _ _ _ (low_all hk) (low_all hk') (stop58 _) (stop58 _) h
  rw [List.cons.injEq] at h2
  obtain ⟨h3, h4⟩ := H d d' y r r' hx hy hr hr' h2.2
  exact ⟨data_inj h1, h3, h4⟩
theorem tailM_inj {d d' : Int} : ∀ (ks ks' : List ByteArray) (l l' : List Tr) (r r' : List UInt8), ks.length = l.length → ks'.length = l'.length → (∀ x ∈ l, Inj x) → (∀ x ∈ l, Form d x) → (∀ x ∈ l', Form d' x) → (∀ s ∈ ks, okS s = true) → (∀ s ∈ ks', okS s = true) → tailM ks l (125 :: r) = tailM ks' l' (125 :: r') → ks = ks' ∧ l = l' ∧ r = r'
  | [], [], [], [], r, r', _, _, _, _, _, _, _, h => ⟨rfl, rfl, by simpa [tailM] using h⟩
  | [], key' :: ks', [], y :: l', r, r', _, _, _, _, _, _, _, h => by simp [tailM] at h
  | key :: ks, [], x :: l, [], r, r', _, _, _, _, _, _, _, h => by simp [tailM] at h
  | key :: ks, key' :: ks', x :: l, y :: l', r, r', h1, h2, H, hf, hf', hk, hk', h => by
    rw [tailM, tailM, List.cons.injEq] at h
    obtain ⟨rfl, rfl, h3⟩ := pair_inj (H x (by simp)) (hk key (by simp)) (hk' key' (by simp)) (hf x (by simp)) (hf' y (by simp)) (tailM_end ks l r) (tailM_end ks' l' r') h.2
    obtain ⟨rfl, rfl, rfl⟩ := tailM_inj ks ks' l l' r r' (by simpa using h1) (by simpa using h2) (fun z hz => H z (by simp [hz])) (fun z hz => hf z (by simp [hz])) (fun z hz => hf' z (by simp [hz])) (fun z hz => hk z (by simp [hz])) (fun z hz => hk' z (by simp [hz])) h3
    exact ⟨rfl, rfl, rfl⟩
  | [], _, _ :: _, _, _, _, h1, _, _, _, _, _, _, _ => by simp at h1
  | _ :: _, _, [], _, _, _, h1, _, _, _, _, _, _, _ => by simp at h1
  | _, [], _, _ :: _, _, _, _, h2, _, _, _, _, _, _ => by simp at h2
  | _, _ :: _, _, [], _, _, _, h2, _, _, _, _, _, _ => by simp at h2
theorem key_no {key : ByteArray} (hk : okS key = true) {r q : List UInt8} : 125 :: r ≠ key.data.toList ++ 58 :: q := fun e => by
  cases h : key.data.toList with
  | nil => rw [h] at e; simp at e
  | cons c s =>
    have h1 := low_all hk c (by rw [h]; simp)
    rw [h, List.cons_append, List.cons.injEq] at e
    rw [← e.1] at h1
    revert h1
    decide
theorem mapB_inj {d d' : Int} (ks ks' : List ByteArray) (l l' : List Tr) (r r' : List UInt8) (h1 : ks.length = l.length) (h2 : ks'.length = l'.length) (H : ∀ x ∈ l, Inj x) (hf : ∀ x ∈ l, Form d x) (hf' : ∀ x ∈ l', Form d' x) (hk : ∀ s ∈ ks, okS s = true) (hk' : ∀ s ∈ ks', okS s = true) (h : mapB ks l (125 :: r) = mapB ks' l' (125 :: r')) : ks = ks' ∧ l = l' ∧ r = r' := by
  cases ks with
  | nil =>
    obtain rfl : l = [] := List.eq_nil_of_length_eq_zero h1.symm
    cases ks' with
    | nil =>
      obtain rfl : l' = [] := List.eq_nil_of_length_eq_zero h2.symm
      exact ⟨rfl, rfl, by simpa [mapB] using h⟩
    | cons key' ks' => cases l' with
      | nil => simp at h2
      | cons y l' => exact absurd h (key_no (hk' key' (by simp)))
  | cons key ks => cases l with
    | nil => simp at h1
    | cons x l => cases ks' with
      | nil =>
        obtain rfl : l' = [] := List.eq_nil_of_length_eq_zero h2.symm
        exact absurd h.symm (key_no (hk key (by simp)))
      | cons key' ks' => cases l' with
        | nil => simp at h2
        | cons y l' =>
          rw [mapB, mapB] at h
          obtain ⟨rfl, rfl, h3⟩ := pair_inj (H x (by simp)) (hk key (by simp)) (hk' key' (by simp)) (hf x (by simp)) (hf' y (by simp)) (tailM_end ks l r) (tailM_end ks' l' r') h
          obtain ⟨rfl, rfl, rfl⟩ := tailM_inj ks ks' l l' r r' (by simpa using h1) (by simpa using h2) (fun z hz => H z (by simp [hz])) (fun z hz => hf z (by simp [hz])) (fun z hz => hf' z (by simp [hz])) (fun z hz => hk z (by simp [hz])) (fun z hz => hk' z (by simp [hz])) h3
          exact ⟨rfl, rfl, rfl⟩
theorem keys_ok {ks : List ByteArray} (h : KeysP ks) : ∀ s ∈ ks, okS s = true := fun s hs => by
  obtain ⟨i, hi, rfl⟩ := List.getElem_of_mem hs
  have := (h i hi).1
  rwa [nth_eq hi] at this
theorem inj_all : ∀ t : Tr, Inj t := Tr.ind (p := Inj) fun k n s ks l H d d' t' r r' hf hf' hr hr' h => by
  obtain ⟨k', n', s', ks', l'⟩ := t'
  have hkk : k = k' := by
    obtain ⟨c, q, e1, e2⟩ := txt_head hf
    obtain ⟨c', q', e3, e4⟩ := txt_head hf'
    rw [e1, e3, List.cons_append, List.cons_append, List.cons.injEq] at h
    rw [h.1] at e2
    exact e2.symm.trans e4
  subst hkk
  obtain ⟨-, hp, hl⟩ := Form.iff.1 hf
  obtain ⟨-, hp', hl'⟩ := Form.iff.1 hf'
  have h0 := hp.k0
  have h6 := hp.k6
  rw [Tr.txt, Tr.txt] at h
  by_cases e0 : k = 0
  · rw [if_pos e0, if_pos e0] at h
    rw [hp.z3 (by omega), hp.z4 (by omega), hp.z6 (by omega), hp.z5 (by omega), hp'.z3 (by omega), hp'.z4 (by omega), hp'.z6 (by omega), hp'.z5 (by omega)]
    exact ⟨rfl, List.append_cancel_left h⟩
  rw [if_neg e0, if_neg e0] at h
  by_cases e1 : k = 1
  · rw [if_pos e1, if_pos e1] at h
    rw [hp.z3 (by omega), hp.z4 (by omega), hp.z6 (by omega), hp.z5 (by omega), hp'.z3 (by omega), hp'.z4 (by omega), hp'.z6 (by omega), hp'.z5 (by omega)]
    exact ⟨rfl, List.append_cancel_left h⟩
  rw [if_neg e1, if_neg e1] at h
  by_cases e2 : k = 2
  · rw [if_pos e2, if_pos e2] at h
    rw [hp.z3 (by omega), hp.z4 (by omega), hp.z6 (by omega), hp.z5 (by omega), hp'.z3 (by omega), hp'.z4 (by omega), hp'.z6 (by omega), hp'.z5 (by omega)]
    exact ⟨rfl, List.append_cancel_left h⟩
  rw [if_neg e2, if_neg e2] at h
  by_cases e3 : k = 3
  · rw [if_pos e3, if_pos e3] at h
    obtain ⟨rfl, rfl⟩ := itoa_inj hr.stop hr'.stop h
    rw [hp.z4 (by omega), hp.z6 (by omega), hp.z5 (by omega), hp'.z4 (by omega), hp'.z6 (by omega), hp'.z5 (by omega)]
    exact ⟨rfl, rfl⟩
  rw [if_neg e3, if_neg e3] at h
  by_cases e4 : k = 4
  · rw [if_pos e4, if_pos e4, List.cons_append, List.cons_append, List.cons.injEq, List.append_assoc, List.append_assoc] at h
    obtain ⟨h1, h2⟩ := span_inj _ _ _ _ (low_all hp.ok) (low_all hp'.ok) (stop39 r) (stop39 r') h.2
    obtain rfl := data_inj h1
    have h2 : (39 :: r : List UInt8) = 39 :: r' := h2
    rw [List.cons.injEq] at h2
    rw [hp.z3 (by omega), hp.z6 (by omega), hp.z5 (by omega), hp'.z3 (by omega), hp'.z6 (by omega), hp'.z5 (by omega)]
    exact ⟨rfl, h2.2⟩
  rw [if_neg e4, if_neg e4] at h
  by_cases e6 : k = 6
  · subst e6
    rw [if_pos rfl, if_pos rfl, List.cons_append, List.cons_append, List.cons.injEq, List.append_assoc, List.append_assoc, join_map _ _ _ (hp.len rfl), join_map _ _ _ (hp'.len rfl)] at h
    obtain ⟨rfl, rfl, h3⟩ := mapB_inj ks ks' l l' r r' (hp.len rfl) (hp'.len rfl) H hl hl' (keys_ok hp.keys) (keys_ok hp'.keys) h.2
    rw [hp.z3 (by omega), hp.z4 (by omega), hp'.z3 (by omega), hp'.z4 (by omega)]
    exact ⟨rfl, h3⟩
  · rw [if_neg e6, if_neg e6, List.cons_append, List.cons_append, List.cons.injEq, List.append_assoc, List.append_assoc, itemL5 e6, itemL5 e6, join_row, join_row] at h
    obtain ⟨rfl, h3⟩ := rowB_inj l l' r r' H hl hl' h.2
    rw [hp.z3 (by omega), hp.z4 (by omega), hp.z6 (by omega), hp'.z3 (by omega), hp'.z4 (by omega), hp'.z6 (by omega)]
    exact ⟨rfl, h3⟩
theorem txt_inj {t t' : Tr} {d d' : Int} (h : Form d t) (h' : Form d' t') (e : t.txt = t'.txt) : t = t' :=
  (inj_all t d d' t' [] [] h h' (fun c r0 e => by cases e) (fun c r0 e => by cases e) (by rw [e])).1

end Go.Proofs.YtpfkcblhojkaiaaDoor.Eng
