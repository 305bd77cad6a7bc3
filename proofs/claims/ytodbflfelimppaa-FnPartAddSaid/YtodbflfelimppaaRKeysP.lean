/- What both RowKeys come to: plain laws. -/
import Derived.Test.YtodbflfelimppaaPPut
namespace Go.Proofs.Ytodbflfelimppaa.Eng
open Go.RowKit
set_option linter.unusedVariables false
set_option linter.unusedSimpArgs false
set_option maxHeartbeats 1000000


theorem Fr.new2 {X : Nat → Prop} {w0 w w' : World} {L : List Res} (h : Fr X w0 L w) (hc : Chg No w w') (r q : Res) (hr : r.is w') (hq : q.is w') (hbr : ∀ k, r.fp k → w.heap.size ≤ k) (hbq : ∀ k, q.fp k → w.heap.size ≤ k) (hd : ∀ k, r.fp k → ¬ q.fp k) : Fr X w0 (r :: q :: L) w' := by
  have h1 := h.new hc q hq hbq
  have h2 := h.new hc r hr hbr
  refine ⟨h1.chg, ⟨hr, fun k hk s hs => ?_, h1.mem⟩, fun s hs k hk => ?_⟩
  · rcases List.mem_cons.1 hs with rfl | hs
    · exact hd k hk
    · exact h2.mem.2.1 k hk s hs
  · rcases List.mem_cons.1 hs with rfl | hs
    · exact h2.dom s (by simp) k hk
    · exact h1.dom s hs k hk
def kOf (p : Tr) : ByteArray := (p.list.getD 0 zeroT).str
def vOf (p : Tr) : Tr := p.list.getD 1 zeroT
def pairB (p : Tr) : Bool := decide (p.kind = 5) && decide (p.list.length = 2) && decide ((p.list.getD 0 zeroT).kind = 4)
def rkF : List Tr → List ByteArray → List Tr → Option Tr
  | [], ks, l => some (.mk 6 0 ⟨#[]⟩ ks l)
  | p :: r, ks, l => if pairB p = true then rkF r (putK ks (kOf p)) (putL ks l (kOf p) (vOf p)) else none
noncomputable def rowKeysR (t : Tr) : Option Tr := if rowT t = true then (rkF t.list [] []).bind (toldR true) else none
structure Good (ks : List ByteArray) (l : List Tr) (n : Nat) : Prop where
  so : Sorted ks
  len : ks.length = l.length
  le : ks.length ≤ n
  ok : ∀ k ∈ ks, okS k = true
  okl : ∀ x ∈ l, okT x = true
  fit : ∀ x ∈ l, x.Fit
theorem Good.nil (n : Nat) : Good [] [] n := ⟨fun i _ h => by simp at h, rfl, Nat.zero_le _, by simp, by simp, by simp⟩
theorem putK_sorted {ks : List ByteArray} {key : ByteArray} (hs : Sorted ks) : Sorted (putK ks key) := by
  have hp := posK_pos (key := key) hs
  have hn : ∀ j, nth ks j = nth ks j := fun _ => rfl
  cases hb : putB ks key
  · have hK : putK ks key = ks.take (posK ks key) ++ key :: ks.drop (posK ks key) := by unfold putK; rw [if_neg (by simp [hb])]
    rw [hK]
    have hq := hp.1
    have hlen : (ks.take (posK ks key)).length = posK ks key := by simp; omega
    have h1 : ∀ i, i < posK ks key → nth (ks.take (posK ks key) ++ key :: ks.drop (posK ks key)) i = nth ks i := fun i hi => by
      unfold nth
      simp [List.getElem?_append, show i < min (posK ks key) ks.length by omega, show i < ks.length by omega, hi]
    have h2 : nth (ks.take (posK ks key) ++ key :: ks.drop (posK ks key)) (posK ks key) = key := by
      unfold nth
      simp [List.getElem?_append, show min (posK ks key) ks.length = posK ks key by omega]
    have h3 : ∀ i, posK ks key < i → nth (ks.take (posK ks key) ++ key :: ks.drop (posK ks key)) i = nth ks (i - 1) := fun i hi => by
      unfold nth
      obtain ⟨j, rfl⟩ : ∃ j, i = posK ks key + 1 + j := ⟨i - (posK ks key + 1), by omega⟩
      simp [List.getElem?_append, show min (posK ks key) ks.length = posK ks key by omega, show ¬ posK ks key + 1 + j < posK ks key by omega, show posK ks key + 1 + j - posK ks key = j + 1 by omega, show posK ks key + 1 + j - 1 = posK ks key + j by omega]
    intro i h0 hi
    have hi' : i < ks.length + 1 := by simp at hi; omega
    rcases Nat.lt_trichotomy i (posK ks key) with h | h | h
    · rw [h1 i h, h1 (i - 1) (by omega)]
      exact hs i h0 (by omega)
    · rw [h, h2, h1 _ (by omega)]
      exact hp.2.1 _ (by omega)
    · rw [h3 i h]
      by_cases h4 : i = posK ks key + 1
      · subst h4
        rw [show posK ks key + 1 - 1 = posK ks key by omega, h2]
        refine ltS_nlt (hp.2.2 _ (Nat.le_refl _) (by omega)) fun e => ?_
        have : putB ks key = true := putB_iff.2 ⟨by omega, e⟩
        rw [hb] at this; cases this
      · rw [h3 (i - 1) (by omega)]
        exact hs (i - 1) (by omega) (by omega)
  · have hK : putK ks key = ks := by unfold putK; rw [if_pos hb]
    rw [hK]; exact hs
theorem put_len2 {α : Type} {ks : List ByteArray} {l : List α} {key : ByteArray} {x : α} (h : ks.length = l.length) : (putK ks key).length = (putL ks l key x).length := by
  have := posK_le ks key
  unfold putK putL
  split
  · simp [h]
  · simp; omega
theorem Good.put {ks : List ByteArray} {l : List Tr} {n : Nat} {key : ByteArray} {x : Tr} (h : Good ks l n) (hk : okS key = true) (hx : okT x = true) (hf : x.Fit) : Good (putK ks key) (putL ks l key x) (n + 1) where
  so := putK_sorted h.so
  len := put_len2 h.len
  le := by have := putK_le ks key; have := h.le; omega
  ok := fun y hy => by
    rcases putK_mem hy with hy | rfl
    · exact h.ok y hy
    · exact hk
  okl := fun y hy => by
    rcases putL_mem hy with hy | rfl
    · exact h.okl y hy
    · exact hx
  fit := fun y hy => by
    rcases putL_mem hy with hy | rfl
    · exact h.fit y hy
    · exact hf
theorem Good.bd {ks : List ByteArray} {l : List Tr} {n : Nat} (h : Good ks l n) (hn : n ≤ 60) : (Tr.mk 6 0 ⟨#[]⟩ ks l).Fit ∧ (Tr.mk 6 0 ⟨#[]⟩ ks l).wt ≤ 1048576 := by
  have hl := h.len
  have hle := h.le
  refine ⟨.mk (Nat.zero_le _) (fun y hy => by have := okS_le (h.ok y hy); omega) h.fit, ?_⟩
  have hb := sumNb (f := Tr.wt) (b := 1560) (l := l) fun y hy => okT_wt (h.okl y hy)
  have hb2 := sumNb (f := ByteArray.size) (b := 12) (l := ks) fun y hy => okS_le (h.ok y hy)
  rw [Tr.wt_mk]
  show 0 + (_ + _) + _ ≤ _
  omega
theorem okT_str {t : Tr} (h : okT t = true) : okS t.str = true := by
  obtain ⟨k, n, s, ks, l⟩ := t
  exact (Form.iff.1 (okT_node h).1).2.1.ok
theorem Good.step {ks : List ByteArray} {l : List Tr} {n : Nat} {p : Tr} (h : Good ks l n) (hp : okT p = true) (hf : p.Fit) (h2 : p.list.length = 2) : Good (putK ks (kOf p)) (putL ks l (kOf p) (vOf p)) (n + 1) := by
  obtain ⟨k, m, s, ks', l'⟩ := p
  match l', h2 with
  | [a, b], _ => exact h.put (okT_str (okT_child hp (x := a) (by simp [Tr.list]))) (okT_child hp (x := b) (by simp [Tr.list])) (hf.list b (by simp [Tr.list]))
theorem rkF_good : ∀ {r : List Tr} {ks : List ByteArray} {l : List Tr} {n : Nat} {o : Tr}, Good ks l n → (∀ p ∈ r, okT p = true ∧ p.Fit) → rkF r ks l = some o → ∃ ks' l', o = .mk 6 0 ⟨#[]⟩ ks' l' ∧ Good ks' l' (n + r.length)
  | [], ks, l, n, o, h, _, e => ⟨ks, l, (Option.some.inj e).symm, h⟩
  | p :: r, ks, l, n, o, h, hr, e => by
    unfold rkF at e
    split at e
    · rename_i hp
      have h2 : p.list.length = 2 := by unfold pairB at hp; simp at hp; exact hp.1.2
      obtain ⟨ks', l', h3, h4⟩ := rkF_good (h.step (hr p (by simp)).1 (hr p (by simp)).2 h2) (fun q hq => hr q (by simp [hq])) e
      exact ⟨ks', l', h3, by rw [List.length_cons, show n + (r.length + 1) = n + 1 + r.length by omega]; exact h4⟩
    · cases e
theorem rowT_ok {t : Tr} (h : rowT t = true) : okT t = true := by unfold rowT at h; cases h1 : okT t <;> simp [h1] at h ⊢
theorem rowKeys_mkn {t : Tr} (hf : t.Fit) : ((rowKeysR t).getD zeroT).keys.length + sumN Tr.mkn ((rowKeysR t).getD zeroT).list ≤ 3 * 1048576 + 3 := by
  unfold rowKeysR
  split
  · rename_i h
    have h1 := rowT_ok h
    have hl := okT_len60 h1
    cases h2 : rkF t.list [] [] with
    | none => show 0 + 0 ≤ _; omega
    | some o =>
      obtain ⟨ks', l', rfl, h4⟩ := rkF_good (Good.nil 0) (fun p hp => ⟨okT_child h1 hp, hf.list p hp⟩) h2
      show ((toldR true (.mk 6 0 ⟨#[]⟩ ks' l')).getD zeroT).keys.length + sumN Tr.mkn ((toldR true (.mk 6 0 ⟨#[]⟩ ks' l')).getD zeroT).list ≤ _
      unfold toldR
      split
      · exact wt_mkn _ _ (h4.bd (by omega)).2
      · show 0 + 0 ≤ _
        omega
  · show 0 + 0 ≤ _
    omega
theorem two_at {w : World} {l : List Tr} {A : Option Addr} {c : Nat} (h : RepL Any w l (.slice A l.length c)) : ∃ b o u3 u4, ∃ y : V5, l.length = 2 → A = some ⟨b, o, none⟩ ∧ w.rangeAt b o [.int .i64 (l.getD 0 zeroT).kind, .int .i64 (l.getD 0 zeroT).num, .string (l.getD 0 zeroT).str, u3, u4] ∧ w.rangeAt b (o + 5) (enc5 y) ∧ Rep Any w (l.getD 1 zeroT) y.val := by
  by_cases hl : l.length = 2
  · obtain ⟨b, o, cs, rfl, -, hlc, hr0, ht0⟩ := h.at 0 (by omega)
    obtain ⟨b', o', cs', e, -, hlc', hr1, ht1⟩ := h.at 1 (by omega)
    obtain ⟨rfl, rfl⟩ : b = b' ∧ o = o' := by simpa using e
    obtain ⟨u3, u4, e3, -, -⟩ := ht0.form
    have e0 : cs = [.int .i64 l[0].kind, .int .i64 l[0].num, .string l[0].str, u3, u4] := by simpa using e3
    match cs', hlc', hr1, ht1 with
    | [x1, x2, x3, x4, x5], _, hr1, ht1 =>
      refine ⟨b, o, u3, u4, ⟨x1, x2, x3, x4, x5⟩, fun _ => ⟨rfl, ?_, ?_, ?_⟩⟩
      · rw [show l.getD 0 zeroT = l[0] by simp [List.getD]; rw [List.getElem?_eq_getElem (by omega)]; rfl, ← e0]
        simpa using hr0
      · simpa [enc5] using hr1
      · rw [show l.getD 1 zeroT = l[1] by simp [List.getD]; rw [List.getElem?_eq_getElem (by omega)]; rfl]
        exact ht1
  · exact ⟨0, 0, .bool true, .bool true, z5, fun h => absurd h hl⟩
theorem rk_drop {l : List Tr} {i : Nat} (hi : i < l.length) (ks : List ByteArray) (l' : List Tr) : rkF (l.drop i) ks l' = if pairB l[i] = true then rkF (l.drop (i + 1)) (putK ks (kOf l[i])) (putL ks l' (kOf l[i]) (vOf l[i])) else none := by
  rw [List.drop_eq_getElem_cons hi, rkF]

end Go.Proofs.Ytodbflfelimppaa.Eng
