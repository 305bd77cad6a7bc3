/- Walks of both RowPairs: the keys of a tree with its parts, as rows of two. -/
import Derived.Test.YtpfkcblhojkaiaaDoorAt
namespace Go.Proofs.YtpfkcblhojkaiaaDoor.Eng
open Go.RowKit
set_option linter.unusedVariables false
set_option linter.unusedSimpArgs false
set_option maxHeartbeats 1000000




def ALF (F : Nat → Prop) (w : World) (rs : List Tr) (xs : List V5) : Prop := xs.length = rs.length ∧ ∀ j (h : j < rs.length) (h' : j < xs.length), Rep F w rs[j] xs[j].val
theorem ALF.al {F w rs xs} (h : ALF F w rs xs) : AL w rs xs := ⟨h.1, fun j h1 h2 => (h.2 j h1 h2).weak fun _ _ => trivial⟩
theorem ALF.weak {F G : Nat → Prop} {w rs xs} (h : ALF F w rs xs) (hfg : ∀ k, F k → G k) : ALF G w rs xs := ⟨h.1, fun j h1 h2 => (h.2 j h1 h2).weak hfg⟩
theorem ALF.snoc {F : Nat → Prop} {w rs xs} (h : ALF F w rs xs) {t : Tr} {x : V5} (hx : Rep F w t x.val) : ALF F w (rs ++ [t]) (xs ++ [x]) := by
  have he := h.1
  refine ⟨by simp [he], fun j h1 h2 => ?_⟩
  by_cases hj : j < rs.length
  · rw [List.getElem_append_left hj, List.getElem_append_left (by omega)]
    exact h.2 j hj (by omega)
  · rw [List.getElem_append_right (by omega), List.getElem_append_right (by omega)]
    have e1 : j - rs.length = 0 := by simp at h1; omega
    have e2 : j - xs.length = 0 := by simp at h1; omega
    simp only [e1, e2]
    exact hx
/-- Trees that lie in what was there and in blocks of G. -/
def alR (w0 : World) (G : Nat → Prop) (rs : List Tr) (xs : List V5) : Res where
  fp := G
  is w := (∀ k, G k → k < w.heap.size) ∧ ∃ u : World, (∀ k, k < w0.heap.size → u.heap[k]? = w0.heap[k]?) ∧ ALF (fun k => k < w0.heap.size ∨ G k) u rs xs ∧ ∀ k, G k → w.heap[k]? = u.heap[k]?
  keep w w' h hi := by
    obtain ⟨h1, u, h2, h3, h4⟩ := hi
    exact ⟨lt_keep h1 h, u, h2, h3, fun k hk => (h k (h1 k hk) hk).trans (h4 k hk)⟩
  lt w hi := hi.1
theorem alR.use {w0 w : World} {G : Nat → Prop} {rs xs} (h : (alR w0 G rs xs).is w) (hc : Chg No w0 w) : ALF (fun k => k < w0.heap.size ∨ G k) w rs xs := by
  obtain ⟨h1, u, h2, h3, h4⟩ := h
  refine ⟨h3.1, fun j a b => (h3.2 j a b).keep fun k hk hF => ?_⟩
  rcases hF with hF | hF
  · rw [hc.block k hF id, h2 k hF]
  · exact h4 k hF
theorem Fr.al0 {X : Nat → Prop} {w0 w w1 : World} {L : List Res} {r : Res} (h : Fr X w0 (r :: L) w) : Fr X w0 (r :: alR w1 No [] [] :: L) w := by
  obtain ⟨h1, h2, h3⟩ := h.mem
  refine h.tell _ ⟨h1, fun k hk q hq hqk => ?_, ⟨fun k hk => hk.elim, w1, fun _ _ => rfl, ⟨rfl, fun j hj => by simp at hj⟩, fun k hk => hk.elim⟩, fun k hk => hk.elim, h3⟩ fun q hq k hk => ?_
  · rcases List.mem_cons.1 hq with rfl | hq
    · exact hqk.elim
    · exact h2 k hk q hq hqk
  · rcases List.mem_cons.1 hq with rfl | hq
    · exact ⟨_, List.mem_cons_self .., hk⟩
    · rcases List.mem_cons.1 hq with rfl | hq
      · exact hk.elim
      · exact ⟨q, by simp [hq], hk⟩
/-- One more, in a block of its own. -/
theorem Fr.alIn {w0 w : World} {L : List Res} {r : Res} {G : Nat → Prop} {b ty : Nat} {cells : List Value} {rs : List Tr} {xs : List V5} {t : Tr} {x : V5} (h : Fr No w0 (blk b ty cells :: r :: alR w0 G rs xs :: L) w) (ht : Rep (fun k => k < w0.heap.size ∨ k = b) w t x.val) : Fr No w0 (r :: alR w0 (fun k => G k ∨ k = b) (rs ++ [t]) (xs ++ [x]) :: L) w := by
  obtain ⟨h1, h2, h3, h4, h5, h6, h7⟩ := h.mem
  have hal := alR.use h5 h.chg
  refine h.tell _ ⟨h3, fun k hk q hq hqk => ?_, ⟨fun k hk => ?_, w, fun k hk => h.chg.block k hk id, (hal.weak fun k hk => by rcases hk with hk | hk; exact .inl hk; exact .inr (.inl hk)).snoc (ht.weak fun k hk => by rcases hk with hk | hk; exact .inl hk; exact .inr (.inr hk)), fun _ _ => rfl⟩, fun k hk q hq hqk => ?_, h7⟩ fun q hq k hk => ?_
  · rcases List.mem_cons.1 hq with rfl | hq
    · rcases hqk with hqk | hqk
      · exact h4 k hk (alR w0 G rs xs) (by simp) hqk
      · exact h2 k hqk r (by simp) hk
    · exact h4 k hk q (by simp [hq]) hqk
  · rcases hk with hk | hk
    · exact (alR w0 G rs xs).lt w h5 k hk
    · exact (blk b ty cells).lt w h1 k hk
  · rcases hk with hk | hk
    · exact h6 k hk q hq hqk
    · exact h2 k hk q (by simp [hq]) hqk
  · rcases List.mem_cons.1 hq with rfl | hq
    · exact ⟨q, by simp, hk⟩
    · rcases List.mem_cons.1 hq with rfl | hq
      · rcases hk with hk | hk
        · exact ⟨alR w0 G rs xs, by simp, hk⟩
        · exact ⟨blk b ty cells, by simp, hk⟩
      · exact ⟨q, by simp [hq], hk⟩
theorem repL_ofE {F : Nat → Prop} {w : World} {rs : List Tr} {xs : List V5} {v : Value} (h : RepE enc5 5 F w xs v) (ha : ALF F w rs xs) : RepL F w rs v := by
  obtain ⟨A, c, e1, e2, e3, e4⟩ := h
  rw [ha.1] at e1 e2
  refine ⟨A, c, fun i => if hi : i < xs.length then enc5 xs[i] else enc5 z5, e1, e2, e3, fun hm => ?_, fun i hi => ?_⟩
  · obtain ⟨b, o, e5, eF, e6⟩ := e4 (by intro e; rw [e] at ha; have := ha.1; simp at this; omega)
    refine ⟨b, o, e5, eF, fun i hi => ?_⟩
    have hi' : i < xs.length := by rw [ha.1]; exact hi
    simp only [dif_pos hi']
    exact ⟨rfl, e6 i hi'⟩
  · have hi' : i < xs.length := by rw [ha.1]; exact hi
    simp only [dif_pos hi']
    rw [enc5_val]
    exact ha.2 i hi hi'
def pairT (k : ByteArray) (x : Tr) : Tr := .mk 5 0 ⟨#[]⟩ [] [strT' k, x]
def nthT (l : List Tr) (i : Nat) : Tr := l.getD i zeroT
def pairsL (t : Tr) (m : Nat) : List Tr := (List.range m).map fun i => pairT (nth t.keys i) (nthT t.list i)
def pairsT (t : Tr) : Tr := .mk 5 0 ⟨#[]⟩ [] (pairsL t t.list.length)
noncomputable def pairsR (t : Tr) : Option Tr := if okT t = true ∧ t.kind = 6 then toldR true (pairsT t) else none
theorem pairsL_step (t : Tr) (i : Nat) : pairsL t (i + 1) = pairsL t i ++ [pairT (nth t.keys i) (nthT t.list i)] := by simp [pairsL, List.range_succ]
theorem nthP {t : Tr} {i : Nat} (h : i < t.keys.length) (h' : i < t.list.length) : pairT (nth t.keys i) (nthT t.list i) = pairT t.keys[i] t.list[i] := by rw [nth_eq h]; simp [nthT, h']
theorem pair_wt (k : ByteArray) (x : Tr) : (pairT k x).wt = 2 + k.size + x.wt := by
  unfold pairT strT'
  rw [Tr.wt_mk, sumN_cons, sumN_cons, Tr.wt_mk]
  show 0 + (0 + 0) + (2 + (k.size + (0 + 0) + (0 + 0) + (x.wt + 0))) = _
  omega
theorem pairs_sum (t : Tr) : ∀ m, m ≤ t.keys.length → m ≤ t.list.length → sumN Tr.wt (pairsL t m) = 2 * m + sumN ByteArray.size (t.keys.take m) + sumN Tr.wt (t.list.take m)
  | 0, _, _ => by simp [pairsL, sumN]
  | m + 1, h1, h2 => by
    rw [pairsL_step, sumNa, pairs_sum t m (by omega) (by omega), sumN_take _ _ _ (show m < t.keys.length by omega), sumN_take _ _ _ (show m < t.list.length by omega), nthP (by omega) (by omega)]
    rw [sumN_cons, pair_wt]
    show _ + (_ + 0) = _
    omega
theorem pairsT_wt {t : Tr} (h : okT t = true) (hl : t.keys.length = t.list.length) : (pairsT t).wt ≤ 1048576 := by
  obtain ⟨h1, h2⟩ := okT_node h
  have h3 := form_wt h1
  have h4 := t.wt_list
  have h5 := pairs_sum t t.list.length (by omega) (Nat.le_refl _)
  have h6 : (pairsL t t.list.length).length = t.list.length := by simp [pairsL]
  have h7 := t.wt_keys
  unfold pairsT
  rw [Tr.wt_mk, h5, h6, List.take_length, ← hl, List.take_length]
  show 0 + (0 + 0) + _ ≤ _
  omega
theorem pairsT_fit {t : Tr} (hf : t.Fit) (hl : t.keys.length = t.list.length) : (pairsT t).Fit := .mk (Nat.zero_le _) (by simp) fun x hx => by
  obtain ⟨i, hi, rfl⟩ := List.mem_map.1 hx
  have hi' : i < t.list.length := by simpa using hi
  rw [nthP (by omega) hi']
  refine .mk (Nat.zero_le _) (by simp) fun y hy => ?_
  rcases (by simpa using hy : y = strT' t.keys[i] ∨ y = t.list[i]) with rfl | rfl
  · exact .mk (hf.keys _ (List.getElem_mem _)) (by simp) (by simp)
  · exact hf.list _ (List.getElem_mem _)
theorem pairsR_mkn (t : Tr) : ((pairsR t).getD zeroT).keys.length + sumN Tr.mkn ((pairsR t).getD zeroT).list ≤ 3 * 1048576 + 3 := by
  unfold pairsR
  split
  · rename_i h
    have h1 := pairsT_wt h.1 (okT_len h.1 h.2)
    unfold toldR
    split
    · exact wt_mkn _ _ h1
    · show 0 + 0 ≤ _
      omega
  · show 0 + 0 ≤ _
    omega

end Go.Proofs.YtpfkcblhojkaiaaDoor.Eng
