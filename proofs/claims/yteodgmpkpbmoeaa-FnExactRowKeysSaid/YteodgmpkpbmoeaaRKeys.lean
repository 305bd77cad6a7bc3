/- Walks of both RowKeys: a row of pairs makes a tree by keys. -/
import Derived.Test.YteodgmpkpbmoeaaPPut
namespace Go.Proofs.Yteodgmpkpbmoeaa.Eng
open Go.RowKit
set_option linter.unusedVariables false
set_option linter.unusedSimpArgs false
set_option maxHeartbeats 1000000


theorem Fr.new2 {X : Nat → Prop} {w0 w w' : World} {L : List Res} (h : Fr X w0 L w) (hc : Chg No w w') (r q : Res) (hr : r.is w') (hq : q.is w') (hbr : ∀ k, r.fp k → w.heap.size ≤ k) (hbq : ∀ k, q.fp k → w.heap.size ≤ k) (hd : ∀ k, r.fp k → ¬ q.fp k) : Fr X w0 (r :: q :: L) w' := by
  have h1 := h.new hc q hq hbq
  have h2 := h.new hc r hr hbr
  refine ⟨h1.chg, ⟨hr, fun k hk s hs => ?_, h1.mem⟩, fun s hs k hk => ?_⟩
  · rcases List.mem_cons.1 hs with rfl | hs
    · exact hd k hk
    · exact h2.mem.2.1 k hk s hs
  · rcases List.mem_cons.1 hs with rfl | hs
    · exact h2.dom s (by simp) k hk
    · exact h1.dom s hs k hk
def kOf (p : Tr) : ByteArray := (p.list.getD 0 zeroT).str
def vOf (p : Tr) : Tr := p.list.getD 1 zeroT
def pairT (p : Tr) : Bool := decide (p.kind = 5) && decide (p.list.length = 2) && decide ((p.list.getD 0 zeroT).kind = 4)
def rkF : List Tr → List ByteArray → List Tr → Option Tr
  | [], ks, l => some (.mk 6 0 ⟨#[]⟩ ks l)
  | p :: r, ks, l => if pairT p = true then rkF r (putK ks (kOf p)) (putL ks l (kOf p) (vOf p)) else none
noncomputable def rowKeysR (t : Tr) : Option Tr := if rowT t = true then (rkF t.list [] []).bind (toldR true) else none
structure Good (ks : List ByteArray) (l : List Tr) (n : Nat) : Prop where
  so : Sorted ks
  len : ks.length = l.length
  le : ks.length ≤ n
  ok : ∀ k ∈ ks, okS k = true
  okl : ∀ x ∈ l, okT x = true
  fit : ∀ x ∈ l, x.Fit
theorem Good.nil (n : Nat) : Good [] [] n := ⟨fun i _ h => by simp at h, rfl, Nat.zero_le _, by simp, by simp, by simp⟩
theorem putK_sorted {ks : List ByteArray} {key : ByteArray} (hs : Sorted ks) : Sorted (putK ks key) := by
  have hp := posK_pos (key := key) hs
  have hn : ∀ j, nth ks j = nth ks j := fun _ => rfl
  cases hb : putB ks key
  · have hK : putK ks key = ks.take (posK ks key) ++ key :: ks.drop (posK ks key) := by unfold putK; rw [if_neg (by simp [hb])]
    rw [hK]
    have hq := hp.1
    have hlen : (ks.take (posK ks key)).length = posK ks key := by simp; omega
    have h1 : ∀ i, i < posK ks key → nth (ks.take (posK ks key) ++ key :: ks.drop (posK ks key)) i = nth ks i := fun i hi => by
      unfold nth
      simp [List.getElem?_append, show i < min (posK ks key) ks.length by omega, show i < ks.length by omega, hi]
    have h2 : nth (ks.take (posK ks key) ++ key :: ks.drop (posK ks key)) (posK ks key) = key := by
      unfold nth
      simp [List.getElem?_append, show min (posK ks key) ks.length = posK ks key by omega]
    have h3 : ∀ i, posK ks key < i → nth (ks.take (posK ks key) ++ key :: ks.drop (posK ks key)) i = nth ks (i - 1) := fun i hi => by
      unfold nth
      obtain ⟨j, rfl⟩ : ∃ j, i = posK ks key + 1 + j := ⟨i - (posK ks key + 1), by omega⟩
      simp [List.getElem?_append, show min (posK ks key) ks.length = posK ks key by omega, show ¬ posK ks key + 1 + j < posK ks key by omega, show posK ks key + 1 + j - posK ks key = j + 1 by omega, show posK ks key + 1 + j - 1 = posK ks key + j by omega]
    intro i h0 hi
    have hi' : i < ks.length + 1 := by simp at hi; omega
    rcases Nat.lt_trichotomy i (posK ks key) with h | h | h
    · rw [h1 i h, h1 (i - 1) (by omega)]
      exact hs i h0 (by omega)
    · rw [h, h2, h1 _ (by omega)]
      exact hp.2.1 _ (by omega)
    · rw [h3 i h]
      by_cases h4 : i = posK ks key + 1
      · subst h4
        rw [show posK ks key + 1 - 1 = posK ks key by omega, h2]
        refine ltS_nlt (hp.2.2 _ (Nat.le_refl _) (by omega)) fun e => ?_
        have : putB ks key = true := putB_iff.2 ⟨by omega, e⟩
        rw [hb] at this; cases this
      · rw [h3 (i - 1) (by omega)]
        exact hs (i - 1) (by omega) (by omega)
  · have hK : putK ks key = ks := by unfold putK; rw [if_pos hb]
    rw [hK]; exact hs
theorem put_len2 {α : Type} {ks : List ByteArray} {l : List α} {key : ByteArray} {x : α} (h : ks.length = l.length) : (putK ks key).length = (putL ks l key x).length := by
  have := posK_le ks key
  unfold putK putL
  split
  · simp [h]
  · simp; omega
theorem Good.put {ks : List ByteArray} {l : List Tr} {n : Nat} {key : ByteArray} {x : Tr} (h : Good ks l n) (hk : okS key = true) (hx : okT x = true) (hf : x.Fit) : Good (putK ks key) (putL ks l key x) (n + 1) where
  so := putK_sorted h.so
  len := put_len2 h.len
  le := by have := putK_le ks key; have := h.le; omega
  ok := fun y hy => by
    rcases putK_mem hy with hy | rfl
    · exact h.ok y hy
    · exact hk
  okl := fun y hy => by
    rcases putL_mem hy with hy | rfl
    · exact h.okl y hy
    · exact hx
  fit := fun y hy => by
    rcases putL_mem hy with hy | rfl
    · exact h.fit y hy
    · exact hf
theorem Good.bd {ks : List ByteArray} {l : List Tr} {n : Nat} (h : Good ks l n) (hn : n ≤ 60) : (Tr.mk 6 0 ⟨#[]⟩ ks l).Fit ∧ (Tr.mk 6 0 ⟨#[]⟩ ks l).wt ≤ 1048576 := by
  have hl := h.len
  have hle := h.le
  refine ⟨.mk (Nat.zero_le _) (fun y hy => by have := okS_le (h.ok y hy); omega) h.fit, ?_⟩
  have hb := sumNb (f := Tr.wt) (b := 1560) (l := l) fun y hy => okT_wt (h.okl y hy)
  have hb2 := sumNb (f := ByteArray.size) (b := 12) (l := ks) fun y hy => okS_le (h.ok y hy)
  rw [Tr.wt_mk]
  show 0 + (_ + _) + _ ≤ _
  omega
theorem okT_str {t : Tr} (h : okT t = true) : okS t.str = true := by
  obtain ⟨k, n, s, ks, l⟩ := t
  exact (Form.iff.1 (okT_node h).1).2.1.ok
theorem Good.step {ks : List ByteArray} {l : List Tr} {n : Nat} {p : Tr} (h : Good ks l n) (hp : okT p = true) (hf : p.Fit) (h2 : p.list.length = 2) : Good (putK ks (kOf p)) (putL ks l (kOf p) (vOf p)) (n + 1) := by
  obtain ⟨k, m, s, ks', l'⟩ := p
  match l', h2 with
  | [a, b], _ => exact h.put (okT_str (okT_child hp (x := a) (by simp [Tr.list]))) (okT_child hp (x := b) (by simp [Tr.list])) (hf.list b (by simp [Tr.list]))
theorem rkF_good : ∀ {r : List Tr} {ks : List ByteArray} {l : List Tr} {n : Nat} {o : Tr}, Good ks l n → (∀ p ∈ r, okT p = true ∧ p.Fit) → rkF r ks l = some o → ∃ ks' l', o = .mk 6 0 ⟨#[]⟩ ks' l' ∧ Good ks' l' (n + r.length)
  | [], ks, l, n, o, h, _, e => ⟨ks, l, (Option.some.inj e).symm, h⟩
  | p :: r, ks, l, n, o, h, hr, e => by
    unfold rkF at e
    split at e
    · rename_i hp
      have h2 : p.list.length = 2 := by unfold pairT at hp; simp at hp; exact hp.1.2
      obtain ⟨ks', l', h3, h4⟩ := rkF_good (h.step (hr p (by simp)).1 (hr p (by simp)).2 h2) (fun q hq => hr q (by simp [hq])) e
      exact ⟨ks', l', h3, by rw [List.length_cons, show n + (r.length + 1) = n + 1 + r.length by omega]; exact h4⟩
    · cases e
theorem rowT_ok {t : Tr} (h : rowT t = true) : okT t = true := by unfold rowT at h; cases h1 : okT t <;> simp [h1] at h ⊢
theorem rowKeys_mkn {t : Tr} (hf : t.Fit) : ((rowKeysR t).getD zeroT).keys.length + sumN Tr.mkn ((rowKeysR t).getD zeroT).list ≤ 3 * 1048576 + 3 := by
  unfold rowKeysR
  split
  · rename_i h
    have h1 := rowT_ok h
    have hl := okT_len60 h1
    cases h2 : rkF t.list [] [] with
    | none => show 0 + 0 ≤ _; omega
    | some o =>
      obtain ⟨ks', l', rfl, h4⟩ := rkF_good (Good.nil 0) (fun p hp => ⟨okT_child h1 hp, hf.list p hp⟩) h2
      show ((toldR true (.mk 6 0 ⟨#[]⟩ ks' l')).getD zeroT).keys.length + sumN Tr.mkn ((toldR true (.mk 6 0 ⟨#[]⟩ ks' l')).getD zeroT).list ≤ _
      unfold toldR
      split
      · exact wt_mkn _ _ (h4.bd (by omega)).2
      · show 0 + 0 ≤ _
        omega
  · show 0 + 0 ≤ _
    omega
theorem two_at {w : World} {l : List Tr} {A : Option Addr} {c : Nat} (h : RepL Any w l (.slice A l.length c)) : ∃ b o u3 u4, ∃ y : V5, l.length = 2 → A = some ⟨b, o, none⟩ ∧ w.rangeAt b o [.int .i64 (l.getD 0 zeroT).kind, .int .i64 (l.getD 0 zeroT).num, .string (l.getD 0 zeroT).str, u3, u4] ∧ w.rangeAt b (o + 5) (enc5 y) ∧ Rep Any w (l.getD 1 zeroT) y.val := by
  by_cases hl : l.length = 2
  · obtain ⟨b, o, cs, rfl, -, hlc, hr0, ht0⟩ := h.at 0 (by omega)
    obtain ⟨b', o', cs', e, -, hlc', hr1, ht1⟩ := h.at 1 (by omega)
    obtain ⟨rfl, rfl⟩ : b = b' ∧ o = o' := by simpa using e
    obtain ⟨u3, u4, e3, -, -⟩ := ht0.form
    have e0 : cs = [.int .i64 l[0].kind, .int .i64 l[0].num, .string l[0].str, u3, u4] := by simpa using e3
    match cs', hlc', hr1, ht1 with
    | [x1, x2, x3, x4, x5], _, hr1, ht1 =>
      refine ⟨b, o, u3, u4, ⟨x1, x2, x3, x4, x5⟩, fun _ => ⟨rfl, ?_, ?_, ?_⟩⟩
      · rw [show l.getD 0 zeroT = l[0] by simp [List.getD]; rw [List.getElem?_eq_getElem (by omega)]; rfl, ← e0]
        simpa using hr0
      · simpa [enc5] using hr1
      · rw [show l.getD 1 zeroT = l[1] by simp [List.getD]; rw [List.getElem?_eq_getElem (by omega)]; rfl]
        exact ht1
  · exact ⟨0, 0, .bool true, .bool true, z5, fun h => absurd h hl⟩
theorem rk_drop {l : List Tr} {i : Nat} (hi : i < l.length) (ks : List ByteArray) (l' : List Tr) : rkF (l.drop i) ks l' = if pairT l[i] = true then rkF (l.drop (i + 1)) (putK ks (kOf l[i])) (putL ks l' (kOf l[i]) (vOf l[i])) else none := by
  rw [List.drop_eq_getElem_cons hi, rkF]

set_option maxRecDepth 100000 in
theorem rowKeys_ct (t : Tr) (v : Value) (w : World) (hr : Rep Any w t v) (hf : t.Fit) (hw : t.wt ≤ 1048576) : Calls Try.prog 25 #[v] w (Gives w (rowKeysR t)) := by
  obtain ⟨v3, v4, ev, h3, h4⟩ := hr.form
  subst ev
  obtain ⟨A4, c4, rfl, hn4⟩ := h4.open
  refine enter Try.func25 rfl rfl rfl ?_
  have F0 := Fr.start w
  refine Cod.seq fun K1 hK1 => ?_
  refine Cod.region ?_
  refine Ops.step (One.box F0 rfl rfl rfl rfl (ev_t rfl) ?_)
  intro b1 w1 hb1 F1
  change Fr _ _ [blk _ _ [_, _, _, _, _]] _ at F1
  refine Ops.step (One.alloc F1 zero31 rfl rfl rfl rfl ?_)
  intro b2 w2 hb2 F2
  change Fr _ _ [blk _ _ [_, _, _, _, _], blk _ _ [_, _, _, _, _]] _ at F2
  refine Ops.step (One.val rfl rfl rfl (yld_assign rfl ev_c) ?_)
  refine Ops.nil fun a hS => ?_
  refine hK1 _ _ ?_ a hS
  refine Cod.seq fun K2 hK2 => ?_
  refine Cod.seq fun K3 hK3 => ?_
  refine Cod.region ?_
  refine Ops.step (One.val rfl rfl rfl (yld_loadN ag31 rfl (ev_t rfl) (fun _ => F2.range (m := 5) (cs' := [_, _, _, _, _]) 1 rfl rfl) rfl) ?_)
  refine Ops.step (One.call rfl rfl rfl (ent_f rfl (evl1 (ev_t rfl)) (enters en56)) (isRow_ct t _ _ (hr.chg F2.chg) hf) (fun e w3 hw3 => ?_))
  obtain ⟨rfl, C3⟩ := hw3
  have F3 := F2.call C3
  refine ⟨_, rfl, ?_⟩
  refine Ops.step (One.val rfl rfl rfl (yld_not rfl (ev_t rfl)) ?_)
  refine Ops.nil fun a hS => ?_
  refine hK3 _ _ ?_ a hS
  refine Cod.cond rfl (fun hc9 => ?_) (fun hc9 => ?_)
  · skip
    have hno : rowKeysR t = none := by
      have hc : (!(rowT t)) = true := hc9
      unfold rowKeysR
      cases h1 : rowT t <;> simp [h1] at hc ⊢
    refine Cod.seq fun K4 hK4 => ?_
    refine Cod.region ?_
    refine Ops.step (One.val rfl rfl rfl (yld_build (cells := [.int .i64 0, .int .i64 0, .string ⟨#[]⟩, .slice none 0 0, .slice none 0 0]) rfl (evp0) (by kernel_rfl)) ?_)
    refine Ops.step (One.storeN (vs := [_, _, _, _, _]) F3 0 rfl sz31 rfl rfl rfl (ev_t rfl) (ev_t rfl) rfl rfl rfl ?_)
    intro w4 F4
    change Fr _ _ [blk _ _ [_, _, _, _, _], blk _ _ [_, _, _, _, _]] _ at F4
    refine Ops.step (One.val rfl rfl rfl (yld_assign rfl ev_c) ?_)
    refine Ops.nil fun a hS => ?_
    refine hK4 _ _ ?_ a hS
    refine Cod.ret fun a hS => ?_
    try simp only [Exit.then, Exit.inBlock]
    exact retct (t := 2) (u := 3) (ty := 31) rfl hS ag31 rfl rfl (F4.range (m := 5) (cs' := [_, _, _, _, _]) 0 rfl rfl) rfl ⟨z5, No, by rw [hno]; rfl, F4.chg, by rw [hno]; exact sep_leaf _ 0 0 ⟨#[]⟩, fun k hk => hk.elim⟩
  · skip
    have hrow : rowT t = true := by
      have hc : (!(rowT t)) = false := hc9
      cases h1 : rowT t <;> simp [h1] at hc ⊢
    have hok := rowT_ok hrow
    have hl60 := okT_len60 hok
    refine Cod.skip fun a hS => ?_
    refine hK2 _ _ ?_ a hS
    refine Cod.seq fun K5 hK5 => ?_
    refine Cod.region ?_
    refine Ops.step (One.val rfl rfl rfl (yld_build (cells := [.int .i64 6, .int .i64 0, .string ⟨#[]⟩, .slice none 0 0, .slice none 0 0]) rfl (evp1 ev_c) (by kernel_rfl)) ?_)
    refine Ops.step (One.alloc F3 zero31 rfl rfl rfl rfl ?_)
    intro b3 w5 hb3 F5
    change Fr _ _ [blk _ _ [_, _, _, _, _], blk _ _ [_, _, _, _, _], blk _ _ [_, _, _, _, _]] _ at F5
    refine Ops.step (One.storeN (vs := [_, _, _, _, _]) F5 0 rfl sz31 rfl rfl rfl (ev_t rfl) (ev_t rfl) rfl rfl rfl ?_)
    intro w6 F6
    change Fr _ _ [blk _ _ [_, _, _, _, _], blk _ _ [_, _, _, _, _], blk _ _ [_, _, _, _, _]] _ at F6
    refine Ops.nil fun a hS => ?_
    refine hK5 _ _ ?_ a hS
    refine Cod.seq fun K6 hK6 => ?_
    refine Cod.seq fun K7 hK7 => ?_
    refine Cod.region ?_
    refine Ops.step (One.val rfl rfl rfl (yld_field fi31_4 rfl (ev_t rfl)) ?_)
    refine Ops.step (One.val rfl rfl rfl (yld_load1 on29 rfl (ev_t rfl) (fun _ => F6.cell 2 rfl rfl)) ?_)
    refine Ops.step (One.val rfl rfl rfl (yld_len sl29 rfl (ev_t rfl)) ?_)
    refine Ops.step (One.val rfl rfl rfl (yld_move rfl ev_c) ?_)
    refine Ops.nil fun a hS => ?_
    refine hK7 _ _ ?_ a hS
    refine Cod.block ?_
    refine Cod.loop (fun i : Nat × List ByteArray × List Tr × List V5 × Value × Value => [(2, true, .pointer (some ⟨b2, 0, none⟩)), (4, true, .pointer (some ⟨b3, 0, none⟩)), (13, true, .slice A4 t.list.length c4), (14, true, .int .i64 (t.list.length : Int)), (15, true, .int .i64 (i.1 : Int))]) (fun i w' => i.1 ≤ t.list.length ∧ rkF t.list [] [] = rkF (t.list.drop i.1) i.2.1 i.2.2.1 ∧ Good i.2.1 i.2.2.1 i.1 ∧ AL w i.2.2.1 i.2.2.2.1 ∧ Fr No w [own 31 5 i.2.2.2.2.2 i.2.2.2.1.length (i.2.2.2.1.flatMap enc5), own 9 1 i.2.2.2.2.1 i.2.1.length (i.2.1.flatMap sCells), blk b3 31 [.int .i64 6, .int .i64 0, .string ⟨#[]⟩, i.2.2.2.2.1, i.2.2.2.2.2], blk b2 31 [.int .i64 0, .int .i64 0, .string ⟨#[]⟩, .slice none 0 0, .slice none 0 0], blk b1 31 [.int .i64 t.kind, .int .i64 t.num, .string t.str, v3, .slice A4 t.list.length c4]] w') (fun i => t.list.length - i.1) (0, [], [], [], .slice none 0 0, .slice none 0 0) ⟨rfl, rfl, rfl, rfl, rfl, trivial⟩ ⟨Nat.zero_le _, rfl, Good.nil 0, AL.nil w, (F6.nilRow 9 1).nilRow 31 5⟩ ?_
    intro i w7 hW K8 hK8
    obtain ⟨i, ks, l, ys, ku, lu⟩ := i
    obtain ⟨hi, hrk, hgd, hal, F7⟩ := hW
    dsimp only at *
    obtain ⟨A3, m3, c3, hu3⟩ := own_form (F7.get 1 rfl)
    have hm3 := own_len (F7.get 1 rfl) hu3
    subst hu3
    subst hm3
    obtain ⟨A5, m5, c5, hu5⟩ := own_form (F7.get 0 rfl)
    have hm5 := own_len (F7.get 0 rfl) hu5
    subst hu5
    subst hm5
    have hyl := hal.1
    refine Cod.seq fun K9 hK9 => ?_
    refine Cod.region ?_
    refine Ops.step (One.val rfl rfl rfl (yld_lss rfl (ev_t rfl) (ev_t rfl)) ?_)
    refine Ops.nil fun a hS => ?_
    refine hK9 _ _ ?_ a hS
    refine Cod.seq fun K10 hK10 => ?_
    refine Cod.cond rfl (fun hc16 => ?_) (fun hc16 => ?_)
    · skip
      have hi : i < t.list.length := by simpa using hc16
      obtain ⟨b, o, cs, rfl, -, hlc, hr1, ht⟩ := h4.at i hi
      obtain ⟨kk, nn, ss, kks, ll, hti⟩ := Tr.eta t.list[i]
      have hokp := okT_child hok (List.getElem_mem hi)
      have hfp := hf.list _ (List.getElem_mem hi)
      have hrkd := rk_drop hi ks l
      rw [hti] at ht hokp hfp hrkd
      obtain ⟨u3, u4, ecs, h3', h4'⟩ := ht.open
      have ecs' : cs = [.int .i64 kk, .int .i64 nn, .string ss, u3, u4] := by simpa using ecs
      subst ecs'
      have hone : [Value.int .i64 kk, .int .i64 nn, .string ss, u3, u4].all (·.oneCell') = true := ht.one
      obtain ⟨B4, d4, rfl, hm4⟩ := h4'.open
      obtain ⟨b0, o0, q3, q4, yy, htwo⟩ := two_at h4'
      refine Cod.skip fun a hS => ?_
      refine hK10 _ _ ?_ a hS
      refine Cod.seq fun K11 hK11 => ?_
      refine Cod.block ?_
      refine Cod.seq fun K12 hK12 => ?_
      refine Cod.region ?_
      refine Ops.step (One.val rfl rfl rfl (yld_indexN sl29 rfl (ev_t rfl) (ev_t rfl) (fun _ => by omega)) ?_)
      refine Ops.step (One.val rfl rfl rfl (yld_loadN ag31 rfl (ev_t rfl) (fun _ => rng hr1 F7.chg) rfl) ?_)
      refine Ops.step (One.alloc F7 zero31 rfl rfl rfl rfl ?_)
      intro b4 w8 hb4 F8
      change Fr _ _ [blk _ _ [_, _, _, _, _], _, _, blk _ _ [_, _, _, _, _], blk _ _ [_, _, _, _, _], blk _ _ [_, _, _, _, _]] _ at F8
      refine Ops.step (One.storeN (vs := [_, _, _, _, _]) F8 0 rfl sz31 rfl rfl rfl (ev_t rfl) (ev_t rfl) rfl rfl hone ?_)
      intro w9 F9
      change Fr _ _ [blk _ _ [_, _, _, _, _], _, _, blk _ _ [_, _, _, _, _], blk _ _ [_, _, _, _, _], blk _ _ [_, _, _, _, _]] _ at F9
      refine Ops.nil fun a hS => ?_
      refine hK12 _ _ ?_ a hS
      refine Cod.seq fun K13 hK13 => ?_
      refine Cod.seq fun K14 hK14 => ?_
      refine Cod.region ?_
      refine Ops.step (One.val rfl rfl rfl (yld_field fi31_0 rfl (ev_t rfl)) ?_)
      refine Ops.step (One.val rfl rfl rfl (yld_load1 on3 rfl (ev_t rfl) (fun _ => F9.cell 0 rfl rfl)) ?_)
      refine Ops.step (One.val rfl rfl rfl (yld_neq rfl (ev_t rfl) ev_c) ?_)
      refine Ops.step (One.val rfl rfl rfl (yld_move rfl (ev_t rfl)) ?_)
      refine Ops.step (One.val (gd_some rfl rfl) rfl rfl (yld_field fi31_4 rfl (ev_t rfl)) ?_)
      refine Ops.step (One.val (gd_some rfl rfl) rfl rfl (yld_load1 on29 rfl (ev_g rfl) (fun _ => F9.cell 0 rfl rfl)) ?_)
      refine Ops.step (One.val (gd_some rfl rfl) rfl rfl (yld_len sl29 rfl (ev_g rfl)) ?_)
      refine Ops.step (One.val (gd_some rfl rfl) rfl rfl (yld_neq rfl (ev_g rfl) ev_c) ?_)
      refine Ops.step (One.val rfl rfl rfl (yld_or rfl (ev_t rfl) (ev_g rfl)) ?_)
      refine Ops.step (One.val rfl rfl rfl (yld_move rfl (ev_t rfl)) ?_)
      refine Ops.step (One.val (gd_some rfl rfl) rfl rfl (yld_field fi31_4 rfl (ev_t rfl)) ?_)
      refine Ops.step (One.val (gd_some rfl rfl) rfl rfl (yld_load1 on29 rfl (ev_g rfl) (fun _ => F9.cell 0 rfl rfl)) ?_)
      refine Ops.step (One.val (gd_some rfl rfl) rfl rfl (yld_indexG (b := b0) (q := o0) (i := 0) sl29 rfl (ev_g rfl) ev_c (fun hg => (htwo (by simp [gof] at hg; omega)).1) (fun hg => by simp [gof] at hg; omega)) ?_)
      refine Ops.step (One.val (gd_some rfl rfl) rfl rfl (yld_field fi31_0 rfl (ev_g rfl)) ?_)
      refine Ops.step (One.val (gd_some rfl rfl) rfl rfl (yld_load1 on3 rfl (ev_g rfl) (fun hg => rangeAt_cell (rng (htwo (by simp [gof] at hg; omega)).2.1 F9.chg) (j := 0) rfl)) ?_)
      refine Ops.step (One.val (gd_some rfl rfl) rfl rfl (yld_neq rfl (ev_g rfl) ev_c) ?_)
      refine Ops.step (One.val rfl rfl rfl (yld_or rfl (ev_t rfl) (ev_g rfl)) ?_)
      refine Ops.nil fun a hS => ?_
      refine hK14 _ _ ?_ a hS
      refine Cod.cond rfl (fun hc35 => ?_) (fun hc35 => ?_)
      · skip
        have hnp : ¬ pairT (.mk kk nn ss kks ll) = true := fun hp => by
          unfold pairT at hp
          simp only [Bool.and_eq_true, decide_eq_true_eq] at hp
          obtain ⟨⟨hp1, hp2⟩, hp3⟩ := hp
          change kk = 5 at hp1
          change ll.length = 2 at hp2
          change (ll.getD 0 zeroT).kind = 4 at hp3
          have hc : (((kk != 5) || ((ll.length : Int) != 2)) || ((ll.getD 0 zeroT).kind != 4)) = true := hc35
          rw [hp1, hp2, hp3] at hc
          simp at hc
        have hno : rowKeysR t = none := by
          unfold rowKeysR
          rw [if_pos hrow, hrk, hrkd, if_neg hnp]
          rfl
        refine Cod.seq fun K15 hK15 => ?_
        refine Cod.region ?_
        refine Ops.step (One.val rfl rfl rfl (yld_build (cells := [.int .i64 0, .int .i64 0, .string ⟨#[]⟩, .slice none 0 0, .slice none 0 0]) rfl (evp0) (by kernel_rfl)) ?_)
        refine Ops.step (One.storeN (vs := [_, _, _, _, _]) F9 4 rfl sz31 rfl rfl rfl (ev_t rfl) (ev_t rfl) rfl rfl rfl ?_)
        intro w10 F10
        change Fr _ _ [blk _ _ [_, _, _, _, _], _, _, blk _ _ [_, _, _, _, _], blk _ _ [_, _, _, _, _], blk _ _ [_, _, _, _, _]] _ at F10
        refine Ops.step (One.val rfl rfl rfl (yld_assign rfl ev_c) ?_)
        refine Ops.nil fun a hS => ?_
        refine hK15 _ _ ?_ a hS
        refine Cod.ret fun a hS => ?_
        try simp only [Exit.then, Exit.inBlock]
        exact retct (t := 2) (u := 3) (ty := 31) rfl hS ag31 rfl rfl (F10.range (m := 5) (cs' := [_, _, _, _, _]) 4 rfl rfl) rfl ⟨z5, No, by rw [hno]; rfl, F10.chg, by rw [hno]; exact sep_leaf _ 0 0 ⟨#[]⟩, fun k hk => hk.elim⟩
      · skip
        have hc : (((kk != 5) || ((ll.length : Int) != 2)) || ((ll.getD 0 zeroT).kind != 4)) = false := hc35
        simp only [Bool.or_eq_false_iff, bne_eq_false_iff_eq] at hc
        obtain ⟨⟨hk5, hl2⟩, hk4⟩ := hc
        have hl2 : ll.length = 2 := by omega
        obtain ⟨rfl, hp0, hp1, hyy⟩ := htwo hl2
        rw [if_pos (by unfold pairT; rw [show (Tr.mk kk nn ss kks ll).kind = 5 from hk5, show (Tr.mk kk nn ss kks ll).list.length = 2 from hl2, show ((Tr.mk kk nn ss kks ll).list.getD 0 zeroT).kind = 4 from hk4]; rfl)] at hrkd
        have hgd2 := hgd.step hokp hfp hl2
        have hlek := hgd.le
        refine Cod.skip fun a hS => ?_
        refine hK13 _ _ ?_ a hS
        have F11 := F9.drew
        refine Cod.draw (C_of (F11.erase 3)) (by kernel_rfl) ?_
        refine Hops.take 1 rfl (by kernel_rfl) (fun _ _ _ h => h) rfl rfl rfl (F11.erase 3) (fun w F => (yld_field fi31_4 rfl (ev_t rfl))) ?_
        refine Hops.take 2 rfl (by kernel_rfl) (fun _ _ _ h => h) rfl rfl rfl (F11.erase 3) (fun w F => (yld_load1 on29 rfl (ev_t rfl) (fun _ => F.cell 0 rfl rfl))) ?_
        refine Hops.take 3 rfl (by kernel_rfl) (fun _ _ _ h => h) rfl rfl rfl (F11.erase 3) (fun w F => (yld_indexN (i := 0) sl29 rfl (ev_t rfl) ev_c (fun _ => by omega))) ?_
        refine Hops.take 4 rfl (by kernel_rfl) (fun _ _ _ h => h) rfl rfl rfl (F11.erase 3) (fun w F => (yld_field fi31_2 rfl (ev_t rfl))) ?_
        refine Hops.take 5 rfl (by kernel_rfl) (fun _ _ _ h => h) rfl rfl rfl (F11.erase 3) (fun w F => (yld_load1 on9 rfl (ev_t rfl) (fun _ => rangeAt_cell (rng hp0 F.chg) (j := 2) rfl))) ?_
        refine Hops.take 6 rfl (by kernel_rfl) (fun _ _ _ h => h) rfl rfl rfl (F11.erase 3) (fun w F => (yld_field fi31_4 rfl (ev_t rfl))) ?_
        refine Hops.take 7 rfl (by kernel_rfl) (fun _ _ _ h => h) rfl rfl rfl (F11.erase 3) (fun w F => (yld_load1 on29 rfl (ev_t rfl) (fun _ => F.cell 0 rfl rfl))) ?_
        refine Hops.take 8 rfl (by kernel_rfl) (fun _ _ _ h => h) rfl rfl rfl (F11.erase 3) (fun w F => (yld_indexN (i := 1) sl29 rfl (ev_t rfl) ev_c (fun _ => by omega))) ?_
        refine Hops.take 9 rfl (by kernel_rfl) (fun _ _ _ h => h) rfl rfl rfl (F11.erase 3) (fun w F => (yld_loadN ag31 rfl (ev_t rfl) (fun _ => rng hp1 F.chg) rfl)) ?_
        refine Hops.one 0 rfl (by kernel_rfl) (One.val rfl rfl rfl (yld_loadN ag31 rfl (ev_t rfl) (fun _ => F11.range (m := 5) (cs' := [_, _, _, _, _]) 3 rfl rfl) rfl) ?_)
        refine ⟨(F11.erase 3), ?_⟩
        refine Hops.one 10 rfl (by kernel_rfl) (One.call rfl rfl rfl (ent_f rfl (evl3 (ev_t rfl) (ev_t rfl) (ev_t rfl)) (enters en52)) (put_ct (.mk 6 0 ⟨#[]⟩ ks l) (vOf (.mk kk nn ss kks ll)) (kOf (.mk kk nn ss kks ll)) ys _ yy w _ ⟨A3, c3, A5, c5, by show _ = Value.agg #[_, _, _, _, .slice A5 l.length c5]; rw [← hyl]; rfl, ownS (F11.get 2 rfl), by rw [show (Tr.mk 6 0 ⟨#[]⟩ ks l).list.length = ys.length from hyl.symm]; exact (own_rep (enc := enc5) (sz := 5) (fun _ => rfl) (F11.get 1 rfl)).weak fun _ _ => trivial, hal⟩ hyy hgd.so hgd.len (by show ks.length ≤ _; omega)) (fun e w11 hw11 => ?_))
        obtain ⟨ku2, lu2, ys2, rfl, C11, hok2, hol2, hal2, hkb, hlb, hkl2⟩ := hw11
        have F12 := F11.new2 C11 (own _ 5 lu2 ys2.length _) (own _ 1 ku2 _ _) hol2 hok2 hlb hkb (fun k h1 h2 => hkl2 k h2 h1)
        refine ⟨_, rfl, ?_⟩
        refine ⟨((F12.erase 5).erase 1).drop1, ?_⟩
        refine Hops.one 11 rfl (by kernel_rfl) (One.storeN (vs := [_, _, _, _, _]) F12 5 rfl sz31 rfl rfl rfl (ev_t rfl) (ev_t rfl) rfl rfl (one5 (own_one (F12.get 1 rfl)) (own_one (F12.get 0 rfl))) ?_)
        intro w12 F13
        refine ⟨((F13.erase 5).erase 1).drop1, ?_⟩
        change Fr _ _ [_, _, blk _ _ [_, _, _, _, _], _, _, blk _ _ [_, _, _, _, _], blk _ _ [_, _, _, _, _], blk _ _ [_, _, _, _, _]] _ at F13
        refine Hops.nil (by kernel_rfl) fun a hS => ?_
        refine hK11 _ _ ?_ a hS
        refine Cod.region ?_
        refine Ops.step (One.val rfl rfl rfl (yld_inc rfl (ev_t rfl) (fun _ => by omega)) ?_)
        refine Ops.step (One.val rfl rfl rfl (yld_move rfl (ev_t rfl)) ?_)
        refine Ops.nil fun a hS => ?_
        have F14 := F13.pull 7 rfl
        have F15 := F14.pull 7 rfl
        have F16 := F15.pull 7 rfl
        have F17 := F16.pull 4 rfl
        have F18 := F17.pull 4 rfl
        have F19 := F18.erase 5
        have F20 := F19.erase 5
        have F21 := F20.erase 5
        refine hK8 (i + 1, _, _, ys2, ku2, lu2) _ a (hS.sub ⟨rfl, rfl, rfl, rfl, rfl, trivial⟩) ⟨by show i + 1 ≤ _; omega, by rw [hrk, hrkd]; rfl, hgd2, hal2, F21⟩ (by show t.list.length - (i + 1) < t.list.length - i; omega)
    · skip
      obtain rfl : i = t.list.length := by simp at hc16; omega
      rw [List.drop_length] at hrk
      have hR : rowKeysR t = toldR true (.mk 6 0 ⟨#[]⟩ ks l) := by unfold rowKeysR; rw [if_pos hrow, hrk]; rfl
      obtain ⟨hTf, hTw⟩ := hgd.bd (by omega)
      refine Cod.exit fun a hS => ?_
      simp only [Exit.then, Exit.inBlock, ↓reduceIte]
      refine hK6 _ _ ?_ a hS
      refine Cod.seq fun K16 hK16 => ?_
      refine Cod.region ?_
      refine Ops.step (One.val rfl rfl rfl (yld_loadN ag31 rfl (ev_t rfl) (fun _ => F7.range (m := 5) (cs' := [_, _, _, _, _]) 2 rfl rfl) rfl) ?_)
      refine Ops.step (One.call rfl rfl rfl (ent_f rfl (evl2 (ev_t rfl) ev_c) (enters en51)) (told_ct (.mk 6 0 ⟨#[]⟩ ks l) true _ _ (Rep.close (ownS (F7.get 1 rfl)) ((hal.chg F7.chg).repL (F7.get 0 rfl))) hTf hTw) (fun e w13 hw13 => ?_))
      obtain ⟨x1, G1, rfl, C13, hs1, hb1⟩ := hw13
      have F22 := F7.new C13 (sep G1 _ x1.val) hs1 hb1
      refine ⟨_, rfl, ?_⟩
      refine Ops.step (One.val rfl rfl rfl (yld_extract rfl (ev_t rfl) rfl) ?_)
      refine Ops.step (One.val rfl rfl rfl (yld_extract rfl (ev_t rfl) rfl) ?_)
      refine Ops.step (One.storeN (vs := [_, _, _, _, _]) F22 4 rfl sz31 rfl rfl rfl (ev_t rfl) (ev_t rfl) rfl rfl hs1.one ?_)
      intro w14 F23
      change Fr _ _ [_, _, _, blk _ _ [_, _, _, _, _], blk _ _ [_, _, _, _, _], blk _ _ [_, _, _, _, _]] _ at F23
      refine Ops.step (One.val rfl rfl rfl (yld_assign rfl (ev_t rfl)) ?_)
      refine Ops.nil fun a hS => ?_
      refine hK16 _ _ ?_ a hS
      refine Cod.ret fun a hS => ?_
      try simp only [Exit.then, Exit.inBlock]
      exact retct (t := 2) (u := 3) (ty := 31) rfl hS ag31 rfl rfl (F23.range (m := 5) (cs' := [_, _, _, _, _]) 4 rfl rfl) rfl ⟨x1, G1, by rw [hR]; rfl, F23.chg, by rw [hR]; exact F23.get 0 rfl, fun b hb => (F23.dom _ (List.mem_of_getElem? (i := 0) rfl) b hb).resolve_left id⟩

set_option maxRecDepth 100000 in
theorem specRowKeys_ct (t : Tr) (v : Value) (w : World) (hr : Rep Any w t v) (hf : t.Fit) (hw : t.wt ≤ 1048576) : Calls Try.prog 24 #[v] w (Gives w (rowKeysR t)) := by
  obtain ⟨v3, v4, ev, h3, h4⟩ := hr.form
  subst ev
  obtain ⟨A4, c4, rfl, hn4⟩ := h4.open
  refine enter Try.func24 rfl rfl rfl ?_
  have F0 := Fr.start w
  refine Cod.seq fun K1 hK1 => ?_
  refine Cod.region ?_
  refine Ops.step (One.box F0 rfl rfl rfl rfl (ev_t rfl) ?_)
  intro b1 w1 hb1 F1
  change Fr _ _ [blk _ _ [_, _, _, _, _]] _ at F1
  refine Ops.step (One.alloc F1 zero31 rfl rfl rfl rfl ?_)
  intro b2 w2 hb2 F2
  change Fr _ _ [blk _ _ [_, _, _, _, _], blk _ _ [_, _, _, _, _]] _ at F2
  refine Ops.step (One.val rfl rfl rfl (yld_assign rfl ev_c) ?_)
  refine Ops.nil fun a hS => ?_
  refine hK1 _ _ ?_ a hS
  refine Cod.seq fun K2 hK2 => ?_
  refine Cod.seq fun K3 hK3 => ?_
  refine Cod.region ?_
  refine Ops.step (One.val rfl rfl rfl (yld_loadN ag31 rfl (ev_t rfl) (fun _ => F2.range (m := 5) (cs' := [_, _, _, _, _]) 1 rfl rfl) rfl) ?_)
  refine Ops.step (One.call rfl rfl rfl (ent_f rfl (evl1 (ev_t rfl)) (enters en55)) (l4Row_ct t _ _ (hr.chg F2.chg) hf hw) (fun e w3 hw3 => ?_))
  obtain ⟨rfl, C3⟩ := hw3
  have F3 := F2.call C3
  refine ⟨_, rfl, ?_⟩
  refine Ops.step (One.val rfl rfl rfl (yld_not rfl (ev_t rfl)) ?_)
  refine Ops.nil fun a hS => ?_
  refine hK3 _ _ ?_ a hS
  refine Cod.cond rfl (fun hc9 => ?_) (fun hc9 => ?_)
  · skip
    have hno : rowKeysR t = none := by
      have hc : (!(rowT t)) = true := hc9
      unfold rowKeysR
      cases h1 : rowT t <;> simp [h1] at hc ⊢
    refine Cod.seq fun K4 hK4 => ?_
    refine Cod.region ?_
    refine Ops.step (One.val rfl rfl rfl (yld_build (cells := [.int .i64 0, .int .i64 0, .string ⟨#[]⟩, .slice none 0 0, .slice none 0 0]) rfl (evp0) (by kernel_rfl)) ?_)
    refine Ops.step (One.storeN (vs := [_, _, _, _, _]) F3 0 rfl sz31 rfl rfl rfl (ev_t rfl) (ev_t rfl) rfl rfl rfl ?_)
    intro w4 F4
    change Fr _ _ [blk _ _ [_, _, _, _, _], blk _ _ [_, _, _, _, _]] _ at F4
    refine Ops.step (One.val rfl rfl rfl (yld_assign rfl ev_c) ?_)
    refine Ops.nil fun a hS => ?_
    refine hK4 _ _ ?_ a hS
    refine Cod.ret fun a hS => ?_
    try simp only [Exit.then, Exit.inBlock]
    exact retct (t := 2) (u := 3) (ty := 31) rfl hS ag31 rfl rfl (F4.range (m := 5) (cs' := [_, _, _, _, _]) 0 rfl rfl) rfl ⟨z5, No, by rw [hno]; rfl, F4.chg, by rw [hno]; exact sep_leaf _ 0 0 ⟨#[]⟩, fun k hk => hk.elim⟩
  · skip
    have hrow : rowT t = true := by
      have hc : (!(rowT t)) = false := hc9
      cases h1 : rowT t <;> simp [h1] at hc ⊢
    have hok := rowT_ok hrow
    have hl60 := okT_len60 hok
    refine Cod.skip fun a hS => ?_
    refine hK2 _ _ ?_ a hS
    refine Cod.seq fun K5 hK5 => ?_
    refine Cod.region ?_
    refine Ops.step (One.val rfl rfl rfl (yld_build (cells := [.int .i64 6, .int .i64 0, .string ⟨#[]⟩, .slice none 0 0, .slice none 0 0]) rfl (evp1 ev_c) (by kernel_rfl)) ?_)
    refine Ops.step (One.alloc F3 zero31 rfl rfl rfl rfl ?_)
    intro b3 w5 hb3 F5
    change Fr _ _ [blk _ _ [_, _, _, _, _], blk _ _ [_, _, _, _, _], blk _ _ [_, _, _, _, _]] _ at F5
    refine Ops.step (One.storeN (vs := [_, _, _, _, _]) F5 0 rfl sz31 rfl rfl rfl (ev_t rfl) (ev_t rfl) rfl rfl rfl ?_)
    intro w6 F6
    change Fr _ _ [blk _ _ [_, _, _, _, _], blk _ _ [_, _, _, _, _], blk _ _ [_, _, _, _, _]] _ at F6
    refine Ops.nil fun a hS => ?_
    refine hK5 _ _ ?_ a hS
    refine Cod.seq fun K6 hK6 => ?_
    refine Cod.seq fun K7 hK7 => ?_
    refine Cod.region ?_
    refine Ops.step (One.val rfl rfl rfl (yld_assign rfl ev_c) ?_)
    refine Ops.nil fun a hS => ?_
    refine hK7 _ _ ?_ a hS
    refine Cod.block ?_
    refine Cod.loop (fun i : Nat × List ByteArray × List Tr × List V5 × Value × Value => [(1, true, .pointer (some ⟨b1, 0, none⟩)), (2, true, .pointer (some ⟨b2, 0, none⟩)), (4, true, .pointer (some ⟨b3, 0, none⟩)), (5, true, .int .i64 (i.1 : Int))]) (fun i w' => i.1 ≤ t.list.length ∧ rkF t.list [] [] = rkF (t.list.drop i.1) i.2.1 i.2.2.1 ∧ Good i.2.1 i.2.2.1 i.1 ∧ AL w i.2.2.1 i.2.2.2.1 ∧ Fr No w [own 31 5 i.2.2.2.2.2 i.2.2.2.1.length (i.2.2.2.1.flatMap enc5), own 9 1 i.2.2.2.2.1 i.2.1.length (i.2.1.flatMap sCells), blk b3 31 [.int .i64 6, .int .i64 0, .string ⟨#[]⟩, i.2.2.2.2.1, i.2.2.2.2.2], blk b2 31 [.int .i64 0, .int .i64 0, .string ⟨#[]⟩, .slice none 0 0, .slice none 0 0], blk b1 31 [.int .i64 t.kind, .int .i64 t.num, .string t.str, v3, .slice A4 t.list.length c4]] w') (fun i => t.list.length - i.1) (0, [], [], [], .slice none 0 0, .slice none 0 0) ⟨rfl, rfl, rfl, rfl, trivial⟩ ⟨Nat.zero_le _, rfl, Good.nil 0, AL.nil w, (F6.nilRow 9 1).nilRow 31 5⟩ ?_
    intro i w7 hW K8 hK8
    obtain ⟨i, ks, l, ys, ku, lu⟩ := i
    obtain ⟨hi, hrk, hgd, hal, F7⟩ := hW
    dsimp only at *
    obtain ⟨A3, m3, c3, hu3⟩ := own_form (F7.get 1 rfl)
    have hm3 := own_len (F7.get 1 rfl) hu3
    subst hu3
    subst hm3
    obtain ⟨A5, m5, c5, hu5⟩ := own_form (F7.get 0 rfl)
    have hm5 := own_len (F7.get 0 rfl) hu5
    subst hu5
    subst hm5
    have hyl := hal.1
    refine Cod.seq fun K9 hK9 => ?_
    refine Cod.seq fun K10 hK10 => ?_
    refine Cod.region ?_
    refine Ops.step (One.val rfl rfl rfl (yld_move rfl (ev_t rfl)) ?_)
    refine Ops.step (One.val rfl rfl rfl (yld_field fi31_4 rfl (ev_t rfl)) ?_)
    refine Ops.step (One.val rfl rfl rfl (yld_load1 on29 rfl (ev_t rfl) (fun _ => F7.cell 4 rfl rfl)) ?_)
    refine Ops.step (One.val rfl rfl rfl (yld_len sl29 rfl (ev_t rfl)) ?_)
    refine Ops.step (One.val rfl rfl rfl (yld_lss rfl (ev_t rfl) (ev_t rfl)) ?_)
    refine Ops.nil fun a hS => ?_
    refine hK10 _ _ ?_ a hS
    refine Cod.cond rfl (fun hc16 => ?_) (fun hc16 => ?_)
    · skip
      have hi : i < t.list.length := by simpa using hc16
      obtain ⟨b, o, cs, rfl, -, hlc, hr1, ht⟩ := h4.at i hi
      obtain ⟨kk, nn, ss, kks, ll, hti⟩ := Tr.eta t.list[i]
      have hokp := okT_child hok (List.getElem_mem hi)
      have hfp := hf.list _ (List.getElem_mem hi)
      have hrkd := rk_drop hi ks l
      rw [hti] at ht hokp hfp hrkd
      obtain ⟨u3, u4, ecs, h3', h4'⟩ := ht.open
      have ecs' : cs = [.int .i64 kk, .int .i64 nn, .string ss, u3, u4] := by simpa using ecs
      subst ecs'
      have hone : [Value.int .i64 kk, .int .i64 nn, .string ss, u3, u4].all (·.oneCell') = true := ht.one
      obtain ⟨B4, d4, rfl, hm4⟩ := h4'.open
      obtain ⟨b0, o0, q3, q4, yy, htwo⟩ := two_at h4'
      refine Cod.skip fun a hS => ?_
      refine hK9 _ _ ?_ a hS
      refine Cod.seq fun K11 hK11 => ?_
      refine Cod.block ?_
      refine Cod.seq fun K12 hK12 => ?_
      refine Cod.region ?_
      refine Ops.step (One.val rfl rfl rfl (yld_field fi31_4 rfl (ev_t rfl)) ?_)
      refine Ops.step (One.val rfl rfl rfl (yld_load1 on29 rfl (ev_t rfl) (fun _ => F7.cell 4 rfl rfl)) ?_)
      refine Ops.step (One.val rfl rfl rfl (yld_move rfl (ev_t rfl)) ?_)
      refine Ops.step (One.val rfl rfl rfl (yld_indexN sl29 rfl (ev_t rfl) (ev_t rfl) (fun _ => by omega)) ?_)
      refine Ops.step (One.val rfl rfl rfl (yld_loadN ag31 rfl (ev_t rfl) (fun _ => rng hr1 F7.chg) rfl) ?_)
      refine Ops.step (One.alloc F7 zero31 rfl rfl rfl rfl ?_)
      intro b4 w8 hb4 F8
      change Fr _ _ [blk _ _ [_, _, _, _, _], _, _, blk _ _ [_, _, _, _, _], blk _ _ [_, _, _, _, _], blk _ _ [_, _, _, _, _]] _ at F8
      refine Ops.step (One.storeN (vs := [_, _, _, _, _]) F8 0 rfl sz31 rfl rfl rfl (ev_t rfl) (ev_t rfl) rfl rfl hone ?_)
      intro w9 F9
      change Fr _ _ [blk _ _ [_, _, _, _, _], _, _, blk _ _ [_, _, _, _, _], blk _ _ [_, _, _, _, _], blk _ _ [_, _, _, _, _]] _ at F9
      refine Ops.nil fun a hS => ?_
      refine hK12 _ _ ?_ a hS
      refine Cod.seq fun K13 hK13 => ?_
      refine Cod.seq fun K14 hK14 => ?_
      refine Cod.region ?_
      refine Ops.step (One.val rfl rfl rfl (yld_field fi31_0 rfl (ev_t rfl)) ?_)
      refine Ops.step (One.val rfl rfl rfl (yld_load1 on3 rfl (ev_t rfl) (fun _ => F9.cell 0 rfl rfl)) ?_)
      refine Ops.step (One.val rfl rfl rfl (yld_neq rfl (ev_t rfl) ev_c) ?_)
      refine Ops.step (One.val rfl rfl rfl (yld_move rfl (ev_t rfl)) ?_)
      refine Ops.step (One.val (gd_some rfl rfl) rfl rfl (yld_field fi31_4 rfl (ev_t rfl)) ?_)
      refine Ops.step (One.val (gd_some rfl rfl) rfl rfl (yld_load1 on29 rfl (ev_g rfl) (fun _ => F9.cell 0 rfl rfl)) ?_)
      refine Ops.step (One.val (gd_some rfl rfl) rfl rfl (yld_len sl29 rfl (ev_g rfl)) ?_)
      refine Ops.step (One.val (gd_some rfl rfl) rfl rfl (yld_neq rfl (ev_g rfl) ev_c) ?_)
      refine Ops.step (One.val rfl rfl rfl (yld_or rfl (ev_t rfl) (ev_g rfl)) ?_)
      refine Ops.step (One.val rfl rfl rfl (yld_move rfl (ev_t rfl)) ?_)
      refine Ops.step (One.val (gd_some rfl rfl) rfl rfl (yld_field fi31_4 rfl (ev_t rfl)) ?_)
      refine Ops.step (One.val (gd_some rfl rfl) rfl rfl (yld_load1 on29 rfl (ev_g rfl) (fun _ => F9.cell 0 rfl rfl)) ?_)
      refine Ops.step (One.val (gd_some rfl rfl) rfl rfl (yld_indexG (b := b0) (q := o0) (i := 0) sl29 rfl (ev_g rfl) ev_c (fun hg => (htwo (by simp [gof] at hg; omega)).1) (fun hg => by simp [gof] at hg; omega)) ?_)
      refine Ops.step (One.val (gd_some rfl rfl) rfl rfl (yld_field fi31_0 rfl (ev_g rfl)) ?_)
      refine Ops.step (One.val (gd_some rfl rfl) rfl rfl (yld_load1 on3 rfl (ev_g rfl) (fun hg => rangeAt_cell (rng (htwo (by simp [gof] at hg; omega)).2.1 F9.chg) (j := 0) rfl)) ?_)
      refine Ops.step (One.val (gd_some rfl rfl) rfl rfl (yld_neq rfl (ev_g rfl) ev_c) ?_)
      refine Ops.step (One.val rfl rfl rfl (yld_or rfl (ev_t rfl) (ev_g rfl)) ?_)
      refine Ops.nil fun a hS => ?_
      refine hK14 _ _ ?_ a hS
      refine Cod.cond rfl (fun hc40 => ?_) (fun hc40 => ?_)
      · skip
        have hnp : ¬ pairT (.mk kk nn ss kks ll) = true := fun hp => by
          unfold pairT at hp
          simp only [Bool.and_eq_true, decide_eq_true_eq] at hp
          obtain ⟨⟨hp1, hp2⟩, hp3⟩ := hp
          change kk = 5 at hp1
          change ll.length = 2 at hp2
          change (ll.getD 0 zeroT).kind = 4 at hp3
          have hc : (((kk != 5) || ((ll.length : Int) != 2)) || ((ll.getD 0 zeroT).kind != 4)) = true := hc40
          rw [hp1, hp2, hp3] at hc
          simp at hc
        have hno : rowKeysR t = none := by
          unfold rowKeysR
          rw [if_pos hrow, hrk, hrkd, if_neg hnp]
          rfl
        refine Cod.seq fun K15 hK15 => ?_
        refine Cod.region ?_
        refine Ops.step (One.val rfl rfl rfl (yld_build (cells := [.int .i64 0, .int .i64 0, .string ⟨#[]⟩, .slice none 0 0, .slice none 0 0]) rfl (evp0) (by kernel_rfl)) ?_)
        refine Ops.step (One.storeN (vs := [_, _, _, _, _]) F9 4 rfl sz31 rfl rfl rfl (ev_t rfl) (ev_t rfl) rfl rfl rfl ?_)
        intro w10 F10
        change Fr _ _ [blk _ _ [_, _, _, _, _], _, _, blk _ _ [_, _, _, _, _], blk _ _ [_, _, _, _, _], blk _ _ [_, _, _, _, _]] _ at F10
        refine Ops.step (One.val rfl rfl rfl (yld_assign rfl ev_c) ?_)
        refine Ops.nil fun a hS => ?_
        refine hK15 _ _ ?_ a hS
        refine Cod.ret fun a hS => ?_
        try simp only [Exit.then, Exit.inBlock]
        exact retct (t := 2) (u := 3) (ty := 31) rfl hS ag31 rfl rfl (F10.range (m := 5) (cs' := [_, _, _, _, _]) 4 rfl rfl) rfl ⟨z5, No, by rw [hno]; rfl, F10.chg, by rw [hno]; exact sep_leaf _ 0 0 ⟨#[]⟩, fun k hk => hk.elim⟩
      · skip
        have hc : (((kk != 5) || ((ll.length : Int) != 2)) || ((ll.getD 0 zeroT).kind != 4)) = false := hc40
        simp only [Bool.or_eq_false_iff, bne_eq_false_iff_eq] at hc
        obtain ⟨⟨hk5, hl2⟩, hk4⟩ := hc
        have hl2 : ll.length = 2 := by omega
        obtain ⟨rfl, hp0, hp1, hyy⟩ := htwo hl2
        rw [if_pos (by unfold pairT; rw [show (Tr.mk kk nn ss kks ll).kind = 5 from hk5, show (Tr.mk kk nn ss kks ll).list.length = 2 from hl2, show ((Tr.mk kk nn ss kks ll).list.getD 0 zeroT).kind = 4 from hk4]; rfl)] at hrkd
        have hgd2 := hgd.step hokp hfp hl2
        have hlek := hgd.le
        refine Cod.skip fun a hS => ?_
        refine hK13 _ _ ?_ a hS
        have F11 := F9.drew
        refine Cod.draw (C_of (F11.erase 3)) (by kernel_rfl) ?_
        refine Hops.take 1 rfl (by kernel_rfl) (fun _ _ _ h => h) rfl rfl rfl (F11.erase 3) (fun w F => (yld_field fi31_4 rfl (ev_t rfl))) ?_
        refine Hops.take 2 rfl (by kernel_rfl) (fun _ _ _ h => h) rfl rfl rfl (F11.erase 3) (fun w F => (yld_load1 on29 rfl (ev_t rfl) (fun _ => F.cell 0 rfl rfl))) ?_
        refine Hops.take 3 rfl (by kernel_rfl) (fun _ _ _ h => h) rfl rfl rfl (F11.erase 3) (fun w F => (yld_indexN (i := 0) sl29 rfl (ev_t rfl) ev_c (fun _ => by omega))) ?_
        refine Hops.take 4 rfl (by kernel_rfl) (fun _ _ _ h => h) rfl rfl rfl (F11.erase 3) (fun w F => (yld_field fi31_2 rfl (ev_t rfl))) ?_
        refine Hops.take 5 rfl (by kernel_rfl) (fun _ _ _ h => h) rfl rfl rfl (F11.erase 3) (fun w F => (yld_load1 on9 rfl (ev_t rfl) (fun _ => rangeAt_cell (rng hp0 F.chg) (j := 2) rfl))) ?_
        refine Hops.take 6 rfl (by kernel_rfl) (fun _ _ _ h => h) rfl rfl rfl (F11.erase 3) (fun w F => (yld_field fi31_4 rfl (ev_t rfl))) ?_
        refine Hops.take 7 rfl (by kernel_rfl) (fun _ _ _ h => h) rfl rfl rfl (F11.erase 3) (fun w F => (yld_load1 on29 rfl (ev_t rfl) (fun _ => F.cell 0 rfl rfl))) ?_
        refine Hops.take 8 rfl (by kernel_rfl) (fun _ _ _ h => h) rfl rfl rfl (F11.erase 3) (fun w F => (yld_indexN (i := 1) sl29 rfl (ev_t rfl) ev_c (fun _ => by omega))) ?_
        refine Hops.take 9 rfl (by kernel_rfl) (fun _ _ _ h => h) rfl rfl rfl (F11.erase 3) (fun w F => (yld_loadN ag31 rfl (ev_t rfl) (fun _ => rng hp1 F.chg) rfl)) ?_
        refine Hops.one 0 rfl (by kernel_rfl) (One.val rfl rfl rfl (yld_loadN ag31 rfl (ev_t rfl) (fun _ => F11.range (m := 5) (cs' := [_, _, _, _, _]) 3 rfl rfl) rfl) ?_)
        refine ⟨(F11.erase 3), ?_⟩
        refine Hops.one 10 rfl (by kernel_rfl) (One.call rfl rfl rfl (ent_f rfl (evl3 (ev_t rfl) (ev_t rfl) (ev_t rfl)) (enters en49)) (l2Put_ct (.mk 6 0 ⟨#[]⟩ ks l) (vOf (.mk kk nn ss kks ll)) (kOf (.mk kk nn ss kks ll)) ys _ yy w _ ⟨A3, c3, A5, c5, by show _ = Value.agg #[_, _, _, _, .slice A5 l.length c5]; rw [← hyl]; rfl, ownS (F11.get 2 rfl), by rw [show (Tr.mk 6 0 ⟨#[]⟩ ks l).list.length = ys.length from hyl.symm]; exact (own_rep (enc := enc5) (sz := 5) (fun _ => rfl) (F11.get 1 rfl)).weak fun _ _ => trivial, hal⟩ hyy hgd.so hgd.len (by show ks.length ≤ _; omega)) (fun e w11 hw11 => ?_))
        obtain ⟨ku2, lu2, ys2, rfl, C11, hok2, hol2, hal2, hkb, hlb, hkl2⟩ := hw11
        have F12 := F11.new2 C11 (own _ 5 lu2 ys2.length _) (own _ 1 ku2 _ _) hol2 hok2 hlb hkb (fun k h1 h2 => hkl2 k h2 h1)
        refine ⟨_, rfl, ?_⟩
        refine ⟨((F12.erase 5).erase 1).drop1, ?_⟩
        refine Hops.one 11 rfl (by kernel_rfl) (One.storeN (vs := [_, _, _, _, _]) F12 5 rfl sz31 rfl rfl rfl (ev_t rfl) (ev_t rfl) rfl rfl (one5 (own_one (F12.get 1 rfl)) (own_one (F12.get 0 rfl))) ?_)
        intro w12 F13
        refine ⟨((F13.erase 5).erase 1).drop1, ?_⟩
        change Fr _ _ [_, _, blk _ _ [_, _, _, _, _], _, _, blk _ _ [_, _, _, _, _], blk _ _ [_, _, _, _, _], blk _ _ [_, _, _, _, _]] _ at F13
        refine Hops.nil (by kernel_rfl) fun a hS => ?_
        refine hK11 _ _ ?_ a hS
        refine Cod.region ?_
        refine Ops.step (One.val rfl rfl rfl (yld_move rfl (ev_t rfl)) ?_)
        refine Ops.step (One.val rfl rfl rfl (yld_inc rfl (ev_t rfl) (fun _ => by omega)) ?_)
        refine Ops.step (One.val rfl rfl rfl (yld_assign rfl (ev_t rfl)) ?_)
        refine Ops.nil fun a hS => ?_
        have F14 := F13.pull 7 rfl
        have F15 := F14.pull 7 rfl
        have F16 := F15.pull 7 rfl
        have F17 := F16.pull 4 rfl
        have F18 := F17.pull 4 rfl
        have F19 := F18.erase 5
        have F20 := F19.erase 5
        have F21 := F20.erase 5
        refine hK8 (i + 1, _, _, ys2, ku2, lu2) _ a (hS.sub ⟨rfl, rfl, rfl, rfl, trivial⟩) ⟨by show i + 1 ≤ _; omega, by rw [hrk, hrkd]; rfl, hgd2, hal2, F21⟩ (by show t.list.length - (i + 1) < t.list.length - i; omega)
    · skip
      obtain rfl : i = t.list.length := by simp at hc16; omega
      rw [List.drop_length] at hrk
      have hR : rowKeysR t = toldR true (.mk 6 0 ⟨#[]⟩ ks l) := by unfold rowKeysR; rw [if_pos hrow, hrk]; rfl
      obtain ⟨hTf, hTw⟩ := hgd.bd (by omega)
      refine Cod.exit fun a hS => ?_
      simp only [Exit.then, Exit.inBlock, ↓reduceIte]
      refine hK6 _ _ ?_ a hS
      refine Cod.seq fun K16 hK16 => ?_
      refine Cod.region ?_
      refine Ops.step (One.val rfl rfl rfl (yld_loadN ag31 rfl (ev_t rfl) (fun _ => F7.range (m := 5) (cs' := [_, _, _, _, _]) 2 rfl rfl) rfl) ?_)
      refine Ops.step (One.call rfl rfl rfl (ent_f rfl (evl1 (ev_t rfl)) (enters en48)) (l2Told_ct (.mk 6 0 ⟨#[]⟩ ks l) _ _ (Rep.close (ownS (F7.get 1 rfl)) ((hal.chg F7.chg).repL (F7.get 0 rfl))) hTf hTw) (fun e w13 hw13 => ?_))
      obtain ⟨x1, G1, rfl, C13, hs1, hb1⟩ := hw13
      have F22 := F7.new C13 (sep G1 _ x1.val) hs1 hb1
      refine ⟨_, rfl, ?_⟩
      refine Ops.step (One.val rfl rfl rfl (yld_extract rfl (ev_t rfl) rfl) ?_)
      refine Ops.step (One.val rfl rfl rfl (yld_extract rfl (ev_t rfl) rfl) ?_)
      refine Ops.step (One.storeN (vs := [_, _, _, _, _]) F22 4 rfl sz31 rfl rfl rfl (ev_t rfl) (ev_t rfl) rfl rfl hs1.one ?_)
      intro w14 F23
      change Fr _ _ [_, _, _, blk _ _ [_, _, _, _, _], blk _ _ [_, _, _, _, _], blk _ _ [_, _, _, _, _]] _ at F23
      refine Ops.step (One.val rfl rfl rfl (yld_assign rfl (ev_t rfl)) ?_)
      refine Ops.nil fun a hS => ?_
      refine hK16 _ _ ?_ a hS
      refine Cod.ret fun a hS => ?_
      try simp only [Exit.then, Exit.inBlock]
      exact retct (t := 2) (u := 3) (ty := 31) rfl hS ag31 rfl rfl (F23.range (m := 5) (cs' := [_, _, _, _, _]) 4 rfl rfl) rfl ⟨x1, G1, by rw [hR]; rfl, F23.chg, by rw [hR]; exact F23.get 0 rfl, fun b hb => (F23.dom _ (List.mem_of_getElem? (i := 0) rfl) b hb).resolve_left id⟩

end Go.Proofs.Yteodgmpkpbmoeaa.Eng
