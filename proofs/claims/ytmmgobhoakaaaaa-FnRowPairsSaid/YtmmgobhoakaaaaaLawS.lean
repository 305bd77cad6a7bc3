/- Pairs: their plain laws, and the functions that draw them (one text: a claim has at most sixty files). -/
import Derived.Test.YtmmgobhoakaaaaaLawP
import Derived.Test.YtmmgobhoakaaaaaDraw3
namespace Go.Proofs.Ytmmgobhoakaaaaa.Eng
open Go.RowKit
set_option linter.unusedVariables false
set_option linter.unusedSimpArgs false
set_option maxHeartbeats 1000000


/-- What a list by keys holds at a key. -/
def atKey (ks : List ByteArray) (l : List Tr) (key : ByteArray) : Option Tr := if ks.findIdx (fun y => decide (y = key)) < ks.length then l[ks.findIdx (fun y => decide (y = key))]? else none
theorem atKey_put {key : ByteArray} {x : Tr} {ks : List ByteArray} {l : List Tr} (h : ks.length = l.length) : atKey (putK ks key) (putL ks l key x) key = some x := by
  obtain ⟨i1, i2⟩ := put_find key x ks l h
  unfold atKey
  rw [if_pos i2, i1]
theorem put_oth {α : Type} (key k' : ByteArray) (x : α) (hne : k' ≠ key) : ∀ (ks : List ByteArray) (l : List α), ks.length = l.length → ks.findIdx (fun y => decide (y = k')) < ks.length → (putL ks l key x)[(putK ks key).findIdx (fun y => decide (y = k'))]? = l[ks.findIdx (fun y => decide (y = k'))]? ∧ (putK ks key).findIdx (fun y => decide (y = k')) < (putK ks key).length
  | [], _, _, h => by simp at h
  | _ :: _, [], h, _ => by simp at h
  | k :: ks, u :: l, h, hlt => by
    rw [List.findIdx_cons] at hlt
    rw [putK_cons, putL_cons, List.findIdx_cons (l := ks)]
    by_cases hk : k = k'
    · subst hk
      have e : ¬ k = key := hne
      split
      · rw [List.findIdx_cons]; simp
      · try rw [if_neg e]
        simp [List.findIdx_cons, Ne.symm hne]
    · have hlt' : ks.findIdx (fun y => decide (y = k')) < ks.length := by simpa [hk] using hlt
      obtain ⟨i1, i2⟩ := put_oth key k' x hne ks l (by simpa using h) hlt'
      split
      · rw [List.findIdx_cons]; simp [hk, i1, i2]
      · split
        · rw [List.findIdx_cons]; simp [hk, hlt']
        · rw [List.findIdx_cons, List.findIdx_cons]
          simp [hk, Ne.symm hne, hlt']
theorem atKey_oth {key k' : ByteArray} {x v : Tr} (hne : k' ≠ key) {ks : List ByteArray} {l : List Tr} (h : ks.length = l.length) (hv : atKey ks l k' = some v) : atKey (putK ks key) (putL ks l key x) k' = some v := by
  unfold atKey at hv ⊢
  split at hv
  · rename_i h1
    obtain ⟨i1, i2⟩ := put_oth key k' x hne ks l h h1
    rw [if_pos i2, i1, hv]
  · cases hv
/-- No pair of the rest has the key: it keeps what it has. -/
theorem rkF_keep {key : ByteArray} {v : Tr} : ∀ {r : List Tr} {ks : List ByteArray} {l : List Tr} {T : Tr}, ks.length = l.length → rkF r ks l = some T → (∀ p ∈ r, kOf p ≠ key) → atKey ks l key = some v → atKey T.keys T.list key = some v
  | [], ks, l, T, _, e, _, hv => by
    have : T = .mk 6 0 ⟨#[]⟩ ks l := (Option.some.inj e).symm
    rw [this]
    exact hv
  | p :: r, ks, l, T, h, e, hr, hv => by
    unfold rkF at e
    split at e
    · exact rkF_keep (put_len2 h) e (fun q hq => hr q (by simp [hq])) (atKey_oth (Ne.symm (hr p (by simp))) h hv)
    · cases e
/-- The last pair of a key counts. -/
theorem rkF_last : ∀ {r : List Tr} {ks : List ByteArray} {l : List Tr} {T : Tr} {i : Nat} (hi : i < r.length), ks.length = l.length → rkF r ks l = some T → (∀ j (hj : j < r.length), i < j → kOf r[j] ≠ kOf r[i]) → atKey T.keys T.list (kOf r[i]) = some (vOf r[i]) ∧ pairB r[i] = true
  | [], _, _, _, i, hi, _, _, _ => by simp at hi
  | p :: r, ks, l, T, 0, hi, h, e, hr => by
    unfold rkF at e
    split at e
    · rename_i hp
      refine ⟨rkF_keep (put_len2 h) e (fun q hq => ?_) (atKey_put h), hp⟩
      obtain ⟨j, hj, rfl⟩ := List.getElem_of_mem hq
      exact hr (j + 1) (by simpa using hj) (by omega)
    · cases e
  | p :: r, ks, l, T, i + 1, hi, h, e, hr => by
    unfold rkF at e
    split at e
    · have := rkF_last (i := i) (by simpa using hi) (put_len2 h) e (fun j hj hij => by
        have := hr (j + 1) (by simpa using hj) (by omega)
        simpa using this)
      simpa using this
    · cases e
theorem atKey_get {T : Tr} {key : ByteArray} {v : Tr} (h6 : T.kind = 6) (h : atKey T.keys T.list key = some v) : getT T key = some v := by
  unfold atKey at h
  split at h
  · rename_i h1
    have hz : keyZ T.keys key = ((T.keys.findIdx (fun y => decide (y = key)) : Nat) : Int) := by unfold keyZ; rw [if_pos h1]
    obtain ⟨h2, h3⟩ := List.getElem?_eq_some_iff.1 h
    unfold getT
    rw [if_neg (by omega), if_neg (by omega), dif_pos (by rw [hz]; exact ⟨by omega, by simpa using h2⟩)]
    have e3 : (keyZ T.keys key).toNat = T.keys.findIdx (fun y => decide (y = key)) := by rw [hz]; simp
    simp only [e3]
    rw [h3]
  · cases h
/-- Where RowKeys gives a tree: what it gives at the last pair's key. -/
theorem rowKeys_last {t : Tr} {r : Option Tr} (hr : r = rowKeysR t) (h : r.isSome = true) {i : Nat} (hi : i < t.list.length) (hlast : ∀ j (hj : j < t.list.length), i < j → kOf t.list[j] ≠ kOf t.list[i]) : partGetR (r.getD zeroT) (kOf t.list[i]) = some (vOf t.list[i]) ∧ pairB t.list[i] = true := by
  subst hr
  unfold rowKeysR at h ⊢
  split at h
  · rename_i hrow
    rw [if_pos hrow]
    cases e : rkF t.list [] [] with
    | none => rw [e] at h; cases h
    | some T =>
      rw [e] at h
      have hT : okT T = true := by
        have h2 : (toldR true T).isSome = true := h
        unfold toldR at h2
        split at h2
        · rename_i q; simpa using q
        · cases h2
      obtain ⟨q1, q2⟩ := rkF_last hi rfl e hlast
      have hok := rowT_ok hrow
      have hp := okT_child hok (List.getElem_mem hi)
      have hk : okS (kOf t.list[i]) = true := by
        have h2 : t.list[i].list.length = 2 := by unfold pairB at q2; simp at q2; exact q2.1.2
        generalize t.list[i] = p at hp h2
        obtain ⟨k, m, s, ks', l'⟩ := p
        match l', h2 with
        | [a, b], _ => exact okT_str (okT_child hp (x := a) (by simp [Tr.list]))
      obtain ⟨ks', l', e6, -⟩ := rkF_good (Good.nil 0) (fun p hp => ⟨okT_child hok hp, okT_fit (okT_child hok hp)⟩) e
      refine ⟨?_, q2⟩
      show partGetR ((toldR true T).getD zeroT) (kOf t.list[i]) = _
      rw [toldR_true hT]
      unfold partGetR
      rw [show (some T).getD zeroT = T from rfl, hT, hk, Bool.and_self, if_pos rfl]
      exact atKey_get (by rw [e6]; rfl) q1
  · cases h


theorem SomeT.dr {t : Tr} (h : SomeT t) : Dr t := ⟨h.fit, by have := h.wt; omega, by have := h.len; omega⟩

set_option maxRecDepth 100000 in
theorem drawPairs_ct (code : List UInt8) (v : Value) (w : World) (hp : RepE bCells 1 Any w code v) : Calls Try.prog 28 #[v] w (Draw1 w) := by
  refine enter Try.func28 rfl rfl rfl ?_
  have F0 := Fr.start w
  refine Cod.seq fun K1 hK1 => ?_
  refine Cod.region ?_
  refine Ops.step (One.alloc F0 zero26 rfl rfl rfl rfl ?_)
  intro b1 w1 hb1 F1
  change Fr _ _ [blk _ _ [_, _, _, _, _]] _ at F1
  refine Ops.nil fun a hS => ?_
  refine hK1 _ _ ?_ a hS
  refine Cod.seq fun K2 hK2 => ?_
  refine Cod.region ?_
  refine Ops.step (One.val rfl rfl rfl (yld_move rfl (ev_t rfl)) ?_)
  refine Ops.step (One.call rfl rfl rfl (ent_f rfl (evl1 (ev_t rfl)) (enters en61)) (open_ct code v _ (hp.chg F1.chg)) (fun e w2 hw2 => ?_))
  obtain ⟨bb, rfl, C2, hrd0, hbb⟩ := hw2
  obtain ⟨cv, hcv⟩ : ∃ cv, cv = cutv v := ⟨_, rfl⟩
  rw [← hcv] at hrd0
  have hcode : Code bb w cv := by rw [hcv]; exact code_of hp (by have := F1.chg.size; omega)
  have F2 := F1.new C2 (rd bb cv 0) hrd0 (fun k hk => by have h1 : k = bb := hk; subst h1; exact hbb)
  refine ⟨_, rfl, ?_⟩
  refine Ops.step (One.val rfl rfl rfl (yld_assign rfl (ev_t rfl)) ?_)
  refine Ops.nil fun a hS => ?_
  refine hK2 _ _ ?_ a hS
  refine Cod.seq fun K3 hK3 => ?_
  refine Cod.region ?_
  refine Ops.step (One.val rfl rfl rfl (yld_move rfl (ev_t rfl)) ?_)
  refine Ops.step (One.call rfl rfl rfl (ent_f rfl (evl1 (ev_t rfl)) (enters en65)) (bent_ct bb cv _ _ (hcode.chg F2.chg) (F2.get 0 rfl) (by omega)) (fun e w3 hw3 => ?_))
  obtain ⟨x1, Gx1, tx1, rfl, C3, hrdx1, hsx1, hbx1, hpx1⟩ := hw3
  have F3 := F2.updNew 0 rfl C3 (fun _ hk => hk) (rd bb cv _) hrdx1 (fun _ hk => hk) (sep Gx1 tx1 x1.val) hsx1 hbx1
  change Fr _ _ (_ :: [_, _]) _ at F3
  refine ⟨_, rfl, ?_⟩
  refine Ops.step (One.alloc F3 zero26 rfl rfl rfl rfl ?_)
  intro b2 w4 hb2 F4
  change Fr _ _ [blk _ _ [_, _, _, _, _], _, _, blk _ _ [_, _, _, _, _]] _ at F4
  refine Ops.step (One.storeN (vs := [_, _, _, _, _]) F4 0 rfl sz26 rfl rfl rfl (ev_t rfl) (ev_t rfl) rfl rfl hsx1.one ?_)
  intro w5 F5
  change Fr _ _ [blk _ _ [_, _, _, _, _], _, _, blk _ _ [_, _, _, _, _]] _ at F5
  refine Ops.nil fun a hS => ?_
  refine hK3 _ _ ?_ a hS
  refine Cod.seq fun K4 hK4 => ?_
  refine Cod.seq fun K5 hK5 => ?_
  refine Cod.region ?_
  refine Ops.step (One.val rfl rfl rfl (yld_assign rfl ev_c) ?_)
  refine Ops.nil fun a hS => ?_
  refine hK5 _ _ ?_ a hS
  refine Cod.block ?_
  have F6 := F5.pull 3 rfl
  have F7 := F6.pull 3 rfl
  have F8 := F7.pull 3 rfl
  have F9 := F8.pull 3 rfl
  refine Cod.loop (fun i : Nat × V5 × Tr × (Nat → Prop) => [(2, true, .pointer (some ⟨b1, 0, none⟩)), (3, true, .pointer (some ⟨bb, 0, none⟩)), (4, true, .pointer (some ⟨b2, 0, none⟩)), (5, true, .int .i64 (i.1 : Int))]) (fun i w' => Dr i.2.2.1 ∧ i.1 ≤ 4 ∧ Fr No w [blk b2 26 (enc5 i.2.1), sep i.2.2.2 i.2.2.1 i.2.1.val, rd bb cv (2000 + i.1 * 2000), blk b1 26 [.int .i64 0, .int .i64 0, .string ⟨#[]⟩, .slice none 0 0, .slice none 0 0]] w') (fun i => 4 - i.1) (0, x1, tx1, Gx1) ⟨rfl, rfl, rfl, rfl, trivial⟩ ⟨hpx1.dr, Nat.zero_le _, F9.rdUp 2 rfl (2000 + 0 * 2000) (by omega)⟩ ?_
  intro i w6 hW K6 hK6
  obtain ⟨ix, x, t, G⟩ := i
  obtain ⟨hdr, hix, F10⟩ := hW
  dsimp only at *
  obtain ⟨tk, tn, ts, tks, tl, rfl⟩ := Tr.eta t
  obtain ⟨v3, v4, rfl, -⟩ := Sep.leafs (F10.get 1 rfl)
  refine Cod.seq fun K7 hK7 => ?_
  refine Cod.seq fun K8 hK8 => ?_
  refine Cod.region ?_
  refine Ops.step (One.val rfl rfl rfl (yld_move rfl (ev_t rfl)) ?_)
  refine Ops.step (One.val rfl rfl rfl (yld_lss rfl (ev_t rfl) ev_c) ?_)
  refine Ops.step (One.val rfl rfl rfl (yld_move rfl (ev_t rfl)) ?_)
  refine Ops.step (One.val (gd_some rfl rfl) rfl rfl (yld_field fi26_0 rfl (ev_t rfl)) ?_)
  refine Ops.step (One.val (gd_some rfl rfl) rfl rfl (yld_load1 on3 rfl (ev_g rfl) (fun _ => F10.cell 0 rfl rfl)) ?_)
  refine Ops.step (One.val (gd_some rfl rfl) rfl rfl (yld_neq rfl (ev_g rfl) ev_c) ?_)
  refine Ops.step (One.val rfl rfl rfl (yld_and rfl (ev_t rfl) (ev_g rfl)) ?_)
  refine Ops.nil fun a hS => ?_
  refine hK8 _ _ ?_ a hS
  refine Cod.cond rfl (fun hc16 => ?_) (fun hc16 => ?_)
  · skip
    have hlt : ix < 4 := by
      have h := hc16
      simp at h
      omega
    refine Cod.skip fun a hS => ?_
    refine hK7 _ _ ?_ a hS
    refine Cod.seq fun K9 hK9 => ?_
    refine Cod.block ?_
    refine Cod.region ?_
    refine Ops.step (One.val rfl rfl rfl (yld_move rfl (ev_t rfl)) ?_)
    refine Ops.step (One.call rfl rfl rfl (ent_f rfl (evl1 (ev_t rfl)) (enters en87)) (some_ct bb cv _ _ (hcode.chg F10.chg) (F10.get 2 rfl) (by omega)) (fun e w7 hw7 => ?_))
    obtain ⟨x2, Gx2, tx2, rfl, C7, hrdx2, hsx2, hbx2, hpx2⟩ := hw7
    have F11 := F10.updNew 2 rfl C7 (fun _ hk => hk) (rd bb cv _) hrdx2 (fun _ hk => hk) (sep Gx2 tx2 x2.val) hsx2 hbx2
    change Fr _ _ (_ :: [_, _, _, _]) _ at F11
    refine ⟨_, rfl, ?_⟩
    refine Ops.step (One.storeN (vs := [_, _, _, _, _]) F11 1 rfl sz26 rfl rfl rfl (ev_t rfl) (ev_t rfl) rfl rfl hsx2.one ?_)
    intro w8 F12
    change Fr _ _ [_, blk _ _ [_, _, _, _, _], _, _, blk _ _ [_, _, _, _, _]] _ at F12
    refine Ops.nil fun a hS => ?_
    refine hK9 _ _ ?_ a hS
    refine Cod.region ?_
    refine Ops.step (One.val rfl rfl rfl (yld_move rfl (ev_t rfl)) ?_)
    refine Ops.step (One.val rfl rfl rfl (yld_inc rfl (ev_t rfl) (fun _ => by omega)) ?_)
    refine Ops.step (One.val rfl rfl rfl (yld_assign rfl (ev_t rfl)) ?_)
    refine Ops.nil fun a hS => ?_
    have F13 := F12.pull 4 rfl
    have F14 := F13.pull 4 rfl
    have F15 := F14.pull 2 rfl
    have F16 := F15.pull 3 rfl
    have F17 := F16.erase 4
    exact hK6 (ix + 1, x2, tx2, Gx2) _ a (hS.sub ⟨rfl, rfl, rfl, rfl, trivial⟩) ⟨hpx2.dr, by show ix + 1 ≤ _; omega, F17.rdUp 2 rfl (2000 + (ix + 1) * 2000) (by omega)⟩ (by show 4 - (ix + 1) < 4 - ix; omega)
  · skip
    skip
    refine Cod.exit fun a hS => ?_
    simp only [Exit.then, Exit.inBlock, ↓reduceIte]
    refine hK4 _ _ ?_ a hS
    refine Cod.seq fun K10 hK10 => ?_
    refine Cod.region ?_
    refine Ops.step (One.val rfl rfl rfl (yld_loadN ag26 rfl (ev_t rfl) (fun _ => F10.range (m := 5) (cs' := [_, _, _, _, _]) 0 rfl rfl) rfl) ?_)
    refine Ops.step (One.storeN (vs := [_, _, _, _, _]) F10 3 rfl sz26 rfl rfl rfl (ev_t rfl) (ev_t rfl) rfl rfl (Sep.one (x := x5 tk tn ts v3 v4) (F10.get 1 rfl)) ?_)
    intro w9 F18
    change Fr _ _ [blk _ _ [_, _, _, _, _], _, _, blk _ _ [_, _, _, _, _]] _ at F18
    refine Ops.nil fun a hS => ?_
    refine hK10 _ _ ?_ a hS
    refine Cod.ret fun a hS => ?_
    try simp only [Exit.then, Exit.inBlock]
    exact retc (t := 2) (ty := 26) rfl hS ag26 rfl (F18.range (m := 5) (cs' := [_, _, _, _, _]) 3 rfl rfl) rfl ⟨(x5 tk tn ts v3 v4), (Tr.mk tk tn ts tks tl), rfl, F18.chg, rps_one (rps1 (X := No) F18 1 rfl), hdr⟩


def rkS : List ByteArray := [⟨#[97]⟩, ⟨#[98]⟩, ⟨#[99]⟩, ⟨#[]⟩]
theorem memS2 {s : ByteArray} (h : s ∈ rkS) : s.size ≤ 12 := by
  unfold rkS at h
  simp only [List.mem_cons, List.not_mem_nil, or_false] at h
  rcases h with rfl | rfl | rfl | rfl <;> decide
theorem pair_kid {s : ByteArray} {t : Tr} (hs : s.size ≤ 12) (h : LeafT t) : (Tr.mk 5 0 ⟨#[]⟩ [] [.mk 4 0 s [] [], t]).Fit ∧ (Tr.mk 5 0 ⟨#[]⟩ [] [.mk 4 0 s [] [], t]).wt ≤ vw 3 := by
  have h1 : LeafT (.mk 4 0 s [] []) := .mk hs
  refine ⟨.mk (by decide) (by simp) fun x hx => ?_, ?_⟩
  · rcases (by simpa using hx : x = Tr.mk 4 0 s [] [] ∨ x = t) with rfl | rfl
    · exact h1.fit
    · exact h.fit
  · rw [row_wt, sumN_cons, sumN_cons]
    have h2 := h1.wt
    have h3 := h.wt
    have h4 : vw 3 = 1020 := by decide
    rw [h4]
    show 2 + ((Tr.mk 4 0 s [] []).wt + (t.wt + 0)) ≤ _
    omega
/-- A text and a tree in a row. -/
theorem Fr.wrap2 {X : Nat → Prop} {w0 w : World} {L : List Res} {bl : Nat} {G : Nat → Prop} {t : Tr} {x : V5} {s : ByteArray} (F : Fr X w0 (blk bl 26 ([x5 4 0 s (.slice none 0 0) (.slice none 0 0), x].flatMap enc5) :: sep G t x.val :: L) w) :
    ∃ G', Fr X w0 (sep G' (.mk 5 0 ⟨#[]⟩ [] [.mk 4 0 s [] [], t]) (x5 5 0 ⟨#[]⟩ (.slice none 0 0) (.slice (some ⟨bl, 0, none⟩) 2 2)).val :: L) w := by
  obtain ⟨h1, h2, h3, h4, h5⟩ := F.mem
  have h3' : Sep w G t x.val := h3
  obtain ⟨y, hy⟩ : ∃ y, y = x5 4 0 s (.slice none 0 0) (.slice none 0 0) := ⟨_, rfl⟩
  have hb : w.heap[bl]? = some (.cells ([y, x].flatMap enc5).toArray 26 (0, 0)) := by rw [hy]; exact h1
  have hys : Sep w No (.mk 4 0 s [] []) y.val := by rw [hy]; exact sep_leaf w 4 0 s
  have hO : w.ownsRow 0 26 5 (.slice (some ⟨bl, 0, none⟩) 2 2) 2 ([y, x].flatMap enc5) := ⟨rfl, .inr ⟨bl, 2, ([y, x].flatMap enc5).toArray, rfl, Nat.zero_le _, hb, Nat.le_refl _, by simp [maxLen], rfl, rfl⟩⟩
  have F1 : Fr X w0 (own 26 5 (.slice (some ⟨bl, 0, none⟩) 2 2) [y, x].length ([y, x].flatMap enc5) :: kids G [.mk 4 0 s [] [], t] [y, x] :: L) w := by
    refine F.tell _ ⟨hO, fun k hk q hq hqk => ?_, ?_, h4, h5⟩ fun r hr k hk => ?_
    · have hk' : bl = k := by simpa [own, Value.ownBlock] using hk
      rcases List.mem_cons.1 hq with rfl | hq
      · exact h2 k hk'.symm (sep G t x.val) (by simp) hqk
      · exact h2 k hk'.symm q (by simp [hq]) hqk
    · refine ⟨fun i => if i = 0 then y else x, fun i => if i = 0 then No else G, fun i hi => ?_, fun i hi => ?_, fun i hi b hb => ?_, fun i hi j hj hij => ?_, fun b hb => h3'.lt b hb⟩
      · rcases (by simp at hi; omega : i = 0 ∨ i = 1) with rfl | rfl <;> rfl
      · rcases (by simp at hi; omega : i = 0 ∨ i = 1) with rfl | rfl
        · exact hys
        · exact h3'
      · rcases (by simp at hi; omega : i = 0 ∨ i = 1) with rfl | rfl
        · exact absurd hb id
        · exact hb
      · obtain ⟨rfl, rfl⟩ : i = 1 ∧ j = 0 := by simp at hi; omega
        exact fun _ h => h
    · rcases List.mem_cons.1 hr with rfl | hr
      · have hk' : bl = k := by simpa [own, Value.ownBlock] using hk
        exact ⟨_, List.mem_cons_self .., hk'.symm⟩
      · rcases List.mem_cons.1 hr with rfl | hr
        · exact ⟨sep G t x.val, by simp, hk⟩
        · exact ⟨r, by simp [hr], hk⟩
  have F2 := Fr.toSepL F1 rfl
  have F3 := (F2.nilRow 9 1).pull 1 rfl
  have F4 := Fr.toSep (ks := []) (k := 5) (n := 0) (s := ⟨#[]⟩) F3
  exact ⟨_, F4⟩

set_option maxRecDepth 100000 in
theorem drawKeys_ct (code : List UInt8) (v : Value) (w : World) (hp : RepE bCells 1 Any w code v) : Calls Try.prog 37 #[v] w (Draw1 w) := by
  refine enter Try.func37 rfl rfl rfl ?_
  have F0 := Fr.start w
  refine Cod.seq fun K1 hK1 => ?_
  refine Cod.region ?_
  refine Ops.step (One.alloc F0 zero26 rfl rfl rfl rfl ?_)
  intro b1 w1 hb1 F1
  change Fr _ _ [blk _ _ [_, _, _, _, _]] _ at F1
  refine Ops.nil fun a hS => ?_
  refine hK1 _ _ ?_ a hS
  refine Cod.seq fun K2 hK2 => ?_
  refine Cod.region ?_
  refine Ops.step (One.val rfl rfl rfl (yld_move rfl (ev_t rfl)) ?_)
  refine Ops.step (One.call rfl rfl rfl (ent_f rfl (evl1 (ev_t rfl)) (enters en61)) (open_ct code v _ (hp.chg F1.chg)) (fun e w2 hw2 => ?_))
  obtain ⟨bb, rfl, C2, hrd0, hbb⟩ := hw2
  obtain ⟨cv, hcv⟩ : ∃ cv, cv = cutv v := ⟨_, rfl⟩
  rw [← hcv] at hrd0
  have hcode : Code bb w cv := by rw [hcv]; exact code_of hp (by have := F1.chg.size; omega)
  have F2 := F1.new C2 (rd bb cv 0) hrd0 (fun k hk => by have h1 : k = bb := hk; subst h1; exact hbb)
  refine ⟨_, rfl, ?_⟩
  refine Ops.step (One.val rfl rfl rfl (yld_assign rfl (ev_t rfl)) ?_)
  refine Ops.nil fun a hS => ?_
  refine hK2 _ _ ?_ a hS
  refine Cod.seq fun K3 hK3 => ?_
  refine Cod.seq fun K4 hK4 => ?_
  refine Cod.region ?_
  refine Ops.step (One.val rfl rfl rfl (yld_move rfl (ev_t rfl)) ?_)
  refine Ops.step (One.call rfl rfl rfl (ent_f rfl (evl2 (ev_t rfl) ev_c) (enters en63)) (pick_ct 4 bb cv _ _ (hcode.chg F2.chg) (F2.get 0 rfl) (by omega) (by omega)) (fun e w3 hw3 => ?_))
  obtain ⟨r2, rfl, C3, hrdr2, hr2⟩ := hw3
  have F3 := F2.upd 0 rfl C3 (fun _ hk => .inl hk) (rd bb cv _) hrdr2 (fun _ hk => .inl hk)
  change Fr _ _ [_, _] _ at F3
  refine ⟨_, rfl, ?_⟩
  refine Ops.step (One.val rfl rfl rfl (yld_eql rfl (ev_t rfl) ev_c) ?_)
  refine Ops.nil fun a hS => ?_
  refine hK4 _ _ ?_ a hS
  refine Cod.cond rfl (fun hc10 => ?_) (fun hc10 => ?_)
  · skip
    refine Cod.seq fun K5 hK5 => ?_
    refine Cod.region ?_
    refine Ops.step (One.val rfl rfl rfl (yld_move rfl (ev_t rfl)) ?_)
    refine Ops.step (One.call rfl rfl rfl (ent_f rfl (evl1 (ev_t rfl)) (enters en62)) (rowDraw_ct bb cv _ _ (hcode.chg F3.chg) (F3.get 0 rfl) (by omega)) (fun e w4 hw4 => ?_))
    obtain ⟨x1, Gx1, tx1, rfl, C4, hrdx1, hsx1, hbx1, hpx1⟩ := hw4
    have F4 := F3.updNew 0 rfl C4 (fun _ hk => hk) (rd bb cv _) hrdx1 (fun _ hk => hk) (sep Gx1 tx1 x1.val) hsx1 hbx1
    change Fr _ _ (_ :: [_, _]) _ at F4
    refine ⟨_, rfl, ?_⟩
    refine Ops.step (One.storeN (vs := [_, _, _, _, _]) F4 2 rfl sz26 rfl rfl rfl (ev_t rfl) (ev_t rfl) rfl rfl hsx1.one ?_)
    intro w5 F5
    change Fr _ _ [_, _, blk _ _ [_, _, _, _, _]] _ at F5
    refine Ops.nil fun a hS => ?_
    refine hK5 _ _ ?_ a hS
    refine Cod.ret fun a hS => ?_
    try simp only [Exit.then, Exit.inBlock]
    exact retc (t := 2) (ty := 26) rfl hS ag26 rfl (F5.range (m := 5) (cs' := [_, _, _, _, _]) 2 rfl rfl) rfl ⟨x1, tx1, rfl, F5.chg, rps_one (rps1 (X := No) F5 0 rfl), hpx1⟩
  · skip
    refine Cod.skip fun a hS => ?_
    refine hK3 _ _ ?_ a hS
    refine Cod.seq fun K6 hK6 => ?_
    refine Cod.region ?_
    refine Ops.step (One.buildNil enc5 F3 sl24 rfl rfl rfl rfl ?_)
    intro b2 w6 hb2 F6
    refine Ops.step (One.val rfl rfl rfl (yld_assign rfl (ev_t rfl)) ?_)
    refine Ops.nil fun a hS => ?_
    refine hK6 _ _ ?_ a hS
    refine Cod.seq fun K7 hK7 => ?_
    refine Cod.seq fun K8 hK8 => ?_
    refine Cod.region ?_
    refine Ops.step (One.val rfl rfl rfl (yld_move rfl (ev_t rfl)) ?_)
    refine Ops.step (One.call rfl rfl rfl (ent_f rfl (evl2 (ev_t rfl) ev_c) (enters en63)) (pick_ct 5 bb cv _ _ (hcode.chg F6.chg) (F6.get 1 rfl) (by omega) (by omega)) (fun e w7 hw7 => ?_))
    obtain ⟨r5, rfl, C7, hrdr5, hr5⟩ := hw7
    have F7 := F6.upd 1 rfl C7 (fun _ hk => .inl hk) (rd bb cv _) hrdr5 (fun _ hk => .inl hk)
    change Fr _ _ [_, _, _] _ at F7
    refine ⟨_, rfl, ?_⟩
    refine Ops.step (One.val rfl rfl rfl (yld_assign rfl (ev_t rfl)) ?_)
    refine Ops.nil fun a hS => ?_
    refine hK8 _ _ ?_ a hS
    refine Cod.block ?_
    have F8 := F7.pull 2 rfl
    have F9 := F8.pull 2 rfl
    have F10 := F9.pull 2 rfl
    refine Cod.loop (fun i : Nat × Nat × List Tr × List V5 × Value × (Nat → Prop) => [(2, true, .pointer (some ⟨b1, 0, none⟩)), (3, true, .pointer (some ⟨bb, 0, none⟩)), (4, true, i.2.2.2.2.1), (5, true, .int .i64 (i.1 : Int))]) (fun i w' => i.1 + i.2.1 ≤ 5 ∧ RowI 3 i.2.1 i.2.2.1 ∧ i.2.2.2.1.length = i.2.2.1.length ∧ Fr No w [own 26 5 i.2.2.2.2.1 i.2.2.2.1.length (i.2.2.2.1.flatMap enc5), kids i.2.2.2.2.2 i.2.2.1 i.2.2.2.1, rd bb cv (2000 + i.2.1 * 300), blk b1 26 [.int .i64 0, .int .i64 0, .string ⟨#[]⟩, .slice none 0 0, .slice none 0 0]] w') (fun i => i.1) (r5, 0, [], [], .slice (some ⟨b2, 0, none⟩) 0 0, No) ⟨rfl, rfl, rfl, rfl, trivial⟩ ⟨by show r5 + 0 ≤ 5; omega, RowI.nil 3, rfl, (F10.rdUp 1 rfl (2000 + 0 * 300) (by omega)).nilKids.pull 1 rfl⟩ ?_
    intro i w8 hW K9 hK9
    obtain ⟨i, m, ts, xs, lu, G⟩ := i
    obtain ⟨hi, hM, hxl, F11⟩ := hW
    dsimp only at *
    have htl := hM.le
    refine Cod.seq fun K10 hK10 => ?_
    refine Cod.seq fun K11 hK11 => ?_
    refine Cod.region ?_
    refine Ops.step (One.val rfl rfl rfl (yld_move rfl (ev_t rfl)) ?_)
    refine Ops.step (One.val rfl rfl rfl (yld_gtr rfl (ev_t rfl) ev_c) ?_)
    refine Ops.nil fun a hS => ?_
    refine hK11 _ _ ?_ a hS
    refine Cod.cond rfl (fun hc17 => ?_) (fun hc17 => ?_)
    · skip
      obtain ⟨j, rfl⟩ : ∃ j, i = j + 1 := ⟨i - 1, by simp at hc17; omega⟩
      refine Cod.skip fun a hS => ?_
      refine hK10 _ _ ?_ a hS
      refine Cod.seq fun K12 hK12 => ?_
      refine Cod.block ?_
      refine Cod.region ?_
      refine Ops.step (One.val rfl rfl rfl (yld_move rfl (ev_t rfl)) ?_)
      refine Ops.step (One.val rfl rfl rfl (yld_move rfl (ev_t rfl)) ?_)
      refine Ops.step (One.buildSlice (cells := (rkS.flatMap sCells)) F11 sl23 zero9 rfl rfl rfl rfl (evp4 ev_c ev_c ev_c ev_c) rfl rfl (by kernel_rfl) ?_)
      intro b3 w9 hb3 F12
      refine Ops.step (One.call rfl rfl rfl (ent_f rfl (evl2 (ev_t rfl) (ev_t rfl)) (enters en100)) (rof_ct rkS bb cv _ _ _ (hcode.chg F12.chg) (F12.get 3 rfl) (by have := F12.lit (enc := sCells) (sz := 1) (xs := rkS) (fun _ => rfl) 0 3 (by decide) rfl rfl (by decide); exact this) (by omega) (by decide) (by decide)) (fun e w10 hw10 => ?_))
      obtain ⟨s4, hms4, rfl, C10, hrds4⟩ := hw10
      have F13 := F12.upd 3 rfl C10 (fun _ hk => .inl hk) (rd bb cv _) hrds4 (fun _ hk => .inl hk)
      change Fr _ _ [_, _, _, _, _] _ at F13
      refine ⟨_, rfl, ?_⟩
      refine Ops.step (One.val rfl rfl rfl (yld_build (cells := [.int .i64 4, .int .i64 0, .string s4, .slice none 0 0, .slice none 0 0]) rfl (evp2 ev_c (ev_t rfl)) (by kernel_rfl)) ?_)
      refine Ops.step (One.val rfl rfl rfl (yld_move rfl (ev_t rfl)) ?_)
      refine Ops.step (One.call rfl rfl rfl (ent_f rfl (evl1 (ev_t rfl)) (enters en101)) (leaf_ct bb cv _ _ (hcode.chg F13.chg) (F13.get 3 rfl) (by omega)) (fun e w11 hw11 => ?_))
      obtain ⟨z1, Gz1, tz1, rfl, C11, hrdz1, hsz1, hbz1, hpz1⟩ := hw11
      have F14 := F13.updNew 3 rfl C11 (fun _ hk => hk) (rd bb cv _) hrdz1 (fun _ hk => hk) (sep Gz1 tz1 z1.val) hsz1 hbz1
      change Fr _ _ (_ :: [_, _, _, _, _]) _ at F14
      refine ⟨_, rfl, ?_⟩
      refine Ops.step (One.buildSlice (cells := ([(x5 4 0 s4 (.slice none 0 0) (.slice none 0 0)), z1].flatMap enc5)) F14 sl24 zero26 rfl rfl rfl rfl (evp2 (ev_t rfl) (ev_t rfl)) rfl rfl (by kernel_rfl) ?_)
      intro b4 w12 hb4 F15
      refine Ops.step (One.call rfl rfl rfl (ent_f rfl (evl1 (ev_t rfl)) (enters en80)) (l4Of_ct (.slice (some ⟨b4, 0, none⟩) 2 2) _ ⟨_, _, _, rfl⟩) (fun e w13 hw13 => ?_))
      obtain ⟨rfl, C13⟩ := hw13
      have F16_ := F15.call C13
      obtain ⟨Gp, F16⟩ := Fr.wrap2 (s := s4) (x := z1) F16_
      refine ⟨_, rfl, ?_⟩
      refine Ops.step (One.buildSlice (cells := (enc5 (x5 5 0 ⟨#[]⟩ (.slice none 0 0) (.slice (some ⟨b4, 0, none⟩) 2 2)))) F16 sl24 zero26 rfl rfl rfl rfl (evp1 (ev_t rfl)) rfl rfl (by kernel_rfl) ?_)
      intro b5 w14 hb5 F17
      refine Ops.step (One.append (enc := enc5) [(x5 5 0 ⟨#[]⟩ (.slice none 0 0) (.slice (some ⟨b4, 0, none⟩) 2 2))] F17 3 rfl sl24 zero26 rfl rfl (fun _ => rfl) rfl rfl rfl rfl (ev_t rfl) (ev_t rfl) ((blk_rep (enc := enc5) (sz := 5) (xs := [(x5 5 0 ⟨#[]⟩ (.slice none 0 0) (.slice (some ⟨b4, 0, none⟩) 2 2))]) (fun _ => rfl) (by simpa using F17.get 0 rfl) (by simp) (by simp)).weak fun _ _ => trivial) (one_all rfl) (by simp; omega) (by simp; omega) ?_)
      intro lu2 w15 hlu2 F18
      change Fr _ _ [_, _, _, _, _, _, blk _ _ [_, _, _, _, _]] _ at F18
      refine Ops.step (One.val rfl rfl rfl (yld_assign rfl (ev_t rfl)) ?_)
      refine Ops.nil fun a hS => ?_
      refine hK12 _ _ ?_ a hS
      refine Cod.region ?_
      refine Ops.step (One.val rfl rfl rfl (yld_move rfl (ev_t rfl)) ?_)
      refine Ops.step (One.val rfl rfl rfl (yld_sub rfl (ev_t rfl) ev_c (fun _ => by omega)) ?_)
      refine Ops.step (One.val rfl rfl rfl (yld_assign rfl (ev_t rfl)) ?_)
      refine Ops.nil fun a hS => ?_
      have F19 := F18.pull 6 rfl
      have F20 := F19.pull 6 rfl
      have F21 := F20.pull 6 rfl
      have F22 := F21.pull 6 rfl
      have F23 := F22.pull 5 rfl
      have F24 := F23.erase 5
      have F25 := F24.erase 5
      have hF := F25.toKid (xs' := xs ++ [(x5 5 0 ⟨#[]⟩ (.slice none 0 0) (.slice (some ⟨b4, 0, none⟩) 2 2))]) (by rw [← hxl]; simp) (fun j hj => by rw [List.getElem?_append_left (by omega)])
      have hj : ((j + 1 : Nat) : Int) - 1 = (j : Int) := by omega
      rw [hj] at hS
      have hF2 := hF.rdUp 2 rfl (2000 + (m + 1) * 300) (by omega)
      exact hK9 (j, m + 1, ts ++ [(Tr.mk 5 0 ⟨#[]⟩ [] [Tr.mk 4 0 s4 [] [], tz1])], xs ++ [(x5 5 0 ⟨#[]⟩ (.slice none 0 0) (.slice (some ⟨b4, 0, none⟩) 2 2))], lu2, _) _ a (hS.sub ⟨rfl, rfl, rfl, rfl, trivial⟩) ⟨by show j + (m + 1) ≤ 5; omega, RowI.snoc hM (pair_kid (memS2 hms4) hpz1), by simp [hxl], hF2⟩ (by show j < j + 1; omega)
    · skip
      obtain ⟨Al, ml, cl, hlu⟩ := own_form (F11.get 0 rfl)
      obtain ⟨GT, F26⟩ := Fr.rowTree (k := 5) (n := 0) (s := ⟨#[]⟩) F11 hxl
      obtain ⟨hTf, hTw, hTl⟩ := hM.row (by omega)
      refine Cod.exit fun a hS => ?_
      simp only [Exit.then, Exit.inBlock, ↓reduceIte]
      refine hK7 _ _ ?_ a hS
      refine Cod.seq fun K13 hK13 => ?_
      refine Cod.region ?_
      refine Ops.step (One.val rfl rfl rfl (yld_move rfl (ev_t rfl)) ?_)
      refine Ops.step (One.call rfl rfl rfl (ent_f rfl (evl1 (ev_t rfl)) (enters en80)) (l4Of_ct lu _ ⟨_, _, _, hlu⟩) (fun e w16 hw16 => ?_))
      obtain ⟨rfl, C16⟩ := hw16
      have F27 := F26.call C16
      refine ⟨_, rfl, ?_⟩
      refine Ops.step (One.storeN (vs := [_, _, _, _, _]) F27 2 rfl sz26 rfl rfl rfl (ev_t rfl) (ev_t rfl) rfl rfl (Sep.one (x := x5 5 0 ⟨#[]⟩ (.slice none 0 0) lu) (F27.get 0 rfl)) ?_)
      intro w17 F28
      change Fr _ _ [_, _, blk _ _ [_, _, _, _, _]] _ at F28
      refine Ops.nil fun a hS => ?_
      refine hK13 _ _ ?_ a hS
      refine Cod.ret fun a hS => ?_
      try simp only [Exit.then, Exit.inBlock]
      exact retc (t := 2) (ty := 26) rfl hS ag26 rfl (F28.range (m := 5) (cs' := [_, _, _, _, _]) 2 rfl rfl) rfl ⟨x5 5 0 ⟨#[]⟩ (.slice none 0 0) lu, .mk 5 0 ⟨#[]⟩ [] ts, rfl, F28.chg, rps_one (rps1 (X := No) F28 0 rfl), ⟨hTf, by omega, hTl⟩⟩

end Go.Proofs.Ytmmgobhoakaaaaa.Eng
