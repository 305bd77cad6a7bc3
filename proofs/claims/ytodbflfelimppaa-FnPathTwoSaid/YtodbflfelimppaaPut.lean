/- Walks of both ways to put a tree at a key: a tree by keys with that tree at that key. -/
import Derived.Test.YtodbflfelimppaaBin
import Derived.Test.YtodbflfelimppaaClS
namespace Go.Proofs.Ytodbflfelimppaa.Eng
open Go.RowKit
set_option linter.unusedVariables false
set_option linter.unusedSimpArgs false
set_option maxHeartbeats 1000000


def posK : List ByteArray → ByteArray → Nat
  | [], _ => 0
  | k :: r, key => if ltS k key = true then posK r key + 1 else 0
theorem nth_zero (k : ByteArray) (r : List ByteArray) : nth (k :: r) 0 = k := rfl
theorem nth_succ (k : ByteArray) (r : List ByteArray) (i : Nat) : nth (k :: r) (i + 1) = nth r i := by simp [nth]
theorem posK_le : ∀ (ks : List ByteArray) (key : ByteArray), posK ks key ≤ ks.length
  | [], _ => Nat.le_refl _
  | k :: r, key => by
    unfold posK
    have := posK_le r key
    split
    · simp; omega
    · omega
theorem posK_lt : ∀ (ks : List ByteArray) (key : ByteArray) (i : Nat), i < posK ks key → ltS (nth ks i) key = true
  | [], _, _, h => by simp [posK] at h
  | k :: r, key, i, h => by
    unfold posK at h
    split at h
    · rename_i hk
      cases i with
      | zero => exact hk
      | succ i => rw [nth_succ]; exact posK_lt r key i (by omega)
    · omega
theorem posK_at : ∀ (ks : List ByteArray) (key : ByteArray), posK ks key < ks.length → ltS (nth ks (posK ks key)) key = false
  | [], _, h => by simp at h
  | k :: r, key, h => by
    unfold posK at h ⊢
    split
    · rename_i hk
      rw [if_pos hk] at h
      rw [nth_succ]
      exact posK_at r key (by simpa using h)
    · rename_i hk
      rw [nth_zero]; simpa using hk
theorem posK_pos {ks : List ByteArray} {key : ByteArray} (hs : Sorted ks) : Pos ks key (posK ks key) := by
  refine ⟨posK_le ks key, posK_lt ks key, fun k h1 h2 => ?_⟩
  have h3 := posK_at ks key (by omega)
  by_cases h : k = posK ks key
  · rw [h]; exact h3
  · have h4 := hs.lt k (posK ks key) (by omega) h2
    cases h5 : ltS (nth ks k) key
    · rfl
    · rw [ltS_tr h4 h5] at h3; cases h3
def putB (ks : List ByteArray) (key : ByteArray) : Bool := hasAt ks key (posK ks key)
def putK (ks : List ByteArray) (key : ByteArray) : List ByteArray := if putB ks key = true then ks else ks.take (posK ks key) ++ key :: ks.drop (posK ks key)
def putL {α : Type} (ks : List ByteArray) (l : List α) (key : ByteArray) (x : α) : List α := if putB ks key = true then l.set (posK ks key) x else l.take (posK ks key) ++ x :: l.drop (posK ks key)
def putT (t : Tr) (key : ByteArray) (x : Tr) : Tr := .mk 6 0 ⟨#[]⟩ (putK t.keys key) (putL t.keys t.list key x)
theorem putB_iff {ks : List ByteArray} {key : ByteArray} : putB ks key = true ↔ posK ks key < ks.length ∧ nth ks (posK ks key) = key := by unfold putB hasAt; simp
theorem AL.take {w : World} {rs : List Tr} {xs : List V5} (h : AL w rs xs) (n : Nat) : AL w (rs.take n) (xs.take n) := by
  refine ⟨by simp [h.1], fun j h1 h2 => ?_⟩
  simp only [List.getElem_take]
  exact h.2 j (by simp at h1; omega) (by simp at h2; omega)
theorem AL.drop {w : World} {rs : List Tr} {xs : List V5} (h : AL w rs xs) (n : Nat) : AL w (rs.drop n) (xs.drop n) := by
  refine ⟨by simp [h.1], fun j h1 h2 => ?_⟩
  simp only [List.getElem_drop]
  exact h.2 _ (by simp at h1; omega) (by simp at h2; omega)
theorem AL.ins {w : World} {rs : List Tr} {xs : List V5} (h : AL w rs xs) (q : Nat) {t : Tr} {x : V5} (hx : Rep Any w t x.val) : AL w (rs.take q ++ t :: rs.drop q) (xs.take q ++ x :: xs.drop q) :=
  (h.take q).append (AL.append (AL.one hx) (h.drop q))
theorem Fr.apart {X : Nat → Prop} {w0 w : World} {L : List Res} (F : Fr X w0 L w) (i j : Nat) {r q : Res} (hi : L[i]? = some r) (hj : L[j]? = some q) (hij : j ≠ i) : ∀ k, r.fp k → ¬ q.fp k := fun k hk =>
  Mem.apart i hi F.mem q (List.mem_eraseIdx_iff_getElem?.2 ⟨j, hij, hj⟩) k hk


theorem built_map {v3 v4 : Value} (h3 : ∃ A m c, v3 = .slice A m c) (h4 : ∃ A m c, v4 = .slice A m c) : Program.built Try.prog 31 [(0, .int .i64 6), (3, v3), (4, v4)] = some [.int .i64 6, .int .i64 0, .string ⟨#[]⟩, v3, v4].toArray := by
  obtain ⟨A, m, c, rfl⟩ := h3
  obtain ⟨A', m', c', rfl⟩ := h4
  kernel_rfl


/-- A tree by keys that is put into: its rows' cells now, its trees in the world of old. -/
def PutIn (w0 w : World) (t : Tr) (v : Value) (xs : List V5) : Prop := ∃ A3 c3 A4 c4, v = .agg #[.int .i64 t.kind, .int .i64 t.num, .string t.str, .slice A3 t.keys.length c3, .slice A4 t.list.length c4] ∧ RepS Any w t.keys (.slice A3 t.keys.length c3) ∧ RepE enc5 5 Any w xs (.slice A4 t.list.length c4) ∧ AL w0 t.list xs
def PutOut (w0 w : World) (T : Tr) (e : Ending) (w' : World) : Prop := ∃ ku lu ys, e = .returned (x5 6 0 ⟨#[]⟩ ku lu).val ∧ Chg No w w' ∧ (own 9 1 ku T.keys.length (T.keys.flatMap sCells)).is w' ∧ (own 31 5 lu ys.length (ys.flatMap enc5)).is w' ∧ AL w0 T.list ys ∧ (∀ k, ku.ownBlock = some k → w.heap.size ≤ k) ∧ (∀ k, lu.ownBlock = some k → w.heap.size ≤ k) ∧ ∀ k, ku.ownBlock = some k → ¬ lu.ownBlock = some k
theorem PutIn.of {w : World} {t : Tr} {v : Value} (h : Rep Any w t v) : ∃ xs, PutIn w w t v xs := by
  obtain ⟨v3, v4, rfl, h3, h4⟩ := h.form
  obtain ⟨A3, c3, rfl, -⟩ := h3.open
  obtain ⟨xs, h5, h6⟩ := h4.v5
  obtain ⟨A4, c4, rfl, -⟩ := h4.open
  exact ⟨xs, A3, c3, A4, c4, rfl, h3, h5, h6⟩
theorem PutOut.rep {w0 w w' : World} {k n : Int} {s : ByteArray} {ks : List ByteArray} {l : List Tr} {e : Ending} (h : PutOut w0 w (.mk k n s ks l) e w') (h0 : Chg No w0 w) : ∃ y : V5, e = .returned y.val ∧ Chg No w w' ∧ Rep Any w' (.mk 6 0 ⟨#[]⟩ ks l) y.val := by
  obtain ⟨ku, lu, ys, he, hc, h1, h2, h3, -⟩ := h
  exact ⟨_, he, hc, Rep.close (ownS h1) ((h3.chg (h0.trans hc)).repL h2)⟩

set_option maxRecDepth 100000 in
theorem cloneV_ct (ys : List V5) (v : Value) (w : World) (hre : RepE enc5 5 Any w ys v) (hone : ∀ x ∈ ys, (enc5 x).all (·.oneCell') = true) (hn : ys.length ≤ 1048576) : Calls Try.prog 86 #[v] w fun e w' => ∃ v', e = .returned v' ∧ Chg No w w' ∧ (own 31 5 v' ys.length (ys.flatMap enc5)).is w' ∧ ∀ k, v'.ownBlock = some k → w.heap.size ≤ k := by
  obtain ⟨A, c, rfl, hnn⟩ := hre.open
  refine enter Try.func86 rfl rfl rfl ?_
  have F0 := Fr.start w
  refine Cod.seq fun K1 hK1 => ?_
  refine Cod.region ?_
  refine Ops.step (One.val rfl rfl rfl (yld_assign rfl ev_c) ?_)
  refine Ops.nil fun a hS => ?_
  refine hK1 _ _ ?_ a hS
  refine Cod.seq fun K2 hK2 => ?_
  refine Cod.seq fun K3 hK3 => ?_
  refine Cod.region ?_
  refine Ops.step (One.val rfl rfl rfl (yld_move rfl (ev_t rfl)) ?_)
  refine Ops.step (One.val rfl rfl rfl (yld_nileq sl29 rfl (ev_t rfl)) ?_)
  refine Ops.nil fun a hS => ?_
  refine hK3 _ _ ?_ a hS
  refine Cod.cond rfl (fun hc4 => ?_) (fun hc4 => ?_)
  · skip
    have hA : A = none := by cases A <;> simp at hc4 ⊢
    have hys : ys = [] := by
      subst hA
      obtain ⟨A2, c2, e2, -, -, h2⟩ := hre
      by_cases hne : ys = []
      · exact hne
      · obtain ⟨b, o, e3, -⟩ := h2 hne
        subst e3
        simp at e2
    refine Cod.seq fun K4 hK4 => ?_
    refine Cod.region ?_
    refine Ops.step (One.val rfl rfl rfl (yld_assign rfl ev_c) ?_)
    refine Ops.nil fun a hS => ?_
    refine hK4 _ _ ?_ a hS
    refine Cod.ret fun a hS => ?_
    try simp only [Exit.then, Exit.inBlock]
    exact ret1 (t := 2) rfl hS rfl ⟨.slice none 0 0, rfl, F0.chg, by rw [hys]; exact World.ownsRow_nil _ 0 31 5, fun k hk => by simp [Value.ownBlock] at hk⟩
  · skip
    refine Cod.skip fun a hS => ?_
    refine hK2 _ _ ?_ a hS
    refine Cod.seq fun K5 hK5 => ?_
    refine Cod.region ?_
    refine Ops.step (One.buildNil enc5 F0 sl29 rfl rfl rfl rfl ?_)
    intro b1 w1 hb1 F1
    refine Ops.step (One.val rfl rfl rfl (yld_move rfl (ev_t rfl)) ?_)
    refine Ops.step (One.append (enc := enc5) ys F1 0 rfl sl29 zero31 rfl rfl (fun _ => rfl) rfl rfl rfl rfl (ev_t rfl) (ev_t rfl) (hre.chg F1.chg) hone (by simp; omega) (by simp; omega) ?_)
    intro u2 w2 hu2 F2
    change Fr _ _ [_] _ at F2
    refine Ops.step (One.val rfl rfl rfl (yld_assign rfl (ev_t rfl)) ?_)
    refine Ops.nil fun a hS => ?_
    refine hK5 _ _ ?_ a hS
    refine Cod.ret fun a hS => ?_
    try simp only [Exit.then, Exit.inBlock]
    exact ret1 (t := 2) rfl hS rfl ⟨u2, rfl, F2.chg, F2.get 0 rfl, fun b hb => (F2.dom _ (List.mem_cons_self ..) b hb).resolve_left id⟩

set_option maxRecDepth 100000 in
theorem put_ct (t x : Tr) (key : ByteArray) (xs0 : List V5) (v : Value) (vx : V5) (w0 w : World) (hin : PutIn w0 w t v xs0) (hx : Rep Any w0 x vx.val) (hso : Sorted t.keys) (hkl : t.keys.length = t.list.length) (hn : t.keys.length ≤ 1000000) :
    Calls Try.prog 103 #[v, .string key, vx.val] w (PutOut w0 w (putT t key x)) := by
  obtain ⟨A3, c3, A4, c4, rfl, h3, h4, hal0⟩ := hin
  have hone : (enc5 vx).all (·.oneCell') = true := V5.one (x := vx) hx
  have hxl0 := hal0.1
  obtain ⟨q, hq⟩ : ∃ q, q = posK t.keys key := ⟨_, rfl⟩
  have hpos := posK_pos (key := key) hso
  rw [← hq] at hpos
  have hqn := hpos.1
  refine enter Try.func103 rfl rfl rfl ?_
  have F0 := Fr.start w
  refine Cod.seq fun K1 hK1 => ?_
  refine Cod.region ?_
  refine Ops.step (One.box F0 rfl rfl rfl rfl (ev_t rfl) ?_)
  intro b1 w1 hb1 F1
  change Fr _ _ [blk _ _ [_, _, _, _, _]] _ at F1
  refine Ops.step (One.box F1 rfl rfl rfl rfl (ev_t rfl) ?_)
  intro b2 w2 hb2 F2
  change Fr _ _ [blk _ _ [_, _, _, _, _], blk _ _ [_, _, _, _, _]] _ at F2
  refine Ops.step (One.alloc F2 zero31 rfl rfl rfl rfl ?_)
  intro b3 w3 hb3 F3
  change Fr _ _ [blk _ _ [_, _, _, _, _], blk _ _ [_, _, _, _, _], blk _ _ [_, _, _, _, _]] _ at F3
  refine Ops.nil fun a hS => ?_
  refine hK1 _ _ ?_ a hS
  refine Cod.cut (fun i : Nat × Value × Value => [(1, true, .string key), (3, true, .pointer (some ⟨b1, 0, none⟩)), (5, true, .pointer (some ⟨b2, 0, none⟩)), (6, true, .pointer (some ⟨b3, 0, none⟩)), (7, true, .pointer (some ⟨i.1, 0, none⟩))]) (fun i w' => Fr No w [blk i.1 31 [.int .i64 6, .int .i64 0, .string ⟨#[]⟩, i.2.1, i.2.2], own 9 1 i.2.1 t.keys.length (t.keys.flatMap sCells), own 31 5 i.2.2 xs0.length (xs0.flatMap enc5), blk b3 31 [.int .i64 0, .int .i64 0, .string ⟨#[]⟩, .slice none 0 0, .slice none 0 0], blk b2 31 [vx.a, vx.b, vx.c, vx.d, vx.e], blk b1 31 [.int .i64 t.kind, .int .i64 t.num, .string t.str, .slice A3 t.keys.length c3, .slice A4 t.list.length c4]] w') (fun K2 hK2 => ?_) ?_
  · skip
    have F4 := F3.drew
    refine Cod.draw (C_of F4) (by kernel_rfl) ?_
    refine Hops.take 0 rfl (by kernel_rfl) (fun _ _ _ h => h) rfl rfl rfl F4 (fun w F => (yld_field fi31_3 rfl (ev_t rfl))) ?_
    refine Hops.take 1 rfl (by kernel_rfl) (fun _ _ _ h => h) rfl rfl rfl F4 (fun w F => (yld_load1 on22 rfl (ev_t rfl) (fun _ => F.cell 2 rfl rfl))) ?_
    refine Hops.take 3 rfl (by kernel_rfl) (fun _ _ _ h => h) rfl rfl rfl F4 (fun w F => (yld_field fi31_4 rfl (ev_t rfl))) ?_
    refine Hops.take 4 rfl (by kernel_rfl) (fun _ _ _ h => h) rfl rfl rfl F4 (fun w F => (yld_load1 on29 rfl (ev_t rfl) (fun _ => F.cell 2 rfl rfl))) ?_
    refine Hops.two 2 7 rfl rfl (by kernel_rfl) ?_ ?_
    · skip
      refine (One.call rfl rfl rfl (ent_f rfl (evl1 (ev_t rfl)) (enters en132)) (cloneT_ct t.keys _ _ (h3.chg F4.chg) (by omega)) (fun e w4 hw4 => ?_))
      obtain ⟨ku, rfl, C4, hok, hkb⟩ := hw4
      have F5 := F4.new C4 (own _ 1 ku t.keys.length _) hok hkb
      refine ⟨_, rfl, ?_⟩
      refine ⟨F5.drop1, ?_⟩
      refine Hops.two 5 7 rfl rfl (by kernel_rfl) ?_ ?_
      · skip
        refine (One.call rfl rfl rfl (ent_f rfl (evl1 (ev_t rfl)) (enters en86)) (cloneV_ct xs0 _ _ (h4.chg F5.chg) hal0.cells (by omega)) (fun e w5 hw5 => ?_))
        obtain ⟨lu, rfl, C5, hol, hlb⟩ := hw5
        have F6 := F5.new C5 (own _ 5 lu xs0.length _) hol hlb
        obtain ⟨Al, ml, cl, hlu⟩ := own_form (F6.get 0 rfl)
        obtain ⟨Ak, mk, ck, hku⟩ := own_form (F5.get 0 rfl)
        refine ⟨_, rfl, ?_⟩
        refine ⟨(F6.erase 1).drop1, ?_⟩
        refine Hops.take 6 rfl (by kernel_rfl) (fun _ _ _ h => h) rfl rfl rfl (F6.erase 1).drop1 (fun w F => (yld_build (cells := [.int .i64 6, .int .i64 0, .string ⟨#[]⟩, ku, lu]) rfl (evp3 ev_c (ev_t rfl) (ev_t rfl)) (built_map ⟨_, _, _, hku⟩ ⟨_, _, _, hlu⟩))) ?_
        refine Hops.one 7 rfl (by kernel_rfl) (One.alloc F6 zero31 rfl rfl rfl rfl ?_)
        intro b4 w6 hb4 F7
        refine ⟨((F7.erase 2).erase 1).drop1, ?_⟩
        change Fr _ _ [blk _ _ [_, _, _, _, _], _, _, blk _ _ [_, _, _, _, _], blk _ _ [_, _, _, _, _], blk _ _ [_, _, _, _, _]] _ at F7
        refine Hops.one 8 rfl (by kernel_rfl) (One.storeN (vs := [_, _, _, _, _]) F7 0 rfl sz31 rfl rfl rfl (ev_t rfl) (ev_t rfl) rfl rfl (one5 (own_one (F7.get 2 rfl)) (own_one (F7.get 1 rfl))) ?_)
        intro w7 F8
        refine ⟨((F8.erase 2).erase 1).drop1, ?_⟩
        change Fr _ _ [blk _ _ [_, _, _, _, _], _, _, blk _ _ [_, _, _, _, _], blk _ _ [_, _, _, _, _], blk _ _ [_, _, _, _, _]] _ at F8
        refine Hops.nil (by kernel_rfl) fun a hS => ?_
        have F9 := F8.pull 5 rfl
        have F10 := F9.pull 5 rfl
        have F11 := F10.pull 5 rfl
        have F12 := F11.pull 4 rfl
        have F13 := F12.pull 5 rfl
        have F14 := F13.pull 5 rfl
        exact hK2 (b4, ku, lu) _ a (hS.sub ⟨rfl, rfl, rfl, rfl, rfl, trivial⟩) F14
      · skip
        refine (One.alloc F5 zero31 rfl rfl rfl rfl ?_)
        intro b5 w8 hb5 F15
        refine ⟨(F15.erase 1).drop1, ?_⟩
        change Fr _ _ [blk _ _ [_, _, _, _, _], _, blk _ _ [_, _, _, _, _], blk _ _ [_, _, _, _, _], blk _ _ [_, _, _, _, _]] _ at F15
        refine Hops.one 5 rfl (by kernel_rfl) (One.call rfl rfl rfl (ent_f rfl (evl1 (ev_t rfl)) (enters en86)) (cloneV_ct xs0 _ _ (h4.chg F15.chg) hal0.cells (by omega)) (fun e w9 hw9 => ?_))
        obtain ⟨lu, rfl, C9, hol, hlb⟩ := hw9
        have F16 := F15.new C9 (own _ 5 lu xs0.length _) hol hlb
        obtain ⟨Al, ml, cl, hlu⟩ := own_form (F16.get 0 rfl)
        obtain ⟨Ak, mk, ck, hku⟩ := own_form (F15.get 1 rfl)
        refine ⟨_, rfl, ?_⟩
        refine ⟨((F16.erase 2).erase 1).drop1, ?_⟩
        refine Hops.take 6 rfl (by kernel_rfl) (fun _ _ _ h => h) rfl rfl rfl ((F16.erase 2).erase 1).drop1 (fun w F => (yld_build (cells := [.int .i64 6, .int .i64 0, .string ⟨#[]⟩, ku, lu]) rfl (evp3 ev_c (ev_t rfl) (ev_t rfl)) (built_map ⟨_, _, _, hku⟩ ⟨_, _, _, hlu⟩))) ?_
        refine Hops.one 8 rfl (by kernel_rfl) (One.storeN (vs := [_, _, _, _, _]) F16 1 rfl sz31 rfl rfl rfl (ev_t rfl) (ev_t rfl) rfl rfl (one5 (own_one (F16.get 2 rfl)) (own_one (F16.get 0 rfl))) ?_)
        intro w10 F17
        refine ⟨((F17.erase 2).erase 1).drop1, ?_⟩
        change Fr _ _ [_, blk _ _ [_, _, _, _, _], _, blk _ _ [_, _, _, _, _], blk _ _ [_, _, _, _, _], blk _ _ [_, _, _, _, _]] _ at F17
        refine Hops.nil (by kernel_rfl) fun a hS => ?_
        have F18 := F17.pull 5 rfl
        have F19 := F18.pull 5 rfl
        have F20 := F19.pull 5 rfl
        have F21 := F20.pull 3 rfl
        have F22 := F21.pull 5 rfl
        have F23 := F22.pull 5 rfl
        exact hK2 (b5, ku, lu) _ a (hS.sub ⟨rfl, rfl, rfl, rfl, rfl, trivial⟩) F23
    · skip
      refine (One.alloc F4 zero31 rfl rfl rfl rfl ?_)
      intro b6 w11 hb6 F24
      refine ⟨F24.drop1, ?_⟩
      change Fr _ _ [blk _ _ [_, _, _, _, _], blk _ _ [_, _, _, _, _], blk _ _ [_, _, _, _, _], blk _ _ [_, _, _, _, _]] _ at F24
      refine Hops.one 2 rfl (by kernel_rfl) (One.call rfl rfl rfl (ent_f rfl (evl1 (ev_t rfl)) (enters en132)) (cloneT_ct t.keys _ _ (h3.chg F24.chg) (by omega)) (fun e w12 hw12 => ?_))
      obtain ⟨ku, rfl, C12, hok, hkb⟩ := hw12
      have F25 := F24.new C12 (own _ 1 ku t.keys.length _) hok hkb
      refine ⟨_, rfl, ?_⟩
      refine ⟨(F25.erase 1).drop1, ?_⟩
      refine Hops.one 5 rfl (by kernel_rfl) (One.call rfl rfl rfl (ent_f rfl (evl1 (ev_t rfl)) (enters en86)) (cloneV_ct xs0 _ _ (h4.chg F25.chg) hal0.cells (by omega)) (fun e w13 hw13 => ?_))
      obtain ⟨lu, rfl, C13, hol, hlb⟩ := hw13
      have F26 := F25.new C13 (own _ 5 lu xs0.length _) hol hlb
      obtain ⟨Al, ml, cl, hlu⟩ := own_form (F26.get 0 rfl)
      obtain ⟨Ak, mk, ck, hku⟩ := own_form (F25.get 0 rfl)
      refine ⟨_, rfl, ?_⟩
      refine ⟨((F26.erase 2).erase 1).drop1, ?_⟩
      refine Hops.take 6 rfl (by kernel_rfl) (fun _ _ _ h => h) rfl rfl rfl ((F26.erase 2).erase 1).drop1 (fun w F => (yld_build (cells := [.int .i64 6, .int .i64 0, .string ⟨#[]⟩, ku, lu]) rfl (evp3 ev_c (ev_t rfl) (ev_t rfl)) (built_map ⟨_, _, _, hku⟩ ⟨_, _, _, hlu⟩))) ?_
      refine Hops.one 8 rfl (by kernel_rfl) (One.storeN (vs := [_, _, _, _, _]) F26 2 rfl sz31 rfl rfl rfl (ev_t rfl) (ev_t rfl) rfl rfl (one5 (own_one (F26.get 1 rfl)) (own_one (F26.get 0 rfl))) ?_)
      intro w14 F27
      refine ⟨((F27.erase 2).erase 1).drop1, ?_⟩
      change Fr _ _ [_, _, blk _ _ [_, _, _, _, _], blk _ _ [_, _, _, _, _], blk _ _ [_, _, _, _, _], blk _ _ [_, _, _, _, _]] _ at F27
      refine Hops.nil (by kernel_rfl) fun a hS => ?_
      have F28 := F27.pull 5 rfl
      have F29 := F28.pull 5 rfl
      have F30 := F29.pull 5 rfl
      have F31 := F30.pull 3 rfl
      have F32 := F31.pull 4 rfl
      have F33 := F32.pull 5 rfl
      exact hK2 (b6, ku, lu) _ a (hS.sub ⟨rfl, rfl, rfl, rfl, rfl, trivial⟩) F33
  · skip
    intro i w15 hW
    obtain ⟨bo, ku, lu⟩ := i
    have F34 := hW
    dsimp only at *
    refine Cod.seq fun K3 hK3 => ?_
    refine Cod.region ?_
    refine Ops.step (One.val rfl rfl rfl (yld_field fi31_3 rfl (ev_t rfl)) ?_)
    refine Ops.step (One.val rfl rfl rfl (yld_load1 on22 rfl (ev_t rfl) (fun _ => F34.cell 0 rfl rfl)) ?_)
    refine Ops.step (One.val rfl rfl rfl (yld_move rfl (ev_t rfl)) ?_)
    refine Ops.step (One.call rfl rfl rfl (ent_f rfl (evl2 (ev_t rfl) (ev_t rfl)) (enters en133)) (bin_ct t.keys key _ _ (ownS (F34.get 1 rfl)) hso (by omega)) (fun e w16 hw16 => ?_))
    obtain ⟨q2, hq2, rfl, C16⟩ := hw16
    obtain rfl := hpos.uniq hq2
    have F35 := F34.call C16
    refine ⟨_, rfl, ?_⟩
    refine Ops.step (One.val rfl rfl rfl (yld_move rfl (ev_t rfl)) ?_)
    refine Ops.step (One.val rfl rfl rfl (yld_extract rfl (ev_t rfl) rfl) ?_)
    refine Ops.step (One.val rfl rfl rfl (yld_extract rfl (ev_t rfl) rfl) ?_)
    refine Ops.step (One.val rfl rfl rfl (yld_assign rfl (ev_t rfl)) ?_)
    refine Ops.step (One.val rfl rfl rfl (yld_assign rfl (ev_t rfl)) ?_)
    refine Ops.nil fun a hS => ?_
    refine hK3 _ _ ?_ a hS
    refine Cod.seq fun K4 hK4 => ?_
    refine Cod.seq fun K5 hK5 => ?_
    refine Cod.region ?_
    refine Ops.step (One.val rfl rfl rfl (yld_move rfl (ev_t rfl)) ?_)
    refine Ops.nil fun a hS => ?_
    refine hK5 _ _ ?_ a hS
    refine Cod.cond rfl (fun hc24 => ?_) (fun hc24 => ?_)
    · skip
      have hb : putB t.keys key = true := by unfold putB; rw [← hq]; exact hc24
      have hql : q < t.keys.length := by rw [putB_iff, ← hq] at hb; exact hb.1
      obtain ⟨bb, cap, hv2, -, -⟩ := World.ownsRow.form (F35.get 2 rfl) (by omega)
      subst hv2
      have hK : putK t.keys key = t.keys := by unfold putK; rw [if_pos hb]
      have hL : putL t.keys t.list key x = t.list.set q x := by unfold putL; rw [if_pos hb, ← hq]
      have hal2 := hal0.set q (x := vx) hx
      refine Cod.seq fun K6 hK6 => ?_
      refine Cod.region ?_
      refine Ops.step (One.val rfl rfl rfl (yld_field fi31_4 rfl (ev_t rfl)) ?_)
      refine Ops.step (One.val rfl rfl rfl (yld_load1 on29 rfl (ev_t rfl) (fun _ => F35.cell 0 rfl rfl)) ?_)
      refine Ops.step (One.val rfl rfl rfl (yld_move rfl (ev_t rfl)) ?_)
      refine Ops.step (One.val rfl rfl rfl (yld_loadN ag31 rfl (ev_t rfl) (fun _ => F35.range (m := 5) (cs' := [_, _, _, _, _]) 4 rfl rfl) rfl) ?_)
      refine Ops.step (One.val rfl rfl rfl (yld_indexN sl29 rfl (ev_t rfl) (ev_t rfl) (fun _ => by omega)) ?_)
      refine Ops.step (One.storeRow (enc := enc5) vx (fun _ => rfl) F35 2 rfl rfl (by omega) sz31 rfl rfl rfl rfl (ev_t rfl) (ev_t rfl) hone ?_)
      intro w17 F36
      change Fr _ _ [blk _ _ [_, _, _, _, _], _, _, blk _ _ [_, _, _, _, _], blk _ _ [_, _, _, _, _], blk _ _ [_, _, _, _, _]] _ at F36
      refine Ops.nil fun a hS => ?_
      refine hK6 _ _ ?_ a hS
      refine Cod.seq fun K7 hK7 => ?_
      refine Cod.region ?_
      refine Ops.step (One.val rfl rfl rfl (yld_loadN ag31 rfl (ev_t rfl) (fun _ => F36.range (m := 5) (cs' := [_, _, _, _, _]) 0 rfl rfl) rfl) ?_)
      refine Ops.step (One.storeN (vs := [_, _, _, _, _]) F36 3 rfl sz31 rfl rfl rfl (ev_t rfl) (ev_t rfl) rfl rfl (one5 (own_one (F36.get 1 rfl)) rfl) ?_)
      intro w18 F37
      change Fr _ _ [blk _ _ [_, _, _, _, _], _, _, blk _ _ [_, _, _, _, _], blk _ _ [_, _, _, _, _], blk _ _ [_, _, _, _, _]] _ at F37
      refine Ops.nil fun a hS => ?_
      refine hK7 _ _ ?_ a hS
      refine Cod.ret fun a hS => ?_
      try simp only [Exit.then, Exit.inBlock]
      exact retc (t := 6) (ty := 31) rfl hS ag31 rfl (F37.range (m := 5) (cs' := [_, _, _, _, _]) 3 rfl rfl) rfl ⟨ku, (.slice (some ⟨bb, 0, none⟩) xs0.length cap), xs0.set q vx, rfl, F37.chg, by (unfold putT; rw [hK]); exact F37.get 1 rfl, by rw [List.length_set]; exact F37.get 2 rfl, by (unfold putT; rw [hL]); exact hal2, fun k hk => (F37.dom _ (List.mem_of_getElem? (i := 1) rfl) k hk).resolve_left id, fun k hk => (F37.dom _ (List.mem_of_getElem? (i := 2) rfl) k hk).resolve_left id, fun k hk => F37.apart 1 2 rfl rfl (by decide) k hk⟩
    · skip
      have hb : ¬ putB t.keys key = true := by unfold putB; rw [← hq]; simp [hc24]
      have hK : putK t.keys key = t.keys.take q ++ key :: t.keys.drop q := by unfold putK; rw [if_neg hb, ← hq]
      have hL : putL t.keys t.list key x = t.list.take q ++ x :: t.list.drop q := by unfold putL; rw [if_neg hb, ← hq]
      have hal2 := hal0.ins q (x := vx) hx
      refine Cod.skip fun a hS => ?_
      refine hK4 _ _ ?_ a hS
      refine Cod.seq fun K8 hK8 => ?_
      refine Cod.region ?_
      refine Ops.step (One.val rfl rfl rfl (yld_field fi31_3 rfl (ev_t rfl)) ?_)
      refine Ops.step (One.val rfl rfl rfl (yld_load1 on22 rfl (ev_t rfl) (fun _ => F35.cell 0 rfl rfl)) ?_)
      refine Ops.step (One.val rfl rfl rfl (yld_move rfl (ev_t rfl)) ?_)
      refine Ops.step (One.val rfl rfl rfl (yld_move rfl (ev_t rfl)) ?_)
      refine Ops.step (One.buildSlice (cells := (sCells key)) F35 sl22 zero9 rfl rfl rfl rfl (evp1 (ev_t rfl)) rfl rfl (by kernel_rfl) ?_)
      intro b7 w19 hb7 F38
      refine Ops.step (One.call rfl rfl rfl (ent_f rfl (evl3 (ev_t rfl) (ev_t rfl) (ev_t rfl)) (enters en134)) (insT_ct q key t.keys _ _ _ hqn (F38.get 2 rfl) (F38.get 0 rfl) (fun e => F38.apart 2 0 rfl rfl (by decide) _ e rfl) (by omega) (fun _ _ => rfl) rfl) (fun e w20 hw20 => ?_))
      obtain ⟨ku2, rfl, C20, hok2, hkf2⟩ := hw20
      have F39 := F38.upd 2 rfl C20 (fun _ hk => .inl hk) (own _ 1 ku2 _ _) hok2 (fun k hk => hkf2 k hk)
      change Fr _ _ [_, _, _, _, _, _, _] _ at F39
      refine ⟨_, rfl, ?_⟩
      refine Ops.step (One.val rfl rfl rfl (yld_field fi31_3 rfl (ev_t rfl)) ?_)
      refine Ops.step (One.store1 F39 1 rfl sz22 rfl rfl rfl (ev_t rfl) rfl (ev_t rfl) (own_one (F39.get 2 rfl)) ?_)
      intro w21 F40
      change Fr _ _ [_, blk _ _ [_, _, _, _, _], _, _, blk _ _ [_, _, _, _, _], blk _ _ [_, _, _, _, _], blk _ _ [_, _, _, _, _]] _ at F40
      refine Ops.nil fun a hS => ?_
      refine hK8 _ _ ?_ a hS
      refine Cod.seq fun K9 hK9 => ?_
      refine Cod.region ?_
      refine Ops.step (One.val rfl rfl rfl (yld_field fi31_4 rfl (ev_t rfl)) ?_)
      refine Ops.step (One.val rfl rfl rfl (yld_load1 on29 rfl (ev_t rfl) (fun _ => F40.cell 1 rfl rfl)) ?_)
      refine Ops.step (One.val rfl rfl rfl (yld_move rfl (ev_t rfl)) ?_)
      refine Ops.step (One.val rfl rfl rfl (yld_loadN ag31 rfl (ev_t rfl) (fun _ => F40.range (m := 5) (cs' := [_, _, _, _, _]) 5 rfl rfl) rfl) ?_)
      refine Ops.step (One.buildSlice (cells := (enc5 vx)) F40 sl29 zero31 rfl rfl rfl rfl (evp1 (ev_t rfl)) rfl rfl (by kernel_rfl) ?_)
      intro b8 w22 hb8 F41
      refine Ops.step (One.call rfl rfl rfl (ent_f rfl (evl3 (ev_t rfl) (ev_t rfl) (ev_t rfl)) (enters en135)) (insV_ct q vx  xs0 _ _ _ (by omega) (F41.get 4 rfl) (F41.get 0 rfl) (fun e => F41.apart 4 0 rfl rfl (by decide) _ e rfl) (by omega) hal0.cells hone) (fun e w23 hw23 => ?_))
      obtain ⟨lu2, rfl, C23, hol2, hlf2⟩ := hw23
      have F42 := F41.upd 4 rfl C23 (fun _ hk => .inl hk) (own _ 5 lu2 _ _) hol2 (fun k hk => hlf2 k hk)
      change Fr _ _ [_, _, _, _, _, _, _, _] _ at F42
      refine ⟨_, rfl, ?_⟩
      refine Ops.step (One.val rfl rfl rfl (yld_field fi31_4 rfl (ev_t rfl)) ?_)
      refine Ops.step (One.store1 F42 2 rfl sz29 rfl rfl rfl (ev_t rfl) rfl (ev_t rfl) (own_one (F42.get 4 rfl)) ?_)
      intro w24 F43
      change Fr _ _ [_, _, blk _ _ [_, _, _, _, _], _, _, blk _ _ [_, _, _, _, _], blk _ _ [_, _, _, _, _], blk _ _ [_, _, _, _, _]] _ at F43
      refine Ops.nil fun a hS => ?_
      refine hK9 _ _ ?_ a hS
      refine Cod.seq fun K10 hK10 => ?_
      refine Cod.region ?_
      refine Ops.step (One.val rfl rfl rfl (yld_loadN ag31 rfl (ev_t rfl) (fun _ => F43.range (m := 5) (cs' := [_, _, _, _, _]) 2 rfl rfl) rfl) ?_)
      refine Ops.step (One.storeN (vs := [_, _, _, _, _]) F43 5 rfl sz31 rfl rfl rfl (ev_t rfl) (ev_t rfl) rfl rfl (one5 (own_one (F43.get 3 rfl)) (own_one (F43.get 4 rfl))) ?_)
      intro w25 F44
      change Fr _ _ [_, _, blk _ _ [_, _, _, _, _], _, _, blk _ _ [_, _, _, _, _], blk _ _ [_, _, _, _, _], blk _ _ [_, _, _, _, _]] _ at F44
      refine Ops.nil fun a hS => ?_
      refine hK10 _ _ ?_ a hS
      refine Cod.ret fun a hS => ?_
      try simp only [Exit.then, Exit.inBlock]
      exact retc (t := 6) (ty := 31) rfl hS ag31 rfl (F44.range (m := 5) (cs' := [_, _, _, _, _]) 5 rfl rfl) rfl ⟨ku2, lu2, xs0.take q ++ vx :: xs0.drop q, rfl, F44.chg, by (unfold putT; rw [hK]); exact F44.get 3 rfl, F44.get 4 rfl, by (unfold putT; rw [hL]); exact hal2, fun k hk => (F44.dom _ (List.mem_of_getElem? (i := 3) rfl) k hk).resolve_left id, fun k hk => (F44.dom _ (List.mem_of_getElem? (i := 4) rfl) k hk).resolve_left id, fun k hk => F44.apart 3 4 rfl rfl (by decide) k hk⟩


theorem ltS_nlt {a b : ByteArray} (h : ltS a b = false) (hne : a ≠ b) : ltS b a = true := by
  have := ltS_not b a
  rw [h] at this
  cases h2 : ltS b a
  · rw [h2] at this
    simp at this
    exact absurd this.symm hne
  · rfl
/-- How far the new rows are when i keys have been looked at. -/
def eZ (q : Nat) (f : Bool) (i : Nat) : Nat := if i ≤ q then i else if f = true then i else i + 1
theorem eZ_gt {q : Nat} {f : Bool} {i : Nat} (h : q < i) : eZ q f i = if f = true then i else i + 1 := by unfold eZ; rw [if_neg (by omega)]
theorem take_putK {ks : List ByteArray} {key : ByteArray} {i : Nat} (hi : i ≤ posK ks key) : (putK ks key).take i = ks.take i := by
  unfold putK
  split
  · rfl
  · rw [List.take_append_of_le_length (by rw [List.length_take]; have := posK_le ks key; omega), List.take_take, Nat.min_eq_left hi]
theorem take_putL {ks : List ByteArray} {l : List Tr} {key : ByteArray} {x : Tr} {i : Nat} (hl : ks.length = l.length) (hi : i ≤ posK ks key) : (putL ks l key x).take i = l.take i := by
  unfold putL
  have := posK_le ks key
  split
  · apply List.ext_getElem?
    intro j
    rw [List.getElem?_take, List.getElem?_take]
    split
    · rw [List.getElem?_set, if_neg (by omega)]
    · rfl
  · rw [List.take_append_of_le_length (by rw [List.length_take]; omega), List.take_take, Nat.min_eq_left hi]
/-- One key more, behind the place. -/
theorem putK_next {ks : List ByteArray} {key : ByteArray} {i : Nat} (hi : i < ks.length) (hq : posK ks key < i) : (putK ks key).take (eZ (posK ks key) (putB ks key) (i + 1)) = (putK ks key).take (eZ (posK ks key) (putB ks key) i) ++ [ks[i]] := by
  have hp := posK_le ks key
  rw [eZ_gt (show posK ks key < i + 1 by omega), eZ_gt hq]
  cases hb : putB ks key
  · have hK : putK ks key = ks.take (posK ks key) ++ key :: ks.drop (posK ks key) := by unfold putK; rw [if_neg (by simp [hb])]
    have hg : (putK ks key)[i + 1]? = some ks[i] := by
      rw [hK, List.getElem?_append_right (by rw [List.length_take]; omega), List.length_take, Nat.min_eq_left (by omega), show i + 1 - posK ks key = (i - posK ks key) + 1 by omega, List.getElem?_cons_succ, List.getElem?_drop, show posK ks key + (i - posK ks key) = i by omega, List.getElem?_eq_getElem hi]
    obtain ⟨h1, h2⟩ := List.getElem?_eq_some_iff.1 hg
    simp only [Bool.false_eq_true, if_false]
    rw [List.take_succ_eq_append_getElem h1, h2]
  · have hK : putK ks key = ks := by unfold putK; rw [if_pos hb]
    simp only [if_true]
    rw [hK, List.take_succ_eq_append_getElem hi]
theorem putL_next {ks : List ByteArray} {l : List Tr} {key : ByteArray} {x : Tr} {i : Nat} (hl : ks.length = l.length) (hi : i < l.length) (hq : posK ks key < i) : (putL ks l key x).take (eZ (posK ks key) (putB ks key) (i + 1)) = (putL ks l key x).take (eZ (posK ks key) (putB ks key) i) ++ [l[i]] := by
  have hp := posK_le ks key
  rw [eZ_gt (show posK ks key < i + 1 by omega), eZ_gt hq]
  cases hb : putB ks key
  · have hK : putL ks l key x = l.take (posK ks key) ++ x :: l.drop (posK ks key) := by unfold putL; rw [if_neg (by simp [hb])]
    have hg : (putL ks l key x)[i + 1]? = some l[i] := by
      rw [hK, List.getElem?_append_right (by rw [List.length_take]; omega), List.length_take, Nat.min_eq_left (by omega), show i + 1 - posK ks key = (i - posK ks key) + 1 by omega, List.getElem?_cons_succ, List.getElem?_drop, show posK ks key + (i - posK ks key) = i by omega, List.getElem?_eq_getElem hi]
    obtain ⟨h1, h2⟩ := List.getElem?_eq_some_iff.1 hg
    simp only [Bool.false_eq_true, if_false]
    rw [List.take_succ_eq_append_getElem h1, h2]
  · have hK : putL ks l key x = l.set (posK ks key) x := by unfold putL; rw [if_pos hb]
    have hg : (putL ks l key x)[i]? = some l[i] := by rw [hK, List.getElem?_set, if_neg (by omega), List.getElem?_eq_getElem hi]
    obtain ⟨h1, h2⟩ := List.getElem?_eq_some_iff.1 hg
    simp only [if_true]
    rw [List.take_succ_eq_append_getElem h1, h2]
/-- At the place: the new key, and the old one if it is another. -/
theorem putK_here {ks : List ByteArray} {key : ByteArray} (hi : posK ks key < ks.length) : (putK ks key).take (eZ (posK ks key) (putB ks key) (posK ks key + 1)) = if putB ks key = true then ks.take (posK ks key) ++ [key] else ks.take (posK ks key) ++ [key] ++ [ks[posK ks key]] := by
  unfold eZ
  rw [if_neg (by omega)]
  cases hb : putB ks key
  · have hK : putK ks key = ks.take (posK ks key) ++ key :: ks.drop (posK ks key) := by unfold putK; rw [if_neg (by simp [hb])]
    simp only [Bool.false_eq_true, if_false]
    rw [hK, List.take_append, List.take_of_length_le (by rw [List.length_take]; omega), List.length_take, Nat.min_eq_left (by omega), show posK ks key + 1 + 1 - posK ks key = 2 by omega, List.drop_eq_getElem_cons hi]
    simp only [List.take_succ_cons, List.take_zero, List.append_assoc, List.cons_append, List.nil_append]
  · have hK : putK ks key = ks := by unfold putK; rw [if_pos hb]
    have hn := (putB_iff.1 hb).2
    rw [nth_eq hi] at hn
    simp only [if_true]
    rw [hK, List.take_succ_eq_append_getElem hi, hn]
theorem putL_here {ks : List ByteArray} {l : List Tr} {key : ByteArray} {x : Tr} (hl : ks.length = l.length) (hi : posK ks key < l.length) : (putL ks l key x).take (eZ (posK ks key) (putB ks key) (posK ks key + 1)) = if putB ks key = true then l.take (posK ks key) ++ [x] else l.take (posK ks key) ++ [x] ++ [l[posK ks key]] := by
  unfold eZ
  rw [if_neg (by omega)]
  cases hb : putB ks key
  · have hK : putL ks l key x = l.take (posK ks key) ++ x :: l.drop (posK ks key) := by unfold putL; rw [if_neg (by simp [hb])]
    simp only [Bool.false_eq_true, if_false]
    rw [hK, List.take_append, List.take_of_length_le (by rw [List.length_take]; omega), List.length_take, Nat.min_eq_left (by omega), show posK ks key + 1 + 1 - posK ks key = 2 by omega, List.drop_eq_getElem_cons hi]
    simp only [List.take_succ_cons, List.take_zero, List.append_assoc, List.cons_append, List.nil_append]
  · have hK : putL ks l key x = l.set (posK ks key) x := by unfold putL; rw [if_pos hb]
    simp only [if_true]
    rw [hK]
    apply List.ext_getElem?
    intro j
    rw [List.getElem?_take, List.getElem?_set]
    by_cases h1 : j < posK ks key + 1
    · rw [if_pos h1]
      by_cases h2 : posK ks key = j
      · rw [if_pos h2, if_pos (by omega), List.getElem?_append_right (by rw [List.length_take]; omega), List.length_take]
        rw [show j - min (posK ks key) l.length = 0 by omega]; rfl
      · rw [if_neg h2, List.getElem?_append_left (by rw [List.length_take]; omega), List.getElem?_take_of_lt (by omega)]
    · rw [if_neg h1, List.getElem?_eq_none (by simp; omega)]
theorem putK_end {ks : List ByteArray} {key : ByteArray} : (putK ks key).take (eZ (posK ks key) (putB ks key) ks.length) ++ (if posK ks key < ks.length then [] else [key]) = putK ks key := by
  have hp := posK_le ks key
  by_cases h : posK ks key < ks.length
  · rw [if_pos h, List.append_nil]
    apply List.take_of_length_le
    rw [eZ_gt h]
    cases hb : putB ks key
    · unfold putK
      rw [if_neg (by simp [hb])]
      simp only [List.length_append, List.length_cons, List.length_take, List.length_drop, Bool.false_eq_true, if_false]
      omega
    · unfold putK
      rw [if_pos hb]
      simp
  · have he : posK ks key = ks.length := by omega
    have hb : putB ks key = false := by
      cases hb : putB ks key
      · rfl
      · have := (putB_iff.1 hb).1; omega
    rw [if_neg h, show eZ (posK ks key) (putB ks key) ks.length = ks.length by unfold eZ; rw [if_pos (by omega)], take_putK (by omega)]
    unfold putK
    rw [if_neg (by simp [hb]), he, List.take_length, List.drop_length]
theorem putL_end {ks : List ByteArray} {l : List Tr} {key : ByteArray} {x : Tr} (hl : ks.length = l.length) : (putL ks l key x).take (eZ (posK ks key) (putB ks key) ks.length) ++ (if posK ks key < ks.length then [] else [x]) = putL ks l key x := by
  have hp := posK_le ks key
  by_cases h : posK ks key < ks.length
  · rw [if_pos h, List.append_nil]
    apply List.take_of_length_le
    rw [eZ_gt h]
    cases hb : putB ks key
    · unfold putL
      rw [if_neg (by simp [hb])]
      simp only [List.length_append, List.length_cons, List.length_take, List.length_drop, Bool.false_eq_true, if_false]
      omega
    · unfold putL
      rw [if_pos hb]
      simp; omega
  · have he : posK ks key = ks.length := by omega
    have hb : putB ks key = false := by
      cases hb : putB ks key
      · rfl
      · have := (putB_iff.1 hb).1; omega
    rw [if_neg h, show eZ (posK ks key) (putB ks key) ks.length = ks.length by unfold eZ; rw [if_pos (by omega)], take_putL hl (by omega)]
    unfold putL
    rw [if_neg (by simp [hb]), he, hl, List.take_length, List.drop_length]


theorem key_ne {ks : List ByteArray} {key : ByteArray} {i : Nat} (hs : Sorted ks) (hi : i < ks.length) (hq : i ≠ posK ks key) : ks[i] ≠ key := by
  intro e
  have hp := posK_pos (key := key) hs
  by_cases h : i < posK ks key
  · have := hp.2.1 i h
    rw [nth_eq hi, e, ltS_self] at this
    cases this
  · have h1 := hs.lt i (posK ks key) (by omega) hi
    have h2 := hp.2.2 (posK ks key) (Nat.le_refl _) (by omega)
    rw [nth_eq hi, e] at h1
    rw [h1] at h2; cases h2
def kA (ks : List ByteArray) (key : ByteArray) (i : Nat) : List ByteArray := if i = posK ks key then (putK ks key).take (eZ (posK ks key) (putB ks key) i) ++ [key] else (putK ks key).take (eZ (posK ks key) (putB ks key) i)
def lA (ks : List ByteArray) (l : List Tr) (key : ByteArray) (x : Tr) (i : Nat) : List Tr := if i = posK ks key then (putL ks l key x).take (eZ (posK ks key) (putB ks key) i) ++ [x] else (putL ks l key x).take (eZ (posK ks key) (putB ks key) i)
theorem kA_ne {ks : List ByteArray} {key : ByteArray} {i : Nat} (hs : Sorted ks) (hi : i < ks.length) (hne : ks[i] ≠ key) : kA ks key i ++ [ks[i]] = (putK ks key).take (eZ (posK ks key) (putB ks key) (i + 1)) := by
  unfold kA
  by_cases h : i = posK ks key
  · subst h
    have hb : putB ks key = false := by
      cases hb : putB ks key
      · rfl
      · have := (putB_iff.1 hb).2; rw [nth_eq hi] at this; exact absurd this hne
    have h1 := putK_here (key := key) hi
    rw [hb] at h1 ⊢
    rw [if_pos rfl, h1, if_neg (by simp), show eZ (posK ks key) false (posK ks key) = posK ks key by unfold eZ; simp, take_putK (Nat.le_refl _)]
  · rw [if_neg h]
    by_cases h2 : i < posK ks key
    · rw [show eZ (posK ks key) (putB ks key) i = i by unfold eZ; rw [if_pos (by omega)], show eZ (posK ks key) (putB ks key) (i + 1) = i + 1 by unfold eZ; rw [if_pos (by omega)], take_putK (by omega), take_putK (by omega), List.take_succ_eq_append_getElem hi]
    · exact (putK_next hi (by omega)).symm
theorem kA_eq {ks : List ByteArray} {key : ByteArray} {i : Nat} (hs : Sorted ks) (hi : i < ks.length) (he : ks[i] = key) : kA ks key i = (putK ks key).take (eZ (posK ks key) (putB ks key) (i + 1)) := by
  unfold kA
  by_cases h : i = posK ks key
  · subst h
    have hb : putB ks key = true := putB_iff.2 ⟨hi, by rw [nth_eq hi]; exact he⟩
    have h1 := putK_here (key := key) hi
    rw [hb] at h1 ⊢
    rw [if_pos rfl, h1, if_pos rfl, show eZ (posK ks key) true (posK ks key) = posK ks key by unfold eZ; simp, take_putK (Nat.le_refl _)]
  · exact absurd he (key_ne hs hi h)
theorem lA_ne {ks : List ByteArray} {l : List Tr} {key : ByteArray} {x : Tr} {i : Nat} (hs : Sorted ks) (hl : ks.length = l.length) (hi : i < ks.length) (hil : i < l.length) (hne : ks[i] ≠ key) : lA ks l key x i ++ [l[i]] = (putL ks l key x).take (eZ (posK ks key) (putB ks key) (i + 1)) := by
  unfold lA
  by_cases h : i = posK ks key
  · subst h
    have hb : putB ks key = false := by
      cases hb : putB ks key
      · rfl
      · have := (putB_iff.1 hb).2; rw [nth_eq hi] at this; exact absurd this hne
    have h1 := putL_here (key := key) (x := x) hl hil
    rw [hb] at h1 ⊢
    rw [if_pos rfl, h1, if_neg (by simp), show eZ (posK ks key) false (posK ks key) = posK ks key by unfold eZ; simp, take_putL hl (Nat.le_refl _)]
  · rw [if_neg h]
    by_cases h2 : i < posK ks key
    · rw [show eZ (posK ks key) (putB ks key) i = i by unfold eZ; rw [if_pos (by omega)], show eZ (posK ks key) (putB ks key) (i + 1) = i + 1 by unfold eZ; rw [if_pos (by omega)], take_putL hl (by omega), take_putL hl (by omega), List.take_succ_eq_append_getElem hil]
    · exact (putL_next hl hil (by omega)).symm
theorem lA_eq {ks : List ByteArray} {l : List Tr} {key : ByteArray} {x : Tr} {i : Nat} (hs : Sorted ks) (hl : ks.length = l.length) (hi : i < ks.length) (he : ks[i] = key) : lA ks l key x i = (putL ks l key x).take (eZ (posK ks key) (putB ks key) (i + 1)) := by
  unfold lA
  by_cases h : i = posK ks key
  · subst h
    have hb : putB ks key = true := putB_iff.2 ⟨hi, by rw [nth_eq hi]; exact he⟩
    have h1 := putL_here (key := key) (x := x) hl (by omega)
    rw [hb] at h1 ⊢
    rw [if_pos rfl, h1, if_pos rfl, show eZ (posK ks key) true (posK ks key) = posK ks key by unfold eZ; simp, take_putL hl (Nat.le_refl _)]
  · exact absurd he (key_ne hs hi h)
theorem at_pos {ks : List ByteArray} {key : ByteArray} {i : Nat} (hs : Sorted ks) (hi : i < ks.length) : ((!(decide (posK ks key < i))) && !(ltS ks[i] key)) = decide (i = posK ks key) := by
  have hp := posK_pos (key := key) hs
  rcases Nat.lt_trichotomy i (posK ks key) with h | h | h
  · have := hp.2.1 i h
    rw [nth_eq hi] at this
    simp [this, show ¬ i = posK ks key by omega]
  · subst h
    have := hp.2.2 _ (Nat.le_refl _) hi
    rw [nth_eq hi] at this
    simp [this]
  · simp [h, show ¬ i = posK ks key by omega]

set_option maxRecDepth 100000 in
theorem l2Put_ct (t x : Tr) (key : ByteArray) (xs0 : List V5) (v : Value) (vx : V5) (w0 w : World) (hin : PutIn w0 w t v xs0) (hx : Rep Any w0 x vx.val) (hso : Sorted t.keys) (hkl : t.keys.length = t.list.length) (hn : t.keys.length ≤ 1000000) :
    Calls Try.prog 104 #[v, .string key, vx.val] w (PutOut w0 w (putT t key x)) := by
  obtain ⟨A3, c3, A4, c4, rfl, h3, h4, hal0⟩ := hin
  have hone : (enc5 vx).all (·.oneCell') = true := V5.one (x := vx) hx
  have hxl0 := hal0.1
  obtain ⟨q, hq⟩ : ∃ q, q = posK t.keys key := ⟨_, rfl⟩
  have hpos := posK_pos (key := key) hso
  rw [← hq] at hpos
  have hqn := hpos.1
  refine enter Try.func104 rfl rfl rfl ?_
  have F0 := Fr.start w
  refine Cod.seq fun K1 hK1 => ?_
  refine Cod.region ?_
  refine Ops.step (One.box F0 rfl rfl rfl rfl (ev_t rfl) ?_)
  intro b1 w1 hb1 F1
  change Fr _ _ [blk _ _ [_, _, _, _, _]] _ at F1
  refine Ops.step (One.box F1 rfl rfl rfl rfl (ev_t rfl) ?_)
  intro b2 w2 hb2 F2
  change Fr _ _ [blk _ _ [_, _, _, _, _], blk _ _ [_, _, _, _, _]] _ at F2
  refine Ops.step (One.alloc F2 zero31 rfl rfl rfl rfl ?_)
  intro b3 w3 hb3 F3
  change Fr _ _ [blk _ _ [_, _, _, _, _], blk _ _ [_, _, _, _, _], blk _ _ [_, _, _, _, _]] _ at F3
  refine Ops.nil fun a hS => ?_
  refine hK1 _ _ ?_ a hS
  refine Cod.seq fun K2 hK2 => ?_
  refine Cod.region ?_
  refine Ops.step (One.val rfl rfl rfl (yld_build (cells := [.int .i64 6, .int .i64 0, .string ⟨#[]⟩, .slice none 0 0, .slice none 0 0]) rfl (evp1 ev_c) (by kernel_rfl)) ?_)
  refine Ops.step (One.alloc F3 zero31 rfl rfl rfl rfl ?_)
  intro b4 w4 hb4 F4
  change Fr _ _ [blk _ _ [_, _, _, _, _], blk _ _ [_, _, _, _, _], blk _ _ [_, _, _, _, _], blk _ _ [_, _, _, _, _]] _ at F4
  refine Ops.step (One.storeN (vs := [_, _, _, _, _]) F4 0 rfl sz31 rfl rfl rfl (ev_t rfl) (ev_t rfl) rfl rfl rfl ?_)
  intro w5 F5
  change Fr _ _ [blk _ _ [_, _, _, _, _], blk _ _ [_, _, _, _, _], blk _ _ [_, _, _, _, _], blk _ _ [_, _, _, _, _]] _ at F5
  refine Ops.nil fun a hS => ?_
  refine hK2 _ _ ?_ a hS
  refine Cod.seq fun K3 hK3 => ?_
  refine Cod.region ?_
  refine Ops.step (One.val rfl rfl rfl (yld_assign rfl ev_c) ?_)
  refine Ops.nil fun a hS => ?_
  refine hK3 _ _ ?_ a hS
  refine Cod.seq fun K4 hK4 => ?_
  refine Cod.seq fun K5 hK5 => ?_
  refine Cod.region ?_
  refine Ops.step (One.val rfl rfl rfl (yld_assign rfl ev_c) ?_)
  refine Ops.nil fun a hS => ?_
  refine hK5 _ _ ?_ a hS
  refine Cod.block ?_
  refine Cod.loop (fun i : Nat × Bool × List V5 × Value × Value => [(1, true, .string key), (3, true, .pointer (some ⟨b1, 0, none⟩)), (5, true, .pointer (some ⟨b2, 0, none⟩)), (6, true, .pointer (some ⟨b3, 0, none⟩)), (7, true, .pointer (some ⟨b4, 0, none⟩)), (8, true, .bool i.2.1), (9, true, .int .i64 (i.1 : Int))]) (fun i w' => i.1 ≤ t.keys.length ∧ i.2.1 = decide (posK t.keys key < i.1) ∧ AL w0 ((putL t.keys t.list key x).take (eZ (posK t.keys key) (putB t.keys key) i.1)) i.2.2.1 ∧ Fr No w [own 31 5 i.2.2.2.2 i.2.2.1.length (i.2.2.1.flatMap enc5), own 9 1 i.2.2.2.1 ((putK t.keys key).take (eZ (posK t.keys key) (putB t.keys key) i.1)).length (((putK t.keys key).take (eZ (posK t.keys key) (putB t.keys key) i.1)).flatMap sCells), blk b4 31 [.int .i64 6, .int .i64 0, .string ⟨#[]⟩, i.2.2.2.1, i.2.2.2.2], blk b3 31 [.int .i64 0, .int .i64 0, .string ⟨#[]⟩, .slice none 0 0, .slice none 0 0], blk b2 31 [vx.a, vx.b, vx.c, vx.d, vx.e], blk b1 31 [.int .i64 t.kind, .int .i64 t.num, .string t.str, .slice A3 t.keys.length c3, .slice A4 t.list.length c4]] w') (fun i => t.keys.length - i.1) (0, false, [], .slice none 0 0, .slice none 0 0) ⟨rfl, rfl, rfl, rfl, rfl, rfl, rfl, trivial⟩ ⟨Nat.zero_le _, by simp, by rw [show eZ (posK t.keys key) (putB t.keys key) 0 = 0 by unfold eZ; simp]; exact AL.nil w0, by rw [show eZ (posK t.keys key) (putB t.keys key) 0 = 0 by unfold eZ; simp]; exact (F5.nilRow 9 1).nilRow 31 5⟩ ?_
  intro i w6 hW K6 hK6
  obtain ⟨ix, dn, xs, ku, lu⟩ := i
  obtain ⟨hi, hdn, hal, F6⟩ := hW
  dsimp only at *
  have hdn2 : dn = decide (posK t.keys key < ix) := hdn
  clear hdn
  subst hdn2
  have hxl := hal.1
  have heZ : eZ (posK t.keys key) (putB t.keys key) ix ≤ ix + 1 := by unfold eZ; split <;> (try split) <;> omega
  have hle : ((putL t.keys t.list key x).take (eZ (posK t.keys key) (putB t.keys key) ix)).length ≤ ix + 1 := by rw [List.length_take]; omega
  have hkle : ((putK t.keys key).take (eZ (posK t.keys key) (putB t.keys key) ix)).length ≤ ix + 1 := by rw [List.length_take]; omega
  refine Cod.seq fun K7 hK7 => ?_
  refine Cod.seq fun K8 hK8 => ?_
  refine Cod.region ?_
  refine Ops.step (One.val rfl rfl rfl (yld_move rfl (ev_t rfl)) ?_)
  refine Ops.step (One.val rfl rfl rfl (yld_field fi31_3 rfl (ev_t rfl)) ?_)
  refine Ops.step (One.val rfl rfl rfl (yld_load1 on22 rfl (ev_t rfl) (fun _ => F6.cell 5 rfl rfl)) ?_)
  refine Ops.step (One.val rfl rfl rfl (yld_len sl22 rfl (ev_t rfl)) ?_)
  refine Ops.step (One.val rfl rfl rfl (yld_lss rfl (ev_t rfl) (ev_t rfl)) ?_)
  refine Ops.nil fun a hS => ?_
  refine hK8 _ _ ?_ a hS
  refine Cod.cond rfl (fun hc15 => ?_) (fun hc15 => ?_)
  · skip
    have hin : ix < t.keys.length := by simpa using hc15
    have hil : ix < t.list.length := by omega
    obtain ⟨b, o, rfl, -, hrk⟩ := h3.at ix hin
    have hix : ix < xs0.length := by omega
    obtain ⟨bv, ov, rfl, -, hrv⟩ := h4.at ix hix
    have hev : Rep Any w0 t.list[ix] xs0[ix].val := hal0.2 ix hil hix
    have hoe := V5.one hev
    refine Cod.skip fun a hS => ?_
    refine hK7 _ _ ?_ a hS
    refine Cod.seq fun K9 hK9 => ?_
    refine Cod.block ?_
    refine Cod.cut (fun i : Bool × List V5 × Value × Value => [(1, true, .string key), (3, true, .pointer (some ⟨b1, 0, none⟩)), (5, true, .pointer (some ⟨b2, 0, none⟩)), (6, true, .pointer (some ⟨b3, 0, none⟩)), (7, true, .pointer (some ⟨b4, 0, none⟩)), (8, true, .bool i.1), (9, true, .int .i64 (ix : Int))]) (fun i w' => i.1 = decide (posK t.keys key < ix + 1) ∧ AL w0 (lA t.keys t.list key x ix) i.2.1 ∧ Fr No w [own 31 5 i.2.2.2 i.2.1.length (i.2.1.flatMap enc5), own 9 1 i.2.2.1 (kA t.keys key ix).length ((kA t.keys key ix).flatMap sCells), blk b4 31 [.int .i64 6, .int .i64 0, .string ⟨#[]⟩, i.2.2.1, i.2.2.2], blk b3 31 [.int .i64 0, .int .i64 0, .string ⟨#[]⟩, .slice none 0 0, .slice none 0 0], blk b2 31 [vx.a, vx.b, vx.c, vx.d, vx.e], blk b1 31 [.int .i64 t.kind, .int .i64 t.num, .string t.str, .slice (some ⟨b, o, none⟩) t.keys.length c3, .slice (some ⟨bv, ov, none⟩) t.list.length c4]] w') (fun K10 hK10 => ?_) ?_
    · skip
      refine Cod.seq fun K11 hK11 => ?_
      refine Cod.region ?_
      refine Ops.step (One.val rfl rfl rfl (yld_move rfl (ev_t rfl)) ?_)
      refine Ops.step (One.val rfl rfl rfl (yld_not rfl (ev_t rfl)) ?_)
      refine Ops.step (One.val rfl rfl rfl (yld_move rfl (ev_t rfl)) ?_)
      refine Ops.step (One.val (gd_some rfl rfl) rfl rfl (yld_field fi31_3 rfl (ev_t rfl)) ?_)
      refine Ops.step (One.val (gd_some rfl rfl) rfl rfl (yld_load1 on22 rfl (ev_g rfl) (fun _ => F6.cell 5 rfl rfl)) ?_)
      refine Ops.step (One.val (gd_some rfl rfl) rfl rfl (yld_move rfl (ev_t rfl)) ?_)
      refine Ops.step (One.val (gd_some rfl rfl) rfl rfl (yld_indexN sl22 rfl (ev_g rfl) (ev_g rfl) (fun _ => by omega)) ?_)
      refine Ops.step (One.val (gd_some rfl rfl) rfl rfl (yld_load1 on9 rfl (ev_g rfl) (fun _ => rangeAt_cell (rng hrk F6.chg) (j := 0) rfl)) ?_)
      refine Ops.step (One.val (gd_some rfl rfl) rfl rfl (yld_move rfl (ev_t rfl)) ?_)
      refine Ops.step (One.val (gd_some rfl rfl) rfl rfl (yld_sgeq rfl (ev_g rfl) (ev_g rfl)) ?_)
      refine Ops.step (One.val rfl rfl rfl (yld_and rfl (ev_t rfl) (ev_g rfl)) ?_)
      refine Ops.nil fun a hS => ?_
      refine hK11 _ _ ?_ a hS
      refine Cod.cond rfl (fun hc28 => ?_) (fun hc28 => ?_)
      · skip
        have hiq : ix = posK t.keys key := by
          have h := hc28
          have h2 := at_pos (key := key) hso hin
          unfold ltS at h2
          rw [h2] at h
          simpa using h
        have hdt : true = decide (posK t.keys key < ix + 1) := by simp [hiq]
        refine Cod.seq fun K12 hK12 => ?_
        refine Cod.region ?_
        refine Ops.step (One.val rfl rfl rfl (yld_field fi31_3 rfl (ev_t rfl)) ?_)
        refine Ops.step (One.val rfl rfl rfl (yld_load1 on22 rfl (ev_t rfl) (fun _ => F6.cell 2 rfl rfl)) ?_)
        refine Ops.step (One.val rfl rfl rfl (yld_move rfl (ev_t rfl)) ?_)
        refine Ops.step (One.buildSlice (cells := (sCells key)) F6 sl22 zero9 rfl rfl rfl rfl (evp1 (ev_t rfl)) rfl rfl (by kernel_rfl) ?_)
        intro b5 w7 hb5 F7
        refine Ops.step (One.append (enc := sCells) [key] F7 2 rfl sl22 zero9 rfl rfl (fun _ => rfl) rfl rfl rfl rfl (ev_t rfl) (ev_t rfl) ((blk_rep (enc := sCells) (sz := 1) (xs := [key]) (fun _ => rfl) (by simpa using F7.get 0 rfl) (by simp) (by simp)).weak fun _ _ => trivial) (fun y hy => rfl) (by simp; omega) (by simp; omega) ?_)
        intro ku2 w8 hku2 F8
        change Fr _ _ [_, _, _, blk _ _ [_, _, _, _, _], blk _ _ [_, _, _, _, _], blk _ _ [_, _, _, _, _], blk _ _ [_, _, _, _, _]] _ at F8
        refine Ops.step (One.val rfl rfl rfl (yld_field fi31_3 rfl (ev_t rfl)) ?_)
        refine Ops.step (One.store1 F8 3 rfl sz22 rfl rfl rfl (ev_t rfl) rfl (ev_t rfl) (own_one (F8.get 2 rfl)) ?_)
        intro w9 F9
        change Fr _ _ [_, _, _, blk _ _ [_, _, _, _, _], blk _ _ [_, _, _, _, _], blk _ _ [_, _, _, _, _], blk _ _ [_, _, _, _, _]] _ at F9
        refine Ops.nil fun a hS => ?_
        refine hK12 _ _ ?_ a hS
        refine Cod.seq fun K13 hK13 => ?_
        refine Cod.region ?_
        refine Ops.step (One.val rfl rfl rfl (yld_field fi31_4 rfl (ev_t rfl)) ?_)
        refine Ops.step (One.val rfl rfl rfl (yld_load1 on29 rfl (ev_t rfl) (fun _ => F9.cell 3 rfl rfl)) ?_)
        refine Ops.step (One.val rfl rfl rfl (yld_loadN ag31 rfl (ev_t rfl) (fun _ => F9.range (m := 5) (cs' := [_, _, _, _, _]) 5 rfl rfl) rfl) ?_)
        refine Ops.step (One.buildSlice (cells := (enc5 vx)) F9 sl29 zero31 rfl rfl rfl rfl (evp1 (ev_t rfl)) rfl rfl (by kernel_rfl) ?_)
        intro b6 w10 hb6 F10
        refine Ops.step (One.append (enc := enc5) [vx] F10 2 rfl sl29 zero31 rfl rfl (fun _ => rfl) rfl rfl rfl rfl (ev_t rfl) (ev_t rfl) ((blk_rep (enc := enc5) (sz := 5) (xs := [vx]) (fun _ => rfl) (by simpa using F10.get 0 rfl) (by simp) (by simp)).weak fun _ _ => trivial) (one_all hone) (by simp; omega) (by simp; omega) ?_)
        intro lu2 w11 hlu2 F11
        change Fr _ _ [_, _, _, _, blk _ _ [_, _, _, _, _], blk _ _ [_, _, _, _, _], blk _ _ [_, _, _, _, _], blk _ _ [_, _, _, _, _]] _ at F11
        refine Ops.step (One.val rfl rfl rfl (yld_field fi31_4 rfl (ev_t rfl)) ?_)
        refine Ops.step (One.store1 F11 4 rfl sz29 rfl rfl rfl (ev_t rfl) rfl (ev_t rfl) (own_one (F11.get 2 rfl)) ?_)
        intro w12 F12
        change Fr _ _ [_, _, _, _, blk _ _ [_, _, _, _, _], blk _ _ [_, _, _, _, _], blk _ _ [_, _, _, _, _], blk _ _ [_, _, _, _, _]] _ at F12
        refine Ops.nil fun a hS => ?_
        refine hK13 _ _ ?_ a hS
        refine Cod.region ?_
        refine Ops.step (One.val rfl rfl rfl (yld_assign rfl ev_c) ?_)
        refine Ops.nil fun a hS => ?_
        have F13 := F12.pull 7 rfl
        have F14 := F13.pull 7 rfl
        have F15 := F14.pull 7 rfl
        have F16 := F15.pull 7 rfl
        have F17 := F16.pull 7 rfl
        have F18 := F17.pull 7 rfl
        have F19 := F18.erase 6
        have F20 := F19.erase 6
        exact hK10 (decide (posK t.keys key < ix + 1), xs ++ [vx], ku2, lu2) _ a (hS.sub ⟨rfl, rfl, rfl, rfl, rfl, by rw [← hdt]; rfl, rfl, trivial⟩) ⟨rfl, by unfold lA; rw [if_pos hiq]; exact hal.append (AL.one (x := vx) hx), by unfold kA; rw [if_pos hiq]; exact F20⟩
      · skip
        have hiq : ¬ ix = posK t.keys key := by
          have h := hc28
          have h2 := at_pos (key := key) hso hin
          unfold ltS at h2
          rw [h2] at h
          simpa using h
        have hdt : decide (posK t.keys key < ix) = decide (posK t.keys key < ix + 1) := decide_eq_decide.2 (by omega)
        refine Cod.skip fun a hS => ?_
        have F21 := F6.pull 5 rfl
        have F22 := F21.pull 5 rfl
        have F23 := F22.pull 5 rfl
        have F24 := F23.pull 5 rfl
        have F25 := F24.pull 5 rfl
        have F26 := F25.pull 5 rfl
        exact hK10 (decide (posK t.keys key < ix + 1), xs, ku, lu) _ a (hS.sub ⟨rfl, rfl, rfl, rfl, rfl, by rw [← hdt]; rfl, rfl, trivial⟩) ⟨rfl, by unfold lA; rw [if_neg hiq]; exact hal, by unfold kA; rw [if_neg hiq]; exact F26⟩
    · skip
      intro i w13 hW
      obtain ⟨dn1, xs1, ku1, lu1⟩ := i
      obtain ⟨hdn1, hal1, F27⟩ := hW
      dsimp only at *
      have hdn2 : dn1 = decide (posK t.keys key < ix + 1) := hdn1
      clear hdn1
      subst hdn2
      have hxl1 := hal1.1
      have hle1 : (lA t.keys t.list key x ix).length ≤ ix + 2 := by
        unfold lA
        split
        · rw [List.length_append]; have : [x].length = 1 := rfl; omega
        · omega
      have hkle1 : (kA t.keys key ix).length ≤ ix + 2 := by
        unfold kA
        split
        · rw [List.length_append]; have : [key].length = 1 := rfl; omega
        · omega
      refine Cod.seq fun K14 hK14 => ?_
      refine Cod.region ?_
      refine Ops.step (One.val rfl rfl rfl (yld_field fi31_3 rfl (ev_t rfl)) ?_)
      refine Ops.step (One.val rfl rfl rfl (yld_load1 on22 rfl (ev_t rfl) (fun _ => F27.cell 5 rfl rfl)) ?_)
      refine Ops.step (One.val rfl rfl rfl (yld_move rfl (ev_t rfl)) ?_)
      refine Ops.step (One.val rfl rfl rfl (yld_indexN sl22 rfl (ev_t rfl) (ev_t rfl) (fun _ => by omega)) ?_)
      refine Ops.step (One.val rfl rfl rfl (yld_load1 on9 rfl (ev_t rfl) (fun _ => rangeAt_cell (rng hrk F27.chg) (j := 0) rfl)) ?_)
      refine Ops.step (One.val rfl rfl rfl (yld_move rfl (ev_t rfl)) ?_)
      refine Ops.step (One.val rfl rfl rfl (yld_sneq rfl (ev_t rfl) (ev_t rfl)) ?_)
      refine Ops.nil fun a hS => ?_
      refine hK14 _ _ ?_ a hS
      refine Cod.cond rfl (fun hc47 => ?_) (fun hc47 => ?_)
      · skip
        have hne : t.keys[ix] ≠ key := by simpa using hc47
        refine Cod.cut (fun i : Value × Unit => [(1, true, .string key), (3, true, .pointer (some ⟨b1, 0, none⟩)), (5, true, .pointer (some ⟨b2, 0, none⟩)), (6, true, .pointer (some ⟨b3, 0, none⟩)), (7, true, .pointer (some ⟨b4, 0, none⟩)), (8, true, .bool (decide (posK t.keys key < ix + 1))), (9, true, .int .i64 (ix : Int))]) (fun i w' => Fr No w [own 31 5 lu1 xs1.length (xs1.flatMap enc5), own 9 1 i.1 (kA t.keys key ix ++ [t.keys[ix]]).length ((kA t.keys key ix ++ [t.keys[ix]]).flatMap sCells), blk b4 31 [.int .i64 6, .int .i64 0, .string ⟨#[]⟩, i.1, lu1], blk b3 31 [.int .i64 0, .int .i64 0, .string ⟨#[]⟩, .slice none 0 0, .slice none 0 0], blk b2 31 [vx.a, vx.b, vx.c, vx.d, vx.e], blk b1 31 [.int .i64 t.kind, .int .i64 t.num, .string t.str, .slice (some ⟨b, o, none⟩) t.keys.length c3, .slice (some ⟨bv, ov, none⟩) t.list.length c4]] w') (fun K15 hK15 => ?_) ?_
        · skip
          have F28 := F27.drew
          refine Cod.draw (C_of ((F28.erase 2).erase 1)) (by kernel_rfl) ?_
          refine Hops.take 0 rfl (by kernel_rfl) (fun _ _ _ h => h) rfl rfl rfl ((F28.erase 2).erase 1) (fun w F => (yld_field fi31_3 rfl (ev_t rfl))) ?_
          refine Hops.take 2 rfl (by kernel_rfl) (fun _ _ _ h => h) rfl rfl rfl ((F28.erase 2).erase 1) (fun w F => (yld_field fi31_3 rfl (ev_t rfl))) ?_
          refine Hops.take 3 rfl (by kernel_rfl) (fun _ _ _ h => h) rfl rfl rfl ((F28.erase 2).erase 1) (fun w F => (yld_load1 on22 rfl (ev_t rfl) (fun _ => F.cell 3 rfl rfl))) ?_
          refine Hops.take 4 rfl (by kernel_rfl) (fun _ _ _ h => h) rfl rfl rfl ((F28.erase 2).erase 1) (fun w F => (yld_move rfl (ev_t rfl))) ?_
          refine Hops.take 5 rfl (by kernel_rfl) (fun _ _ _ h => h) rfl rfl rfl ((F28.erase 2).erase 1) (fun w F => (yld_indexN sl22 rfl (ev_t rfl) (ev_t rfl) (fun _ => by omega))) ?_
          refine Hops.take 6 rfl (by kernel_rfl) (fun _ _ _ h => h) rfl rfl rfl ((F28.erase 2).erase 1) (fun w F => (yld_load1 on9 rfl (ev_t rfl) (fun _ => rangeAt_cell (rng hrk F.chg) (j := 0) rfl))) ?_
          refine Hops.two 1 7 rfl rfl (by kernel_rfl) ?_ ?_
          · skip
            refine (One.val rfl rfl rfl (yld_load1 on22 rfl (ev_t rfl) (fun _ => F28.cell 2 rfl rfl)) ?_)
            refine ⟨((F28.erase 2).erase 1), ?_⟩
            refine Hops.one 7 rfl (by kernel_rfl) (One.buildSlice (cells := (sCells t.keys[ix])) F28 sl22 zero9 rfl rfl rfl rfl (evp1 (ev_t rfl)) rfl rfl (by kernel_rfl) ?_)
            intro b7 w14 hb7 F29
            refine ⟨((F29.erase 3).erase 2).drop1, ?_⟩
            refine Hops.one 8 rfl (by kernel_rfl) (One.append (enc := sCells) [t.keys[ix]] F29 2 rfl sl22 zero9 rfl rfl (fun _ => rfl) rfl rfl rfl rfl (ev_t rfl) (ev_t rfl) ((blk_rep (enc := sCells) (sz := 1) (xs := [t.keys[ix]]) (fun _ => rfl) (by simpa using F29.get 0 rfl) (by simp) (by simp)).weak fun _ _ => trivial) (fun y hy => rfl) (by simp; omega) (by simp; omega) ?_)
            intro ku2 w15 hku2 F30
            refine ⟨((F30.erase 3).erase 2).drop1, ?_⟩
            change Fr _ _ [_, _, _, blk _ _ [_, _, _, _, _], blk _ _ [_, _, _, _, _], blk _ _ [_, _, _, _, _], blk _ _ [_, _, _, _, _]] _ at F30
            refine Hops.take 9 rfl (by kernel_rfl) (fun _ _ _ h => h) rfl rfl rfl ((F30.erase 3).erase 2).drop1 (fun w F => (yld_field fi31_3 rfl (ev_t rfl))) ?_
            refine Hops.one 10 rfl (by kernel_rfl) (One.store1 F30 3 rfl sz22 rfl rfl rfl (ev_t rfl) rfl (ev_t rfl) (own_one (F30.get 2 rfl)) ?_)
            intro w16 F31
            refine ⟨((F31.erase 3).erase 2).drop1, ?_⟩
            change Fr _ _ [_, _, _, blk _ _ [_, _, _, _, _], blk _ _ [_, _, _, _, _], blk _ _ [_, _, _, _, _], blk _ _ [_, _, _, _, _]] _ at F31
            refine Hops.nil (by kernel_rfl) fun a hS => ?_
            have F32 := F31.pull 6 rfl
            have F33 := F32.pull 6 rfl
            have F34 := F33.pull 6 rfl
            have F35 := F34.pull 6 rfl
            have F36 := F35.pull 6 rfl
            have F37 := F36.pull 6 rfl
            have F38 := F37.erase 6
            exact hK15 (ku2, ()) _ a (hS.sub ⟨rfl, rfl, rfl, rfl, rfl, rfl, rfl, trivial⟩) F38
          · skip
            refine (One.buildSlice (cells := (sCells t.keys[ix])) F28 sl22 zero9 rfl rfl rfl rfl (evp1 (ev_t rfl)) rfl rfl (by kernel_rfl) ?_)
            intro b8 w17 hb8 F39
            refine ⟨((F39.erase 3).erase 2).drop1, ?_⟩
            refine Hops.one 1 rfl (by kernel_rfl) (One.val rfl rfl rfl (yld_load1 on22 rfl (ev_t rfl) (fun _ => F39.cell 3 rfl rfl)) ?_)
            refine ⟨((F39.erase 3).erase 2).drop1, ?_⟩
            refine Hops.one 8 rfl (by kernel_rfl) (One.append (enc := sCells) [t.keys[ix]] F39 2 rfl sl22 zero9 rfl rfl (fun _ => rfl) rfl rfl rfl rfl (ev_t rfl) (ev_t rfl) ((blk_rep (enc := sCells) (sz := 1) (xs := [t.keys[ix]]) (fun _ => rfl) (by simpa using F39.get 0 rfl) (by simp) (by simp)).weak fun _ _ => trivial) (fun y hy => rfl) (by simp; omega) (by simp; omega) ?_)
            intro ku2 w18 hku2 F40
            refine ⟨((F40.erase 3).erase 2).drop1, ?_⟩
            change Fr _ _ [_, _, _, blk _ _ [_, _, _, _, _], blk _ _ [_, _, _, _, _], blk _ _ [_, _, _, _, _], blk _ _ [_, _, _, _, _]] _ at F40
            refine Hops.take 9 rfl (by kernel_rfl) (fun _ _ _ h => h) rfl rfl rfl ((F40.erase 3).erase 2).drop1 (fun w F => (yld_field fi31_3 rfl (ev_t rfl))) ?_
            refine Hops.one 10 rfl (by kernel_rfl) (One.store1 F40 3 rfl sz22 rfl rfl rfl (ev_t rfl) rfl (ev_t rfl) (own_one (F40.get 2 rfl)) ?_)
            intro w19 F41
            refine ⟨((F41.erase 3).erase 2).drop1, ?_⟩
            change Fr _ _ [_, _, _, blk _ _ [_, _, _, _, _], blk _ _ [_, _, _, _, _], blk _ _ [_, _, _, _, _], blk _ _ [_, _, _, _, _]] _ at F41
            refine Hops.nil (by kernel_rfl) fun a hS => ?_
            have F42 := F41.pull 6 rfl
            have F43 := F42.pull 6 rfl
            have F44 := F43.pull 6 rfl
            have F45 := F44.pull 6 rfl
            have F46 := F45.pull 6 rfl
            have F47 := F46.pull 6 rfl
            have F48 := F47.erase 6
            exact hK15 (ku2, ()) _ a (hS.sub ⟨rfl, rfl, rfl, rfl, rfl, rfl, rfl, trivial⟩) F48
        · skip
          intro i w20 hW
          obtain ⟨ku2, u0⟩ := i
          have F49 := hW
          dsimp only at *
          have F50 := F49.drew
          refine Cod.draw (C_of (F50.erase 2).drop1) (by kernel_rfl) ?_
          refine Hops.take 0 rfl (by kernel_rfl) (fun _ _ _ h => h) rfl rfl rfl (F50.erase 2).drop1 (fun w F => (yld_field fi31_4 rfl (ev_t rfl))) ?_
          refine Hops.take 2 rfl (by kernel_rfl) (fun _ _ _ h => h) rfl rfl rfl (F50.erase 2).drop1 (fun w F => (yld_field fi31_4 rfl (ev_t rfl))) ?_
          refine Hops.take 3 rfl (by kernel_rfl) (fun _ _ _ h => h) rfl rfl rfl (F50.erase 2).drop1 (fun w F => (yld_load1 on29 rfl (ev_t rfl) (fun _ => F.cell 3 rfl rfl))) ?_
          refine Hops.take 4 rfl (by kernel_rfl) (fun _ _ _ h => h) rfl rfl rfl (F50.erase 2).drop1 (fun w F => (yld_move rfl (ev_t rfl))) ?_
          refine Hops.take 5 rfl (by kernel_rfl) (fun _ _ _ h => h) rfl rfl rfl (F50.erase 2).drop1 (fun w F => (yld_indexN sl29 rfl (ev_t rfl) (ev_t rfl) (fun _ => by omega))) ?_
          refine Hops.take 6 rfl (by kernel_rfl) (fun _ _ _ h => h) rfl rfl rfl (F50.erase 2).drop1 (fun w F => (yld_loadN ag31 rfl (ev_t rfl) (fun _ => rng hrv F.chg) rfl)) ?_
          refine Hops.two 1 7 rfl rfl (by kernel_rfl) ?_ ?_
          · skip
            refine (One.val rfl rfl rfl (yld_load1 on29 rfl (ev_t rfl) (fun _ => F50.cell 2 rfl rfl)) ?_)
            refine ⟨(F50.erase 2).drop1, ?_⟩
            refine Hops.one 7 rfl (by kernel_rfl) (One.buildSlice (cells := (enc5 xs0[ix])) F50 sl29 zero31 rfl rfl rfl rfl (evp1 (ev_t rfl)) rfl rfl (by kernel_rfl) ?_)
            intro b9 w21 hb9 F51
            refine ⟨((F51.erase 3).erase 1).drop1, ?_⟩
            refine Hops.one 8 rfl (by kernel_rfl) (One.append (enc := enc5) [xs0[ix]] F51 1 rfl sl29 zero31 rfl rfl (fun _ => rfl) rfl rfl rfl rfl (ev_t rfl) (ev_t rfl) ((blk_rep (enc := enc5) (sz := 5) (xs := [xs0[ix]]) (fun _ => rfl) (by simpa using F51.get 0 rfl) (by simp) (by simp)).weak fun _ _ => trivial) (one_all hoe) (by simp; omega) (by simp; omega) ?_)
            intro lu2 w22 hlu2 F52
            refine ⟨((F52.erase 3).erase 1).drop1, ?_⟩
            change Fr _ _ [_, _, _, blk _ _ [_, _, _, _, _], blk _ _ [_, _, _, _, _], blk _ _ [_, _, _, _, _], blk _ _ [_, _, _, _, _]] _ at F52
            refine Hops.take 9 rfl (by kernel_rfl) (fun _ _ _ h => h) rfl rfl rfl ((F52.erase 3).erase 1).drop1 (fun w F => (yld_field fi31_4 rfl (ev_t rfl))) ?_
            refine Hops.one 10 rfl (by kernel_rfl) (One.store1 F52 3 rfl sz29 rfl rfl rfl (ev_t rfl) rfl (ev_t rfl) (own_one (F52.get 1 rfl)) ?_)
            intro w23 F53
            refine ⟨((F53.erase 3).erase 1).drop1, ?_⟩
            change Fr _ _ [_, _, _, blk _ _ [_, _, _, _, _], blk _ _ [_, _, _, _, _], blk _ _ [_, _, _, _, _], blk _ _ [_, _, _, _, _]] _ at F53
            refine Hops.nil (by kernel_rfl) fun a hS => ?_
            refine hK9 _ _ ?_ a hS
            refine Cod.region ?_
            refine Ops.step (One.val rfl rfl rfl (yld_move rfl (ev_t rfl)) ?_)
            refine Ops.step (One.val rfl rfl rfl (yld_inc rfl (ev_t rfl) (fun _ => by omega)) ?_)
            refine Ops.step (One.val rfl rfl rfl (yld_assign rfl (ev_t rfl)) ?_)
            refine Ops.nil fun a hS => ?_
            have F54 := F53.pull 6 rfl
            have F55 := F54.pull 6 rfl
            have F56 := F55.pull 6 rfl
            have F57 := F56.pull 6 rfl
            have F58 := F57.pull 6 rfl
            have F59 := F58.pull 6 rfl
            have F60 := F59.erase 6
            rw [kA_ne hso hin hne] at F60
            exact hK6 (ix + 1, decide (posK t.keys key < ix + 1), xs1 ++ [xs0[ix]], ku2, lu2) _ a (hS.sub ⟨rfl, rfl, rfl, rfl, rfl, rfl, rfl, trivial⟩) ⟨by show ix + 1 ≤ _; omega, rfl, by rw [← lA_ne hso hkl hin hil hne]; exact hal1.append (AL.one (x := xs0[ix]) hev), F60⟩ (by show t.keys.length - (ix + 1) < t.keys.length - ix; omega)
          · skip
            refine (One.buildSlice (cells := (enc5 xs0[ix])) F50 sl29 zero31 rfl rfl rfl rfl (evp1 (ev_t rfl)) rfl rfl (by kernel_rfl) ?_)
            intro b10 w24 hb10 F61
            refine ⟨((F61.erase 3).erase 1).drop1, ?_⟩
            refine Hops.one 1 rfl (by kernel_rfl) (One.val rfl rfl rfl (yld_load1 on29 rfl (ev_t rfl) (fun _ => F61.cell 3 rfl rfl)) ?_)
            refine ⟨((F61.erase 3).erase 1).drop1, ?_⟩
            refine Hops.one 8 rfl (by kernel_rfl) (One.append (enc := enc5) [xs0[ix]] F61 1 rfl sl29 zero31 rfl rfl (fun _ => rfl) rfl rfl rfl rfl (ev_t rfl) (ev_t rfl) ((blk_rep (enc := enc5) (sz := 5) (xs := [xs0[ix]]) (fun _ => rfl) (by simpa using F61.get 0 rfl) (by simp) (by simp)).weak fun _ _ => trivial) (one_all hoe) (by simp; omega) (by simp; omega) ?_)
            intro lu2 w25 hlu2 F62
            refine ⟨((F62.erase 3).erase 1).drop1, ?_⟩
            change Fr _ _ [_, _, _, blk _ _ [_, _, _, _, _], blk _ _ [_, _, _, _, _], blk _ _ [_, _, _, _, _], blk _ _ [_, _, _, _, _]] _ at F62
            refine Hops.take 9 rfl (by kernel_rfl) (fun _ _ _ h => h) rfl rfl rfl ((F62.erase 3).erase 1).drop1 (fun w F => (yld_field fi31_4 rfl (ev_t rfl))) ?_
            refine Hops.one 10 rfl (by kernel_rfl) (One.store1 F62 3 rfl sz29 rfl rfl rfl (ev_t rfl) rfl (ev_t rfl) (own_one (F62.get 1 rfl)) ?_)
            intro w26 F63
            refine ⟨((F63.erase 3).erase 1).drop1, ?_⟩
            change Fr _ _ [_, _, _, blk _ _ [_, _, _, _, _], blk _ _ [_, _, _, _, _], blk _ _ [_, _, _, _, _], blk _ _ [_, _, _, _, _]] _ at F63
            refine Hops.nil (by kernel_rfl) fun a hS => ?_
            refine hK9 _ _ ?_ a hS
            refine Cod.region ?_
            refine Ops.step (One.val rfl rfl rfl (yld_move rfl (ev_t rfl)) ?_)
            refine Ops.step (One.val rfl rfl rfl (yld_inc rfl (ev_t rfl) (fun _ => by omega)) ?_)
            refine Ops.step (One.val rfl rfl rfl (yld_assign rfl (ev_t rfl)) ?_)
            refine Ops.nil fun a hS => ?_
            have F64 := F63.pull 6 rfl
            have F65 := F64.pull 6 rfl
            have F66 := F65.pull 6 rfl
            have F67 := F66.pull 6 rfl
            have F68 := F67.pull 6 rfl
            have F69 := F68.pull 6 rfl
            have F70 := F69.erase 6
            rw [kA_ne hso hin hne] at F70
            exact hK6 (ix + 1, decide (posK t.keys key < ix + 1), xs1 ++ [xs0[ix]], ku2, lu2) _ a (hS.sub ⟨rfl, rfl, rfl, rfl, rfl, rfl, rfl, trivial⟩) ⟨by show ix + 1 ≤ _; omega, rfl, by rw [← lA_ne hso hkl hin hil hne]; exact hal1.append (AL.one (x := xs0[ix]) hev), F70⟩ (by show t.keys.length - (ix + 1) < t.keys.length - ix; omega)
      · skip
        have heq : t.keys[ix] = key := by simpa using hc47
        refine Cod.skip fun a hS => ?_
        refine hK9 _ _ ?_ a hS
        refine Cod.region ?_
        refine Ops.step (One.val rfl rfl rfl (yld_move rfl (ev_t rfl)) ?_)
        refine Ops.step (One.val rfl rfl rfl (yld_inc rfl (ev_t rfl) (fun _ => by omega)) ?_)
        refine Ops.step (One.val rfl rfl rfl (yld_assign rfl (ev_t rfl)) ?_)
        refine Ops.nil fun a hS => ?_
        have F71 := F27.pull 5 rfl
        have F72 := F71.pull 5 rfl
        have F73 := F72.pull 5 rfl
        have F74 := F73.pull 5 rfl
        have F75 := F74.pull 5 rfl
        have F76 := F75.pull 5 rfl
        rw [kA_eq hso hin heq] at F76
        exact hK6 (ix + 1, decide (posK t.keys key < ix + 1), xs1, ku1, lu1) _ a (hS.sub ⟨rfl, rfl, rfl, rfl, rfl, rfl, rfl, trivial⟩) ⟨by show ix + 1 ≤ _; omega, rfl, by rw [← lA_eq hso hkl hin heq]; exact hal1, F76⟩ (by show t.keys.length - (ix + 1) < t.keys.length - ix; omega)
  · skip
    have hin : ix = t.keys.length := by simp at hc15; omega
    subst hin
    refine Cod.exit fun a hS => ?_
    simp only [Exit.then, Exit.inBlock, ↓reduceIte]
    refine hK4 _ _ ?_ a hS
    refine Cod.seq fun K16 hK16 => ?_
    refine Cod.seq fun K17 hK17 => ?_
    refine Cod.region ?_
    refine Ops.step (One.val rfl rfl rfl (yld_move rfl (ev_t rfl)) ?_)
    refine Ops.step (One.val rfl rfl rfl (yld_not rfl (ev_t rfl)) ?_)
    refine Ops.nil fun a hS => ?_
    refine hK17 _ _ ?_ a hS
    refine Cod.cond rfl (fun hc69 => ?_) (fun hc69 => ?_)
    · skip
      have hqn2 : posK t.keys key = t.keys.length := by have h := posK_le t.keys key; simp at hc69; omega
      have hKe := putK_end (ks := t.keys) (key := key)
      have hLe := putL_end (x := x) (key := key) hkl
      rw [if_neg (by omega)] at hKe hLe
      refine Cod.seq fun K18 hK18 => ?_
      refine Cod.region ?_
      refine Ops.step (One.val rfl rfl rfl (yld_field fi31_3 rfl (ev_t rfl)) ?_)
      refine Ops.step (One.val rfl rfl rfl (yld_load1 on22 rfl (ev_t rfl) (fun _ => F6.cell 2 rfl rfl)) ?_)
      refine Ops.step (One.val rfl rfl rfl (yld_move rfl (ev_t rfl)) ?_)
      refine Ops.step (One.buildSlice (cells := (sCells key)) F6 sl22 zero9 rfl rfl rfl rfl (evp1 (ev_t rfl)) rfl rfl (by kernel_rfl) ?_)
      intro b11 w27 hb11 F77
      refine Ops.step (One.append (enc := sCells) [key] F77 2 rfl sl22 zero9 rfl rfl (fun _ => rfl) rfl rfl rfl rfl (ev_t rfl) (ev_t rfl) ((blk_rep (enc := sCells) (sz := 1) (xs := [key]) (fun _ => rfl) (by simpa using F77.get 0 rfl) (by simp) (by simp)).weak fun _ _ => trivial) (fun y hy => rfl) (by simp; omega) (by simp; omega) ?_)
      intro ku2 w28 hku2 F78
      change Fr _ _ [_, _, _, blk _ _ [_, _, _, _, _], blk _ _ [_, _, _, _, _], blk _ _ [_, _, _, _, _], blk _ _ [_, _, _, _, _]] _ at F78
      refine Ops.step (One.val rfl rfl rfl (yld_field fi31_3 rfl (ev_t rfl)) ?_)
      refine Ops.step (One.store1 F78 3 rfl sz22 rfl rfl rfl (ev_t rfl) rfl (ev_t rfl) (own_one (F78.get 2 rfl)) ?_)
      intro w29 F79
      change Fr _ _ [_, _, _, blk _ _ [_, _, _, _, _], blk _ _ [_, _, _, _, _], blk _ _ [_, _, _, _, _], blk _ _ [_, _, _, _, _]] _ at F79
      refine Ops.nil fun a hS => ?_
      refine hK18 _ _ ?_ a hS
      refine Cod.region ?_
      refine Ops.step (One.val rfl rfl rfl (yld_field fi31_4 rfl (ev_t rfl)) ?_)
      refine Ops.step (One.val rfl rfl rfl (yld_load1 on29 rfl (ev_t rfl) (fun _ => F79.cell 3 rfl rfl)) ?_)
      refine Ops.step (One.val rfl rfl rfl (yld_loadN ag31 rfl (ev_t rfl) (fun _ => F79.range (m := 5) (cs' := [_, _, _, _, _]) 5 rfl rfl) rfl) ?_)
      refine Ops.step (One.buildSlice (cells := (enc5 vx)) F79 sl29 zero31 rfl rfl rfl rfl (evp1 (ev_t rfl)) rfl rfl (by kernel_rfl) ?_)
      intro b12 w30 hb12 F80
      refine Ops.step (One.append (enc := enc5) [vx] F80 2 rfl sl29 zero31 rfl rfl (fun _ => rfl) rfl rfl rfl rfl (ev_t rfl) (ev_t rfl) ((blk_rep (enc := enc5) (sz := 5) (xs := [vx]) (fun _ => rfl) (by simpa using F80.get 0 rfl) (by simp) (by simp)).weak fun _ _ => trivial) (one_all hone) (by simp; omega) (by simp; omega) ?_)
      intro lu2 w31 hlu2 F81
      change Fr _ _ [_, _, _, _, blk _ _ [_, _, _, _, _], blk _ _ [_, _, _, _, _], blk _ _ [_, _, _, _, _], blk _ _ [_, _, _, _, _]] _ at F81
      refine Ops.step (One.val rfl rfl rfl (yld_field fi31_4 rfl (ev_t rfl)) ?_)
      refine Ops.step (One.store1 F81 4 rfl sz29 rfl rfl rfl (ev_t rfl) rfl (ev_t rfl) (own_one (F81.get 2 rfl)) ?_)
      intro w32 F82
      change Fr _ _ [_, _, _, _, blk _ _ [_, _, _, _, _], blk _ _ [_, _, _, _, _], blk _ _ [_, _, _, _, _], blk _ _ [_, _, _, _, _]] _ at F82
      refine Ops.nil fun a hS => ?_
      refine hK16 _ _ ?_ a hS
      refine Cod.seq fun K19 hK19 => ?_
      refine Cod.region ?_
      refine Ops.step (One.val rfl rfl rfl (yld_loadN ag31 rfl (ev_t rfl) (fun _ => F82.range (m := 5) (cs' := [_, _, _, _, _]) 4 rfl rfl) rfl) ?_)
      refine Ops.step (One.storeN (vs := [_, _, _, _, _]) F82 5 rfl sz31 rfl rfl rfl (ev_t rfl) (ev_t rfl) rfl rfl (one5 (own_one (F82.get 3 rfl)) (own_one (F82.get 2 rfl))) ?_)
      intro w33 F83
      change Fr _ _ [_, _, _, _, blk _ _ [_, _, _, _, _], blk _ _ [_, _, _, _, _], blk _ _ [_, _, _, _, _], blk _ _ [_, _, _, _, _]] _ at F83
      refine Ops.nil fun a hS => ?_
      refine hK19 _ _ ?_ a hS
      refine Cod.ret fun a hS => ?_
      try simp only [Exit.then, Exit.inBlock]
      have hal2 := hal.append (AL.one (x := vx) hx)
      rw [hLe] at hal2
      exact retc (t := 6) (ty := 31) rfl hS ag31 rfl (F83.range (m := 5) (cs' := [_, _, _, _, _]) 5 rfl rfl) rfl ⟨ku2, lu2, xs ++ [vx], rfl, F83.chg, by (unfold putT; rw [← hKe]); exact F83.get 3 rfl, F83.get 2 rfl, by unfold putT; exact hal2, fun k hk => (F83.dom _ (List.mem_of_getElem? (i := 3) rfl) k hk).resolve_left id, fun k hk => (F83.dom _ (List.mem_of_getElem? (i := 2) rfl) k hk).resolve_left id, fun k hk => F83.apart 3 2 rfl rfl (by decide) k hk⟩
    · skip
      have hqn2 : posK t.keys key < t.keys.length := by simpa using hc69
      have hKe := putK_end (ks := t.keys) (key := key)
      have hLe := putL_end (x := x) (key := key) hkl
      rw [if_pos hqn2, List.append_nil] at hKe hLe
      refine Cod.skip fun a hS => ?_
      refine hK16 _ _ ?_ a hS
      refine Cod.seq fun K20 hK20 => ?_
      refine Cod.region ?_
      refine Ops.step (One.val rfl rfl rfl (yld_loadN ag31 rfl (ev_t rfl) (fun _ => F6.range (m := 5) (cs' := [_, _, _, _, _]) 2 rfl rfl) rfl) ?_)
      refine Ops.step (One.storeN (vs := [_, _, _, _, _]) F6 3 rfl sz31 rfl rfl rfl (ev_t rfl) (ev_t rfl) rfl rfl (one5 (own_one (F6.get 1 rfl)) (own_one (F6.get 0 rfl))) ?_)
      intro w34 F84
      change Fr _ _ [_, _, blk _ _ [_, _, _, _, _], blk _ _ [_, _, _, _, _], blk _ _ [_, _, _, _, _], blk _ _ [_, _, _, _, _]] _ at F84
      refine Ops.nil fun a hS => ?_
      refine hK20 _ _ ?_ a hS
      refine Cod.ret fun a hS => ?_
      try simp only [Exit.then, Exit.inBlock]
      rw [hLe] at hal
      exact retc (t := 6) (ty := 31) rfl hS ag31 rfl (F84.range (m := 5) (cs' := [_, _, _, _, _]) 3 rfl rfl) rfl ⟨ku, lu, xs, rfl, F84.chg, by (unfold putT; rw [← hKe]); exact F84.get 1 rfl, F84.get 0 rfl, by unfold putT; exact hal, fun k hk => (F84.dom _ (List.mem_of_getElem? (i := 1) rfl) k hk).resolve_left id, fun k hk => (F84.dom _ (List.mem_of_getElem? (i := 0) rfl) k hk).resolve_left id, fun k hk => F84.apart 1 0 rfl rfl (by decide) k hk⟩

end Go.Proofs.Ytodbflfelimppaa.Eng
