/- Walks of (Val).clone, l1Copy, l1All, slices.Clone: copies that the call owns, no two parts in one block. -/
import Derived.Test.YtodbflfelimppaaVal0
import Derived.Test.YtodbflfelimppaaApp
namespace Go.Proofs.Ytodbflfelimppaa.Eng
open Go.RowKit
set_option linter.unusedVariables false
set_option linter.unusedSimpArgs false
set_option maxHeartbeats 1000000


/-- What a copy says of one tree. -/
def CopyOk (f : FuncId) (t : Tr) : Prop := ∀ (v : Value) (w : World), Rep Any w t v → t.wt ≤ 1048576 →
    Calls Try.prog f #[v] w fun e w' => ∃ (x : V5) (F : Nat → Prop), e = .returned x.val ∧ Chg No w w' ∧ Sep w' F t x.val ∧ ∀ k, F k → w.heap.size ≤ k
theorem own_one0 {w : World} {e sz n : Nat} {v : Value} {xs : List Value} (h : w.ownsRow 0 e sz v n xs) : v.oneCell' = true := own_one h
theorem one_all {x : V5} (h : (enc5 x).all (·.oneCell') = true) : ∀ y ∈ [x], (enc5 y).all (·.oneCell') = true := fun y hy => by
  obtain rfl := List.mem_singleton.1 hy
  exact h
theorem own_form {w : World} {e sz n : Nat} {v : Value} {xs : List Value} (h : (own e sz v n xs).is w) : ∃ A m c, v = .slice A m c := by
  have h' : w.ownsRow 0 e sz v n xs := h
  rcases h'.2 with ⟨rfl, -⟩ | ⟨g, cap, cur, rfl, -⟩
  · exact ⟨_, _, _, rfl⟩
  · exact ⟨_, _, _, rfl⟩
theorem own_len {w : World} {e sz n m c : Nat} {A : Option Addr} {v : Value} {xs : List Value} (h : (own e sz v n xs).is w) (hv : v = .slice A m c) : m = n := by
  subst hv
  have h' : w.ownsRow 0 e sz (.slice A m c) n xs := h
  rcases h'.2 with ⟨h1, rfl⟩ | ⟨g, cap, cur, h1, -⟩ <;> simp at h1 <;> omega
theorem built_keys {k n : Int} {s : ByteArray} {v : Value} (h : ∃ A m c, v = .slice A m c) : Program.built Try.prog 31 [(0, .int .i64 k), (1, .int .i64 n), (2, .string s), (3, v)] = some [.int .i64 k, .int .i64 n, .string s, v, .slice none 0 0].toArray := by
  obtain ⟨A, m, c, rfl⟩ := h
  kernel_rfl
theorem built_list {k : Int} {v : Value} (h : ∃ A m c, v = .slice A m c) : Program.built Try.prog 31 [(0, .int .i64 k), (4, v)] = some [.int .i64 k, .int .i64 0, .string ⟨#[]⟩, .slice none 0 0, v].toArray := by
  obtain ⟨A, m, c, rfl⟩ := h
  kernel_rfl
theorem Fr.nilRow {X : Nat → Prop} {w0 w : World} {L : List Res} (h : Fr X w0 L w) (e sz : Nat) : Fr X w0 (own e sz (.slice none 0 0) 0 [] :: L) w := h.new (Chg.refl _ _) (own e sz (.slice none 0 0) 0 []) (World.ownsRow_nil w 0 e sz) fun k hk => by simp [own, Value.ownBlock] at hk
/-- A row is there, and no child yet. -/
theorem Fr.kids0 {X : Nat → Prop} {w0 w : World} {L : List Res} {r : Res} {xs : List V5} (h : Fr X w0 (r :: L) w) : Fr X w0 (r :: kids No [] xs :: L) w := by
  obtain ⟨h1, h2, h3⟩ := h.mem
  refine h.tell _ ⟨h1, fun k hk q hq hqk => ?_, Kd.nil w xs, fun k hk => hk.elim, h3⟩ fun q hq k hk => ?_
  · rcases List.mem_cons.1 hq with rfl | hq
    · exact hqk.elim
    · exact h2 k hk q hq hqk
  · rcases List.mem_cons.1 hq with rfl | hq
    · exact ⟨_, List.mem_cons_self .., hk⟩
    · rcases List.mem_cons.1 hq with rfl | hq
      · exact hk.elim
      · exact ⟨q, by simp [hq], hk⟩

set_option maxRecDepth 100000 in
theorem clone_of (k n : Int) (s : ByteArray) (ks : List ByteArray) (l : List Tr) (H : ∀ t ∈ l, CopyOk 119 t) : CopyOk 119 (.mk k n s ks l) := by
  intro v w hr hw
  obtain ⟨v3, v4, rfl, h3, h4⟩ := hr.open
  obtain ⟨A3, c3, rfl, hn3⟩ := h3.open
  obtain ⟨A4, c4, rfl, hn4⟩ := h4.open
  rw [Tr.wt_mk] at hw
  refine enter Try.func119 rfl rfl rfl ?_
  have F0 := Fr.start w
  refine Cod.seq fun K1 hK1 => ?_
  refine Cod.region ?_
  refine Ops.step (One.box F0 rfl rfl rfl rfl (ev_t rfl) ?_)
  intro b1 w1 hb1 F1
  change Fr _ _ [blk _ _ [_, _, _, _, _]] _ at F1
  refine Ops.step (One.alloc F1 zero31 rfl rfl rfl rfl ?_)
  intro b2 w2 hb2 F2
  change Fr _ _ [blk _ _ [_, _, _, _, _], blk _ _ [_, _, _, _, _]] _ at F2
  refine Ops.nil fun a hS => ?_
  refine hK1 _ _ ?_ a hS
  refine Cod.seq fun K2 hK2 => ?_
  refine Cod.region ?_
  refine Ops.step (One.buildNil sCells F2 sl22 rfl rfl rfl rfl ?_)
  intro b3 w3 hb3 F3
  refine Ops.step (One.val rfl rfl rfl (yld_field fi31_3 rfl (ev_t rfl)) ?_)
  refine Ops.step (One.val rfl rfl rfl (yld_load1 on22 rfl (ev_t rfl) (fun _ => F3.cell 2 rfl rfl)) ?_)
  refine Ops.step (One.append (enc := sCells) ks F3 0 rfl sl22 zero9 rfl rfl (fun _ => rfl) rfl rfl rfl rfl (ev_t rfl) (ev_t rfl) (h3.chg F3.chg) (fun _ _ => rfl) (by simp; omega) (by simp; omega) ?_)
  intro u3 w4 hu3 F4
  change Fr _ _ [_, blk _ _ [_, _, _, _, _], blk _ _ [_, _, _, _, _]] _ at F4
  refine Ops.step (One.val rfl rfl rfl (yld_field fi31_3 rfl (ev_t rfl)) ?_)
  refine Ops.step (One.store1 F4 2 rfl sz22 rfl rfl rfl (ev_t rfl) rfl (ev_t rfl) (own_one (F4.get 0 rfl)) ?_)
  intro w5 F5
  change Fr _ _ [_, blk _ _ [_, _, _, _, _], blk _ _ [_, _, _, _, _]] _ at F5
  refine Ops.nil fun a hS => ?_
  refine hK2 _ _ ?_ a hS
  refine Cod.seq fun K3 hK3 => ?_
  refine Cod.region ?_
  refine Ops.step (One.buildNil enc5 F5 sl29 rfl rfl rfl rfl ?_)
  intro b4 w6 hb4 F6
  refine Ops.step (One.val rfl rfl rfl (yld_assign rfl (ev_t rfl)) ?_)
  refine Ops.nil fun a hS => ?_
  refine hK3 _ _ ?_ a hS
  refine Cod.seq fun K4 hK4 => ?_
  refine Cod.seq fun K5 hK5 => ?_
  refine Cod.region ?_
  refine Ops.step (One.val rfl rfl rfl (yld_field fi31_4 rfl (ev_t rfl)) ?_)
  refine Ops.step (One.val rfl rfl rfl (yld_load1 on29 rfl (ev_t rfl) (fun _ => F6.cell 3 rfl rfl)) ?_)
  refine Ops.step (One.val rfl rfl rfl (yld_len sl29 rfl (ev_t rfl)) ?_)
  refine Ops.step (One.val rfl rfl rfl (yld_move rfl ev_c) ?_)
  refine Ops.nil fun a hS => ?_
  refine hK5 _ _ ?_ a hS
  refine Cod.block ?_
  refine Cod.loop (fun i : Nat × List V5 × (Nat → Prop) × Value => [(1, true, .pointer (some ⟨b1, 0, none⟩)), (2, true, .pointer (some ⟨b2, 0, none⟩)), (3, true, i.2.2.2), (13, true, .slice A4 l.length c4), (14, true, .int .i64 (l.length : Int)), (15, true, .int .i64 (i.1 : Int))]) (fun i w' => i.1 ≤ l.length ∧ i.2.1.length = i.1 ∧ (∀ k, i.2.2.1 k → w.heap.size ≤ k) ∧ Fr No w [own 31 5 i.2.2.2 i.2.1.length (i.2.1.flatMap enc5), kids i.2.2.1 (l.take i.1) i.2.1, own 9 1 u3 ks.length (ks.flatMap sCells), blk b2 31 [.int .i64 0, .int .i64 0, .string ⟨#[]⟩, .slice none 0 0, .slice none 0 0], blk b1 31 [.int .i64 k, .int .i64 n, .string s, u3, .slice A4 l.length c4]] w') (fun i => l.length - i.1) (0, [], No, .slice (some ⟨b4, 0, none⟩) 0 0) ⟨rfl, rfl, rfl, rfl, rfl, rfl, trivial⟩ ⟨Nat.zero_le _, rfl, fun k h => h.elim, (F6).kids0⟩ ?_
  intro i w7 hW K6 hK6
  obtain ⟨i, xs, G, u⟩ := i
  obtain ⟨hi, hxl, hG, F7⟩ := hW
  dsimp only at *
  refine Cod.seq fun K7 hK7 => ?_
  refine Cod.region ?_
  refine Ops.step (One.val rfl rfl rfl (yld_lss rfl (ev_t rfl) (ev_t rfl)) ?_)
  refine Ops.nil fun a hS => ?_
  refine hK7 _ _ ?_ a hS
  refine Cod.seq fun K8 hK8 => ?_
  refine Cod.cond rfl (fun hc16 => ?_) (fun hc16 => ?_)
  · skip
    have hi : i < l.length := by simpa using hc16
    obtain ⟨b, o, cs, rfl, -, hlc, hr, ht⟩ := h4.at i hi
    obtain ⟨y1, y2, y3, y4, y5, rfl⟩ := five hlc
    have hwi := sumN_mem Tr.wt (List.getElem_mem hi)
    refine Cod.skip fun a hS => ?_
    refine hK8 _ _ ?_ a hS
    refine Cod.seq fun K9 hK9 => ?_
    refine Cod.block ?_
    refine Cod.seq fun K10 hK10 => ?_
    refine Cod.region ?_
    refine Ops.step (One.val rfl rfl rfl (yld_indexN sl29 rfl (ev_t rfl) (ev_t rfl) (fun _ => by omega)) ?_)
    refine Ops.step (One.val rfl rfl rfl (yld_loadN ag31 rfl (ev_t rfl) (fun _ => rng hr F7.chg) rfl) ?_)
    refine Ops.step (One.alloc F7 zero31 rfl rfl rfl rfl ?_)
    intro b5 w8 hb5 F8
    change Fr _ _ [blk _ _ [_, _, _, _, _], _, _, _, blk _ _ [_, _, _, _, _], blk _ _ [_, _, _, _, _]] _ at F8
    refine Ops.step (One.storeN (vs := [_, _, _, _, _]) F8 0 rfl sz31 rfl rfl rfl (ev_t rfl) (ev_t rfl) rfl rfl ht.one ?_)
    intro w9 F9
    change Fr _ _ [blk _ _ [_, _, _, _, _], _, _, _, blk _ _ [_, _, _, _, _], blk _ _ [_, _, _, _, _]] _ at F9
    refine Ops.nil fun a hS => ?_
    refine hK10 _ _ ?_ a hS
    refine Cod.region ?_
    refine Ops.step (One.val rfl rfl rfl (yld_move rfl (ev_t rfl)) ?_)
    refine Ops.step (One.val rfl rfl rfl (yld_loadN ag31 rfl (ev_t rfl) (fun _ => F9.range (m := 5) (cs' := [_, _, _, _, _]) 0 rfl rfl) rfl) ?_)
    refine Ops.step (One.call rfl rfl rfl (ent_f rfl (evl1 (ev_t rfl)) (enters en119)) (H _ (List.getElem_mem hi) _ _ (ht.chg F9.chg) (by omega)) (fun e w10 hw10 => ?_))
    obtain ⟨x, Fc, rfl, C10, hsep, hFc0⟩ := hw10
    have hFc : ∀ k, Fc k → w.heap.size ≤ k := fun k hk => Nat.le_trans F9.chg.size (hFc0 k hk)
    have F10 := F9.new C10 (sep Fc l[i] x.val) hsep hFc0
    refine ⟨_, rfl, ?_⟩
    refine Ops.step (One.buildSlice (cells := (enc5 x)) F10 sl29 zero31 rfl rfl rfl rfl (evp1 (ev_t rfl)) rfl rfl (by kernel_rfl) ?_)
    intro b6 w11 hb6 F11
    refine Ops.step (One.append (enc := enc5) [x] F11 3 rfl sl29 zero31 rfl rfl (fun _ => rfl) rfl rfl rfl rfl (ev_t rfl) (ev_t rfl) ((blk_rep (enc := enc5) (sz := 5) (xs := [x]) (fun _ => rfl) (F11.get 0 rfl) (by simp) (by simp)).weak fun _ _ => trivial) (one_all hsep.one) (by simp; omega) (by simp; omega) ?_)
    intro u2 w12 hu2 F12
    change Fr _ _ [_, _, blk _ _ [_, _, _, _, _], _, _, _, blk _ _ [_, _, _, _, _], blk _ _ [_, _, _, _, _]] _ at F12
    refine Ops.step (One.val rfl rfl rfl (yld_assign rfl (ev_t rfl)) ?_)
    refine Ops.nil fun a hS => ?_
    refine hK9 _ _ ?_ a hS
    refine Cod.region ?_
    refine Ops.step (One.val rfl rfl rfl (yld_inc rfl (ev_t rfl) (fun _ => by omega)) ?_)
    refine Ops.step (One.val rfl rfl rfl (yld_move rfl (ev_t rfl)) ?_)
    refine Ops.nil fun a hS => ?_
    have hx1 : (l.take i).length = i := by simp; omega
    have hF := Fr.toKid (xs' := xs ++ [x]) (F12.erase 0 |>.erase 1) (by rw [hx1, ← hxl]; simp) (fun j hj => List.getElem?_append_left (by omega))
    rw [show l.take i ++ [l[i]] = l.take (i + 1) from (List.take_succ_eq_append_getElem hi).symm] at hF
    exact hK6 (i + 1, xs ++ [x], fun b => G b ∨ Fc b, u2) _ a (hS.sub ⟨rfl, rfl, rfl, rfl, rfl, rfl, trivial⟩) ⟨by show i + 1 ≤ _; omega, by simp [hxl], fun k hk => hk.elim (hG k) (hFc k), hF⟩ (by show l.length - (i + 1) < l.length - i; omega)
  · skip
    obtain rfl : i = l.length := by simp at hc16; omega
    rw [List.take_length] at F7
    refine Cod.exit fun a hS => ?_
    simp only [Exit.then, Exit.inBlock, ↓reduceIte]
    refine hK4 _ _ ?_ a hS
    refine Cod.seq fun K11 hK11 => ?_
    refine Cod.region ?_
    refine Ops.step (One.val rfl rfl rfl (yld_move rfl (ev_t rfl)) ?_)
    refine Ops.step (One.val rfl rfl rfl (yld_field fi31_4 rfl (ev_t rfl)) ?_)
    refine Ops.step (One.store1 F7 4 rfl sz29 rfl rfl rfl (ev_t rfl) rfl (ev_t rfl) (own_one (F7.get 0 rfl)) ?_)
    intro w13 F13
    change Fr _ _ [_, _, _, blk _ _ [_, _, _, _, _], blk _ _ [_, _, _, _, _]] _ at F13
    refine Ops.nil fun a hS => ?_
    refine hK11 _ _ ?_ a hS
    refine Cod.seq fun K12 hK12 => ?_
    refine Cod.region ?_
    refine Ops.step (One.val rfl rfl rfl (yld_loadN ag31 rfl (ev_t rfl) (fun _ => F13.range (m := 5) (cs' := [_, _, _, _, _]) 4 rfl rfl) rfl) ?_)
    refine Ops.step (One.storeN (vs := [_, _, _, _, _]) F13 3 rfl sz31 rfl rfl rfl (ev_t rfl) (ev_t rfl) rfl rfl (one5 (own_one (F13.get 2 rfl)) (own_one (F13.get 0 rfl))) ?_)
    intro w14 F14
    change Fr _ _ [_, _, _, blk _ _ [_, _, _, _, _], blk _ _ [_, _, _, _, _]] _ at F14
    refine Ops.nil fun a hS => ?_
    refine hK12 _ _ ?_ a hS
    refine Cod.ret fun a hS => ?_
    try simp only [Exit.then, Exit.inBlock]
    have hF := Fr.toSep (k := k) (n := n) (s := s) (Fr.toSepL F14 hxl)
    exact retc (t := 2) (ty := 31) rfl hS ag31 rfl (F14.range (m := 5) (cs' := [_, _, _, _, _]) 3 rfl rfl) rfl ⟨x5 k n s u3 u, _, rfl, hF.chg, hF.get 0 rfl, fun b hb => (hF.dom _ (List.mem_cons_self ..) b hb).resolve_left id⟩


theorem clone_ct (t : Tr) : CopyOk 119 t := Tr.ind (p := CopyOk 119) clone_of t

set_option maxRecDepth 100000 in
theorem l1Copy_of (k n : Int) (s : ByteArray) (ks : List ByteArray) (l : List Tr) (H : ∀ t ∈ l, CopyOk 73 t) : CopyOk 73 (.mk k n s ks l) := by
  intro v w hr hw
  obtain ⟨v3, v4, rfl, h3, h4⟩ := hr.open
  obtain ⟨A3, c3, rfl, hn3⟩ := h3.open
  obtain ⟨A4, c4, rfl, hn4⟩ := h4.open
  rw [Tr.wt_mk] at hw
  refine enter Try.func73 rfl rfl rfl ?_
  have F0 := Fr.start w
  refine Cod.seq fun K1 hK1 => ?_
  refine Cod.region ?_
  refine Ops.step (One.box F0 rfl rfl rfl rfl (ev_t rfl) ?_)
  intro b1 w1 hb1 F1
  change Fr _ _ [blk _ _ [_, _, _, _, _]] _ at F1
  refine Ops.step (One.alloc F1 zero31 rfl rfl rfl rfl ?_)
  intro b2 w2 hb2 F2
  change Fr _ _ [blk _ _ [_, _, _, _, _], blk _ _ [_, _, _, _, _]] _ at F2
  refine Ops.nil fun a hS => ?_
  refine hK1 _ _ ?_ a hS
  refine Cod.cut (fun i : Nat × Value => [(1, true, .pointer (some ⟨b1, 0, none⟩)), (2, true, .pointer (some ⟨b2, 0, none⟩)), (3, true, .pointer (some ⟨i.1, 0, none⟩))]) (fun i w' => Fr No w [own 9 1 i.2 ks.length (ks.flatMap sCells), blk i.1 31 [.int .i64 k, .int .i64 n, .string s, i.2, .slice none 0 0], blk b2 31 [.int .i64 0, .int .i64 0, .string ⟨#[]⟩, .slice none 0 0, .slice none 0 0], blk b1 31 [.int .i64 k, .int .i64 n, .string s, .slice A3 ks.length c3, .slice A4 l.length c4]] w') (fun K2 hK2 => ?_) ?_
  · skip
    have F3 := F2.drew
    refine Cod.draw (C_of F3) (by kernel_rfl) ?_
    refine Hops.take 0 rfl (by kernel_rfl) (fun _ _ _ h => h) rfl rfl rfl F3 (fun w F => (yld_field fi31_0 rfl (ev_t rfl))) ?_
    refine Hops.take 1 rfl (by kernel_rfl) (fun _ _ _ h => h) rfl rfl rfl F3 (fun w F => (yld_load1 on3 rfl (ev_t rfl) (fun _ => F.cell 1 rfl rfl))) ?_
    refine Hops.take 2 rfl (by kernel_rfl) (fun _ _ _ h => h) rfl rfl rfl F3 (fun w F => (yld_field fi31_1 rfl (ev_t rfl))) ?_
    refine Hops.take 3 rfl (by kernel_rfl) (fun _ _ _ h => h) rfl rfl rfl F3 (fun w F => (yld_load1 on3 rfl (ev_t rfl) (fun _ => F.cell 1 rfl rfl))) ?_
    refine Hops.take 4 rfl (by kernel_rfl) (fun _ _ _ h => h) rfl rfl rfl F3 (fun w F => (yld_field fi31_2 rfl (ev_t rfl))) ?_
    refine Hops.take 5 rfl (by kernel_rfl) (fun _ _ _ h => h) rfl rfl rfl F3 (fun w F => (yld_load1 on9 rfl (ev_t rfl) (fun _ => F.cell 1 rfl rfl))) ?_
    refine Hops.take 7 rfl (by kernel_rfl) (fun _ _ _ h => h) rfl rfl rfl F3 (fun w F => (yld_field fi31_3 rfl (ev_t rfl))) ?_
    refine Hops.take 8 rfl (by kernel_rfl) (fun _ _ _ h => h) rfl rfl rfl F3 (fun w F => (yld_load1 on22 rfl (ev_t rfl) (fun _ => F.cell 1 rfl rfl))) ?_
    refine Hops.two 6 11 rfl rfl (by kernel_rfl) ?_ ?_
    · skip
      refine (One.buildNil sCells F3 sl22 rfl rfl rfl rfl ?_)
      intro b3 w3 hb3 F4
      refine ⟨F4.drop1, ?_⟩
      refine Hops.two 9 11 rfl rfl (by kernel_rfl) ?_ ?_
      · skip
        refine (One.append (enc := sCells) ks F4 0 rfl sl22 zero9 rfl rfl (fun _ => rfl) rfl rfl rfl rfl (ev_t rfl) (ev_t rfl) (h3.chg F4.chg) (fun _ _ => rfl) (by simp; omega) (by simp; omega) ?_)
        intro u3 w4 hu3 F5
        refine ⟨F5.drop1, ?_⟩
        change Fr _ _ [_, blk _ _ [_, _, _, _, _], blk _ _ [_, _, _, _, _]] _ at F5
        have hv3 : ∃ A m c, u3 = .slice A m c := by first | exact own_form (F5.get 0 rfl) | exact own_form (F5.get 1 rfl)
        refine Hops.take 10 rfl (by kernel_rfl) (fun _ _ _ h => h) rfl rfl rfl F5.drop1 (fun w F => (yld_build (cells := [.int .i64 k, .int .i64 n, .string s, u3, .slice none 0 0]) rfl (evp4 (ev_t rfl) (ev_t rfl) (ev_t rfl) (ev_t rfl)) (built_keys hv3))) ?_
        refine Hops.one 11 rfl (by kernel_rfl) (One.alloc F5 zero31 rfl rfl rfl rfl ?_)
        intro b4 w5 hb4 F6
        refine ⟨(F6.erase 1).drop1, ?_⟩
        change Fr _ _ [blk _ _ [_, _, _, _, _], _, blk _ _ [_, _, _, _, _], blk _ _ [_, _, _, _, _]] _ at F6
        refine Hops.one 12 rfl (by kernel_rfl) (One.storeN (vs := [_, _, _, _, _]) F6 0 rfl sz31 rfl rfl rfl (ev_t rfl) (ev_t rfl) rfl rfl (by first | exact one5 (own_one (F6.get 0 rfl)) rfl | exact one5 (own_one (F6.get 1 rfl)) rfl) ?_)
        intro w6 F7
        refine ⟨(F7.erase 1).drop1, ?_⟩
        change Fr _ _ [blk _ _ [_, _, _, _, _], _, blk _ _ [_, _, _, _, _], blk _ _ [_, _, _, _, _]] _ at F7
        refine Hops.nil (by kernel_rfl) fun a hS => ?_
        have F8 := F7.pull 3 rfl
        have F9 := F8.pull 3 rfl
        have F10 := F9.pull 2 rfl
        have F11 := F10.pull 3 rfl
        exact hK2 (b4, u3) _ a (hS.sub ⟨rfl, rfl, rfl, trivial⟩) F11
      · skip
        refine (One.alloc F4 zero31 rfl rfl rfl rfl ?_)
        intro b5 w7 hb5 F12
        refine ⟨(F12.erase 1).drop1, ?_⟩
        change Fr _ _ [blk _ _ [_, _, _, _, _], _, blk _ _ [_, _, _, _, _], blk _ _ [_, _, _, _, _]] _ at F12
        refine Hops.one 9 rfl (by kernel_rfl) (One.append (enc := sCells) ks F12 1 rfl sl22 zero9 rfl rfl (fun _ => rfl) rfl rfl rfl rfl (ev_t rfl) (ev_t rfl) (h3.chg F12.chg) (fun _ _ => rfl) (by simp; omega) (by simp; omega) ?_)
        intro u3 w8 hu3 F13
        refine ⟨(F13.erase 1).drop1, ?_⟩
        change Fr _ _ [blk _ _ [_, _, _, _, _], _, blk _ _ [_, _, _, _, _], blk _ _ [_, _, _, _, _]] _ at F13
        have hv3 : ∃ A m c, u3 = .slice A m c := by first | exact own_form (F13.get 0 rfl) | exact own_form (F13.get 1 rfl)
        refine Hops.take 10 rfl (by kernel_rfl) (fun _ _ _ h => h) rfl rfl rfl (F13.erase 1).drop1 (fun w F => (yld_build (cells := [.int .i64 k, .int .i64 n, .string s, u3, .slice none 0 0]) rfl (evp4 (ev_t rfl) (ev_t rfl) (ev_t rfl) (ev_t rfl)) (built_keys hv3))) ?_
        refine Hops.one 12 rfl (by kernel_rfl) (One.storeN (vs := [_, _, _, _, _]) F13 0 rfl sz31 rfl rfl rfl (ev_t rfl) (ev_t rfl) rfl rfl (by first | exact one5 (own_one (F13.get 0 rfl)) rfl | exact one5 (own_one (F13.get 1 rfl)) rfl) ?_)
        intro w9 F14
        refine ⟨(F14.erase 1).drop1, ?_⟩
        change Fr _ _ [blk _ _ [_, _, _, _, _], _, blk _ _ [_, _, _, _, _], blk _ _ [_, _, _, _, _]] _ at F14
        refine Hops.nil (by kernel_rfl) fun a hS => ?_
        have F15 := F14.pull 3 rfl
        have F16 := F15.pull 3 rfl
        have F17 := F16.pull 2 rfl
        have F18 := F17.pull 3 rfl
        exact hK2 (b5, u3) _ a (hS.sub ⟨rfl, rfl, rfl, trivial⟩) F18
    · skip
      refine (One.alloc F3 zero31 rfl rfl rfl rfl ?_)
      intro b6 w10 hb6 F19
      refine ⟨F19.drop1, ?_⟩
      change Fr _ _ [blk _ _ [_, _, _, _, _], blk _ _ [_, _, _, _, _], blk _ _ [_, _, _, _, _]] _ at F19
      refine Hops.one 6 rfl (by kernel_rfl) (One.buildNil sCells F19 sl22 rfl rfl rfl rfl ?_)
      intro b7 w11 hb7 F20
      refine ⟨(F20.erase 1).drop1, ?_⟩
      refine Hops.one 9 rfl (by kernel_rfl) (One.append (enc := sCells) ks F20 0 rfl sl22 zero9 rfl rfl (fun _ => rfl) rfl rfl rfl rfl (ev_t rfl) (ev_t rfl) (h3.chg F20.chg) (fun _ _ => rfl) (by simp; omega) (by simp; omega) ?_)
      intro u3 w12 hu3 F21
      refine ⟨(F21.erase 1).drop1, ?_⟩
      change Fr _ _ [_, blk _ _ [_, _, _, _, _], blk _ _ [_, _, _, _, _], blk _ _ [_, _, _, _, _]] _ at F21
      have hv3 : ∃ A m c, u3 = .slice A m c := by first | exact own_form (F21.get 0 rfl) | exact own_form (F21.get 1 rfl)
      refine Hops.take 10 rfl (by kernel_rfl) (fun _ _ _ h => h) rfl rfl rfl (F21.erase 1).drop1 (fun w F => (yld_build (cells := [.int .i64 k, .int .i64 n, .string s, u3, .slice none 0 0]) rfl (evp4 (ev_t rfl) (ev_t rfl) (ev_t rfl) (ev_t rfl)) (built_keys hv3))) ?_
      refine Hops.one 12 rfl (by kernel_rfl) (One.storeN (vs := [_, _, _, _, _]) F21 1 rfl sz31 rfl rfl rfl (ev_t rfl) (ev_t rfl) rfl rfl (by first | exact one5 (own_one (F21.get 0 rfl)) rfl | exact one5 (own_one (F21.get 1 rfl)) rfl) ?_)
      intro w13 F22
      refine ⟨(F22.erase 1).drop1, ?_⟩
      change Fr _ _ [_, blk _ _ [_, _, _, _, _], blk _ _ [_, _, _, _, _], blk _ _ [_, _, _, _, _]] _ at F22
      refine Hops.nil (by kernel_rfl) fun a hS => ?_
      have F23 := F22.pull 3 rfl
      have F24 := F23.pull 3 rfl
      have F25 := F24.pull 3 rfl
      have F26 := F25.pull 3 rfl
      exact hK2 (b6, u3) _ a (hS.sub ⟨rfl, rfl, rfl, trivial⟩) F26
  · skip
    intro i w14 hW
    obtain ⟨bo, u3⟩ := i
    have F27 := hW
    dsimp only at *
    refine Cod.seq fun K3 hK3 => ?_
    refine Cod.seq fun K4 hK4 => ?_
    refine Cod.region ?_
    refine Ops.step (One.val rfl rfl rfl (yld_assign rfl ev_c) ?_)
    refine Ops.nil fun a hS => ?_
    refine hK4 _ _ ?_ a hS
    refine Cod.block ?_
    refine Cod.loop (fun i : Nat × List V5 × (Nat → Prop) × Value => [(1, true, .pointer (some ⟨b1, 0, none⟩)), (2, true, .pointer (some ⟨b2, 0, none⟩)), (3, true, .pointer (some ⟨bo, 0, none⟩)), (4, true, .int .i64 (i.1 : Int))]) (fun i w' => i.1 ≤ l.length ∧ i.2.1.length = i.1 ∧ (∀ k, i.2.2.1 k → w.heap.size ≤ k) ∧ Fr No w [own 31 5 i.2.2.2 i.2.1.length (i.2.1.flatMap enc5), kids i.2.2.1 (l.take i.1) i.2.1, own 9 1 u3 ks.length (ks.flatMap sCells), blk bo 31 [.int .i64 k, .int .i64 n, .string s, u3, i.2.2.2], blk b2 31 [.int .i64 0, .int .i64 0, .string ⟨#[]⟩, .slice none 0 0, .slice none 0 0], blk b1 31 [.int .i64 k, .int .i64 n, .string s, .slice A3 ks.length c3, .slice A4 l.length c4]] w') (fun i => l.length - i.1) (0, [], No, .slice none 0 0) ⟨rfl, rfl, rfl, rfl, trivial⟩ ⟨Nat.zero_le _, rfl, fun k h => h.elim, (F27.nilRow 31 5).kids0⟩ ?_
    intro i w15 hW K5 hK5
    obtain ⟨i, xs, G, u⟩ := i
    obtain ⟨hi, hxl, hG, F28⟩ := hW
    dsimp only at *
    refine Cod.seq fun K6 hK6 => ?_
    refine Cod.seq fun K7 hK7 => ?_
    refine Cod.region ?_
    refine Ops.step (One.val rfl rfl rfl (yld_move rfl (ev_t rfl)) ?_)
    refine Ops.step (One.val rfl rfl rfl (yld_field fi31_4 rfl (ev_t rfl)) ?_)
    refine Ops.step (One.val rfl rfl rfl (yld_load1 on29 rfl (ev_t rfl) (fun _ => F28.cell 5 rfl rfl)) ?_)
    refine Ops.step (One.val rfl rfl rfl (yld_len sl29 rfl (ev_t rfl)) ?_)
    refine Ops.step (One.val rfl rfl rfl (yld_lss rfl (ev_t rfl) (ev_t rfl)) ?_)
    refine Ops.nil fun a hS => ?_
    refine hK7 _ _ ?_ a hS
    refine Cod.cond rfl (fun hc20 => ?_) (fun hc20 => ?_)
    · skip
      have hi : i < l.length := by simpa using hc20
      obtain ⟨b, o, cs, rfl, -, hlc, hr, ht⟩ := h4.at i hi
      obtain ⟨y1, y2, y3, y4, y5, rfl⟩ := five hlc
      have hwi := sumN_mem Tr.wt (List.getElem_mem hi)
      refine Cod.skip fun a hS => ?_
      refine hK6 _ _ ?_ a hS
      refine Cod.seq fun K8 hK8 => ?_
      refine Cod.block ?_
      have F29 := F28.drew
      refine Cod.draw (C_of (F29.erase 3).drop1) (by kernel_rfl) ?_
      refine Hops.take 0 rfl (by kernel_rfl) (fun _ _ _ h => h) rfl rfl rfl (F29.erase 3).drop1 (fun w F => (yld_field fi31_4 rfl (ev_t rfl))) ?_
      refine Hops.take 2 rfl (by kernel_rfl) (fun _ _ _ h => h) rfl rfl rfl (F29.erase 3).drop1 (fun w F => (yld_field fi31_4 rfl (ev_t rfl))) ?_
      refine Hops.take 3 rfl (by kernel_rfl) (fun _ _ _ h => h) rfl rfl rfl (F29.erase 3).drop1 (fun w F => (yld_load1 on29 rfl (ev_t rfl) (fun _ => F.cell 3 rfl rfl))) ?_
      refine Hops.take 4 rfl (by kernel_rfl) (fun _ _ _ h => h) rfl rfl rfl (F29.erase 3).drop1 (fun w F => (yld_move rfl (ev_t rfl))) ?_
      refine Hops.take 5 rfl (by kernel_rfl) (fun _ _ _ h => h) rfl rfl rfl (F29.erase 3).drop1 (fun w F => (yld_indexN sl29 rfl (ev_t rfl) (ev_t rfl) (fun _ => by omega))) ?_
      refine Hops.take 6 rfl (by kernel_rfl) (fun _ _ _ h => h) rfl rfl rfl (F29.erase 3).drop1 (fun w F => (yld_loadN ag31 rfl (ev_t rfl) (fun _ => rng hr F.chg) rfl)) ?_
      refine Hops.two 1 7 rfl rfl (by kernel_rfl) ?_ ?_
      · skip
        refine (One.val rfl rfl rfl (yld_load1 on29 rfl (ev_t rfl) (fun _ => F29.cell 3 rfl rfl)) ?_)
        refine ⟨(F29.erase 3).drop1, ?_⟩
        refine Hops.one 7 rfl (by kernel_rfl) (One.call rfl rfl rfl (ent_f rfl (evl1 (ev_t rfl)) (enters en73)) (H _ (List.getElem_mem hi) _ _ (ht.chg F29.chg) (by omega)) (fun e w16 hw16 => ?_))
        obtain ⟨x, Fc, rfl, C16, hsep, hFc0⟩ := hw16
        have hFc : ∀ k, Fc k → w.heap.size ≤ k := fun k hk => Nat.le_trans F29.chg.size (hFc0 k hk)
        have F30 := F29.new C16 (sep Fc l[i] x.val) hsep hFc0
        refine ⟨_, rfl, ?_⟩
        refine ⟨((F30.erase 4).erase 1).drop1, ?_⟩
        refine Hops.one 8 rfl (by kernel_rfl) (One.buildSlice (cells := (enc5 x)) F30 sl29 zero31 rfl rfl rfl rfl (evp1 (ev_t rfl)) rfl rfl (by kernel_rfl) ?_)
        intro b8 w17 hb8 F31
        refine ⟨(((F31.erase 5).erase 2).erase 1).drop1, ?_⟩
        refine Hops.one 9 rfl (by kernel_rfl) (One.append (enc := enc5) [x] F31 2 rfl sl29 zero31 rfl rfl (fun _ => rfl) rfl rfl rfl rfl (ev_t rfl) (ev_t rfl) ((blk_rep (enc := enc5) (sz := 5) (xs := [x]) (fun _ => rfl) (F31.get 0 rfl) (by simp) (by simp)).weak fun _ _ => trivial) (one_all hsep.one) (by simp; omega) (by simp; omega) ?_)
        intro u2 w18 hu2 F32
        refine ⟨(((F32.erase 5).erase 2).erase 1).drop1, ?_⟩
        change Fr _ _ [_, _, _, _, _, blk _ _ [_, _, _, _, _], blk _ _ [_, _, _, _, _], blk _ _ [_, _, _, _, _]] _ at F32
        refine Hops.take 10 rfl (by kernel_rfl) (fun _ _ _ h => h) rfl rfl rfl (((F32.erase 5).erase 2).erase 1).drop1 (fun w F => (yld_field fi31_4 rfl (ev_t rfl))) ?_
        refine Hops.one 11 rfl (by kernel_rfl) (One.store1 F32 5 rfl sz29 rfl rfl rfl (ev_t rfl) rfl (ev_t rfl) (own_one (F32.get 2 rfl)) ?_)
        intro w19 F33
        refine ⟨(((F33.erase 5).erase 2).erase 1).drop1, ?_⟩
        change Fr _ _ [_, _, _, _, _, blk _ _ [_, _, _, _, _], blk _ _ [_, _, _, _, _], blk _ _ [_, _, _, _, _]] _ at F33
        refine Hops.nil (by kernel_rfl) fun a hS => ?_
        refine hK8 _ _ ?_ a hS
        refine Cod.region ?_
        refine Ops.step (One.val rfl rfl rfl (yld_move rfl (ev_t rfl)) ?_)
        refine Ops.step (One.val rfl rfl rfl (yld_inc rfl (ev_t rfl) (fun _ => by omega)) ?_)
        refine Ops.step (One.val rfl rfl rfl (yld_assign rfl (ev_t rfl)) ?_)
        refine Ops.nil fun a hS => ?_
        have hx1 : (l.take i).length = i := by simp; omega
        have hF := Fr.toKid (xs' := xs ++ [x]) (F33.erase 0) (by rw [hx1, ← hxl]; simp) (fun j hj => List.getElem?_append_left (by omega))
        rw [show l.take i ++ [l[i]] = l.take (i + 1) from (List.take_succ_eq_append_getElem hi).symm] at hF
        exact hK5 (i + 1, xs ++ [x], fun b => G b ∨ Fc b, u2) _ a (hS.sub ⟨rfl, rfl, rfl, rfl, trivial⟩) ⟨by show i + 1 ≤ _; omega, by simp [hxl], fun k hk => hk.elim (hG k) (hFc k), hF⟩ (by show l.length - (i + 1) < l.length - i; omega)
      · skip
        refine (One.call rfl rfl rfl (ent_f rfl (evl1 (ev_t rfl)) (enters en73)) (H _ (List.getElem_mem hi) _ _ (ht.chg F29.chg) (by omega)) (fun e w20 hw20 => ?_))
        obtain ⟨x, Fc, rfl, C20, hsep, hFc0⟩ := hw20
        have hFc : ∀ k, Fc k → w.heap.size ≤ k := fun k hk => Nat.le_trans F29.chg.size (hFc0 k hk)
        have F34 := F29.new C20 (sep Fc l[i] x.val) hsep hFc0
        refine ⟨_, rfl, ?_⟩
        refine ⟨((F34.erase 4).erase 1).drop1, ?_⟩
        refine Hops.two 1 8 rfl rfl (by kernel_rfl) ?_ ?_
        · skip
          refine (One.val rfl rfl rfl (yld_load1 on29 rfl (ev_t rfl) (fun _ => F34.cell 4 rfl rfl)) ?_)
          refine ⟨((F34.erase 4).erase 1).drop1, ?_⟩
          refine Hops.one 8 rfl (by kernel_rfl) (One.buildSlice (cells := (enc5 x)) F34 sl29 zero31 rfl rfl rfl rfl (evp1 (ev_t rfl)) rfl rfl (by kernel_rfl) ?_)
          intro b9 w21 hb9 F35
          refine ⟨(((F35.erase 5).erase 2).erase 1).drop1, ?_⟩
          refine Hops.one 9 rfl (by kernel_rfl) (One.append (enc := enc5) [x] F35 2 rfl sl29 zero31 rfl rfl (fun _ => rfl) rfl rfl rfl rfl (ev_t rfl) (ev_t rfl) ((blk_rep (enc := enc5) (sz := 5) (xs := [x]) (fun _ => rfl) (F35.get 0 rfl) (by simp) (by simp)).weak fun _ _ => trivial) (one_all hsep.one) (by simp; omega) (by simp; omega) ?_)
          intro u2 w22 hu2 F36
          refine ⟨(((F36.erase 5).erase 2).erase 1).drop1, ?_⟩
          change Fr _ _ [_, _, _, _, _, blk _ _ [_, _, _, _, _], blk _ _ [_, _, _, _, _], blk _ _ [_, _, _, _, _]] _ at F36
          refine Hops.take 10 rfl (by kernel_rfl) (fun _ _ _ h => h) rfl rfl rfl (((F36.erase 5).erase 2).erase 1).drop1 (fun w F => (yld_field fi31_4 rfl (ev_t rfl))) ?_
          refine Hops.one 11 rfl (by kernel_rfl) (One.store1 F36 5 rfl sz29 rfl rfl rfl (ev_t rfl) rfl (ev_t rfl) (own_one (F36.get 2 rfl)) ?_)
          intro w23 F37
          refine ⟨(((F37.erase 5).erase 2).erase 1).drop1, ?_⟩
          change Fr _ _ [_, _, _, _, _, blk _ _ [_, _, _, _, _], blk _ _ [_, _, _, _, _], blk _ _ [_, _, _, _, _]] _ at F37
          refine Hops.nil (by kernel_rfl) fun a hS => ?_
          refine hK8 _ _ ?_ a hS
          refine Cod.region ?_
          refine Ops.step (One.val rfl rfl rfl (yld_move rfl (ev_t rfl)) ?_)
          refine Ops.step (One.val rfl rfl rfl (yld_inc rfl (ev_t rfl) (fun _ => by omega)) ?_)
          refine Ops.step (One.val rfl rfl rfl (yld_assign rfl (ev_t rfl)) ?_)
          refine Ops.nil fun a hS => ?_
          have hx1 : (l.take i).length = i := by simp; omega
          have hF := Fr.toKid (xs' := xs ++ [x]) (F37.erase 0) (by rw [hx1, ← hxl]; simp) (fun j hj => List.getElem?_append_left (by omega))
          rw [show l.take i ++ [l[i]] = l.take (i + 1) from (List.take_succ_eq_append_getElem hi).symm] at hF
          exact hK5 (i + 1, xs ++ [x], fun b => G b ∨ Fc b, u2) _ a (hS.sub ⟨rfl, rfl, rfl, rfl, trivial⟩) ⟨by show i + 1 ≤ _; omega, by simp [hxl], fun k hk => hk.elim (hG k) (hFc k), hF⟩ (by show l.length - (i + 1) < l.length - i; omega)
        · skip
          refine (One.buildSlice (cells := (enc5 x)) F34 sl29 zero31 rfl rfl rfl rfl (evp1 (ev_t rfl)) rfl rfl (by kernel_rfl) ?_)
          intro b10 w24 hb10 F38
          refine ⟨(((F38.erase 5).erase 2).erase 1).drop1, ?_⟩
          refine Hops.one 1 rfl (by kernel_rfl) (One.val rfl rfl rfl (yld_load1 on29 rfl (ev_t rfl) (fun _ => F38.cell 5 rfl rfl)) ?_)
          refine ⟨(((F38.erase 5).erase 2).erase 1).drop1, ?_⟩
          refine Hops.one 9 rfl (by kernel_rfl) (One.append (enc := enc5) [x] F38 2 rfl sl29 zero31 rfl rfl (fun _ => rfl) rfl rfl rfl rfl (ev_t rfl) (ev_t rfl) ((blk_rep (enc := enc5) (sz := 5) (xs := [x]) (fun _ => rfl) (F38.get 0 rfl) (by simp) (by simp)).weak fun _ _ => trivial) (one_all hsep.one) (by simp; omega) (by simp; omega) ?_)
          intro u2 w25 hu2 F39
          refine ⟨(((F39.erase 5).erase 2).erase 1).drop1, ?_⟩
          change Fr _ _ [_, _, _, _, _, blk _ _ [_, _, _, _, _], blk _ _ [_, _, _, _, _], blk _ _ [_, _, _, _, _]] _ at F39
          refine Hops.take 10 rfl (by kernel_rfl) (fun _ _ _ h => h) rfl rfl rfl (((F39.erase 5).erase 2).erase 1).drop1 (fun w F => (yld_field fi31_4 rfl (ev_t rfl))) ?_
          refine Hops.one 11 rfl (by kernel_rfl) (One.store1 F39 5 rfl sz29 rfl rfl rfl (ev_t rfl) rfl (ev_t rfl) (own_one (F39.get 2 rfl)) ?_)
          intro w26 F40
          refine ⟨(((F40.erase 5).erase 2).erase 1).drop1, ?_⟩
          change Fr _ _ [_, _, _, _, _, blk _ _ [_, _, _, _, _], blk _ _ [_, _, _, _, _], blk _ _ [_, _, _, _, _]] _ at F40
          refine Hops.nil (by kernel_rfl) fun a hS => ?_
          refine hK8 _ _ ?_ a hS
          refine Cod.region ?_
          refine Ops.step (One.val rfl rfl rfl (yld_move rfl (ev_t rfl)) ?_)
          refine Ops.step (One.val rfl rfl rfl (yld_inc rfl (ev_t rfl) (fun _ => by omega)) ?_)
          refine Ops.step (One.val rfl rfl rfl (yld_assign rfl (ev_t rfl)) ?_)
          refine Ops.nil fun a hS => ?_
          have hx1 : (l.take i).length = i := by simp; omega
          have hF := Fr.toKid (xs' := xs ++ [x]) (F40.erase 0) (by rw [hx1, ← hxl]; simp) (fun j hj => List.getElem?_append_left (by omega))
          rw [show l.take i ++ [l[i]] = l.take (i + 1) from (List.take_succ_eq_append_getElem hi).symm] at hF
          exact hK5 (i + 1, xs ++ [x], fun b => G b ∨ Fc b, u2) _ a (hS.sub ⟨rfl, rfl, rfl, rfl, trivial⟩) ⟨by show i + 1 ≤ _; omega, by simp [hxl], fun k hk => hk.elim (hG k) (hFc k), hF⟩ (by show l.length - (i + 1) < l.length - i; omega)
    · skip
      obtain rfl : i = l.length := by simp at hc20; omega
      rw [List.take_length] at F28
      refine Cod.exit fun a hS => ?_
      simp only [Exit.then, Exit.inBlock, ↓reduceIte]
      refine hK3 _ _ ?_ a hS
      refine Cod.seq fun K9 hK9 => ?_
      refine Cod.region ?_
      refine Ops.step (One.val rfl rfl rfl (yld_loadN ag31 rfl (ev_t rfl) (fun _ => F28.range (m := 5) (cs' := [_, _, _, _, _]) 3 rfl rfl) rfl) ?_)
      refine Ops.step (One.storeN (vs := [_, _, _, _, _]) F28 4 rfl sz31 rfl rfl rfl (ev_t rfl) (ev_t rfl) rfl rfl (one5 (own_one (F28.get 2 rfl)) (own_one (F28.get 0 rfl))) ?_)
      intro w27 F41
      change Fr _ _ [_, _, _, blk _ _ [_, _, _, _, _], blk _ _ [_, _, _, _, _], blk _ _ [_, _, _, _, _]] _ at F41
      refine Ops.nil fun a hS => ?_
      refine hK9 _ _ ?_ a hS
      refine Cod.ret fun a hS => ?_
      try simp only [Exit.then, Exit.inBlock]
      have hF := Fr.toSep (k := k) (n := n) (s := s) (Fr.toSepL F41 hxl)
      exact retc (t := 2) (ty := 31) rfl hS ag31 rfl (F41.range (m := 5) (cs' := [_, _, _, _, _]) 4 rfl rfl) rfl ⟨x5 k n s u3 u, _, rfl, hF.chg, hF.get 0 rfl, fun b hb => (hF.dom _ (List.mem_cons_self ..) b hb).resolve_left id⟩


theorem l1Copy_ct (t : Tr) : CopyOk 73 t := Tr.ind (p := CopyOk 73) l1Copy_of t

end Go.Proofs.Ytodbflfelimppaa.Eng
