/- Walks of the functions that draw a law's trees out of bytes. -/
import Derived.Test.YtphchpbfhcniaaaDraw2
import Derived.Test.YtphchpbfhcniaaaPairs
namespace Go.Proofs.Ytphchpbfhcniaaa.Eng
open Go.RowKit
set_option linter.unusedVariables false
set_option linter.unusedSimpArgs false
set_option maxHeartbeats 1000000


/-- The part of the bytes that a reader takes. -/
def cutv : Value → Value
  | .slice A m c => if 2000 < m then sliced A 0 2000 c 1 else .slice A m c
  | v => v
theorem cutv_slice (A : Option Addr) (m c : Nat) : cutv (.slice A m c) = if 2000 < m then sliced A 0 2000 c 1 else .slice A m c := rfl
theorem RepE.pre {α : Type} {enc : α → List Value} {F : Nat → Prop} {w : World} {xs : List α} {A : Option Addr} {m c : Nat} (h : RepE enc 1 F w xs (.slice A m c)) (k : Nat) (hk : k ≤ xs.length) : RepE enc 1 F w (xs.take k) (sliced A 0 k c 1) := by
  obtain ⟨A', c', e, h2, h3, h4⟩ := h
  obtain ⟨rfl, rfl, rfl⟩ : A = A' ∧ m = xs.length ∧ c = c' := by simpa using e
  have hl : (xs.take k).length = k := by simp; omega
  refine ⟨if c = 0 then A else A.map (·.add (0 * 1)), c, by rw [hl]; rfl, by rw [hl]; omega, h3, fun hn => ?_⟩
  have hx : xs ≠ [] := fun e => by subst e; simp at hn
  obtain ⟨b, o, rfl, hF, hr⟩ := h4 hx
  have hp : 0 < xs.length := List.length_pos_iff.2 hx
  refine ⟨b, o, ?_, hF, fun i hi => ?_⟩
  · rw [if_neg (by omega), Option.map_some, Addr.add_mid]; rfl
  · rw [List.getElem_take]
    exact hr i (by rw [hl] at hi; omega)
theorem code_of {code : List UInt8} {v : Value} {w : World} {b : Nat} (hp : RepE bCells 1 Any w code v) (hb : w.heap.size ≤ b) : Code b w (cutv v) := by
  have ho := (hp.old fun x => by simp [bCells]).weak (G := fun k => k ≠ b) fun k hk e => by subst e; omega
  obtain ⟨A, c, rfl, -⟩ := hp.open
  rw [cutv_slice]
  split
  · rename_i h; exact ⟨_, ho.pre 2000 (by omega)⟩
  · exact ⟨_, ho⟩

set_option maxRecDepth 100000 in
theorem open_ct (code : List UInt8) (v : Value) (w : World) (hp : RepE bCells 1 Any w code v) : Calls Try.prog 52 #[v] w fun e w' => ∃ b, e = .returned (.pointer (some ⟨b, 0, none⟩)) ∧ Chg No w w' ∧ (rd b (cutv v) 0).is w' ∧ w.heap.size ≤ b := by
  obtain ⟨A, c, hv, hnc, hcm, hcl⟩ := id hp
  subst hv
  obtain ⟨A2, m2, c2, hcut⟩ : ∃ A2 m2 c2, cutv (.slice A code.length c) = .slice A2 m2 c2 := by
    rw [cutv_slice]
    split
    · exact ⟨_, _, _, rfl⟩
    · exact ⟨_, _, _, rfl⟩
  refine enter Try.func52 rfl rfl rfl ?_
  have F0 := Fr.start w
  refine Cod.seq fun K1 hK1 => ?_
  refine Cod.region ?_
  refine Ops.step (One.val rfl rfl rfl (yld_assign rfl ev_c) ?_)
  refine Ops.nil fun a hS => ?_
  refine hK1 _ _ ?_ a hS
  refine Cod.seq fun K2 hK2 => ?_
  refine Cod.seq fun K3 hK3 => ?_
  refine Cod.region ?_
  refine Ops.step (One.val rfl rfl rfl (yld_move rfl (ev_t rfl)) ?_)
  refine Ops.step (One.val rfl rfl rfl (yld_len sl22 rfl (ev_t rfl)) ?_)
  refine Ops.step (One.val rfl rfl rfl (yld_gtr rfl (ev_t rfl) ev_c) ?_)
  refine Ops.nil fun a hS => ?_
  refine hK3 _ _ ?_ a hS
  refine Cod.cond rfl (fun hc5 => ?_) (fun hc5 => ?_)
  · skip
    have h2 : 2000 < code.length := by simp at hc5; omega
    have hcv : sliced A 0 2000 c 1 = .slice A2 m2 c2 := by rw [← hcut, cutv_slice, if_pos h2]
    refine Cod.region ?_
    refine Ops.step (One.val rfl rfl rfl (yld_move rfl (ev_t rfl)) ?_)
    refine Ops.step (One.val rfl rfl rfl (yld_slcH 2000 sl22 rfl (ev_t rfl) ev_c rfl (by omega)) ?_)
    refine Ops.step (One.val rfl rfl rfl (yld_assign rfl (ev_t rfl)) ?_)
    refine Ops.nil fun a hS => ?_
    refine hK2 _ _ ?_ a hS
    refine Cod.seq fun K4 hK4 => ?_
    try rw [hcv]
    refine Cod.region ?_
    refine Ops.step (One.val rfl rfl rfl (yld_move rfl (ev_t rfl)) ?_)
    refine Ops.step (One.val rfl rfl rfl (yld_build (cells := [.slice A2 m2 c2, .int .i64 0]) rfl (evp1 (ev_t rfl)) (by kernel_rfl)) ?_)
    refine Ops.step (One.box F0 rfl rfl rfl rfl (ev_t rfl) ?_)
    intro b1 w1 hb1 F1
    change Fr _ _ [blk _ _ [_, _]] _ at F1
    refine Ops.step (One.val rfl rfl rfl (yld_assign rfl (ev_t rfl)) ?_)
    refine Ops.nil fun a hS => ?_
    refine hK4 _ _ ?_ a hS
    refine Cod.ret fun a hS => ?_
    try simp only [Exit.then, Exit.inBlock]
    rw [hcut]
    exact ret1 (t := 2) rfl hS rfl ⟨_, rfl, F1.chg, ⟨0, Nat.le_refl _, F1.get 0 rfl⟩, (F1.dom _ (List.mem_cons_self ..) _ rfl).resolve_left id⟩
  · skip
    have h2 : ¬ 2000 < code.length := by simp at hc5; omega
    have hcv : (Value.slice A code.length c) = .slice A2 m2 c2 := by rw [← hcut, cutv_slice, if_neg h2]
    refine Cod.skip fun a hS => ?_
    refine hK2 _ _ ?_ a hS
    refine Cod.seq fun K5 hK5 => ?_
    try rw [hcv]
    refine Cod.region ?_
    refine Ops.step (One.val rfl rfl rfl (yld_move rfl (ev_t rfl)) ?_)
    refine Ops.step (One.val rfl rfl rfl (yld_build (cells := [.slice A2 m2 c2, .int .i64 0]) rfl (evp1 (ev_t rfl)) (by kernel_rfl)) ?_)
    refine Ops.step (One.box F0 rfl rfl rfl rfl (ev_t rfl) ?_)
    intro b2 w2 hb2 F2
    change Fr _ _ [blk _ _ [_, _]] _ at F2
    refine Ops.step (One.val rfl rfl rfl (yld_assign rfl (ev_t rfl)) ?_)
    refine Ops.nil fun a hS => ?_
    refine hK5 _ _ ?_ a hS
    refine Cod.ret fun a hS => ?_
    try simp only [Exit.then, Exit.inBlock]
    rw [hcut]
    exact ret1 (t := 2) rfl hS rfl ⟨_, rfl, F2.chg, ⟨0, Nat.le_refl _, F2.get 0 rfl⟩, (F2.dom _ (List.mem_cons_self ..) _ rfl).resolve_left id⟩


/-- Trees in memory that nobody writes. -/
def rps (G : Nat → Prop) (l : List (Tr × Value)) : Res := ⟨G, fun w => (∀ (i : Nat) (t : Tr) (v : Value), l[i]? = some (t, v) → Rep G w t v) ∧ ∀ b, G b → b < w.heap.size,
  fun w w' h hi => ⟨fun i t v hv => (hi.1 i t v hv).keep h, lt_keep hi.2 h⟩, fun w hi k hk => hi.2 k hk⟩
theorem rps_get {G : Nat → Prop} {l : List (Tr × Value)} {w : World} (h : (rps G l).is w) (i : Nat) {t : Tr} {v : Value} (hi : l[i]? = some (t, v)) : Rep Any w t v := (h.1 i t v hi).weak fun _ _ => trivial
/-- New blocks between two worlds. -/
def New (w w' : World) (k : Nat) : Prop := w.heap.size ≤ k ∧ k < w'.heap.size
theorem rps1 {w0 w : World} {X : Nat → Prop} {L : List Res} {G : Nat → Prop} {t : Tr} {v : Value} (F : Fr No w0 L w) (i : Nat) (hi : L[i]? = some (sep G t v)) : Rep (New w0 w) w t v := by
  have h : Sep w G t v := F.get i hi
  exact h.repF.weak fun k hk => ⟨(F.dom _ (List.mem_of_getElem? hi) k hk).resolve_left id, h.lt k hk⟩
theorem rpsOf {w0 w : World} {l : List (Tr × Value)} (h : ∀ (i : Nat) (t : Tr) (v : Value), l[i]? = some (t, v) → Rep (New w0 w) w t v) : (rps (New w0 w) l).is w := ⟨h, fun b hb => hb.2⟩
theorem rps_one {w0 w : World} {t : Tr} {v : Value} (h : Rep (New w0 w) w t v) : (rps (New w0 w) [(t, v)]).is w := rpsOf fun i t' v' hi => by
  rcases i with _ | i
  · obtain ⟨rfl, rfl⟩ : t = t' ∧ v = v' := by simpa using hi
    exact h
  · simp at hi
theorem rps_two {w0 w : World} {t u : Tr} {v x : Value} (h : Rep (New w0 w) w t v) (h' : Rep (New w0 w) w u x) : (rps (New w0 w) [(t, v), (u, x)]).is w := rpsOf fun i t' v' hi => by
  rcases i with _ | _ | i
  · obtain ⟨rfl, rfl⟩ : t = t' ∧ v = v' := by simpa using hi
    exact h
  · obtain ⟨rfl, rfl⟩ : u = t' ∧ x = v' := by simpa using hi
    exact h'
  · simp at hi
/-- What a function gives that draws one tree, or two. -/
def Draw1 (w : World) (e : Ending) (w' : World) : Prop := ∃ (x : V5) (t : Tr), e = .returned x.val ∧ Chg No w w' ∧ (rps (New w w') [(t, x.val)]).is w' ∧ Dr t
def Draw2 (w : World) (e : Ending) (w' : World) : Prop := ∃ (x y : V5) (t u : Tr), e = .returned (.tuple #[x.val, y.val]) ∧ Chg No w w' ∧ (rps (New w w') [(t, x.val), (u, y.val)]).is w' ∧ Dr t ∧ Dr u
theorem New.new {w w' : World} : ∀ k, New w w' k → w.heap.size ≤ k := fun k h => h.1
theorem rowRep {w0 w : World} {rs : List Tr} {xs : List V5} {b ty : Nat} {k : Int} (hb : (blk b ty (xs.flatMap enc5)).is w) (hn : w0.heap.size ≤ b) (ha : ALF (New w0 w) w rs xs) (hc : xs.length ≤ 9223372036854775807) : Rep (New w0 w) w (.mk k 0 ⟨#[]⟩ [] rs) (x5 k 0 ⟨#[]⟩ (.slice none 0 0) (.slice (some ⟨b, 0, none⟩) xs.length xs.length)).val :=
  Rep.close (RepE.nil _ _) (repL_ofE ((blk_rep (enc := enc5) (sz := 5) (fun _ => rfl) hb (Nat.le_refl _) hc).weak fun k hk => by subst hk; exact ⟨hn, blk_lt hb⟩) ha)
theorem ALF.one {F : Nat → Prop} {w : World} {t : Tr} {x : V5} (h : Rep F w t x.val) : ALF F w [t] [x] := ⟨rfl, fun j h1 h2 => by
  obtain rfl : j = 0 := by simp at h1; exact h1
  exact h⟩
theorem ALF.two {F : Nat → Prop} {w : World} {t u : Tr} {x y : V5} (h : Rep F w t x.val) (h' : Rep F w u y.val) : ALF F w [t, u] [x, y] := ⟨rfl, fun j h1 h2 => by
  rcases (by simp at h1; omega : j = 0 ∨ j = 1) with rfl | rfl
  · exact h
  · exact h'⟩
theorem dr_row1 {t : Tr} (h : BentT t) : Dr (.mk 5 0 ⟨#[]⟩ [] [t]) := by
  refine ⟨.mk (by decide) (by simp) fun x hx => ?_, by rw [wrap_wt]; have := h.wt; omega, by show 1 ≤ 5; omega⟩
  obtain rfl := List.mem_singleton.1 hx; exact h.fit
theorem dr_row2 {t u : Tr} (h : BentT t) (h' : LeafT u) : Dr (.mk 5 0 ⟨#[]⟩ [] [t, u]) := by
  refine ⟨.mk (by decide) (by simp) fun x hx => ?_, ?_, by show 2 ≤ 5; omega⟩
  · rcases (by simpa using hx : x = t ∨ x = u) with rfl | rfl
    · exact h.fit
    · exact h'.fit
  · rw [row_wt, sumN_cons, sumN_cons]
    have h1 := h.wt
    have h2 := h'.wt
    show 2 + (t.wt + (u.wt + 0)) ≤ _
    omega

set_option maxRecDepth 100000 in
theorem two_ct (code : List UInt8) (v : Value) (w : World) (hp : RepE bCells 1 Any w code v) : Calls Try.prog 46 #[v] w (Draw2 w) := by
  refine enter Try.func46 rfl rfl rfl ?_
  have F0 := Fr.start w
  refine Cod.seq fun K1 hK1 => ?_
  refine Cod.region ?_
  refine Ops.step (One.alloc F0 zero26 rfl rfl rfl rfl ?_)
  intro b1 w1 hb1 F1
  change Fr _ _ [blk _ _ [_, _, _, _, _]] _ at F1
  refine Ops.step (One.alloc F1 zero26 rfl rfl rfl rfl ?_)
  intro b2 w2 hb2 F2
  change Fr _ _ [blk _ _ [_, _, _, _, _], blk _ _ [_, _, _, _, _]] _ at F2
  refine Ops.nil fun a hS => ?_
  refine hK1 _ _ ?_ a hS
  refine Cod.seq fun K2 hK2 => ?_
  refine Cod.region ?_
  refine Ops.step (One.val rfl rfl rfl (yld_move rfl (ev_t rfl)) ?_)
  refine Ops.step (One.call rfl rfl rfl (ent_f rfl (evl1 (ev_t rfl)) (enters en52)) (open_ct code v _ (hp.chg F2.chg)) (fun e w3 hw3 => ?_))
  obtain ⟨bb, rfl, C3, hrd0, hbb⟩ := hw3
  obtain ⟨cv, hcv⟩ : ∃ cv, cv = cutv v := ⟨_, rfl⟩
  rw [← hcv] at hrd0
  have hcode : Code bb w cv := by rw [hcv]; exact code_of hp (by have := F2.chg.size; omega)
  have F3 := F2.new C3 (rd bb cv 0) hrd0 (fun k hk => by have h1 : k = bb := hk; subst h1; exact hbb)
  refine ⟨_, rfl, ?_⟩
  refine Ops.step (One.val rfl rfl rfl (yld_assign rfl (ev_t rfl)) ?_)
  refine Ops.nil fun a hS => ?_
  refine hK2 _ _ ?_ a hS
  refine Cod.seq fun K3 hK3 => ?_
  refine Cod.region ?_
  refine Ops.step (One.val rfl rfl rfl (yld_move rfl (ev_t rfl)) ?_)
  refine Ops.step (One.call rfl rfl rfl (ent_f rfl (evl1 (ev_t rfl)) (enters en61)) (bent_ct bb cv _ _ (hcode.chg F3.chg) (F3.get 0 rfl) (by omega)) (fun e w4 hw4 => ?_))
  obtain ⟨x1, Gx1, tx1, rfl, C4, hrdx1, hsx1, hbx1, hpx1⟩ := hw4
  have F4 := F3.updNew 0 rfl C4 (fun _ hk => hk) (rd bb cv _) hrdx1 (fun _ hk => hk) (sep Gx1 tx1 x1.val) hsx1 hbx1
  change Fr _ _ (_ :: [_, _, _]) _ at F4
  refine ⟨_, rfl, ?_⟩
  refine Ops.step (One.alloc F4 zero26 rfl rfl rfl rfl ?_)
  intro b3 w5 hb3 F5
  change Fr _ _ [blk _ _ [_, _, _, _, _], _, _, blk _ _ [_, _, _, _, _], blk _ _ [_, _, _, _, _]] _ at F5
  refine Ops.step (One.storeN (vs := [_, _, _, _, _]) F5 0 rfl sz26 rfl rfl rfl (ev_t rfl) (ev_t rfl) rfl rfl hsx1.one ?_)
  intro w6 F6
  change Fr _ _ [blk _ _ [_, _, _, _, _], _, _, blk _ _ [_, _, _, _, _], blk _ _ [_, _, _, _, _]] _ at F6
  refine Ops.nil fun a hS => ?_
  refine hK3 _ _ ?_ a hS
  refine Cod.seq fun K4 hK4 => ?_
  refine Cod.seq fun K5 hK5 => ?_
  refine Cod.region ?_
  refine Ops.step (One.val rfl rfl rfl (yld_move rfl (ev_t rfl)) ?_)
  refine Ops.step (One.call rfl rfl rfl (ent_f rfl (evl2 (ev_t rfl) ev_c) (enters en76)) (pick_ct 6 bb cv _ _ (hcode.chg F6.chg) (F6.get 2 rfl) (by omega) (by omega)) (fun e w7 hw7 => ?_))
  obtain ⟨r3, rfl, C7, hrdr3, hr3⟩ := hw7
  have F7 := F6.upd 2 rfl C7 (fun _ hk => .inl hk) (rd bb cv _) hrdr3 (fun _ hk => .inl hk)
  change Fr _ _ [_, _, _, _, _] _ at F7
  refine ⟨_, rfl, ?_⟩
  refine Ops.nil fun a hS => ?_
  refine hK5 _ _ ?_ a hS
  refine Cod.block ?_
  refine Cod.seq fun K6 hK6 => ?_
  refine Cod.region ?_
  refine Ops.step (One.val rfl rfl rfl (yld_eql rfl (ev_t rfl) ev_c) ?_)
  refine Ops.step (One.val rfl rfl rfl (yld_assign rfl (ev_t rfl)) ?_)
  refine Ops.nil fun a hS => ?_
  refine hK6 _ _ ?_ a hS
  refine Cod.cond rfl (fun hc12 => ?_) (fun hc12 => ?_)
  · skip
    refine Cod.seq fun K7 hK7 => ?_
    have F8 := F7.drew
    refine Cod.draw (C_of ((F8.erase 4).erase 3)) (by kernel_rfl) ?_
    refine Hops.take 0 rfl (by kernel_rfl) (fun _ _ _ h => h) rfl rfl rfl ((F8.erase 4).erase 3) (fun w F => (yld_loadN ag26 rfl (ev_t rfl) (fun _ => F.range (m := 5) (cs' := [_, _, _, _, _]) 0 rfl rfl) rfl)) ?_
    refine Hops.take 1 rfl (by kernel_rfl) (fun _ _ _ h => h) rfl rfl rfl ((F8.erase 4).erase 3) (fun w F => (yld_loadN ag26 rfl (ev_t rfl) (fun _ => F.range (m := 5) (cs' := [_, _, _, _, _]) 0 rfl rfl) rfl)) ?_
    refine Hops.one 2 rfl (by kernel_rfl) (One.call rfl rfl rfl (ent_f rfl (evl1 (ev_t rfl)) (enters en65)) (l1Copy_ct tx1 _ _ (F8.get 1 rfl).rep (by have := hpx1.wt; omega)) (fun e w8 hw8 => ?_))
    obtain ⟨y1, Gy1, rfl, C8, hsy1, hby1⟩ := hw8
    have F9 := F8.new C8 (sep Gy1 tx1 y1.val) hsy1 hby1
    refine ⟨_, rfl, ?_⟩
    refine ⟨((F9.erase 5).erase 4).drop1, ?_⟩
    refine Hops.one 3 rfl (by kernel_rfl) (One.storeN (vs := [_, _, _, _, _]) F9 5 rfl sz26 rfl rfl rfl (ev_t rfl) (ev_t rfl) rfl rfl (Sep.one (x := x1) (F9.get 2 rfl)) ?_)
    intro w9 F10
    refine ⟨((F10.erase 5).erase 4).drop1, ?_⟩
    change Fr _ _ [_, blk _ _ [_, _, _, _, _], _, _, blk _ _ [_, _, _, _, _], blk _ _ [_, _, _, _, _]] _ at F10
    refine Hops.one 4 rfl (by kernel_rfl) (One.storeN (vs := [_, _, _, _, _]) F10 4 rfl sz26 rfl rfl rfl (ev_t rfl) (ev_t rfl) rfl rfl (Sep.one (x := y1) (F10.get 0 rfl)) ?_)
    intro w10 F11
    refine ⟨((F11.erase 5).erase 4).drop1, ?_⟩
    change Fr _ _ [_, blk _ _ [_, _, _, _, _], _, _, blk _ _ [_, _, _, _, _], blk _ _ [_, _, _, _, _]] _ at F11
    refine Hops.nil (by kernel_rfl) fun a hS => ?_
    refine hK7 _ _ ?_ a hS
    refine Cod.ret fun a hS => ?_
    try simp only [Exit.then, Exit.inBlock]
    exact retcc (t := 2) (u := 3) (ty := 26) (ty' := 26) rfl hS ag26 ag26 rfl rfl (F11.range (m := 5) (cs' := [_, _, _, _, _]) 5 rfl rfl) (F11.range (m := 5) (cs' := [_, _, _, _, _]) 4 rfl rfl) rfl rfl ⟨x1, y1, tx1, tx1, rfl, F11.chg, rps_two (rps1 (X := No) F11 2 rfl) (rps1 (X := No) F11 0 rfl), hpx1.dr, hpx1.dr⟩
  · skip
    refine Cod.seq fun K8 hK8 => ?_
    refine Cod.region ?_
    refine Ops.step (One.val rfl rfl rfl (yld_eql rfl (ev_t rfl) ev_c) ?_)
    refine Ops.step (One.val rfl rfl rfl (yld_assign rfl (ev_t rfl)) ?_)
    refine Ops.nil fun a hS => ?_
    refine hK8 _ _ ?_ a hS
    refine Cod.cond rfl (fun hc17 => ?_) (fun hc17 => ?_)
    · skip
      refine Cod.seq fun K9 hK9 => ?_
      have F12 := F7.drew
      refine Cod.draw (C_of (((F12.erase 4).erase 3).erase 2)) (by kernel_rfl) ?_
      refine Hops.take 0 rfl (by kernel_rfl) (fun _ _ _ h => h) rfl rfl rfl (((F12.erase 4).erase 3).erase 2) (fun w F => (yld_loadN ag26 rfl (ev_t rfl) (fun _ => F.range (m := 5) (cs' := [_, _, _, _, _]) 0 rfl rfl) rfl)) ?_
      refine Hops.take 3 rfl (by kernel_rfl) (fun _ _ _ h => h) rfl rfl rfl (((F12.erase 4).erase 3).erase 2) (fun w F => (yld_loadN ag26 rfl (ev_t rfl) (fun _ => F.range (m := 5) (cs' := [_, _, _, _, _]) 0 rfl rfl) rfl)) ?_
      refine Hops.take 5 rfl (by kernel_rfl) (fun _ _ _ h => h) rfl rfl rfl (((F12.erase 4).erase 3).erase 2) (fun w F => (yld_move rfl (ev_t rfl))) ?_
      refine Hops.two 1 4 rfl rfl (by kernel_rfl) ?_ ?_
      · skip
        refine (One.buildSlice (cells := (enc5 x1)) F12 sl24 zero26 rfl rfl rfl rfl (evp1 (ev_t rfl)) rfl rfl (by kernel_rfl) ?_)
        intro b4 w11 hb4 F13
        refine ⟨(((F13.erase 5).erase 4).erase 3).drop1, ?_⟩
        refine Hops.take 2 rfl (by kernel_rfl) (fun _ _ _ h => h) rfl rfl rfl (((F13.erase 5).erase 4).erase 3).drop1 (fun w F => (yld_build (cells := [.int .i64 5, .int .i64 0, .string ⟨#[]⟩, .slice none 0 0, .slice (some ⟨b4, 0, none⟩) 1 1]) rfl (evp2 ev_c (ev_t rfl)) (by kernel_rfl))) ?_
        refine Hops.one 4 rfl (by kernel_rfl) (One.call rfl rfl rfl (ent_f rfl (evl1 (ev_t rfl)) (enters en65)) (l1Copy_ct tx1 _ _ (F13.get 2 rfl).rep (by have := hpx1.wt; omega)) (fun e w12 hw12 => ?_))
        obtain ⟨y1, Gy1, rfl, C12, hsy1, hby1⟩ := hw12
        have F14 := F13.new C12 (sep Gy1 tx1 y1.val) hsy1 hby1
        refine ⟨_, rfl, ?_⟩
        refine ⟨((((F14.erase 6).erase 5).erase 4).erase 1).drop1, ?_⟩
        refine Hops.one 6 rfl (by kernel_rfl) (One.call rfl rfl rfl (ent_f rfl (evl1 (ev_t rfl)) (enters en94)) (leaf_ct bb cv _ _ (hcode.chg F14.chg) (F14.get 4 rfl) (by omega)) (fun e w13 hw13 => ?_))
        obtain ⟨z1, Gz1, tz1, rfl, C13, hrdz1, hsz1, hbz1, hpz1⟩ := hw13
        have F15 := F14.updNew 4 rfl C13 (fun _ hk => hk) (rd bb cv _) hrdz1 (fun _ hk => hk) (sep Gz1 tz1 z1.val) hsz1 hbz1
        change Fr _ _ (_ :: [_, _, _, _, _, _, _]) _ at F15
        refine ⟨_, rfl, ?_⟩
        refine ⟨(((((F15.erase 7).erase 6).erase 5).erase 2).erase 1).drop1, ?_⟩
        refine Hops.two 7 9 rfl rfl (by kernel_rfl) ?_ ?_
        · skip
          refine (One.buildSlice (cells := ([y1, z1].flatMap enc5)) F15 sl24 zero26 rfl rfl rfl rfl (evp2 (ev_t rfl) (ev_t rfl)) rfl rfl (by kernel_rfl) ?_)
          intro b5 w14 hb5 F16
          refine ⟨((((((F16.erase 8).erase 7).erase 6).erase 3).erase 2).erase 1).drop1, ?_⟩
          refine Hops.take 8 rfl (by kernel_rfl) (fun _ _ _ h => h) rfl rfl rfl ((((((F16.erase 8).erase 7).erase 6).erase 3).erase 2).erase 1).drop1 (fun w F => (yld_build (cells := [.int .i64 5, .int .i64 0, .string ⟨#[]⟩, .slice none 0 0, .slice (some ⟨b5, 0, none⟩) 2 2]) rfl (evp2 ev_c (ev_t rfl)) (by kernel_rfl))) ?_
          refine Hops.one 9 rfl (by kernel_rfl) (One.storeN (vs := [_, _, _, _, _]) F16 8 rfl sz26 rfl rfl rfl (ev_t rfl) (ev_t rfl) rfl rfl rfl ?_)
          intro w15 F17
          refine ⟨((((((F17.erase 8).erase 7).erase 6).erase 3).erase 2).erase 1).drop1, ?_⟩
          change Fr _ _ [_, _, _, _, blk _ _ [_, _, _, _, _], _, _, blk _ _ [_, _, _, _, _], blk _ _ [_, _, _, _, _]] _ at F17
          refine Hops.one 10 rfl (by kernel_rfl) (One.storeN (vs := [_, _, _, _, _]) F17 7 rfl sz26 rfl rfl rfl (ev_t rfl) (ev_t rfl) rfl rfl rfl ?_)
          intro w16 F18
          refine ⟨((((((F18.erase 8).erase 7).erase 6).erase 3).erase 2).erase 1).drop1, ?_⟩
          change Fr _ _ [_, _, _, _, blk _ _ [_, _, _, _, _], _, _, blk _ _ [_, _, _, _, _], blk _ _ [_, _, _, _, _]] _ at F18
          refine Hops.nil (by kernel_rfl) fun a hS => ?_
          refine hK9 _ _ ?_ a hS
          refine Cod.ret fun a hS => ?_
          try simp only [Exit.then, Exit.inBlock]
          have q1 := rps1 (X := No) F18 5 rfl
          have q2 := rps1 (X := No) F18 2 rfl
          have q3 := rps1 (X := No) F18 1 rfl
          exact retcc (t := 2) (u := 3) (ty := 26) (ty' := 26) rfl hS ag26 ag26 rfl rfl (F18.range (m := 5) (cs' := [_, _, _, _, _]) 8 rfl rfl) (F18.range (m := 5) (cs' := [_, _, _, _, _]) 7 rfl rfl) rfl rfl ⟨x5 5 0 ⟨#[]⟩ (.slice none 0 0) (.slice (some ⟨b4, 0, none⟩) 1 1), x5 5 0 ⟨#[]⟩ (.slice none 0 0) (.slice (some ⟨b5, 0, none⟩) 2 2), .mk 5 0 ⟨#[]⟩ [] [tx1], .mk 5 0 ⟨#[]⟩ [] [tx1, tz1], rfl, F18.chg, rps_two (rowRep (xs := [x1]) (F18.get 3 rfl) ((F18.dom _ (List.mem_of_getElem? (i := 3) rfl) _ rfl).resolve_left id) (ALF.one q1) (by simp)) (rowRep (xs := [y1, z1]) (F18.get 0 rfl) ((F18.dom _ (List.mem_of_getElem? (i := 0) rfl) _ rfl).resolve_left id) (ALF.two q2 q3) (by simp)), dr_row1 hpx1, dr_row2 hpx1 hpz1⟩
        · skip
          refine (One.storeN (vs := [_, _, _, _, _]) F15 7 rfl sz26 rfl rfl rfl (ev_t rfl) (ev_t rfl) rfl rfl rfl ?_)
          intro w17 F19
          refine ⟨(((((F19.erase 7).erase 6).erase 5).erase 2).erase 1).drop1, ?_⟩
          change Fr _ _ [_, _, _, blk _ _ [_, _, _, _, _], _, _, blk _ _ [_, _, _, _, _], blk _ _ [_, _, _, _, _]] _ at F19
          refine Hops.one 7 rfl (by kernel_rfl) (One.buildSlice (cells := ([y1, z1].flatMap enc5)) F19 sl24 zero26 rfl rfl rfl rfl (evp2 (ev_t rfl) (ev_t rfl)) rfl rfl (by kernel_rfl) ?_)
          intro b6 w18 hb6 F20
          refine ⟨((((((F20.erase 8).erase 7).erase 6).erase 3).erase 2).erase 1).drop1, ?_⟩
          refine Hops.take 8 rfl (by kernel_rfl) (fun _ _ _ h => h) rfl rfl rfl ((((((F20.erase 8).erase 7).erase 6).erase 3).erase 2).erase 1).drop1 (fun w F => (yld_build (cells := [.int .i64 5, .int .i64 0, .string ⟨#[]⟩, .slice none 0 0, .slice (some ⟨b6, 0, none⟩) 2 2]) rfl (evp2 ev_c (ev_t rfl)) (by kernel_rfl))) ?_
          refine Hops.one 10 rfl (by kernel_rfl) (One.storeN (vs := [_, _, _, _, _]) F20 7 rfl sz26 rfl rfl rfl (ev_t rfl) (ev_t rfl) rfl rfl rfl ?_)
          intro w19 F21
          refine ⟨((((((F21.erase 8).erase 7).erase 6).erase 3).erase 2).erase 1).drop1, ?_⟩
          change Fr _ _ [_, _, _, _, blk _ _ [_, _, _, _, _], _, _, blk _ _ [_, _, _, _, _], blk _ _ [_, _, _, _, _]] _ at F21
          refine Hops.nil (by kernel_rfl) fun a hS => ?_
          refine hK9 _ _ ?_ a hS
          refine Cod.ret fun a hS => ?_
          try simp only [Exit.then, Exit.inBlock]
          have q1 := rps1 (X := No) F21 5 rfl
          have q2 := rps1 (X := No) F21 2 rfl
          have q3 := rps1 (X := No) F21 1 rfl
          exact retcc (t := 2) (u := 3) (ty := 26) (ty' := 26) rfl hS ag26 ag26 rfl rfl (F21.range (m := 5) (cs' := [_, _, _, _, _]) 8 rfl rfl) (F21.range (m := 5) (cs' := [_, _, _, _, _]) 7 rfl rfl) rfl rfl ⟨x5 5 0 ⟨#[]⟩ (.slice none 0 0) (.slice (some ⟨b4, 0, none⟩) 1 1), x5 5 0 ⟨#[]⟩ (.slice none 0 0) (.slice (some ⟨b6, 0, none⟩) 2 2), .mk 5 0 ⟨#[]⟩ [] [tx1], .mk 5 0 ⟨#[]⟩ [] [tx1, tz1], rfl, F21.chg, rps_two (rowRep (xs := [x1]) (F21.get 3 rfl) ((F21.dom _ (List.mem_of_getElem? (i := 3) rfl) _ rfl).resolve_left id) (ALF.one q1) (by simp)) (rowRep (xs := [y1, z1]) (F21.get 0 rfl) ((F21.dom _ (List.mem_of_getElem? (i := 0) rfl) _ rfl).resolve_left id) (ALF.two q2 q3) (by simp)), dr_row1 hpx1, dr_row2 hpx1 hpz1⟩
      · skip
        refine (One.call rfl rfl rfl (ent_f rfl (evl1 (ev_t rfl)) (enters en65)) (l1Copy_ct tx1 _ _ (F12.get 1 rfl).rep (by have := hpx1.wt; omega)) (fun e w20 hw20 => ?_))
        obtain ⟨y1, Gy1, rfl, C20, hsy1, hby1⟩ := hw20
        have F22 := F12.new C20 (sep Gy1 tx1 y1.val) hsy1 hby1
        refine ⟨_, rfl, ?_⟩
        refine ⟨(((F22.erase 5).erase 4).erase 3).drop1, ?_⟩
        refine Hops.two 1 6 rfl rfl (by kernel_rfl) ?_ ?_
        · skip
          refine (One.buildSlice (cells := (enc5 x1)) F22 sl24 zero26 rfl rfl rfl rfl (evp1 (ev_t rfl)) rfl rfl (by kernel_rfl) ?_)
          intro b7 w21 hb7 F23
          refine ⟨((((F23.erase 6).erase 5).erase 4).erase 1).drop1, ?_⟩
          refine Hops.take 2 rfl (by kernel_rfl) (fun _ _ _ h => h) rfl rfl rfl ((((F23.erase 6).erase 5).erase 4).erase 1).drop1 (fun w F => (yld_build (cells := [.int .i64 5, .int .i64 0, .string ⟨#[]⟩, .slice none 0 0, .slice (some ⟨b7, 0, none⟩) 1 1]) rfl (evp2 ev_c (ev_t rfl)) (by kernel_rfl))) ?_
          refine Hops.one 6 rfl (by kernel_rfl) (One.call rfl rfl rfl (ent_f rfl (evl1 (ev_t rfl)) (enters en94)) (leaf_ct bb cv _ _ (hcode.chg F23.chg) (F23.get 4 rfl) (by omega)) (fun e w22 hw22 => ?_))
          obtain ⟨z1, Gz1, tz1, rfl, C22, hrdz1, hsz1, hbz1, hpz1⟩ := hw22
          have F24 := F23.updNew 4 rfl C22 (fun _ hk => hk) (rd bb cv _) hrdz1 (fun _ hk => hk) (sep Gz1 tz1 z1.val) hsz1 hbz1
          change Fr _ _ (_ :: [_, _, _, _, _, _, _]) _ at F24
          refine ⟨_, rfl, ?_⟩
          refine ⟨(((((F24.erase 7).erase 6).erase 5).erase 2).erase 1).drop1, ?_⟩
          refine Hops.two 7 9 rfl rfl (by kernel_rfl) ?_ ?_
          · skip
            refine (One.buildSlice (cells := ([y1, z1].flatMap enc5)) F24 sl24 zero26 rfl rfl rfl rfl (evp2 (ev_t rfl) (ev_t rfl)) rfl rfl (by kernel_rfl) ?_)
            intro b8 w23 hb8 F25
            refine ⟨((((((F25.erase 8).erase 7).erase 6).erase 3).erase 2).erase 1).drop1, ?_⟩
            refine Hops.take 8 rfl (by kernel_rfl) (fun _ _ _ h => h) rfl rfl rfl ((((((F25.erase 8).erase 7).erase 6).erase 3).erase 2).erase 1).drop1 (fun w F => (yld_build (cells := [.int .i64 5, .int .i64 0, .string ⟨#[]⟩, .slice none 0 0, .slice (some ⟨b8, 0, none⟩) 2 2]) rfl (evp2 ev_c (ev_t rfl)) (by kernel_rfl))) ?_
            refine Hops.one 9 rfl (by kernel_rfl) (One.storeN (vs := [_, _, _, _, _]) F25 8 rfl sz26 rfl rfl rfl (ev_t rfl) (ev_t rfl) rfl rfl rfl ?_)
            intro w24 F26
            refine ⟨((((((F26.erase 8).erase 7).erase 6).erase 3).erase 2).erase 1).drop1, ?_⟩
            change Fr _ _ [_, _, _, _, blk _ _ [_, _, _, _, _], _, _, blk _ _ [_, _, _, _, _], blk _ _ [_, _, _, _, _]] _ at F26
            refine Hops.one 10 rfl (by kernel_rfl) (One.storeN (vs := [_, _, _, _, _]) F26 7 rfl sz26 rfl rfl rfl (ev_t rfl) (ev_t rfl) rfl rfl rfl ?_)
            intro w25 F27
            refine ⟨((((((F27.erase 8).erase 7).erase 6).erase 3).erase 2).erase 1).drop1, ?_⟩
            change Fr _ _ [_, _, _, _, blk _ _ [_, _, _, _, _], _, _, blk _ _ [_, _, _, _, _], blk _ _ [_, _, _, _, _]] _ at F27
            refine Hops.nil (by kernel_rfl) fun a hS => ?_
            refine hK9 _ _ ?_ a hS
            refine Cod.ret fun a hS => ?_
            try simp only [Exit.then, Exit.inBlock]
            have q1 := rps1 (X := No) F27 5 rfl
            have q2 := rps1 (X := No) F27 3 rfl
            have q3 := rps1 (X := No) F27 1 rfl
            exact retcc (t := 2) (u := 3) (ty := 26) (ty' := 26) rfl hS ag26 ag26 rfl rfl (F27.range (m := 5) (cs' := [_, _, _, _, _]) 8 rfl rfl) (F27.range (m := 5) (cs' := [_, _, _, _, _]) 7 rfl rfl) rfl rfl ⟨x5 5 0 ⟨#[]⟩ (.slice none 0 0) (.slice (some ⟨b7, 0, none⟩) 1 1), x5 5 0 ⟨#[]⟩ (.slice none 0 0) (.slice (some ⟨b8, 0, none⟩) 2 2), .mk 5 0 ⟨#[]⟩ [] [tx1], .mk 5 0 ⟨#[]⟩ [] [tx1, tz1], rfl, F27.chg, rps_two (rowRep (xs := [x1]) (F27.get 2 rfl) ((F27.dom _ (List.mem_of_getElem? (i := 2) rfl) _ rfl).resolve_left id) (ALF.one q1) (by simp)) (rowRep (xs := [y1, z1]) (F27.get 0 rfl) ((F27.dom _ (List.mem_of_getElem? (i := 0) rfl) _ rfl).resolve_left id) (ALF.two q2 q3) (by simp)), dr_row1 hpx1, dr_row2 hpx1 hpz1⟩
          · skip
            refine (One.storeN (vs := [_, _, _, _, _]) F24 7 rfl sz26 rfl rfl rfl (ev_t rfl) (ev_t rfl) rfl rfl rfl ?_)
            intro w26 F28
            refine ⟨(((((F28.erase 7).erase 6).erase 5).erase 2).erase 1).drop1, ?_⟩
            change Fr _ _ [_, _, _, blk _ _ [_, _, _, _, _], _, _, blk _ _ [_, _, _, _, _], blk _ _ [_, _, _, _, _]] _ at F28
            refine Hops.one 7 rfl (by kernel_rfl) (One.buildSlice (cells := ([y1, z1].flatMap enc5)) F28 sl24 zero26 rfl rfl rfl rfl (evp2 (ev_t rfl) (ev_t rfl)) rfl rfl (by kernel_rfl) ?_)
            intro b9 w27 hb9 F29
            refine ⟨((((((F29.erase 8).erase 7).erase 6).erase 3).erase 2).erase 1).drop1, ?_⟩
            refine Hops.take 8 rfl (by kernel_rfl) (fun _ _ _ h => h) rfl rfl rfl ((((((F29.erase 8).erase 7).erase 6).erase 3).erase 2).erase 1).drop1 (fun w F => (yld_build (cells := [.int .i64 5, .int .i64 0, .string ⟨#[]⟩, .slice none 0 0, .slice (some ⟨b9, 0, none⟩) 2 2]) rfl (evp2 ev_c (ev_t rfl)) (by kernel_rfl))) ?_
            refine Hops.one 10 rfl (by kernel_rfl) (One.storeN (vs := [_, _, _, _, _]) F29 7 rfl sz26 rfl rfl rfl (ev_t rfl) (ev_t rfl) rfl rfl rfl ?_)
            intro w28 F30
            refine ⟨((((((F30.erase 8).erase 7).erase 6).erase 3).erase 2).erase 1).drop1, ?_⟩
            change Fr _ _ [_, _, _, _, blk _ _ [_, _, _, _, _], _, _, blk _ _ [_, _, _, _, _], blk _ _ [_, _, _, _, _]] _ at F30
            refine Hops.nil (by kernel_rfl) fun a hS => ?_
            refine hK9 _ _ ?_ a hS
            refine Cod.ret fun a hS => ?_
            try simp only [Exit.then, Exit.inBlock]
            have q1 := rps1 (X := No) F30 5 rfl
            have q2 := rps1 (X := No) F30 3 rfl
            have q3 := rps1 (X := No) F30 1 rfl
            exact retcc (t := 2) (u := 3) (ty := 26) (ty' := 26) rfl hS ag26 ag26 rfl rfl (F30.range (m := 5) (cs' := [_, _, _, _, _]) 8 rfl rfl) (F30.range (m := 5) (cs' := [_, _, _, _, _]) 7 rfl rfl) rfl rfl ⟨x5 5 0 ⟨#[]⟩ (.slice none 0 0) (.slice (some ⟨b7, 0, none⟩) 1 1), x5 5 0 ⟨#[]⟩ (.slice none 0 0) (.slice (some ⟨b9, 0, none⟩) 2 2), .mk 5 0 ⟨#[]⟩ [] [tx1], .mk 5 0 ⟨#[]⟩ [] [tx1, tz1], rfl, F30.chg, rps_two (rowRep (xs := [x1]) (F30.get 2 rfl) ((F30.dom _ (List.mem_of_getElem? (i := 2) rfl) _ rfl).resolve_left id) (ALF.one q1) (by simp)) (rowRep (xs := [y1, z1]) (F30.get 0 rfl) ((F30.dom _ (List.mem_of_getElem? (i := 0) rfl) _ rfl).resolve_left id) (ALF.two q2 q3) (by simp)), dr_row1 hpx1, dr_row2 hpx1 hpz1⟩
        · skip
          refine (One.call rfl rfl rfl (ent_f rfl (evl1 (ev_t rfl)) (enters en94)) (leaf_ct bb cv _ _ (hcode.chg F22.chg) (F22.get 3 rfl) (by omega)) (fun e w29 hw29 => ?_))
          obtain ⟨z1, Gz1, tz1, rfl, C29, hrdz1, hsz1, hbz1, hpz1⟩ := hw29
          have F31 := F22.updNew 3 rfl C29 (fun _ hk => hk) (rd bb cv _) hrdz1 (fun _ hk => hk) (sep Gz1 tz1 z1.val) hsz1 hbz1
          change Fr _ _ (_ :: [_, _, _, _, _, _]) _ at F31
          refine ⟨_, rfl, ?_⟩
          refine ⟨((((F31.erase 6).erase 5).erase 4).erase 1).drop1, ?_⟩
          refine Hops.two 1 7 rfl rfl (by kernel_rfl) ?_ ?_
          · skip
            refine (One.buildSlice (cells := (enc5 x1)) F31 sl24 zero26 rfl rfl rfl rfl (evp1 (ev_t rfl)) rfl rfl (by kernel_rfl) ?_)
            intro b10 w30 hb10 F32
            refine ⟨(((((F32.erase 7).erase 6).erase 5).erase 2).erase 1).drop1, ?_⟩
            refine Hops.take 2 rfl (by kernel_rfl) (fun _ _ _ h => h) rfl rfl rfl (((((F32.erase 7).erase 6).erase 5).erase 2).erase 1).drop1 (fun w F => (yld_build (cells := [.int .i64 5, .int .i64 0, .string ⟨#[]⟩, .slice none 0 0, .slice (some ⟨b10, 0, none⟩) 1 1]) rfl (evp2 ev_c (ev_t rfl)) (by kernel_rfl))) ?_
            refine Hops.two 7 9 rfl rfl (by kernel_rfl) ?_ ?_
            · skip
              refine (One.buildSlice (cells := ([y1, z1].flatMap enc5)) F32 sl24 zero26 rfl rfl rfl rfl (evp2 (ev_t rfl) (ev_t rfl)) rfl rfl (by kernel_rfl) ?_)
              intro b11 w31 hb11 F33
              refine ⟨((((((F33.erase 8).erase 7).erase 6).erase 3).erase 2).erase 1).drop1, ?_⟩
              refine Hops.take 8 rfl (by kernel_rfl) (fun _ _ _ h => h) rfl rfl rfl ((((((F33.erase 8).erase 7).erase 6).erase 3).erase 2).erase 1).drop1 (fun w F => (yld_build (cells := [.int .i64 5, .int .i64 0, .string ⟨#[]⟩, .slice none 0 0, .slice (some ⟨b11, 0, none⟩) 2 2]) rfl (evp2 ev_c (ev_t rfl)) (by kernel_rfl))) ?_
              refine Hops.one 9 rfl (by kernel_rfl) (One.storeN (vs := [_, _, _, _, _]) F33 8 rfl sz26 rfl rfl rfl (ev_t rfl) (ev_t rfl) rfl rfl rfl ?_)
              intro w32 F34
              refine ⟨((((((F34.erase 8).erase 7).erase 6).erase 3).erase 2).erase 1).drop1, ?_⟩
              change Fr _ _ [_, _, _, _, blk _ _ [_, _, _, _, _], _, _, blk _ _ [_, _, _, _, _], blk _ _ [_, _, _, _, _]] _ at F34
              refine Hops.one 10 rfl (by kernel_rfl) (One.storeN (vs := [_, _, _, _, _]) F34 7 rfl sz26 rfl rfl rfl (ev_t rfl) (ev_t rfl) rfl rfl rfl ?_)
              intro w33 F35
              refine ⟨((((((F35.erase 8).erase 7).erase 6).erase 3).erase 2).erase 1).drop1, ?_⟩
              change Fr _ _ [_, _, _, _, blk _ _ [_, _, _, _, _], _, _, blk _ _ [_, _, _, _, _], blk _ _ [_, _, _, _, _]] _ at F35
              refine Hops.nil (by kernel_rfl) fun a hS => ?_
              refine hK9 _ _ ?_ a hS
              refine Cod.ret fun a hS => ?_
              try simp only [Exit.then, Exit.inBlock]
              have q1 := rps1 (X := No) F35 5 rfl
              have q2 := rps1 (X := No) F35 3 rfl
              have q3 := rps1 (X := No) F35 2 rfl
              exact retcc (t := 2) (u := 3) (ty := 26) (ty' := 26) rfl hS ag26 ag26 rfl rfl (F35.range (m := 5) (cs' := [_, _, _, _, _]) 8 rfl rfl) (F35.range (m := 5) (cs' := [_, _, _, _, _]) 7 rfl rfl) rfl rfl ⟨x5 5 0 ⟨#[]⟩ (.slice none 0 0) (.slice (some ⟨b10, 0, none⟩) 1 1), x5 5 0 ⟨#[]⟩ (.slice none 0 0) (.slice (some ⟨b11, 0, none⟩) 2 2), .mk 5 0 ⟨#[]⟩ [] [tx1], .mk 5 0 ⟨#[]⟩ [] [tx1, tz1], rfl, F35.chg, rps_two (rowRep (xs := [x1]) (F35.get 1 rfl) ((F35.dom _ (List.mem_of_getElem? (i := 1) rfl) _ rfl).resolve_left id) (ALF.one q1) (by simp)) (rowRep (xs := [y1, z1]) (F35.get 0 rfl) ((F35.dom _ (List.mem_of_getElem? (i := 0) rfl) _ rfl).resolve_left id) (ALF.two q2 q3) (by simp)), dr_row1 hpx1, dr_row2 hpx1 hpz1⟩
            · skip
              refine (One.storeN (vs := [_, _, _, _, _]) F32 7 rfl sz26 rfl rfl rfl (ev_t rfl) (ev_t rfl) rfl rfl rfl ?_)
              intro w34 F36
              refine ⟨(((((F36.erase 7).erase 6).erase 5).erase 2).erase 1).drop1, ?_⟩
              change Fr _ _ [_, _, _, blk _ _ [_, _, _, _, _], _, _, blk _ _ [_, _, _, _, _], blk _ _ [_, _, _, _, _]] _ at F36
              refine Hops.one 7 rfl (by kernel_rfl) (One.buildSlice (cells := ([y1, z1].flatMap enc5)) F36 sl24 zero26 rfl rfl rfl rfl (evp2 (ev_t rfl) (ev_t rfl)) rfl rfl (by kernel_rfl) ?_)
              intro b12 w35 hb12 F37
              refine ⟨((((((F37.erase 8).erase 7).erase 6).erase 3).erase 2).erase 1).drop1, ?_⟩
              refine Hops.take 8 rfl (by kernel_rfl) (fun _ _ _ h => h) rfl rfl rfl ((((((F37.erase 8).erase 7).erase 6).erase 3).erase 2).erase 1).drop1 (fun w F => (yld_build (cells := [.int .i64 5, .int .i64 0, .string ⟨#[]⟩, .slice none 0 0, .slice (some ⟨b12, 0, none⟩) 2 2]) rfl (evp2 ev_c (ev_t rfl)) (by kernel_rfl))) ?_
              refine Hops.one 10 rfl (by kernel_rfl) (One.storeN (vs := [_, _, _, _, _]) F37 7 rfl sz26 rfl rfl rfl (ev_t rfl) (ev_t rfl) rfl rfl rfl ?_)
              intro w36 F38
              refine ⟨((((((F38.erase 8).erase 7).erase 6).erase 3).erase 2).erase 1).drop1, ?_⟩
              change Fr _ _ [_, _, _, _, blk _ _ [_, _, _, _, _], _, _, blk _ _ [_, _, _, _, _], blk _ _ [_, _, _, _, _]] _ at F38
              refine Hops.nil (by kernel_rfl) fun a hS => ?_
              refine hK9 _ _ ?_ a hS
              refine Cod.ret fun a hS => ?_
              try simp only [Exit.then, Exit.inBlock]
              have q1 := rps1 (X := No) F38 5 rfl
              have q2 := rps1 (X := No) F38 3 rfl
              have q3 := rps1 (X := No) F38 2 rfl
              exact retcc (t := 2) (u := 3) (ty := 26) (ty' := 26) rfl hS ag26 ag26 rfl rfl (F38.range (m := 5) (cs' := [_, _, _, _, _]) 8 rfl rfl) (F38.range (m := 5) (cs' := [_, _, _, _, _]) 7 rfl rfl) rfl rfl ⟨x5 5 0 ⟨#[]⟩ (.slice none 0 0) (.slice (some ⟨b10, 0, none⟩) 1 1), x5 5 0 ⟨#[]⟩ (.slice none 0 0) (.slice (some ⟨b12, 0, none⟩) 2 2), .mk 5 0 ⟨#[]⟩ [] [tx1], .mk 5 0 ⟨#[]⟩ [] [tx1, tz1], rfl, F38.chg, rps_two (rowRep (xs := [x1]) (F38.get 1 rfl) ((F38.dom _ (List.mem_of_getElem? (i := 1) rfl) _ rfl).resolve_left id) (ALF.one q1) (by simp)) (rowRep (xs := [y1, z1]) (F38.get 0 rfl) ((F38.dom _ (List.mem_of_getElem? (i := 0) rfl) _ rfl).resolve_left id) (ALF.two q2 q3) (by simp)), dr_row1 hpx1, dr_row2 hpx1 hpz1⟩
          · skip
            refine (One.buildSlice (cells := ([y1, z1].flatMap enc5)) F31 sl24 zero26 rfl rfl rfl rfl (evp2 (ev_t rfl) (ev_t rfl)) rfl rfl (by kernel_rfl) ?_)
            intro b13 w37 hb13 F39
            refine ⟨(((((F39.erase 7).erase 6).erase 5).erase 2).erase 1).drop1, ?_⟩
            refine Hops.take 8 rfl (by kernel_rfl) (fun _ _ _ h => h) rfl rfl rfl (((((F39.erase 7).erase 6).erase 5).erase 2).erase 1).drop1 (fun w F => (yld_build (cells := [.int .i64 5, .int .i64 0, .string ⟨#[]⟩, .slice none 0 0, .slice (some ⟨b13, 0, none⟩) 2 2]) rfl (evp2 ev_c (ev_t rfl)) (by kernel_rfl))) ?_
            refine Hops.one 1 rfl (by kernel_rfl) (One.buildSlice (cells := (enc5 x1)) F39 sl24 zero26 rfl rfl rfl rfl (evp1 (ev_t rfl)) rfl rfl (by kernel_rfl) ?_)
            intro b14 w38 hb14 F40
            refine ⟨((((((F40.erase 8).erase 7).erase 6).erase 3).erase 2).erase 1).drop1, ?_⟩
            refine Hops.take 2 rfl (by kernel_rfl) (fun _ _ _ h => h) rfl rfl rfl ((((((F40.erase 8).erase 7).erase 6).erase 3).erase 2).erase 1).drop1 (fun w F => (yld_build (cells := [.int .i64 5, .int .i64 0, .string ⟨#[]⟩, .slice none 0 0, .slice (some ⟨b14, 0, none⟩) 1 1]) rfl (evp2 ev_c (ev_t rfl)) (by kernel_rfl))) ?_
            refine Hops.one 9 rfl (by kernel_rfl) (One.storeN (vs := [_, _, _, _, _]) F40 8 rfl sz26 rfl rfl rfl (ev_t rfl) (ev_t rfl) rfl rfl rfl ?_)
            intro w39 F41
            refine ⟨((((((F41.erase 8).erase 7).erase 6).erase 3).erase 2).erase 1).drop1, ?_⟩
            change Fr _ _ [_, _, _, _, blk _ _ [_, _, _, _, _], _, _, blk _ _ [_, _, _, _, _], blk _ _ [_, _, _, _, _]] _ at F41
            refine Hops.one 10 rfl (by kernel_rfl) (One.storeN (vs := [_, _, _, _, _]) F41 7 rfl sz26 rfl rfl rfl (ev_t rfl) (ev_t rfl) rfl rfl rfl ?_)
            intro w40 F42
            refine ⟨((((((F42.erase 8).erase 7).erase 6).erase 3).erase 2).erase 1).drop1, ?_⟩
            change Fr _ _ [_, _, _, _, blk _ _ [_, _, _, _, _], _, _, blk _ _ [_, _, _, _, _], blk _ _ [_, _, _, _, _]] _ at F42
            refine Hops.nil (by kernel_rfl) fun a hS => ?_
            refine hK9 _ _ ?_ a hS
            refine Cod.ret fun a hS => ?_
            try simp only [Exit.then, Exit.inBlock]
            have q1 := rps1 (X := No) F42 5 rfl
            have q2 := rps1 (X := No) F42 3 rfl
            have q3 := rps1 (X := No) F42 2 rfl
            exact retcc (t := 2) (u := 3) (ty := 26) (ty' := 26) rfl hS ag26 ag26 rfl rfl (F42.range (m := 5) (cs' := [_, _, _, _, _]) 8 rfl rfl) (F42.range (m := 5) (cs' := [_, _, _, _, _]) 7 rfl rfl) rfl rfl ⟨x5 5 0 ⟨#[]⟩ (.slice none 0 0) (.slice (some ⟨b14, 0, none⟩) 1 1), x5 5 0 ⟨#[]⟩ (.slice none 0 0) (.slice (some ⟨b13, 0, none⟩) 2 2), .mk 5 0 ⟨#[]⟩ [] [tx1], .mk 5 0 ⟨#[]⟩ [] [tx1, tz1], rfl, F42.chg, rps_two (rowRep (xs := [x1]) (F42.get 0 rfl) ((F42.dom _ (List.mem_of_getElem? (i := 0) rfl) _ rfl).resolve_left id) (ALF.one q1) (by simp)) (rowRep (xs := [y1, z1]) (F42.get 1 rfl) ((F42.dom _ (List.mem_of_getElem? (i := 1) rfl) _ rfl).resolve_left id) (ALF.two q2 q3) (by simp)), dr_row1 hpx1, dr_row2 hpx1 hpz1⟩
    · skip
      refine Cod.skip fun a hS => ?_
      refine hK4 _ _ ?_ a hS
      refine Cod.seq fun K10 hK10 => ?_
      have F43 := F7.drew
      refine Cod.draw (C_of (((F43.erase 4).erase 3).erase 2)) (by kernel_rfl) ?_
      refine Hops.take 0 rfl (by kernel_rfl) (fun _ _ _ h => h) rfl rfl rfl (((F43.erase 4).erase 3).erase 2) (fun w F => (yld_loadN ag26 rfl (ev_t rfl) (fun _ => F.range (m := 5) (cs' := [_, _, _, _, _]) 0 rfl rfl) rfl)) ?_
      refine Hops.take 1 rfl (by kernel_rfl) (fun _ _ _ h => h) rfl rfl rfl (((F43.erase 4).erase 3).erase 2) (fun w F => (yld_move rfl (ev_t rfl))) ?_
      refine Hops.one 2 rfl (by kernel_rfl) (One.call rfl rfl rfl (ent_f rfl (evl1 (ev_t rfl)) (enters en61)) (bent_ct bb cv _ _ (hcode.chg F43.chg) (F43.get 2 rfl) (by omega)) (fun e w41 hw41 => ?_))
      obtain ⟨y2, Gy2, ty2, rfl, C41, hrdy2, hsy2, hby2, hpy2⟩ := hw41
      have F44 := F43.updNew 2 rfl C41 (fun _ hk => hk) (rd bb cv _) hrdy2 (fun _ hk => hk) (sep Gy2 ty2 y2.val) hsy2 hby2
      change Fr _ _ (_ :: [_, _, _, _, _]) _ at F44
      refine ⟨_, rfl, ?_⟩
      refine ⟨(((F44.erase 5).erase 4).erase 3).drop1, ?_⟩
      refine Hops.one 3 rfl (by kernel_rfl) (One.storeN (vs := [_, _, _, _, _]) F44 5 rfl sz26 rfl rfl rfl (ev_t rfl) (ev_t rfl) rfl rfl (Sep.one (x := x1) (F44.get 2 rfl)) ?_)
      intro w42 F45
      refine ⟨(((F45.erase 5).erase 4).erase 3).drop1, ?_⟩
      change Fr _ _ [_, blk _ _ [_, _, _, _, _], _, _, blk _ _ [_, _, _, _, _], blk _ _ [_, _, _, _, _]] _ at F45
      refine Hops.one 4 rfl (by kernel_rfl) (One.storeN (vs := [_, _, _, _, _]) F45 4 rfl sz26 rfl rfl rfl (ev_t rfl) (ev_t rfl) rfl rfl (Sep.one (x := y2) (F45.get 0 rfl)) ?_)
      intro w43 F46
      refine ⟨(((F46.erase 5).erase 4).erase 3).drop1, ?_⟩
      change Fr _ _ [_, blk _ _ [_, _, _, _, _], _, _, blk _ _ [_, _, _, _, _], blk _ _ [_, _, _, _, _]] _ at F46
      refine Hops.nil (by kernel_rfl) fun a hS => ?_
      refine hK10 _ _ ?_ a hS
      refine Cod.ret fun a hS => ?_
      try simp only [Exit.then, Exit.inBlock]
      exact retcc (t := 2) (u := 3) (ty := 26) (ty' := 26) rfl hS ag26 ag26 rfl rfl (F46.range (m := 5) (cs' := [_, _, _, _, _]) 5 rfl rfl) (F46.range (m := 5) (cs' := [_, _, _, _, _]) 4 rfl rfl) rfl rfl ⟨x1, y2, tx1, ty2, rfl, F46.chg, rps_two (rps1 (X := No) F46 2 rfl) (rps1 (X := No) F46 0 rfl), hpx1.dr, hpy2.dr⟩


theorem rps_oneC {G : Nat → Prop} {l : List (Tr × Value)} {w : World} (h : (rps G l).is w) (i : Nat) {t : Tr} {x : V5} (hi : l[i]? = some (t, x.val)) : (enc5 x).all (·.oneCell') = true := V5.one (rps_get h i hi)
theorem rps_weak {G H : Nat → Prop} {l : List (Tr × Value)} {w : World} (h : (rps G l).is w) (hg : ∀ k, G k → H k ∧ k < w.heap.size) : (rps (fun k => H k ∧ k < w.heap.size) l).is w := ⟨fun i t v hi => (h.1 i t v hi).weak fun k hk => hg k hk, fun b hb => hb.2⟩

set_option maxRecDepth 100000 in
theorem drawSame_ct (code : List UInt8) (v : Value) (w : World) (hp : RepE bCells 1 Any w code v) : Calls Try.prog 12 #[v] w (Draw2 w) := by
  refine enter Try.func12 rfl rfl rfl ?_
  have F0 := Fr.start w
  refine Cod.seq fun K1 hK1 => ?_
  refine Cod.region ?_
  refine Ops.step (One.alloc F0 zero26 rfl rfl rfl rfl ?_)
  intro b1 w1 hb1 F1
  change Fr _ _ [blk _ _ [_, _, _, _, _]] _ at F1
  refine Ops.step (One.alloc F1 zero26 rfl rfl rfl rfl ?_)
  intro b2 w2 hb2 F2
  change Fr _ _ [blk _ _ [_, _, _, _, _], blk _ _ [_, _, _, _, _]] _ at F2
  refine Ops.nil fun a hS => ?_
  refine hK1 _ _ ?_ a hS
  refine Cod.seq fun K2 hK2 => ?_
  refine Cod.region ?_
  refine Ops.step (One.val rfl rfl rfl (yld_move rfl (ev_t rfl)) ?_)
  refine Ops.step (One.call rfl rfl rfl (ent_f rfl (evl1 (ev_t rfl)) (enters en46)) (two_ct code v _ (hp.chg F2.chg)) (fun e w3 hw3 => ?_))
  obtain ⟨x, y, t, u, rfl, C3, hrs, ht, hu⟩ := hw3
  have F3 := F2.new C3 (rps (New w2 w3) [(t, x.val), (u, y.val)]) hrs New.new
  refine ⟨_, rfl, ?_⟩
  refine Ops.step (One.val rfl rfl rfl (yld_extract rfl (ev_t rfl) rfl) ?_)
  refine Ops.step (One.val rfl rfl rfl (yld_extract rfl (ev_t rfl) rfl) ?_)
  refine Ops.step (One.storeN (vs := [_, _, _, _, _]) F3 2 rfl sz26 rfl rfl rfl (ev_t rfl) (ev_t rfl) rfl rfl (rps_oneC (F3.get 0 rfl) 0 rfl) ?_)
  intro w4 F4
  change Fr _ _ [_, blk _ _ [_, _, _, _, _], blk _ _ [_, _, _, _, _]] _ at F4
  refine Ops.step (One.storeN (vs := [_, _, _, _, _]) F4 1 rfl sz26 rfl rfl rfl (ev_t rfl) (ev_t rfl) rfl rfl (rps_oneC (F4.get 0 rfl) 1 rfl) ?_)
  intro w5 F5
  change Fr _ _ [_, blk _ _ [_, _, _, _, _], blk _ _ [_, _, _, _, _]] _ at F5
  refine Ops.nil fun a hS => ?_
  refine hK2 _ _ ?_ a hS
  refine Cod.ret fun a hS => ?_
  try simp only [Exit.then, Exit.inBlock]
  exact retcc (t := 2) (u := 3) (ty := 26) (ty' := 26) rfl hS ag26 ag26 rfl rfl (F5.range (m := 5) (cs' := [_, _, _, _, _]) 2 rfl rfl) (F5.range (m := 5) (cs' := [_, _, _, _, _]) 1 rfl rfl) rfl rfl ⟨x, y, t, u, rfl, F5.chg, rps_weak (F5.get 0 rfl) (fun k hk => ⟨(F5.dom _ (List.mem_of_getElem? (i := 0) rfl) k hk).resolve_left id, (Res.lt _ _ (F5.get 0 rfl) k hk)⟩), ht, hu⟩

set_option maxRecDepth 100000 in
theorem drawOrder_ct (code : List UInt8) (v : Value) (w : World) (hp : RepE bCells 1 Any w code v) : Calls Try.prog 25 #[v] w (Draw2 w) := by
  refine enter Try.func25 rfl rfl rfl ?_
  have F0 := Fr.start w
  refine Cod.seq fun K1 hK1 => ?_
  refine Cod.region ?_
  refine Ops.step (One.alloc F0 zero26 rfl rfl rfl rfl ?_)
  intro b1 w1 hb1 F1
  change Fr _ _ [blk _ _ [_, _, _, _, _]] _ at F1
  refine Ops.step (One.alloc F1 zero26 rfl rfl rfl rfl ?_)
  intro b2 w2 hb2 F2
  change Fr _ _ [blk _ _ [_, _, _, _, _], blk _ _ [_, _, _, _, _]] _ at F2
  refine Ops.nil fun a hS => ?_
  refine hK1 _ _ ?_ a hS
  refine Cod.seq fun K2 hK2 => ?_
  refine Cod.region ?_
  refine Ops.step (One.val rfl rfl rfl (yld_move rfl (ev_t rfl)) ?_)
  refine Ops.step (One.call rfl rfl rfl (ent_f rfl (evl1 (ev_t rfl)) (enters en46)) (two_ct code v _ (hp.chg F2.chg)) (fun e w3 hw3 => ?_))
  obtain ⟨x, y, t, u, rfl, C3, hrs, ht, hu⟩ := hw3
  have F3 := F2.new C3 (rps (New w2 w3) [(t, x.val), (u, y.val)]) hrs New.new
  refine ⟨_, rfl, ?_⟩
  refine Ops.step (One.val rfl rfl rfl (yld_extract rfl (ev_t rfl) rfl) ?_)
  refine Ops.step (One.val rfl rfl rfl (yld_extract rfl (ev_t rfl) rfl) ?_)
  refine Ops.step (One.storeN (vs := [_, _, _, _, _]) F3 2 rfl sz26 rfl rfl rfl (ev_t rfl) (ev_t rfl) rfl rfl (rps_oneC (F3.get 0 rfl) 0 rfl) ?_)
  intro w4 F4
  change Fr _ _ [_, blk _ _ [_, _, _, _, _], blk _ _ [_, _, _, _, _]] _ at F4
  refine Ops.step (One.storeN (vs := [_, _, _, _, _]) F4 1 rfl sz26 rfl rfl rfl (ev_t rfl) (ev_t rfl) rfl rfl (rps_oneC (F4.get 0 rfl) 1 rfl) ?_)
  intro w5 F5
  change Fr _ _ [_, blk _ _ [_, _, _, _, _], blk _ _ [_, _, _, _, _]] _ at F5
  refine Ops.nil fun a hS => ?_
  refine hK2 _ _ ?_ a hS
  refine Cod.ret fun a hS => ?_
  try simp only [Exit.then, Exit.inBlock]
  exact retcc (t := 2) (u := 3) (ty := 26) (ty' := 26) rfl hS ag26 ag26 rfl rfl (F5.range (m := 5) (cs' := [_, _, _, _, _]) 2 rfl rfl) (F5.range (m := 5) (cs' := [_, _, _, _, _]) 1 rfl rfl) rfl rfl ⟨x, y, t, u, rfl, F5.chg, rps_weak (F5.get 0 rfl) (fun k hk => ⟨(F5.dom _ (List.mem_of_getElem? (i := 0) rfl) k hk).resolve_left id, (Res.lt _ _ (F5.get 0 rfl) k hk)⟩), ht, hu⟩

set_option maxRecDepth 100000 in
theorem drawOk_ct (code : List UInt8) (v : Value) (w : World) (hp : RepE bCells 1 Any w code v) : Calls Try.prog 26 #[v] w (Draw1 w) := by
  refine enter Try.func26 rfl rfl rfl ?_
  have F0 := Fr.start w
  refine Cod.seq fun K1 hK1 => ?_
  refine Cod.region ?_
  refine Ops.step (One.alloc F0 zero26 rfl rfl rfl rfl ?_)
  intro b1 w1 hb1 F1
  change Fr _ _ [blk _ _ [_, _, _, _, _]] _ at F1
  refine Ops.nil fun a hS => ?_
  refine hK1 _ _ ?_ a hS
  refine Cod.seq fun K2 hK2 => ?_
  refine Cod.region ?_
  refine Ops.step (One.val rfl rfl rfl (yld_move rfl (ev_t rfl)) ?_)
  refine Ops.step (One.call rfl rfl rfl (ent_f rfl (evl1 (ev_t rfl)) (enters en52)) (open_ct code v _ (hp.chg F1.chg)) (fun e w2 hw2 => ?_))
  obtain ⟨bb, rfl, C2, hrd0, hbb⟩ := hw2
  obtain ⟨cv, hcv⟩ : ∃ cv, cv = cutv v := ⟨_, rfl⟩
  rw [← hcv] at hrd0
  have hcode : Code bb w cv := by rw [hcv]; exact code_of hp (by have := F1.chg.size; omega)
  have F2 := F1.new C2 (rd bb cv 0) hrd0 (fun k hk => by have h1 : k = bb := hk; subst h1; exact hbb)
  refine ⟨_, rfl, ?_⟩
  refine Ops.step (One.call rfl rfl rfl (ent_f rfl (evl1 (ev_t rfl)) (enters en61)) (bent_ct bb cv _ _ (hcode.chg F2.chg) (F2.get 0 rfl) (by omega)) (fun e w3 hw3 => ?_))
  obtain ⟨x1, Gx1, tx1, rfl, C3, hrdx1, hsx1, hbx1, hpx1⟩ := hw3
  have F3 := F2.updNew 0 rfl C3 (fun _ hk => hk) (rd bb cv _) hrdx1 (fun _ hk => hk) (sep Gx1 tx1 x1.val) hsx1 hbx1
  change Fr _ _ (_ :: [_, _]) _ at F3
  refine ⟨_, rfl, ?_⟩
  refine Ops.step (One.storeN (vs := [_, _, _, _, _]) F3 2 rfl sz26 rfl rfl rfl (ev_t rfl) (ev_t rfl) rfl rfl hsx1.one ?_)
  intro w4 F4
  change Fr _ _ [_, _, blk _ _ [_, _, _, _, _]] _ at F4
  refine Ops.nil fun a hS => ?_
  refine hK2 _ _ ?_ a hS
  refine Cod.ret fun a hS => ?_
  try simp only [Exit.then, Exit.inBlock]
  exact retc (t := 2) (ty := 26) rfl hS ag26 rfl (F4.range (m := 5) (cs' := [_, _, _, _, _]) 2 rfl rfl) rfl ⟨x1, tx1, rfl, F4.chg, rps_one (rps1 (X := No) F4 0 rfl), hpx1.dr⟩

set_option maxRecDepth 100000 in
theorem drawEach_ct (code : List UInt8) (v : Value) (w : World) (hp : RepE bCells 1 Any w code v) : Calls Try.prog 34 #[v] w (Draw1 w) := by
  refine enter Try.func34 rfl rfl rfl ?_
  have F0 := Fr.start w
  refine Cod.seq fun K1 hK1 => ?_
  refine Cod.region ?_
  refine Ops.step (One.alloc F0 zero26 rfl rfl rfl rfl ?_)
  intro b1 w1 hb1 F1
  change Fr _ _ [blk _ _ [_, _, _, _, _]] _ at F1
  refine Ops.nil fun a hS => ?_
  refine hK1 _ _ ?_ a hS
  refine Cod.seq fun K2 hK2 => ?_
  refine Cod.region ?_
  refine Ops.step (One.val rfl rfl rfl (yld_move rfl (ev_t rfl)) ?_)
  refine Ops.step (One.call rfl rfl rfl (ent_f rfl (evl1 (ev_t rfl)) (enters en52)) (open_ct code v _ (hp.chg F1.chg)) (fun e w2 hw2 => ?_))
  obtain ⟨bb, rfl, C2, hrd0, hbb⟩ := hw2
  obtain ⟨cv, hcv⟩ : ∃ cv, cv = cutv v := ⟨_, rfl⟩
  rw [← hcv] at hrd0
  have hcode : Code bb w cv := by rw [hcv]; exact code_of hp (by have := F1.chg.size; omega)
  have F2 := F1.new C2 (rd bb cv 0) hrd0 (fun k hk => by have h1 : k = bb := hk; subst h1; exact hbb)
  refine ⟨_, rfl, ?_⟩
  refine Ops.step (One.call rfl rfl rfl (ent_f rfl (evl1 (ev_t rfl)) (enters en61)) (bent_ct bb cv _ _ (hcode.chg F2.chg) (F2.get 0 rfl) (by omega)) (fun e w3 hw3 => ?_))
  obtain ⟨x1, Gx1, tx1, rfl, C3, hrdx1, hsx1, hbx1, hpx1⟩ := hw3
  have F3 := F2.updNew 0 rfl C3 (fun _ hk => hk) (rd bb cv _) hrdx1 (fun _ hk => hk) (sep Gx1 tx1 x1.val) hsx1 hbx1
  change Fr _ _ (_ :: [_, _]) _ at F3
  refine ⟨_, rfl, ?_⟩
  refine Ops.step (One.storeN (vs := [_, _, _, _, _]) F3 2 rfl sz26 rfl rfl rfl (ev_t rfl) (ev_t rfl) rfl rfl hsx1.one ?_)
  intro w4 F4
  change Fr _ _ [_, _, blk _ _ [_, _, _, _, _]] _ at F4
  refine Ops.nil fun a hS => ?_
  refine hK2 _ _ ?_ a hS
  refine Cod.ret fun a hS => ?_
  try simp only [Exit.then, Exit.inBlock]
  exact retc (t := 2) (ty := 26) rfl hS ag26 rfl (F4.range (m := 5) (cs' := [_, _, _, _, _]) 2 rfl rfl) rfl ⟨x1, tx1, rfl, F4.chg, rps_one (rps1 (X := No) F4 0 rfl), hpx1.dr⟩

set_option maxRecDepth 100000 in
theorem drawFlat_ct (code : List UInt8) (v : Value) (w : World) (hp : RepE bCells 1 Any w code v) : Calls Try.prog 17 #[v] w (Draw1 w) := by
  refine enter Try.func17 rfl rfl rfl ?_
  have F0 := Fr.start w
  refine Cod.seq fun K1 hK1 => ?_
  refine Cod.region ?_
  refine Ops.step (One.alloc F0 zero26 rfl rfl rfl rfl ?_)
  intro b1 w1 hb1 F1
  change Fr _ _ [blk _ _ [_, _, _, _, _]] _ at F1
  refine Ops.nil fun a hS => ?_
  refine hK1 _ _ ?_ a hS
  refine Cod.seq fun K2 hK2 => ?_
  refine Cod.region ?_
  refine Ops.step (One.val rfl rfl rfl (yld_move rfl (ev_t rfl)) ?_)
  refine Ops.step (One.call rfl rfl rfl (ent_f rfl (evl1 (ev_t rfl)) (enters en52)) (open_ct code v _ (hp.chg F1.chg)) (fun e w2 hw2 => ?_))
  obtain ⟨bb, rfl, C2, hrd0, hbb⟩ := hw2
  obtain ⟨cv, hcv⟩ : ∃ cv, cv = cutv v := ⟨_, rfl⟩
  rw [← hcv] at hrd0
  have hcode : Code bb w cv := by rw [hcv]; exact code_of hp (by have := F1.chg.size; omega)
  have F2 := F1.new C2 (rd bb cv 0) hrd0 (fun k hk => by have h1 : k = bb := hk; subst h1; exact hbb)
  refine ⟨_, rfl, ?_⟩
  refine Ops.step (One.call rfl rfl rfl (ent_f rfl (evl1 (ev_t rfl)) (enters en51)) (rowDraw_ct bb cv _ _ (hcode.chg F2.chg) (F2.get 0 rfl) (by omega)) (fun e w3 hw3 => ?_))
  obtain ⟨x1, Gx1, tx1, rfl, C3, hrdx1, hsx1, hbx1, hpx1⟩ := hw3
  have F3 := F2.updNew 0 rfl C3 (fun _ hk => hk) (rd bb cv _) hrdx1 (fun _ hk => hk) (sep Gx1 tx1 x1.val) hsx1 hbx1
  change Fr _ _ (_ :: [_, _]) _ at F3
  refine ⟨_, rfl, ?_⟩
  refine Ops.step (One.storeN (vs := [_, _, _, _, _]) F3 2 rfl sz26 rfl rfl rfl (ev_t rfl) (ev_t rfl) rfl rfl hsx1.one ?_)
  intro w4 F4
  change Fr _ _ [_, _, blk _ _ [_, _, _, _, _]] _ at F4
  refine Ops.nil fun a hS => ?_
  refine hK2 _ _ ?_ a hS
  refine Cod.ret fun a hS => ?_
  try simp only [Exit.then, Exit.inBlock]
  exact retc (t := 2) (ty := 26) rfl hS ag26 rfl (F4.range (m := 5) (cs' := [_, _, _, _, _]) 2 rfl rfl) rfl ⟨x1, tx1, rfl, F4.chg, rps_one (rps1 (X := No) F4 0 rfl), hpx1⟩

end Go.Proofs.Ytphchpbfhcniaaa.Eng
