/- Walks of the functions that draw a law's trees out of bytes. -/
import Derived.Test.YtpfkcblhojkaiaaDoorDraw2
import Derived.Test.YtpfkcblhojkaiaaDoorPairs
namespace Go.Proofs.YtpfkcblhojkaiaaDoor.Eng
open Go.RowKit
set_option linter.unusedVariables false
set_option linter.unusedSimpArgs false
set_option maxHeartbeats 1000000


/-- The part of the bytes that a reader takes. -/
def cutv : Value → Value
  | .slice A m c => if 2000 < m then sliced A 0 2000 c 1 else .slice A m c
  | v => v
theorem cutv_slice (A : Option Addr) (m c : Nat) : cutv (.slice A m c) = if 2000 < m then sliced A 0 2000 c 1 else .slice A m c := rfl
theorem RepE.pre {α : Type} {enc : α → List Value} {F : Nat → Prop} {w : World} {xs : List α} {A : Option Addr} {m c : Nat} (h : RepE enc 1 F w xs (.slice A m c)) (k : Nat) (hk : k ≤ xs.length) : RepE enc 1 F w (xs.take k) (sliced A 0 k c 1) := by
  obtain ⟨A', c', e, h2, h3, h4⟩ := h
  obtain ⟨rfl, rfl, rfl⟩ : A = A' ∧ m = xs.length ∧ c = c' := by simpa using e
  have hl : (xs.take k).length = k := by simp; omega
  refine ⟨if c = 0 then A else A.map (·.add (0 * 1)), c, by rw [hl]; rfl, by rw [hl]; omega, h3, fun hn => ?_⟩
  have hx : xs ≠ [] := fun e => by subst e; simp at hn
  obtain ⟨b, o, rfl, hF, hr⟩ := h4 hx
  have hp : 0 < xs.length := List.length_pos_iff.2 hx
  refine ⟨b, o, ?_, hF, fun i hi => ?_⟩
  · rw [if_neg (by omega), Option.map_some, Addr.add_mid]; rfl
  · rw [List.getElem_take]
    exact hr i (by rw [hl] at hi; omega)
theorem code_of {code : List UInt8} {v : Value} {w : World} {b : Nat} (hp : RepE bCells 1 Any w code v) (hb : w.heap.size ≤ b) : Code b w (cutv v) := by
  have ho := (hp.old fun x => by simp [bCells]).weak (G := fun k => k ≠ b) fun k hk e => by subst e; omega
  obtain ⟨A, c, rfl, -⟩ := hp.open
  rw [cutv_slice]
  split
  · rename_i h; exact ⟨_, ho.pre 2000 (by omega)⟩
  · exact ⟨_, ho⟩

set_option maxRecDepth 100000 in
theorem open_ct (code : List UInt8) (v : Value) (w : World) (hp : RepE bCells 1 Any w code v) : Calls Tryd.prog 66 #[v] w fun e w' => ∃ b, e = .returned (.pointer (some ⟨b, 0, none⟩)) ∧ Chg No w w' ∧ (rd b (cutv v) 0).is w' ∧ w.heap.size ≤ b := by
  obtain ⟨A, c, hv, hnc, hcm, hcl⟩ := id hp
  subst hv
  obtain ⟨A2, m2, c2, hcut⟩ : ∃ A2 m2 c2, cutv (.slice A code.length c) = .slice A2 m2 c2 := by
    rw [cutv_slice]
    split
    · exact ⟨_, _, _, rfl⟩
    · exact ⟨_, _, _, rfl⟩
  refine enter Tryd.func66 rfl rfl rfl ?_
  have F0 := Fr.start w
  refine Cod.seq fun K1 hK1 => ?_
  refine Cod.region ?_
  refine Ops.step (One.val rfl rfl rfl (yld_assign rfl ev_c) ?_)
  refine Ops.nil fun a hS => ?_
  refine hK1 _ _ ?_ a hS
  refine Cod.seq fun K2 hK2 => ?_
  refine Cod.seq fun K3 hK3 => ?_
  refine Cod.region ?_
  refine Ops.step (One.val rfl rfl rfl (yld_move rfl (ev_t rfl)) ?_)
  refine Ops.step (One.val rfl rfl rfl (yld_len sl57 rfl (ev_t rfl)) ?_)
  refine Ops.step (One.val rfl rfl rfl (yld_gtr rfl (ev_t rfl) ev_c) ?_)
  refine Ops.nil fun a hS => ?_
  refine hK3 _ _ ?_ a hS
  refine Cod.cond rfl (fun hc5 => ?_) (fun hc5 => ?_)
  · skip
    have h2 : 2000 < code.length := by simp at hc5; omega
    have hcv : sliced A 0 2000 c 1 = .slice A2 m2 c2 := by rw [← hcut, cutv_slice, if_pos h2]
    refine Cod.region ?_
    refine Ops.step (One.val rfl rfl rfl (yld_move rfl (ev_t rfl)) ?_)
    refine Ops.step (One.val rfl rfl rfl (yld_slcH 2000 sl57 rfl (ev_t rfl) ev_c rfl (by omega)) ?_)
    refine Ops.step (One.val rfl rfl rfl (yld_assign rfl (ev_t rfl)) ?_)
    refine Ops.nil fun a hS => ?_
    refine hK2 _ _ ?_ a hS
    refine Cod.seq fun K4 hK4 => ?_
    try rw [hcv]
    refine Cod.region ?_
    refine Ops.step (One.val rfl rfl rfl (yld_move rfl (ev_t rfl)) ?_)
    refine Ops.step (One.val rfl rfl rfl (yld_build (cells := [.slice A2 m2 c2, .int .i64 0]) rfl (evp1 (ev_t rfl)) (by kernel_rfl)) ?_)
    refine Ops.step (One.box F0 rfl rfl rfl rfl (ev_t rfl) ?_)
    intro b1 w1 hb1 F1
    change Fr _ _ [blk _ _ [_, _]] _ at F1
    refine Ops.step (One.val rfl rfl rfl (yld_assign rfl (ev_t rfl)) ?_)
    refine Ops.nil fun a hS => ?_
    refine hK4 _ _ ?_ a hS
    refine Cod.ret fun a hS => ?_
    try simp only [Exit.then, Exit.inBlock]
    rw [hcut]
    exact ret1 (t := 2) rfl hS rfl ⟨_, rfl, F1.chg, ⟨0, Nat.le_refl _, F1.get 0 rfl⟩, (F1.dom _ (List.mem_cons_self ..) _ rfl).resolve_left id⟩
  · skip
    have h2 : ¬ 2000 < code.length := by simp at hc5; omega
    have hcv : (Value.slice A code.length c) = .slice A2 m2 c2 := by rw [← hcut, cutv_slice, if_neg h2]
    refine Cod.skip fun a hS => ?_
    refine hK2 _ _ ?_ a hS
    refine Cod.seq fun K5 hK5 => ?_
    try rw [hcv]
    refine Cod.region ?_
    refine Ops.step (One.val rfl rfl rfl (yld_move rfl (ev_t rfl)) ?_)
    refine Ops.step (One.val rfl rfl rfl (yld_build (cells := [.slice A2 m2 c2, .int .i64 0]) rfl (evp1 (ev_t rfl)) (by kernel_rfl)) ?_)
    refine Ops.step (One.box F0 rfl rfl rfl rfl (ev_t rfl) ?_)
    intro b2 w2 hb2 F2
    change Fr _ _ [blk _ _ [_, _]] _ at F2
    refine Ops.step (One.val rfl rfl rfl (yld_assign rfl (ev_t rfl)) ?_)
    refine Ops.nil fun a hS => ?_
    refine hK5 _ _ ?_ a hS
    refine Cod.ret fun a hS => ?_
    try simp only [Exit.then, Exit.inBlock]
    rw [hcut]
    exact ret1 (t := 2) rfl hS rfl ⟨_, rfl, F2.chg, ⟨0, Nat.le_refl _, F2.get 0 rfl⟩, (F2.dom _ (List.mem_cons_self ..) _ rfl).resolve_left id⟩


/-- Trees in memory that nobody writes. -/
def rps (G : Nat → Prop) (l : List (Tr × Value)) : Res := ⟨G, fun w => (∀ (i : Nat) (t : Tr) (v : Value), l[i]? = some (t, v) → Rep G w t v) ∧ ∀ b, G b → b < w.heap.size,
  fun w w' h hi => ⟨fun i t v hv => (hi.1 i t v hv).keep h, lt_keep hi.2 h⟩, fun w hi k hk => hi.2 k hk⟩
theorem rps_get {G : Nat → Prop} {l : List (Tr × Value)} {w : World} (h : (rps G l).is w) (i : Nat) {t : Tr} {v : Value} (hi : l[i]? = some (t, v)) : Rep Any w t v := (h.1 i t v hi).weak fun _ _ => trivial
/-- New blocks between two worlds. -/
def New (w w' : World) (k : Nat) : Prop := w.heap.size ≤ k ∧ k < w'.heap.size
theorem rps1 {w0 w : World} {X : Nat → Prop} {L : List Res} {G : Nat → Prop} {t : Tr} {v : Value} (F : Fr No w0 L w) (i : Nat) (hi : L[i]? = some (sep G t v)) : Rep (New w0 w) w t v := by
  have h : Sep w G t v := F.get i hi
  exact h.repF.weak fun k hk => ⟨(F.dom _ (List.mem_of_getElem? hi) k hk).resolve_left id, h.lt k hk⟩
theorem rpsOf {w0 w : World} {l : List (Tr × Value)} (h : ∀ (i : Nat) (t : Tr) (v : Value), l[i]? = some (t, v) → Rep (New w0 w) w t v) : (rps (New w0 w) l).is w := ⟨h, fun b hb => hb.2⟩
theorem rps_one {w0 w : World} {t : Tr} {v : Value} (h : Rep (New w0 w) w t v) : (rps (New w0 w) [(t, v)]).is w := rpsOf fun i t' v' hi => by
  rcases i with _ | i
  · obtain ⟨rfl, rfl⟩ : t = t' ∧ v = v' := by simpa using hi
    exact h
  · simp at hi
theorem rps_two {w0 w : World} {t u : Tr} {v x : Value} (h : Rep (New w0 w) w t v) (h' : Rep (New w0 w) w u x) : (rps (New w0 w) [(t, v), (u, x)]).is w := rpsOf fun i t' v' hi => by
  rcases i with _ | _ | i
  · obtain ⟨rfl, rfl⟩ : t = t' ∧ v = v' := by simpa using hi
    exact h
  · obtain ⟨rfl, rfl⟩ : u = t' ∧ x = v' := by simpa using hi
    exact h'
  · simp at hi
/-- What a function gives that draws one tree, or two. -/
def Draw1 (w : World) (e : Ending) (w' : World) : Prop := ∃ (x : V5) (t : Tr), e = .returned x.val ∧ Chg No w w' ∧ (rps (New w w') [(t, x.val)]).is w' ∧ Dr t
def Draw2 (w : World) (e : Ending) (w' : World) : Prop := ∃ (x y : V5) (t u : Tr), e = .returned (.tuple #[x.val, y.val]) ∧ Chg No w w' ∧ (rps (New w w') [(t, x.val), (u, y.val)]).is w' ∧ Dr t ∧ Dr u
theorem New.new {w w' : World} : ∀ k, New w w' k → w.heap.size ≤ k := fun k h => h.1
theorem rowRep {w0 w : World} {rs : List Tr} {xs : List V5} {b ty : Nat} {k : Int} (hb : (blk b ty (xs.flatMap enc5)).is w) (hn : w0.heap.size ≤ b) (ha : ALF (New w0 w) w rs xs) (hc : xs.length ≤ 9223372036854775807) : Rep (New w0 w) w (.mk k 0 ⟨#[]⟩ [] rs) (x5 k 0 ⟨#[]⟩ (.slice none 0 0) (.slice (some ⟨b, 0, none⟩) xs.length xs.length)).val :=
  Rep.close (RepE.nil _ _) (repL_ofE ((blk_rep (enc := enc5) (sz := 5) (fun _ => rfl) hb (Nat.le_refl _) hc).weak fun k hk => by subst hk; exact ⟨hn, blk_lt hb⟩) ha)
theorem ALF.one {F : Nat → Prop} {w : World} {t : Tr} {x : V5} (h : Rep F w t x.val) : ALF F w [t] [x] := ⟨rfl, fun j h1 h2 => by
  obtain rfl : j = 0 := by simp at h1; exact h1
  exact h⟩
theorem ALF.two {F : Nat → Prop} {w : World} {t u : Tr} {x y : V5} (h : Rep F w t x.val) (h' : Rep F w u y.val) : ALF F w [t, u] [x, y] := ⟨rfl, fun j h1 h2 => by
  rcases (by simp at h1; omega : j = 0 ∨ j = 1) with rfl | rfl
  · exact h
  · exact h'⟩
theorem dr_row1 {t : Tr} (h : BentT t) : Dr (.mk 5 0 ⟨#[]⟩ [] [t]) := by
  refine ⟨.mk (by decide) (by simp) fun x hx => ?_, by rw [wrap_wt]; have := h.wt; omega, by show 1 ≤ 5; omega⟩
  obtain rfl := List.mem_singleton.1 hx; exact h.fit
theorem dr_row2 {t u : Tr} (h : BentT t) (h' : LeafT u) : Dr (.mk 5 0 ⟨#[]⟩ [] [t, u]) := by
  refine ⟨.mk (by decide) (by simp) fun x hx => ?_, ?_, by show 2 ≤ 5; omega⟩
  · rcases (by simpa using hx : x = t ∨ x = u) with rfl | rfl
    · exact h.fit
    · exact h'.fit
  · rw [row_wt, sumN_cons, sumN_cons]
    have h1 := h.wt
    have h2 := h'.wt
    show 2 + (t.wt + (u.wt + 0)) ≤ _
    omega


theorem rps_oneC {G : Nat → Prop} {l : List (Tr × Value)} {w : World} (h : (rps G l).is w) (i : Nat) {t : Tr} {x : V5} (hi : l[i]? = some (t, x.val)) : (enc5 x).all (·.oneCell') = true := V5.one (rps_get h i hi)
theorem rps_weak {G H : Nat → Prop} {l : List (Tr × Value)} {w : World} (h : (rps G l).is w) (hg : ∀ k, G k → H k ∧ k < w.heap.size) : (rps (fun k => H k ∧ k < w.heap.size) l).is w := ⟨fun i t v hi => (h.1 i t v hi).weak fun k hk => hg k hk, fun b hb => hb.2⟩

set_option maxRecDepth 100000 in
theorem drawOk_ct (code : List UInt8) (v : Value) (w : World) (hp : RepE bCells 1 Any w code v) : Calls Tryd.prog 34 #[v] w (Draw1 w) := by
  refine enter Tryd.func34 rfl rfl rfl ?_
  have F0 := Fr.start w
  refine Cod.seq fun K1 hK1 => ?_
  refine Cod.region ?_
  refine Ops.step (One.alloc F0 zero33 rfl rfl rfl rfl ?_)
  intro b1 w1 hb1 F1
  change Fr _ _ [blk _ _ [_, _, _, _, _]] _ at F1
  refine Ops.nil fun a hS => ?_
  refine hK1 _ _ ?_ a hS
  refine Cod.seq fun K2 hK2 => ?_
  refine Cod.region ?_
  refine Ops.step (One.val rfl rfl rfl (yld_move rfl (ev_t rfl)) ?_)
  refine Ops.step (One.call rfl rfl rfl (ent_f rfl (evl1 (ev_t rfl)) (enters en66)) (open_ct code v _ (hp.chg F1.chg)) (fun e w2 hw2 => ?_))
  obtain ⟨bb, rfl, C2, hrd0, hbb⟩ := hw2
  obtain ⟨cv, hcv⟩ : ∃ cv, cv = cutv v := ⟨_, rfl⟩
  rw [← hcv] at hrd0
  have hcode : Code bb w cv := by rw [hcv]; exact code_of hp (by have := F1.chg.size; omega)
  have F2 := F1.new C2 (rd bb cv 0) hrd0 (fun k hk => by have h1 : k = bb := hk; subst h1; exact hbb)
  refine ⟨_, rfl, ?_⟩
  refine Ops.step (One.call rfl rfl rfl (ent_f rfl (evl1 (ev_t rfl)) (enters en72)) (bent_ct bb cv _ _ (hcode.chg F2.chg) (F2.get 0 rfl) (by omega)) (fun e w3 hw3 => ?_))
  obtain ⟨x1, Gx1, tx1, rfl, C3, hrdx1, hsx1, hbx1, hpx1⟩ := hw3
  have F3 := F2.updNew 0 rfl C3 (fun _ hk => hk) (rd bb cv _) hrdx1 (fun _ hk => hk) (sep Gx1 tx1 x1.val) hsx1 hbx1
  change Fr _ _ (_ :: [_, _]) _ at F3
  refine ⟨_, rfl, ?_⟩
  refine Ops.step (One.storeN (vs := [_, _, _, _, _]) F3 2 rfl sz33 rfl rfl rfl (ev_t rfl) (ev_t rfl) rfl rfl hsx1.one ?_)
  intro w4 F4
  change Fr _ _ [_, _, blk _ _ [_, _, _, _, _]] _ at F4
  refine Ops.nil fun a hS => ?_
  refine hK2 _ _ ?_ a hS
  refine Cod.ret fun a hS => ?_
  try simp only [Exit.then, Exit.inBlock]
  exact retc (t := 2) (ty := 33) rfl hS ag33 rfl (F4.range (m := 5) (cs' := [_, _, _, _, _]) 2 rfl rfl) rfl ⟨x1, tx1, rfl, F4.chg, rps_one (rps1 (X := No) F4 0 rfl), hpx1.dr⟩

set_option maxRecDepth 100000 in
theorem drawMany_ct (code : List UInt8) (v : Value) (w : World) (hp : RepE bCells 1 Any w code v) : Calls Tryd.prog 35 #[v] w (Draw1 w) := by
  refine enter Tryd.func35 rfl rfl rfl ?_
  have F0 := Fr.start w
  refine Cod.seq fun K1 hK1 => ?_
  refine Cod.region ?_
  refine Ops.step (One.alloc F0 zero33 rfl rfl rfl rfl ?_)
  intro b1 w1 hb1 F1
  change Fr _ _ [blk _ _ [_, _, _, _, _]] _ at F1
  refine Ops.nil fun a hS => ?_
  refine hK1 _ _ ?_ a hS
  refine Cod.seq fun K2 hK2 => ?_
  refine Cod.region ?_
  refine Ops.step (One.val rfl rfl rfl (yld_move rfl (ev_t rfl)) ?_)
  refine Ops.step (One.call rfl rfl rfl (ent_f rfl (evl1 (ev_t rfl)) (enters en66)) (open_ct code v _ (hp.chg F1.chg)) (fun e w2 hw2 => ?_))
  obtain ⟨bb, rfl, C2, hrd0, hbb⟩ := hw2
  obtain ⟨cv, hcv⟩ : ∃ cv, cv = cutv v := ⟨_, rfl⟩
  rw [← hcv] at hrd0
  have hcode : Code bb w cv := by rw [hcv]; exact code_of hp (by have := F1.chg.size; omega)
  have F2 := F1.new C2 (rd bb cv 0) hrd0 (fun k hk => by have h1 : k = bb := hk; subst h1; exact hbb)
  refine ⟨_, rfl, ?_⟩
  refine Ops.step (One.call rfl rfl rfl (ent_f rfl (evl1 (ev_t rfl)) (enters en72)) (bent_ct bb cv _ _ (hcode.chg F2.chg) (F2.get 0 rfl) (by omega)) (fun e w3 hw3 => ?_))
  obtain ⟨x1, Gx1, tx1, rfl, C3, hrdx1, hsx1, hbx1, hpx1⟩ := hw3
  have F3 := F2.updNew 0 rfl C3 (fun _ hk => hk) (rd bb cv _) hrdx1 (fun _ hk => hk) (sep Gx1 tx1 x1.val) hsx1 hbx1
  change Fr _ _ (_ :: [_, _]) _ at F3
  refine ⟨_, rfl, ?_⟩
  refine Ops.step (One.storeN (vs := [_, _, _, _, _]) F3 2 rfl sz33 rfl rfl rfl (ev_t rfl) (ev_t rfl) rfl rfl hsx1.one ?_)
  intro w4 F4
  change Fr _ _ [_, _, blk _ _ [_, _, _, _, _]] _ at F4
  refine Ops.nil fun a hS => ?_
  refine hK2 _ _ ?_ a hS
  refine Cod.ret fun a hS => ?_
  try simp only [Exit.then, Exit.inBlock]
  exact retc (t := 2) (ty := 33) rfl hS ag33 rfl (F4.range (m := 5) (cs' := [_, _, _, _, _]) 2 rfl rfl) rfl ⟨x1, tx1, rfl, F4.chg, rps_one (rps1 (X := No) F4 0 rfl), hpx1.dr⟩

end Go.Proofs.YtpfkcblhojkaiaaDoor.Eng
