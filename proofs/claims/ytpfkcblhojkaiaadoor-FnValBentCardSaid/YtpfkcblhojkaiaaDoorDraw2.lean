/- Walks of what draws trees that are ok, bent ones, rows, and pairs of trees. -/
import Derived.Test.YtpfkcblhojkaiaaDoorDraw1
namespace Go.Proofs.YtpfkcblhojkaiaaDoor.Eng
open Go.RowKit
set_option linter.unusedVariables false
set_option linter.unusedSimpArgs false
set_option maxHeartbeats 1000000

set_option maxRecDepth 100000 in
theorem some_ct (bb : Nat) (cv : Value) (lim : Nat) (w : World) (hcode : Code bb w cv) (hr : (rd bb cv lim).is w) (hlim : lim + 1200 ≤ 1099511627776) :
    Calls Tryd.prog 67 #[.pointer (some ⟨bb, 0, none⟩)] w (Drew bb cv (lim + 1200) w SomeT) := by
  refine enter Tryd.func67 rfl rfl rfl ?_
  have F0 := Fr.lend (rd bb cv lim) hr
  refine Cod.seq fun K1 hK1 => ?_
  refine Cod.region ?_
  refine Ops.step (One.alloc F0 zero33 rfl rfl rfl rfl ?_)
  intro b1 w1 hb1 F1
  change Fr _ _ [blk _ _ [_, _, _, _, _], _] _ at F1
  refine Ops.nil fun a hS => ?_
  refine hK1 _ _ ?_ a hS
  refine Cod.seq fun K2 hK2 => ?_
  refine Cod.region ?_
  refine Ops.step (One.val rfl rfl rfl (yld_move rfl (ev_t rfl)) ?_)
  refine Ops.step (One.val rfl rfl rfl (yld_move rfl (ev_t rfl)) ?_)
  refine Ops.step (One.call rfl rfl rfl (ent_f rfl (evl2 (ev_t rfl) ev_c) (enters en95)) (pick_ct 4 bb cv _ _ (hcode.keep F1.chg) (F1.get 1 rfl) (by omega) (by omega)) (fun e w2 hw2 => ?_))
  obtain ⟨r1, rfl, C2, hrdr1, hr1⟩ := hw2
  have F2 := F1.upd 1 rfl C2 (fun _ hk => .inl hk) (rd bb cv _) hrdr1 (fun _ hk => .inl hk)
  change Fr _ _ [_, _] _ at F2
  refine ⟨_, rfl, ?_⟩
  refine Ops.step (One.val rfl rfl rfl (yld_add rfl ev_c (ev_t rfl) (fun _ => by omega)) ?_)
  refine Ops.step (One.call rfl rfl rfl (ent_f rfl (evl2 (ev_t rfl) (ev_t rfl)) (enters en94)) (val_ct (r1 + 1) (1 + (r1 : Int)) bb cv _ _ (by omega) (hcode.keep F2.chg) (F2.get 1 rfl) (by omega) (by have := pk_le4 (d := r1 + 1) (by omega); omega)) (fun e w3 hw3 => ?_))
  obtain ⟨x1, Gx1, tx1, rfl, C3, hrdx1, hsx1, hbx1, hpx1⟩ := hw3
  have F3 := F2.updNew 1 rfl C3 (fun _ hk => hk) (rd bb cv _) hrdx1 (fun _ hk => hk) (sep Gx1 tx1 x1.val) hsx1 hbx1
  change Fr _ _ (_ :: [_, _]) _ at F3
  refine ⟨_, rfl, ?_⟩
  refine Ops.step (One.alloc F3 zero33 rfl rfl rfl rfl ?_)
  intro b2 w4 hb2 F4
  change Fr _ _ [blk _ _ [_, _, _, _, _], _, blk _ _ [_, _, _, _, _], _] _ at F4
  refine Ops.step (One.storeN (vs := [_, _, _, _, _]) F4 0 rfl sz33 rfl rfl rfl (ev_t rfl) (ev_t rfl) rfl rfl hsx1.one ?_)
  intro w5 F5
  change Fr _ _ [blk _ _ [_, _, _, _, _], _, blk _ _ [_, _, _, _, _], _] _ at F5
  refine Ops.nil fun a hS => ?_
  refine hK2 _ _ ?_ a hS
  refine Cod.seq fun K3 hK3 => ?_
  refine Cod.seq fun K4 hK4 => ?_
  have hpk4 := pk_le4 (d := r1 + 1) (by omega)
  have hvw4 := vw_le4 (d := r1 + 1) (by omega)
  have hwx := hpx1.wt
  have hlx := hpx1.len
  refine Cod.region ?_
  refine Ops.step (One.val rfl rfl rfl (yld_loadN ag33 rfl (ev_t rfl) (fun _ => F5.range (m := 5) (cs' := [_, _, _, _, _]) 0 rfl rfl) rfl) ?_)
  refine Ops.step (One.call rfl rfl rfl (ent_f rfl (evl1 (ev_t rfl)) (enters en37)) (specOk_ct tx1 _ _ (F5.get 1 rfl).rep hpx1.fit (by omega)) (fun e w6 hw6 => ?_))
  obtain ⟨rfl, C6⟩ := hw6
  have F6 := F5.call C6
  refine ⟨_, rfl, ?_⟩
  refine Ops.step (One.val rfl rfl rfl (yld_not rfl (ev_t rfl)) ?_)
  refine Ops.nil fun a hS => ?_
  refine hK4 _ _ ?_ a hS
  refine Cod.cond rfl (fun hc11 => ?_) (fun hc11 => ?_)
  · skip
    refine Cod.seq fun K5 hK5 => ?_
    refine Cod.region ?_
    refine Ops.step (One.val rfl rfl rfl (yld_move rfl (ev_t rfl)) ?_)
    refine Ops.step (One.call rfl rfl rfl (ent_f rfl (evl1 (ev_t rfl)) (enters en96)) (leaf_ct bb cv _ _ (hcode.keep F6.chg) (F6.get 3 rfl) (by omega)) (fun e w7 hw7 => ?_))
    obtain ⟨x3, Gx3, tx3, rfl, C7, hrdx3, hsx3, hbx3, hpx3⟩ := hw7
    have F7 := F6.updNew 3 rfl C7 (fun _ hk => hk) (rd bb cv _) hrdx3 (fun _ hk => hk) (sep Gx3 tx3 x3.val) hsx3 hbx3
    change Fr _ _ (_ :: [_, _, _, _]) _ at F7
    refine ⟨_, rfl, ?_⟩
    refine Ops.step (One.storeN (vs := [_, _, _, _, _]) F7 3 rfl sz33 rfl rfl rfl (ev_t rfl) (ev_t rfl) rfl rfl hsx3.one ?_)
    intro w8 F8
    change Fr _ _ [_, blk _ _ [_, _, _, _, _], _, blk _ _ [_, _, _, _, _], _] _ at F8
    refine Ops.nil fun a hS => ?_
    refine hK5 _ _ ?_ a hS
    refine Cod.ret fun a hS => ?_
    try simp only [Exit.then, Exit.inBlock]
    have h3 := hpx3.len
    have h4 := hpx3.wt
    exact retc (t := 2) (ty := 33) rfl hS ag33 rfl (F8.range (m := 5) (cs' := [_, _, _, _, _]) 3 rfl rfl) rfl (Drew.of (x := x3) F8 4 0 rfl rfl (by decide) (by omega) ⟨hpx3.fit, by omega, by omega⟩)
  · skip
    refine Cod.skip fun a hS => ?_
    refine hK3 _ _ ?_ a hS
    refine Cod.seq fun K6 hK6 => ?_
    refine Cod.region ?_
    refine Ops.step (One.val rfl rfl rfl (yld_loadN ag33 rfl (ev_t rfl) (fun _ => F6.range (m := 5) (cs' := [_, _, _, _, _]) 0 rfl rfl) rfl) ?_)
    refine Ops.step (One.storeN (vs := [_, _, _, _, _]) F6 2 rfl sz33 rfl rfl rfl (ev_t rfl) (ev_t rfl) rfl rfl hsx1.one ?_)
    intro w9 F9
    change Fr _ _ [blk _ _ [_, _, _, _, _], _, blk _ _ [_, _, _, _, _], _] _ at F9
    refine Ops.nil fun a hS => ?_
    refine hK6 _ _ ?_ a hS
    refine Cod.ret fun a hS => ?_
    try simp only [Exit.then, Exit.inBlock]
    exact retc (t := 2) (ty := 33) rfl hS ag33 rfl (F9.range (m := 5) (cs' := [_, _, _, _, _]) 2 rfl rfl) rfl (Drew.of (x := x1) F9 3 1 rfl rfl (by decide) (by omega) ⟨hpx1.fit, by omega, by omega⟩)


def bentK : List Int := [-1, 7, 5, 6, 3]
def bentN : List Int := [1, 1000001, -1000001]
def bentS : List ByteArray := [⟨#[65]⟩, ⟨#[97, 98, 99, 100, 101, 102, 103, 104, 105, 106, 107, 108, 109]⟩, ⟨#[97]⟩]
theorem bentS_size {s : ByteArray} (h : s ∈ bentS) : s.size ≤ 13 := by
  unfold bentS at h
  simp only [List.mem_cons, List.not_mem_nil, or_false] at h
  rcases h with rfl | rfl | rfl <;> decide
structure BentT (t : Tr) : Prop where
  fit : t.Fit
  wt : t.wt ≤ 5000
  len : t.list.length ≤ 5
theorem BentT.dr {t : Tr} (h : BentT t) : Dr t := ⟨h.fit, by have := h.wt; omega, h.len⟩
theorem SomeT.re {k n : Int} {s : ByteArray} {ks : List ByteArray} {l : List Tr} (h : SomeT (.mk k n s ks l)) (k' n' : Int) {s' : ByteArray} (hs : s'.size ≤ 13 ∨ s' = s) : BentT (.mk k' n' s' ks l) := by
  obtain ⟨h1, h2, h3⟩ := h
  cases h1 with
  | mk a b c =>
    rw [Tr.wt_mk] at h2
    refine ⟨.mk ?_ b c, ?_, by have : l.length ≤ 4 := h3; show l.length ≤ 5; omega⟩
    · rcases hs with hs | rfl
      · omega
      · exact a
    · rw [Tr.wt_mk]
      rcases hs with hs | rfl <;> omega
theorem SomeT.key {k n : Int} {s a : ByteArray} {ks : List ByteArray} {l : List Tr} (h : SomeT (.mk k n s ks l)) (ha : a.size ≤ 1) : BentT (.mk k n s (ks ++ [a]) l) := by
  obtain ⟨h1, h2, h3⟩ := h
  cases h1 with
  | mk b c d =>
    rw [Tr.wt_mk] at h2
    refine ⟨.mk b (fun x hx => ?_) d, ?_, by have : l.length ≤ 4 := h3; show l.length ≤ 5; omega⟩
    · rcases List.mem_append.1 hx with hx | hx
      · exact c x hx
      · obtain rfl := List.mem_singleton.1 hx; omega
    · rw [Tr.wt_mk, sumNa, sumN_cons]
      show s.size + ((ks ++ [a]).length + (sumN ByteArray.size ks + (a.size + 0))) + _ ≤ _
      simp only [List.length_append, List.length_cons, List.length_nil]
      omega
theorem wrap_wt (t : Tr) : (Tr.mk 5 0 ⟨#[]⟩ [] [t]).wt = t.wt + 1 := by
  rw [Tr.wt_mk, sumN_cons]
  show 0 + (0 + 0) + (1 + (t.wt + 0)) = _
  omega
theorem Fr.reT {X : Nat → Prop} {w0 w : World} {L : List Res} {F : Nat → Prop} {k n : Int} {s : ByteArray} {ks : List ByteArray} {l : List Tr} {v3 v4 : Value} (h : Fr X w0 L w) (i : Nat) (hi : L[i]? = some (sep F (.mk k n s ks l) (x5 k n s v3 v4).val)) (k' n' : Int) (s' : ByteArray) : Fr X w0 (L.set i (sep F (.mk k' n' s' ks l) (x5 k' n' s' v3 v4).val)) w := by
  refine h.upd i hi (Chg.refl No w) (fun _ h => h.elim) (sep F (.mk k' n' s' ks l) (x5 k' n' s' v3 v4).val) ?_ fun _ hk => .inl hk
  obtain ⟨u3, u4, e, hl⟩ := Sep.leafs (x := x5 k n s v3 v4) (h.get i hi)
  obtain ⟨rfl, rfl⟩ : v3 = u3 ∧ v4 = u4 := by simpa [x5] using e
  exact hl k' n' s'

set_option maxRecDepth 100000 in
theorem bent_ct (bb : Nat) (cv : Value) (lim : Nat) (w : World) (hcode : Code bb w cv) (hr : (rd bb cv lim).is w) (hlim : lim + 1210 ≤ 1099511627776) :
    Calls Tryd.prog 72 #[.pointer (some ⟨bb, 0, none⟩)] w (Drew bb cv (lim + 1210) w BentT) := by
  refine enter Tryd.func72 rfl rfl rfl ?_
  have F0 := Fr.lend (rd bb cv lim) hr
  refine Cod.seq fun K1 hK1 => ?_
  refine Cod.region ?_
  refine Ops.step (One.alloc F0 zero33 rfl rfl rfl rfl ?_)
  intro b1 w1 hb1 F1
  change Fr _ _ [blk _ _ [_, _, _, _, _], _] _ at F1
  refine Ops.nil fun a hS => ?_
  refine hK1 _ _ ?_ a hS
  refine Cod.seq fun K2 hK2 => ?_
  refine Cod.region ?_
  refine Ops.step (One.val rfl rfl rfl (yld_move rfl (ev_t rfl)) ?_)
  refine Ops.step (One.call rfl rfl rfl (ent_f rfl (evl1 (ev_t rfl)) (enters en67)) (some_ct bb cv _ _ (hcode.keep F1.chg) (F1.get 1 rfl) (by omega)) (fun e w2 hw2 => ?_))
  obtain ⟨x1, Gx1, tx1, rfl, C2, hrdx1, hsx1, hbx1, hpx1⟩ := hw2
  have F2 := F1.updNew 1 rfl C2 (fun _ hk => hk) (rd bb cv _) hrdx1 (fun _ hk => hk) (sep Gx1 tx1 x1.val) hsx1 hbx1
  change Fr _ _ (_ :: [_, _]) _ at F2
  obtain ⟨tk, tn, ts, tks, tl, rfl⟩ := Tr.eta tx1
  obtain ⟨v3, v4, rfl, -⟩ := Sep.leafs hsx1
  refine ⟨_, rfl, ?_⟩
  refine Ops.step (One.alloc F2 zero33 rfl rfl rfl rfl ?_)
  intro b2 w3 hb2 F3
  change Fr _ _ [blk _ _ [_, _, _, _, _], _, blk _ _ [_, _, _, _, _], _] _ at F3
  refine Ops.step (One.storeN (vs := [_, _, _, _, _]) F3 0 rfl sz33 rfl rfl rfl (ev_t rfl) (ev_t rfl) rfl rfl (Sep.one (x := x5 tk tn ts v3 v4) hsx1) ?_)
  intro w4 F4
  change Fr _ _ [blk _ _ [_, _, _, _, _], _, blk _ _ [_, _, _, _, _], _] _ at F4
  refine Ops.nil fun a hS => ?_
  refine hK2 _ _ ?_ a hS
  refine Cod.cut (fun i : V5 × Tr × (Nat → Prop) => [(2, true, .pointer (some ⟨b1, 0, none⟩)), (3, true, .pointer (some ⟨b2, 0, none⟩))]) (fun i w' => BentT i.2.1 ∧ Fr (· = bb) w [blk b2 33 (enc5 i.1), sep i.2.2 i.2.1 i.1.val, blk b1 33 [.int .i64 0, .int .i64 0, .string ⟨#[]⟩, .slice none 0 0, .slice none 0 0], rd bb cv (lim + 1210)] w') (fun K3 hK3 => ?_) ?_
  · skip
    refine Cod.seq fun K4 hK4 => ?_
    refine Cod.region ?_
    refine Ops.step (One.val rfl rfl rfl (yld_move rfl (ev_t rfl)) ?_)
    refine Ops.step (One.call rfl rfl rfl (ent_f rfl (evl2 (ev_t rfl) ev_c) (enters en95)) (pick_ct 60 bb cv _ _ (hcode.keep F4.chg) (F4.get 3 rfl) (by omega) (by omega)) (fun e w5 hw5 => ?_))
    obtain ⟨r2, rfl, C5, hrdr2, hr2⟩ := hw5
    have F5 := F4.upd 3 rfl C5 (fun _ hk => .inl hk) (rd bb cv _) hrdr2 (fun _ hk => .inl hk)
    change Fr _ _ [_, _, _, _] _ at F5
    refine ⟨_, rfl, ?_⟩
    refine Ops.nil fun a hS => ?_
    refine hK4 _ _ ?_ a hS
    refine Cod.block ?_
    refine Cod.seq fun K5 hK5 => ?_
    refine Cod.region ?_
    refine Ops.step (One.val rfl rfl rfl (yld_eql rfl (ev_t rfl) ev_c) ?_)
    refine Ops.step (One.val rfl rfl rfl (yld_assign rfl (ev_t rfl)) ?_)
    refine Ops.nil fun a hS => ?_
    refine hK5 _ _ ?_ a hS
    refine Cod.cond rfl (fun hc9 => ?_) (fun hc9 => ?_)
    · skip
      refine Cod.region ?_
      refine Ops.step (One.val rfl rfl rfl (yld_move rfl (ev_t rfl)) ?_)
      refine Ops.step (One.buildSlice (cells := (bentK.flatMap jCells)) F5 sl108 zero3 rfl rfl rfl rfl (evp5 ev_c ev_c ev_c ev_c ev_c) rfl rfl (by kernel_rfl) ?_)
      intro b3 w6 hb3 F6
      refine Ops.step (One.call rfl rfl rfl (ent_f rfl (evl2 (ev_t rfl) (ev_t rfl)) (enters en98)) (rnum_ct bentK bb cv _ _ _ (hcode.keep F6.chg) (F6.get 4 rfl) (by have := F6.lit (enc := jCells) (sz := 1) (xs := bentK) (fun _ => rfl) 0 4 (by decide) rfl rfl (by decide); exact this) (by omega) (by decide) (by decide)) (fun e w7 hw7 => ?_))
      obtain ⟨s4, hms4, rfl, C7, hrds4⟩ := hw7
      have F7 := F6.upd 4 rfl C7 (fun _ hk => .inl hk) (rd bb cv _) hrds4 (fun _ hk => .inl hk)
      change Fr _ _ [_, _, _, _, _] _ at F7
      refine ⟨_, rfl, ?_⟩
      refine Ops.step (One.val rfl rfl rfl (yld_field fi33_0 rfl (ev_t rfl)) ?_)
      refine Ops.step (One.store1 F7 1 rfl sz3 rfl rfl rfl (ev_t rfl) rfl (ev_t rfl) rfl ?_)
      intro w8 F8
      change Fr _ _ [_, blk _ _ [_, _, _, _, _], _, blk _ _ [_, _, _, _, _], _] _ at F8
      refine Ops.nil fun a hS => ?_
      have F9 := F8.pull 4 rfl
      have F10 := F9.pull 4 rfl
      have F11 := F10.pull 4 rfl
      have F12 := F11.pull 4 rfl
      have F13 := F12.erase 4
      exact hK3 (x5 s4 tn ts v3 v4, .mk s4 tn ts tks tl, Gx1) _ a (hS.sub ⟨rfl, rfl, trivial⟩) ⟨hpx1.re s4 tn (.inr rfl), (F13.reT 1 rfl s4 tn ts).rdUp 3 rfl (lim + 1210) (by omega)⟩
    · skip
      refine Cod.seq fun K6 hK6 => ?_
      refine Cod.region ?_
      refine Ops.step (One.val rfl rfl rfl (yld_eql rfl (ev_t rfl) ev_c) ?_)
      refine Ops.step (One.val rfl rfl rfl (yld_assign rfl (ev_t rfl)) ?_)
      refine Ops.nil fun a hS => ?_
      refine hK6 _ _ ?_ a hS
      refine Cod.cond rfl (fun hc15 => ?_) (fun hc15 => ?_)
      · skip
        refine Cod.region ?_
        refine Ops.step (One.val rfl rfl rfl (yld_move rfl (ev_t rfl)) ?_)
        refine Ops.step (One.buildSlice (cells := (bentN.flatMap jCells)) F5 sl108 zero3 rfl rfl rfl rfl (evp3 ev_c ev_c ev_c) rfl rfl (by kernel_rfl) ?_)
        intro b4 w9 hb4 F14
        refine Ops.step (One.call rfl rfl rfl (ent_f rfl (evl2 (ev_t rfl) (ev_t rfl)) (enters en98)) (rnum_ct bentN bb cv _ _ _ (hcode.keep F14.chg) (F14.get 4 rfl) (by have := F14.lit (enc := jCells) (sz := 1) (xs := bentN) (fun _ => rfl) 0 4 (by decide) rfl rfl (by decide); exact this) (by omega) (by decide) (by decide)) (fun e w10 hw10 => ?_))
        obtain ⟨s6, hms6, rfl, C10, hrds6⟩ := hw10
        have F15 := F14.upd 4 rfl C10 (fun _ hk => .inl hk) (rd bb cv _) hrds6 (fun _ hk => .inl hk)
        change Fr _ _ [_, _, _, _, _] _ at F15
        refine ⟨_, rfl, ?_⟩
        refine Ops.step (One.val rfl rfl rfl (yld_field fi33_1 rfl (ev_t rfl)) ?_)
        refine Ops.step (One.store1 F15 1 rfl sz3 rfl rfl rfl (ev_t rfl) rfl (ev_t rfl) rfl ?_)
        intro w11 F16
        change Fr _ _ [_, blk _ _ [_, _, _, _, _], _, blk _ _ [_, _, _, _, _], _] _ at F16
        refine Ops.nil fun a hS => ?_
        have F17 := F16.pull 4 rfl
        have F18 := F17.pull 4 rfl
        have F19 := F18.pull 4 rfl
        have F20 := F19.pull 4 rfl
        have F21 := F20.erase 4
        exact hK3 (x5 tk s6 ts v3 v4, .mk tk s6 ts tks tl, Gx1) _ a (hS.sub ⟨rfl, rfl, trivial⟩) ⟨hpx1.re tk s6 (.inr rfl), (F21.reT 1 rfl tk s6 ts).rdUp 3 rfl (lim + 1210) (by omega)⟩
      · skip
        refine Cod.seq fun K7 hK7 => ?_
        refine Cod.region ?_
        refine Ops.step (One.val rfl rfl rfl (yld_eql rfl (ev_t rfl) ev_c) ?_)
        refine Ops.step (One.val rfl rfl rfl (yld_assign rfl (ev_t rfl)) ?_)
        refine Ops.nil fun a hS => ?_
        refine hK7 _ _ ?_ a hS
        refine Cod.cond rfl (fun hc21 => ?_) (fun hc21 => ?_)
        · skip
          refine Cod.region ?_
          refine Ops.step (One.val rfl rfl rfl (yld_move rfl (ev_t rfl)) ?_)
          refine Ops.step (One.buildSlice (cells := (bentS.flatMap sCells)) F5 sl22 zero9 rfl rfl rfl rfl (evp3 ev_c ev_c ev_c) rfl rfl (by kernel_rfl) ?_)
          intro b5 w12 hb5 F22
          refine Ops.step (One.call rfl rfl rfl (ent_f rfl (evl2 (ev_t rfl) (ev_t rfl)) (enters en99)) (rof_ct bentS bb cv _ _ _ (hcode.keep F22.chg) (F22.get 4 rfl) (by have := F22.lit (enc := sCells) (sz := 1) (xs := bentS) (fun _ => rfl) 0 4 (by decide) rfl rfl (by decide); exact this) (by omega) (by decide) (by decide)) (fun e w13 hw13 => ?_))
          obtain ⟨s8, hms8, rfl, C13, hrds8⟩ := hw13
          have F23 := F22.upd 4 rfl C13 (fun _ hk => .inl hk) (rd bb cv _) hrds8 (fun _ hk => .inl hk)
          change Fr _ _ [_, _, _, _, _] _ at F23
          refine ⟨_, rfl, ?_⟩
          refine Ops.step (One.val rfl rfl rfl (yld_field fi33_2 rfl (ev_t rfl)) ?_)
          refine Ops.step (One.store1 F23 1 rfl sz9 rfl rfl rfl (ev_t rfl) rfl (ev_t rfl) rfl ?_)
          intro w14 F24
          change Fr _ _ [_, blk _ _ [_, _, _, _, _], _, blk _ _ [_, _, _, _, _], _] _ at F24
          refine Ops.nil fun a hS => ?_
          have F25 := F24.pull 4 rfl
          have F26 := F25.pull 4 rfl
          have F27 := F26.pull 4 rfl
          have F28 := F27.pull 4 rfl
          have F29 := F28.erase 4
          exact hK3 (x5 tk tn s8 v3 v4, .mk tk tn s8 tks tl, Gx1) _ a (hS.sub ⟨rfl, rfl, trivial⟩) ⟨hpx1.re tk tn (.inl (bentS_size hms8)), (F29.reT 1 rfl tk tn s8).rdUp 3 rfl (lim + 1210) (by omega)⟩
        · skip
          refine Cod.seq fun K8 hK8 => ?_
          refine Cod.region ?_
          refine Ops.step (One.val rfl rfl rfl (yld_eql rfl (ev_t rfl) ev_c) ?_)
          refine Ops.step (One.val rfl rfl rfl (yld_assign rfl (ev_t rfl)) ?_)
          refine Ops.nil fun a hS => ?_
          refine hK8 _ _ ?_ a hS
          refine Cod.cond rfl (fun hc27 => ?_) (fun hc27 => ?_)
          · skip
            obtain ⟨u3, u4, F4, hxe, hsub, F30⟩ := (F5.pull 1 rfl).sepOut
            obtain ⟨rfl, rfl⟩ : v3 = u3 ∧ v4 = u4 := by simpa [V5.val, x5] using hxe
            refine Cod.region ?_
            refine Ops.step (One.val rfl rfl rfl (yld_field fi33_3 rfl (ev_t rfl)) ?_)
            refine Ops.step (One.val rfl rfl rfl (yld_load1 on22 rfl (ev_t rfl) (fun _ => F30.cell 2 rfl rfl)) ?_)
            refine Ops.step (One.buildSlice (cells := (sCells ⟨#[97]⟩)) F30 sl22 zero9 rfl rfl rfl rfl (evp1 ev_c) rfl rfl (by kernel_rfl) ?_)
            intro b6 w15 hb6 F31
            refine Ops.step (One.append (enc := sCells) [⟨#[97]⟩] F31 2 rfl sl22 zero9 rfl rfl (fun _ => rfl) rfl rfl rfl rfl (ev_t rfl) (ev_t rfl) ((blk_rep (enc := sCells) (sz := 1) (xs := [⟨#[97]⟩]) (fun _ => rfl) (by simpa using F31.get 0 rfl) (by simp) (by simp)).weak fun _ _ => trivial) (fun y hy => rfl) (by have := hpx1.wt; rw [Tr.wt_mk] at this; simp; omega) (by have := hpx1.wt; rw [Tr.wt_mk] at this; simp; omega) ?_)
            intro ku2 w16 hku2 F32
            change Fr _ _ [_, _, _, blk _ _ [_, _, _, _, _], blk _ _ [_, _, _, _, _], _] _ at F32
            refine Ops.step (One.val rfl rfl rfl (yld_field fi33_3 rfl (ev_t rfl)) ?_)
            refine Ops.step (One.store1 F32 3 rfl sz22 rfl rfl rfl (ev_t rfl) rfl (ev_t rfl) (own_one (F32.get 2 rfl)) ?_)
            intro w17 F33
            change Fr _ _ [_, _, _, blk _ _ [_, _, _, _, _], blk _ _ [_, _, _, _, _], _] _ at F33
            refine Ops.nil fun a hS => ?_
            have F34 := F33.pull 5 rfl
            have F35 := F34.pull 5 rfl
            have F36 := F35.pull 5 rfl
            have F37 := F36.pull 5 rfl
            have F38 := F37.pull 5 rfl
            have F39 := F38.erase 5
            have hT := (Fr.toSep (k := tk) (n := tn) (s := ts) F39).pull 1 rfl
            exact hK3 (x5 tk tn ts ku2 v4, .mk tk tn ts (tks ++ [(⟨#[97]⟩ : ByteArray)]) tl, _) _ a (hS.sub ⟨rfl, rfl, trivial⟩) ⟨hpx1.key (by decide), hT.rdUp 3 rfl (lim + 1210) (by omega)⟩
          · skip
            skip
            refine Cod.seq fun K9 hK9 => ?_
            refine Cod.region ?_
            refine Ops.step (One.val rfl rfl rfl (yld_eql rfl (ev_t rfl) ev_c) ?_)
            refine Ops.step (One.val rfl rfl rfl (yld_assign rfl (ev_t rfl)) ?_)
            refine Ops.nil fun a hS => ?_
            refine hK9 _ _ ?_ a hS
            refine Cod.cond rfl (fun hc34 => ?_) (fun hc34 => ?_)
            · skip
              refine Cod.seq fun K10 hK10 => ?_
              refine Cod.region ?_
              refine Ops.step (One.val rfl rfl rfl (yld_assign rfl ev_c) ?_)
              refine Ops.nil fun a hS => ?_
              refine hK10 _ _ ?_ a hS
              refine Cod.block ?_
              refine Cod.loop (fun i : Nat × V5 × Tr × (Nat → Prop) => [(2, true, .pointer (some ⟨b1, 0, none⟩)), (3, true, .pointer (some ⟨b2, 0, none⟩)), (4, true, .int .i64 (i.1 : Int))]) (fun i w' => i.1 ≤ 6 ∧ i.2.2.1.Fit ∧ i.2.2.1.wt ≤ 4092 + i.1 ∧ i.2.2.1.list.length ≤ 4 ∧ Fr (· = bb) w [blk b2 33 (enc5 i.2.1), sep i.2.2.2 i.2.2.1 i.2.1.val, blk b1 33 [.int .i64 0, .int .i64 0, .string ⟨#[]⟩, .slice none 0 0, .slice none 0 0], rd bb cv (lim + 1200 + 1)] w') (fun i => 6 - i.1) (0, x5 tk tn ts v3 v4, .mk tk tn ts tks tl, Gx1) ⟨rfl, rfl, rfl, trivial⟩ ⟨Nat.zero_le _, hpx1.fit, hpx1.wt, hpx1.len, F5⟩ ?_
              intro i w18 hW K11 hK11
              obtain ⟨ix, xx, tt, GG⟩ := i
              obtain ⟨hi, hft, hwt, hlt, F40⟩ := hW
              dsimp only at *
              refine Cod.seq fun K12 hK12 => ?_
              refine Cod.seq fun K13 hK13 => ?_
              refine Cod.region ?_
              refine Ops.step (One.val rfl rfl rfl (yld_move rfl (ev_t rfl)) ?_)
              refine Ops.step (One.val rfl rfl rfl (yld_lss rfl (ev_t rfl) ev_c) ?_)
              refine Ops.nil fun a hS => ?_
              refine hK13 _ _ ?_ a hS
              refine Cod.cond rfl (fun hc37 => ?_) (fun hc37 => ?_)
              · skip
                have hi6 : ix < 6 := by simp at hc37; omega
                refine Cod.skip fun a hS => ?_
                refine hK12 _ _ ?_ a hS
                refine Cod.seq fun K14 hK14 => ?_
                refine Cod.block ?_
                refine Cod.region ?_
                refine Ops.step (One.val rfl rfl rfl (yld_loadN ag33 rfl (ev_t rfl) (fun _ => F40.range (m := 5) (cs' := [_, _, _, _, _]) 0 rfl rfl) rfl) ?_)
                refine Ops.step (One.buildSlice (cells := (enc5 xx)) F40 sl31 zero33 rfl rfl rfl rfl (evp1 (ev_t rfl)) rfl rfl (by kernel_rfl) ?_)
                intro b7 w19 hb7 F41
                refine Ops.step (One.val rfl rfl rfl (yld_build (cells := [.int .i64 5, .int .i64 0, .string ⟨#[]⟩, .slice none 0 0, .slice (some ⟨b7, 0, none⟩) 1 1]) rfl (evp2 ev_c (ev_t rfl)) (by kernel_rfl)) ?_)
                refine Ops.step (One.storeN (vs := [_, _, _, _, _]) F41 1 rfl sz33 rfl rfl rfl (ev_t rfl) (ev_t rfl) rfl rfl rfl ?_)
                intro w20 F42
                change Fr _ _ [_, blk _ _ [_, _, _, _, _], _, blk _ _ [_, _, _, _, _], _] _ at F42
                refine Ops.nil fun a hS => ?_
                refine hK14 _ _ ?_ a hS
                refine Cod.region ?_
                refine Ops.step (One.val rfl rfl rfl (yld_move rfl (ev_t rfl)) ?_)
                refine Ops.step (One.val rfl rfl rfl (yld_inc rfl (ev_t rfl) (fun _ => by omega)) ?_)
                refine Ops.step (One.val rfl rfl rfl (yld_assign rfl (ev_t rfl)) ?_)
                refine Ops.nil fun a hS => ?_
                have F43 := F42.pull 4 rfl
                have F44 := F43.pull 4 rfl
                have F45 := F44.pull 3 rfl
                have F46 := F45.pull 4 rfl
                have F47 := F46.pull 4 rfl
                obtain ⟨G2, hF⟩ := F47.wrap1
                exact hK11 (ix + 1, x5 5 0 ⟨#[]⟩ (.slice none 0 0) (.slice (some ⟨b7, 0, none⟩) 1 1), .mk 5 0 ⟨#[]⟩ [] [tt], G2) _ a (hS.sub ⟨rfl, rfl, rfl, trivial⟩) ⟨by show ix + 1 ≤ 6; omega, .mk (by decide) (by simp) (fun x hx => by obtain rfl := List.mem_singleton.1 hx; exact hft), by show (Tr.mk 5 0 ⟨#[]⟩ [] [tt]).wt ≤ 4092 + (ix + 1); rw [wrap_wt]; omega, by show 1 ≤ 4; omega, hF.pull 1 rfl⟩ (by show 6 - (ix + 1) < 6 - ix; omega)
              · skip
                skip
                refine Cod.exit fun a hS => ?_
                simp only [Exit.then, Exit.inBlock, ↓reduceIte]
                have F48 := F40.pull 3 rfl
                have F49 := F48.pull 3 rfl
                have F50 := F49.pull 3 rfl
                have F51 := F50.pull 3 rfl
                exact hK3 (xx, tt, GG) _ a (hS.sub ⟨rfl, rfl, trivial⟩) ⟨⟨hft, by show tt.wt ≤ 5000; omega, by show tt.list.length ≤ 5; omega⟩, F51.rdUp 3 rfl (lim + 1210) (by omega)⟩
            · skip
              refine Cod.skip fun a hS => ?_
              have F52 := F5.pull 3 rfl
              have F53 := F52.pull 3 rfl
              have F54 := F53.pull 3 rfl
              have F55 := F54.pull 3 rfl
              exact hK3 (x5 tk tn ts v3 v4, .mk tk tn ts tks tl, Gx1) _ a (hS.sub ⟨rfl, rfl, trivial⟩) ⟨hpx1.re tk tn (.inr rfl), F55.rdUp 3 rfl (lim + 1210) (by omega)⟩
  · skip
    intro i w21 hW
    obtain ⟨xx, tt, GG⟩ := i
    obtain ⟨hB, F56⟩ := hW
    dsimp only at *
    refine Cod.seq fun K15 hK15 => ?_
    refine Cod.region ?_
    refine Ops.step (One.val rfl rfl rfl (yld_loadN ag33 rfl (ev_t rfl) (fun _ => F56.range (m := 5) (cs' := [_, _, _, _, _]) 0 rfl rfl) rfl) ?_)
    refine Ops.step (One.storeN (vs := [_, _, _, _, _]) F56 2 rfl sz33 rfl rfl rfl (ev_t rfl) (ev_t rfl) rfl rfl (Sep.one (x := xx) (F56.get 1 rfl)) ?_)
    intro w22 F57
    change Fr _ _ [blk _ _ [_, _, _, _, _], _, blk _ _ [_, _, _, _, _], _] _ at F57
    refine Ops.nil fun a hS => ?_
    refine hK15 _ _ ?_ a hS
    refine Cod.ret fun a hS => ?_
    try simp only [Exit.then, Exit.inBlock]
    exact retc (t := 2) (ty := 33) rfl hS ag33 rfl (F57.range (m := 5) (cs' := [_, _, _, _, _]) 2 rfl rfl) rfl (Drew.of (x := xx) F57 3 1 rfl rfl (by decide) (Nat.le_refl _) hB)


theorem vw_mono {d e : Nat} (h : d ≤ e) : vw d ≤ vw e := by
  induction e with
  | zero => obtain rfl : d = 0 := by omega
            exact Nat.le_refl _
  | succ e ih =>
    by_cases hd : d = e + 1
    · rw [hd]; exact Nat.le_refl _
    · have := ih (by omega)
      have h2 : vw (e + 1) = 12 + 4 * vw e := rfl
      omega
theorem RowI.row {m : Nat} {ts : List Tr} (h : RowI 3 m ts) (hm : m ≤ 5) : (Tr.mk 5 0 ⟨#[]⟩ [] ts).Fit ∧ (Tr.mk 5 0 ⟨#[]⟩ [] ts).wt ≤ 5000 + 200 ∧ ts.length ≤ 5 := by
  have h2 := h.le
  refine ⟨.mk (by decide) (fun x hx => by simp at hx) fun x hx => (h.kid x hx).1, ?_, by omega⟩
  rw [Tr.wt_mk]
  have h4 := sumNb (f := Tr.wt) (b := vw 3) fun x hx => (h.kid x hx).2
  have h5 : vw 3 = 1020 := by decide
  rw [h5] at h4
  have h6 : ts.length * 1020 ≤ 5 * 1020 := Nat.mul_le_mul_right _ (by omega)
  show 0 + (0 + 0) + _ ≤ _
  omega

end Go.Proofs.YtpfkcblhojkaiaaDoor.Eng
