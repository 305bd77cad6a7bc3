/- Walks of what draws trees: each is small, and lies in new memory. -/
import Derived.Test.YtpfkcblhojkaiaaDoorDraw0
namespace Go.Proofs.YtpfkcblhojkaiaaDoor.Eng
open Go.RowKit
set_option linter.unusedVariables false
set_option linter.unusedSimpArgs false
set_option maxHeartbeats 1000000


/-- How many numbers a tree of so many levels takes at most; how much it weighs. -/
def pk : Nat → Nat | 0 => 2 | d + 1 => 8 + 4 * pk d
def vw : Nat → Nat | 0 => 12 | d + 1 => 12 + 4 * vw d
theorem pk_ge2 : ∀ d, 2 ≤ pk d | 0 => Nat.le_refl _ | d + 1 => by unfold pk; omega
theorem pk_ge16 (d : Nat) (h : 1 ≤ d) : 16 ≤ pk d := by
  obtain ⟨e, rfl⟩ : ∃ e, d = e + 1 := ⟨d - 1, by omega⟩
  have := pk_ge2 e
  unfold pk; omega
theorem vw_ge12 : ∀ d, 12 ≤ vw d | 0 => Nat.le_refl _ | d + 1 => by unfold vw; omega
theorem pk_le4 {d : Nat} (h : d ≤ 4) : pk d ≤ 1192 := by
  rcases (by omega : d = 0 ∨ d = 1 ∨ d = 2 ∨ d = 3 ∨ d = 4) with rfl | rfl | rfl | rfl | rfl <;> decide
theorem pk_le3 {d : Nat} (h : d ≤ 3) : pk d ≤ 296 := by
  rcases (by omega : d = 0 ∨ d = 1 ∨ d = 2 ∨ d = 3) with rfl | rfl | rfl | rfl <;> decide
theorem vw_le4 {d : Nat} (h : d ≤ 4) : vw d ≤ 4092 := by
  rcases (by omega : d = 0 ∨ d = 1 ∨ d = 2 ∨ d = 3 ∨ d = 4) with rfl | rfl | rfl | rfl | rfl <;> decide
theorem vw_le3 {d : Nat} (h : d ≤ 3) : vw d ≤ 1020 := by
  rcases (by omega : d = 0 ∨ d = 1 ∨ d = 2 ∨ d = 3) with rfl | rfl | rfl | rfl <;> decide
structure ValT (d : Nat) (t : Tr) : Prop where
  fit : t.Fit
  wt : t.wt ≤ vw d
  len : t.list.length ≤ 4
def ValD (d : Nat) : Prop := ∀ (dI : Int) (bb : Nat) (cv : Value) (lim : Nat) (w : World), dI = (d : Int) → Code bb w cv → (rd bb cv lim).is w → d ≤ 4 → lim + pk d ≤ 1099511627776 →
    Calls Tryd.prog 94 #[.pointer (some ⟨bb, 0, none⟩), .int .i64 dI] w (Drew bb cv (lim + pk d) w (ValT d))
def keyS : List ByteArray := [⟨#[97]⟩, ⟨#[98]⟩, ⟨#[99]⟩, ⟨#[100]⟩]
theorem keyS_size {i : Nat} (h : i < keyS.length) : keyS[i].size ≤ 1 := by
  have hm : ∀ s ∈ keyS, s.size ≤ 1 := fun s hs => by
    unfold keyS at hs
    simp only [List.mem_cons, List.not_mem_nil, or_false] at hs
    rcases hs with rfl | rfl | rfl | rfl <;> decide
  exact hm _ (List.getElem_mem h)
theorem lit_cell {w : World} {b ty : Nat} {xs : List ByteArray} (h : (blk b ty (xs.flatMap sCells)).is w) {i : Nat} (hi : i < xs.length) : w.cell? ⟨b, 0 + i * 1, none⟩ = some (.string xs[i]) := by
  refine blk_cell h ?_
  have := flat_get (enc := sCells) (sz := 1) (fun _ => rfl) xs i 0 hi (by omega)
  rw [Nat.zero_add]
  exact this
structure MapI (d n : Nat) (ks : List ByteArray) (ts : List Tr) : Prop where
  len : ks.length = ts.length
  le : ts.length ≤ n
  key : ∀ s ∈ ks, s.size ≤ 1
  kid : ∀ t ∈ ts, t.Fit ∧ t.wt ≤ vw d
theorem MapI.nil (d : Nat) : MapI d 0 [] [] := ⟨rfl, Nat.le_refl _, fun s h => by simp at h, fun t h => by simp at h⟩
theorem MapI.skip {d n : Nat} {ks ts} (h : MapI d n ks ts) : MapI d (n + 1) ks ts := ⟨h.len, by have := h.le; omega, h.key, h.kid⟩
theorem MapI.snoc {d n : Nat} {ks ts} (h : MapI d n ks ts) {s : ByteArray} {t : Tr} (hs : s.size ≤ 1) (ht : t.Fit ∧ t.wt ≤ vw d) : MapI d (n + 1) (ks ++ [s]) (ts ++ [t]) := by
  refine ⟨by simp [h.len], by have := h.le; simp; omega, fun x hx => ?_, fun x hx => ?_⟩
  · rcases List.mem_append.1 hx with hx | hx
    · exact h.key x hx
    · obtain rfl := List.mem_singleton.1 hx; exact hs
  · rcases List.mem_append.1 hx with hx | hx
    · exact h.kid x hx
    · obtain rfl := List.mem_singleton.1 hx; exact ht
theorem MapI.tree {d n : Nat} {k : Int} {ks ts} (h : MapI d n ks ts) (hn : n ≤ 4) : ValT (d + 1) (.mk k 0 ⟨#[]⟩ ks ts) := by
  have h1 := h.len
  have h2 := h.le
  refine ⟨.mk (by decide) (fun x hx => by have := h.key x hx; omega) fun x hx => (h.kid x hx).1, ?_, by show ts.length ≤ 4; omega⟩
  rw [Tr.wt_mk]
  have h3 := sumNb (f := ByteArray.size) (b := 1) h.key
  have h4 := sumNb (f := Tr.wt) (b := vw d) fun x hx => (h.kid x hx).2
  have h5 : ts.length * vw d ≤ 4 * vw d := Nat.mul_le_mul_right _ (by omega)
  have h6 : (⟨#[]⟩ : ByteArray).size = 0 := rfl
  have h7 : vw (d + 1) = 12 + 4 * vw d := rfl
  omega


structure RowI (d n : Nat) (ts : List Tr) : Prop where
  le : ts.length ≤ n
  kid : ∀ t ∈ ts, t.Fit ∧ t.wt ≤ vw d
theorem RowI.nil (d : Nat) : RowI d 0 [] := ⟨Nat.le_refl _, fun t h => by simp at h⟩
theorem RowI.snoc {d n : Nat} {ts} (h : RowI d n ts) {t : Tr} (ht : t.Fit ∧ t.wt ≤ vw d) : RowI d (n + 1) (ts ++ [t]) := by
  refine ⟨by have := h.le; simp; omega, fun x hx => ?_⟩
  rcases List.mem_append.1 hx with hx | hx
  · exact h.kid x hx
  · obtain rfl := List.mem_singleton.1 hx; exact ht
theorem RowI.tree {d n : Nat} {k : Int} {ts} (h : RowI d n ts) (hn : n ≤ 4) : ValT (d + 1) (.mk k 0 ⟨#[]⟩ [] ts) := by
  have h2 := h.le
  refine ⟨.mk (by decide) (fun x hx => by simp at hx) fun x hx => (h.kid x hx).1, ?_, by show ts.length ≤ 4; omega⟩
  rw [Tr.wt_mk]
  have h4 := sumNb (f := Tr.wt) (b := vw d) fun x hx => (h.kid x hx).2
  have h5 : ts.length * vw d ≤ 4 * vw d := Nat.mul_le_mul_right _ (by omega)
  have h6 : (⟨#[]⟩ : ByteArray).size = 0 := rfl
  have h7 : vw (d + 1) = 12 + 4 * vw d := rfl
  show 0 + (0 + 0) + _ ≤ _
  omega
theorem Fr.rowTree {X : Nat → Prop} {w0 w : World} {L : List Res} {v4 : Value} {k n : Int} {s : ByteArray} {F : Nat → Prop} {l : List Tr} {xs : List V5} (h : Fr X w0 (own 33 5 v4 xs.length (xs.flatMap enc5) :: kids F l xs :: L) w) (hl : xs.length = l.length) :
    ∃ G, Fr X w0 (sep G (.mk k n s [] l) (x5 k n s (.slice none 0 0) v4).val :: L) w :=
  Fr.toTree (ks := []) (((h.nilRow 9 1).pull 2 rfl).pull 2 rfl) hl

set_option maxRecDepth 100000 in
theorem val_of (d0 : Nat) (IH : ∀ d, d < d0 → ValD d) : ValD d0 := by
  intro dI bb cv lim w hdI hcode hr hd4 hlim
  have hp2 := pk_ge2 d0
  have hp16 := pk_ge16 d0
  have hv12 := vw_ge12 d0
  refine enter Tryd.func94 rfl rfl rfl ?_
  have F0 := Fr.lend (rd bb cv lim) hr
  refine Cod.seq fun K1 hK1 => ?_
  refine Cod.region ?_
  refine Ops.step (One.alloc F0 zero33 rfl rfl rfl rfl ?_)
  intro b1 w1 hb1 F1
  change Fr _ _ [blk _ _ [_, _, _, _, _], _] _ at F1
  refine Ops.nil fun a hS => ?_
  refine hK1 _ _ ?_ a hS
  refine Cod.seq fun K2 hK2 => ?_
  refine Cod.seq fun K3 hK3 => ?_
  refine Cod.region ?_
  refine Ops.step (One.val rfl rfl rfl (yld_move rfl (ev_t rfl)) ?_)
  refine Ops.step (One.val rfl rfl rfl (yld_leq rfl (ev_t rfl) ev_c) ?_)
  refine Ops.step (One.val rfl rfl rfl (yld_move rfl (ev_t rfl)) ?_)
  refine Ops.step (One.val (gd_some rfl rfl) rfl rfl (yld_move rfl (ev_t rfl)) ?_)
  refine Ops.gsplit (gd_some rfl rfl) ?_ ?_
  · intro hgt
    have hd2 : 1 < dI := by simp [gof] at hgt; omega
    refine Ops.step (One.gsure (gd_some rfl rfl) hgt rfl rfl (ent_f rfl (evl2 (ev_g rfl) ev_c) (enters en95)) (pick_ct 4 bb cv _ _ (hcode.keep F1.chg) (F1.get 1 rfl) (by omega) (by omega)) (fun e w2 hw2 => ?_))
    obtain ⟨r1, rfl, C2, hrdr1, hr1⟩ := hw2
    have F2 := F1.upd 1 rfl C2 (fun _ hk => .inl hk) (rd bb cv _) hrdr1 (fun _ hk => .inl hk)
    change Fr _ _ [_, _] _ at F2
    refine ⟨_, rfl, ?_⟩
    refine Ops.step (One.val (gd_some rfl rfl) rfl rfl (yld_eql rfl (ev_g rfl) ev_c) ?_)
    refine Ops.step (One.val rfl rfl rfl (yld_or rfl (ev_t rfl) (ev_g rfl)) ?_)
    refine Ops.nil fun a hS => ?_
    refine hK3 _ _ ?_ a hS
    refine Cod.cond rfl (fun hc14 => ?_) (fun hc14 => ?_)
    · skip
      skip
      refine Cod.seq fun K4 hK4 => ?_
      refine Cod.region ?_
      refine Ops.step (One.val rfl rfl rfl (yld_move rfl (ev_t rfl)) ?_)
      refine Ops.step (One.call rfl rfl rfl (ent_f rfl (evl1 (ev_t rfl)) (enters en96)) (leaf_ct bb cv _ _ (hcode.keep F2.chg) (F2.get 1 rfl) (by omega)) (fun e w3 hw3 => ?_))
      obtain ⟨x1, Gx1, tx1, rfl, C3, hrdx1, hsx1, hbx1, hpx1⟩ := hw3
      have F3 := F2.updNew 1 rfl C3 (fun _ hk => hk) (rd bb cv _) hrdx1 (fun _ hk => hk) (sep Gx1 tx1 x1.val) hsx1 hbx1
      change Fr _ _ (_ :: [_, _]) _ at F3
      refine ⟨_, rfl, ?_⟩
      refine Ops.step (One.storeN (vs := [_, _, _, _, _]) F3 1 rfl sz33 rfl rfl rfl (ev_t rfl) (ev_t rfl) rfl rfl hsx1.one ?_)
      intro w4 F4
      change Fr _ _ [_, blk _ _ [_, _, _, _, _], _] _ at F4
      refine Ops.nil fun a hS => ?_
      refine hK4 _ _ ?_ a hS
      refine Cod.ret fun a hS => ?_
      try simp only [Exit.then, Exit.inBlock]
      exact retc (t := 4) (ty := 33) rfl hS ag33 rfl (F4.range (m := 5) (cs' := [_, _, _, _, _]) 1 rfl rfl) rfl (Drew.of (x := x1) F4 2 0 rfl rfl (by decide) (by omega) ⟨hpx1.fit, by have := hpx1.wt; omega, by have := hpx1.len; omega⟩)
    · skip
      obtain ⟨d, rfl⟩ : ∃ d, d0 = d + 1 := ⟨d0 - 1, by omega⟩
      have hpk : pk (d + 1) = 8 + 4 * pk d := rfl
      refine Cod.skip fun a hS => ?_
      refine hK2 _ _ ?_ a hS
      refine Cod.seq fun K5 hK5 => ?_
      refine Cod.region ?_
      refine Ops.step (One.val rfl rfl rfl (yld_build (cells := [.int .i64 5, .int .i64 0, .string ⟨#[]⟩, .slice none 0 0, .slice none 0 0]) rfl (evp1 ev_c) (by kernel_rfl)) ?_)
      refine Ops.step (One.alloc F2 zero33 rfl rfl rfl rfl ?_)
      intro b2 w5 hb2 F5
      change Fr _ _ [blk _ _ [_, _, _, _, _], blk _ _ [_, _, _, _, _], _] _ at F5
      refine Ops.step (One.storeN (vs := [_, _, _, _, _]) F5 0 rfl sz33 rfl rfl rfl (ev_t rfl) (ev_t rfl) rfl rfl rfl ?_)
      intro w6 F6
      change Fr _ _ [blk _ _ [_, _, _, _, _], blk _ _ [_, _, _, _, _], _] _ at F6
      refine Ops.nil fun a hS => ?_
      refine hK5 _ _ ?_ a hS
      refine Cod.seq fun K6 hK6 => ?_
      refine Cod.seq fun K7 hK7 => ?_
      refine Cod.region ?_
      refine Ops.step (One.val rfl rfl rfl (yld_move rfl (ev_t rfl)) ?_)
      refine Ops.step (One.call rfl rfl rfl (ent_f rfl (evl2 (ev_t rfl) ev_c) (enters en95)) (pick_ct 2 bb cv _ _ (hcode.keep F6.chg) (F6.get 2 rfl) (by omega) (by omega)) (fun e w7 hw7 => ?_))
      obtain ⟨r4, rfl, C7, hrdr4, hr4⟩ := hw7
      have F7 := F6.upd 2 rfl C7 (fun _ hk => .inl hk) (rd bb cv _) hrdr4 (fun _ hk => .inl hk)
      change Fr _ _ [_, _, _] _ at F7
      refine ⟨_, rfl, ?_⟩
      refine Ops.step (One.val rfl rfl rfl (yld_eql rfl (ev_t rfl) ev_c) ?_)
      refine Ops.nil fun a hS => ?_
      refine hK7 _ _ ?_ a hS
      refine Cod.cond rfl (fun hc20 => ?_) (fun hc20 => ?_)
      · skip
        refine Cod.seq fun K8 hK8 => ?_
        refine Cod.region ?_
        refine Ops.step (One.val rfl rfl rfl (yld_field fi33_0 rfl (ev_t rfl)) ?_)
        refine Ops.step (One.store1 F7 0 rfl sz3 rfl rfl rfl (ev_t rfl) rfl ev_c rfl ?_)
        intro w8 F8
        change Fr _ _ [blk _ _ [_, _, _, _, _], blk _ _ [_, _, _, _, _], _] _ at F8
        refine Ops.nil fun a hS => ?_
        refine hK8 _ _ ?_ a hS
        refine Cod.seq fun K9 hK9 => ?_
        refine Cod.seq fun K10 hK10 => ?_
        refine Cod.region ?_
        refine Ops.step (One.val rfl rfl rfl (yld_assign rfl ev_c) ?_)
        refine Ops.nil fun a hS => ?_
        refine hK10 _ _ ?_ a hS
        refine Cod.block ?_
        refine Cod.loop (fun i : Nat × List ByteArray × List Tr × List V5 × Value × Value × (Nat → Prop) => [(0, true, .pointer (some ⟨bb, 0, none⟩)), (1, true, .int .i64 dI), (4, true, .pointer (some ⟨b1, 0, none⟩)), (5, true, .pointer (some ⟨b2, 0, none⟩)), (6, true, .int .i64 (i.1 : Int))]) (fun i w' => i.1 ≤ 4 ∧ MapI d i.1 i.2.1 i.2.2.1 ∧ i.2.2.2.1.length = i.2.2.1.length ∧ Fr (· = bb) w [own 33 5 i.2.2.2.2.2.1 i.2.2.2.1.length (i.2.2.2.1.flatMap enc5), kids i.2.2.2.2.2.2 i.2.2.1 i.2.2.2.1, own 9 1 i.2.2.2.2.1 i.2.1.length (i.2.1.flatMap sCells), blk b2 33 [.int .i64 6, .int .i64 0, .string ⟨#[]⟩, i.2.2.2.2.1, i.2.2.2.2.2.1], blk b1 33 [.int .i64 0, .int .i64 0, .string ⟨#[]⟩, .slice none 0 0, .slice none 0 0], rd bb cv (lim + 2 + i.1 * (1 + pk d))] w') (fun i => 4 - i.1) (0, [], [], [], .slice none 0 0, .slice none 0 0, No) ⟨rfl, rfl, rfl, rfl, rfl, trivial⟩ ⟨Nat.zero_le _, MapI.nil d, rfl, ((F8.rdUp 2 rfl (lim + 2 + 0 * (1 + pk d)) (by omega)).nilRow 9 1).nilKids.nilRow 33 5⟩ ?_
        intro i w9 hW K11 hK11
        obtain ⟨ix, ks, ts, xs, ku, lu, G⟩ := i
        obtain ⟨hi, hM, hxl, F9⟩ := hW
        dsimp only at *
        have hkl := hM.len
        have htl := hM.le
        have hic : ix * (1 + pk d) ≤ 4 * (1 + pk d) := Nat.mul_le_mul_right _ hi
        refine Cod.seq fun K12 hK12 => ?_
        refine Cod.seq fun K13 hK13 => ?_
        refine Cod.region ?_
        refine Ops.step (One.val rfl rfl rfl (yld_move rfl (ev_t rfl)) ?_)
        refine Ops.step (One.val rfl rfl rfl (yld_lss rfl (ev_t rfl) ev_c) ?_)
        refine Ops.nil fun a hS => ?_
        refine hK13 _ _ ?_ a hS
        refine Cod.cond rfl (fun hc23 => ?_) (fun hc23 => ?_)
        · skip
          have hi4b : ix < 4 := by simp at hc23; omega
          have hi4 : ix < keyS.length := hi4b
          have hic2 : (ix + 1) * (1 + pk d) ≤ 4 * (1 + pk d) := Nat.mul_le_mul_right _ (by omega)
          rw [Nat.add_mul] at hic2
          refine Cod.skip fun a hS => ?_
          refine hK12 _ _ ?_ a hS
          refine Cod.seq fun K14 hK14 => ?_
          refine Cod.block ?_
          refine Cod.seq fun K15 hK15 => ?_
          refine Cod.region ?_
          refine Ops.step (One.val rfl rfl rfl (yld_move rfl (ev_t rfl)) ?_)
          refine Ops.step (One.call rfl rfl rfl (ent_f rfl (evl2 (ev_t rfl) ev_c) (enters en95)) (pick_ct 2 bb cv _ _ (hcode.keep F9.chg) (F9.get 5 rfl) (by omega) (by omega)) (fun e w10 hw10 => ?_))
          obtain ⟨r9, rfl, C10, hrdr9, hr9⟩ := hw10
          have F10 := F9.upd 5 rfl C10 (fun _ hk => .inl hk) (rd bb cv _) hrdr9 (fun _ hk => .inl hk)
          change Fr _ _ [_, _, _, _, _, _] _ at F10
          refine ⟨_, rfl, ?_⟩
          refine Ops.step (One.val rfl rfl rfl (yld_eql rfl (ev_t rfl) ev_c) ?_)
          refine Ops.nil fun a hS => ?_
          refine hK15 _ _ ?_ a hS
          refine Cod.cond rfl (fun hc28 => ?_) (fun hc28 => ?_)
          · skip
            refine Cod.cut (fun i : Value × Unit => [(0, true, .pointer (some ⟨bb, 0, none⟩)), (1, true, .int .i64 dI), (4, true, .pointer (some ⟨b1, 0, none⟩)), (5, true, .pointer (some ⟨b2, 0, none⟩)), (6, true, .int .i64 (ix : Int))]) (fun i w' => Fr (· = bb) w [blk b2 33 [.int .i64 6, .int .i64 0, .string ⟨#[]⟩, i.1, lu], own 9 1 i.1 (ks ++ [keyS[ix]]).length ((ks ++ [keyS[ix]]).flatMap sCells), own 33 5 lu xs.length (xs.flatMap enc5), kids G ts xs, blk b1 33 [.int .i64 0, .int .i64 0, .string ⟨#[]⟩, .slice none 0 0, .slice none 0 0], rd bb cv (lim + 2 + ix * (1 + pk d) + 1)] w') (fun K16 hK16 => ?_) ?_
            · skip
              have F11 := F10.drew
              refine Cod.draw (C_of ((F11.erase 3).erase 2)) (by kernel_rfl) ?_
              refine Hops.take 0 rfl (by kernel_rfl) (fun _ _ _ h => h) rfl rfl rfl ((F11.erase 3).erase 2) (fun w F => (yld_field fi33_3 rfl (ev_t rfl))) ?_
              refine Hops.take 3 rfl (by kernel_rfl) (fun _ _ _ h => h) rfl rfl rfl ((F11.erase 3).erase 2) (fun w F => (yld_move rfl (ev_t rfl))) ?_
              refine Hops.two 1 2 rfl rfl (by kernel_rfl) ?_ ?_
              · skip
                refine (One.val rfl rfl rfl (yld_load1 on22 rfl (ev_t rfl) (fun _ => F11.cell 3 rfl rfl)) ?_)
                refine ⟨((F11.erase 3).erase 2), ?_⟩
                refine Hops.one 2 rfl (by kernel_rfl) (One.buildSlice (cells := (keyS.flatMap sCells)) F11 sl22 zero9 rfl rfl rfl rfl (evp4 ev_c ev_c ev_c ev_c) rfl rfl (by kernel_rfl) ?_)
                intro b3 w11 hb3 F12
                refine ⟨((F12.erase 4).erase 3).drop1, ?_⟩
                refine Hops.take 4 rfl (by kernel_rfl) (fun _ _ _ h => h) rfl rfl rfl ((F12.erase 4).erase 3).drop1 (fun w F => (yld_indexN sl22 rfl (ev_t rfl) (ev_t rfl) (fun _ => hi4b))) ?_
                refine Hops.one 5 rfl (by kernel_rfl) (One.val rfl rfl rfl (yld_load1 on9 rfl (ev_t rfl) (fun _ => (lit_cell (F12.get 0 rfl) hi4))) ?_)
                refine ⟨((F12.erase 4).erase 3).drop1, ?_⟩
                refine Hops.one 6 rfl (by kernel_rfl) (One.buildSlice (cells := (sCells keyS[ix])) F12 sl22 zero9 rfl rfl rfl rfl (evp1 (ev_t rfl)) rfl rfl (by kernel_rfl) ?_)
                intro b4 w12 hb4 F13
                refine ⟨(((F13.erase 5).erase 4).erase 1).drop1, ?_⟩
                refine Hops.one 7 rfl (by kernel_rfl) (One.append (enc := sCells) [keyS[ix]] F13 4 rfl sl22 zero9 rfl rfl (fun _ => rfl) rfl rfl rfl rfl (ev_t rfl) (ev_t rfl) ((blk_rep (enc := sCells) (sz := 1) (xs := [keyS[ix]]) (fun _ => rfl) (by simpa using F13.get 0 rfl) (by simp) (by simp)).weak fun _ _ => trivial) (fun y hy => rfl) (by simp; omega) (by simp; omega) ?_)
                intro ku2 w13 hku2 F14
                refine ⟨(((F14.erase 5).erase 4).erase 1).drop1, ?_⟩
                change Fr _ _ [_, _, _, _, _, blk _ _ [_, _, _, _, _], blk _ _ [_, _, _, _, _], _] _ at F14
                refine Hops.take 8 rfl (by kernel_rfl) (fun _ _ _ h => h) rfl rfl rfl (((F14.erase 5).erase 4).erase 1).drop1 (fun w F => (yld_field fi33_3 rfl (ev_t rfl))) ?_
                refine Hops.one 9 rfl (by kernel_rfl) (One.store1 F14 5 rfl sz22 rfl rfl rfl (ev_t rfl) rfl (ev_t rfl) (own_one (F14.get 4 rfl)) ?_)
                intro w14 F15
                refine ⟨(((F15.erase 5).erase 4).erase 1).drop1, ?_⟩
                change Fr _ _ [_, _, _, _, _, blk _ _ [_, _, _, _, _], blk _ _ [_, _, _, _, _], _] _ at F15
                refine Hops.nil (by kernel_rfl) fun a hS => ?_
                have F16 := F15.pull 7 rfl
                have F17 := F16.pull 7 rfl
                have F18 := F17.pull 5 rfl
                have F19 := F18.pull 5 rfl
                have F20 := F19.pull 6 rfl
                have F21 := F20.pull 7 rfl
                have F22 := F21.erase 6
                have F23 := F22.erase 6
                exact hK16 (ku2, ()) _ a (hS.sub ⟨rfl, rfl, rfl, rfl, rfl, trivial⟩) F23
              · skip
                refine (One.buildSlice (cells := (keyS.flatMap sCells)) F11 sl22 zero9 rfl rfl rfl rfl (evp4 ev_c ev_c ev_c ev_c) rfl rfl (by kernel_rfl) ?_)
                intro b5 w15 hb5 F24
                refine ⟨((F24.erase 4).erase 3).drop1, ?_⟩
                refine Hops.take 4 rfl (by kernel_rfl) (fun _ _ _ h => h) rfl rfl rfl ((F24.erase 4).erase 3).drop1 (fun w F => (yld_indexN sl22 rfl (ev_t rfl) (ev_t rfl) (fun _ => hi4b))) ?_
                refine Hops.two 1 5 rfl rfl (by kernel_rfl) ?_ ?_
                · skip
                  refine (One.val rfl rfl rfl (yld_load1 on22 rfl (ev_t rfl) (fun _ => F24.cell 4 rfl rfl)) ?_)
                  refine ⟨((F24.erase 4).erase 3).drop1, ?_⟩
                  refine Hops.one 5 rfl (by kernel_rfl) (One.val rfl rfl rfl (yld_load1 on9 rfl (ev_t rfl) (fun _ => (lit_cell (F24.get 0 rfl) hi4))) ?_)
                  refine ⟨((F24.erase 4).erase 3).drop1, ?_⟩
                  refine Hops.one 6 rfl (by kernel_rfl) (One.buildSlice (cells := (sCells keyS[ix])) F24 sl22 zero9 rfl rfl rfl rfl (evp1 (ev_t rfl)) rfl rfl (by kernel_rfl) ?_)
                  intro b6 w16 hb6 F25
                  refine ⟨(((F25.erase 5).erase 4).erase 1).drop1, ?_⟩
                  refine Hops.one 7 rfl (by kernel_rfl) (One.append (enc := sCells) [keyS[ix]] F25 4 rfl sl22 zero9 rfl rfl (fun _ => rfl) rfl rfl rfl rfl (ev_t rfl) (ev_t rfl) ((blk_rep (enc := sCells) (sz := 1) (xs := [keyS[ix]]) (fun _ => rfl) (by simpa using F25.get 0 rfl) (by simp) (by simp)).weak fun _ _ => trivial) (fun y hy => rfl) (by simp; omega) (by simp; omega) ?_)
                  intro ku2 w17 hku2 F26
                  refine ⟨(((F26.erase 5).erase 4).erase 1).drop1, ?_⟩
                  change Fr _ _ [_, _, _, _, _, blk _ _ [_, _, _, _, _], blk _ _ [_, _, _, _, _], _] _ at F26
                  refine Hops.take 8 rfl (by kernel_rfl) (fun _ _ _ h => h) rfl rfl rfl (((F26.erase 5).erase 4).erase 1).drop1 (fun w F => (yld_field fi33_3 rfl (ev_t rfl))) ?_
                  refine Hops.one 9 rfl (by kernel_rfl) (One.store1 F26 5 rfl sz22 rfl rfl rfl (ev_t rfl) rfl (ev_t rfl) (own_one (F26.get 4 rfl)) ?_)
                  intro w18 F27
                  refine ⟨(((F27.erase 5).erase 4).erase 1).drop1, ?_⟩
                  change Fr _ _ [_, _, _, _, _, blk _ _ [_, _, _, _, _], blk _ _ [_, _, _, _, _], _] _ at F27
                  refine Hops.nil (by kernel_rfl) fun a hS => ?_
                  have F28 := F27.pull 7 rfl
                  have F29 := F28.pull 7 rfl
                  have F30 := F29.pull 5 rfl
                  have F31 := F30.pull 5 rfl
                  have F32 := F31.pull 6 rfl
                  have F33 := F32.pull 7 rfl
                  have F34 := F33.erase 6
                  have F35 := F34.erase 6
                  exact hK16 (ku2, ()) _ a (hS.sub ⟨rfl, rfl, rfl, rfl, rfl, trivial⟩) F35
                · skip
                  refine (One.val rfl rfl rfl (yld_load1 on9 rfl (ev_t rfl) (fun _ => (lit_cell (F24.get 0 rfl) hi4))) ?_)
                  refine ⟨((F24.erase 4).erase 3).drop1, ?_⟩
                  refine Hops.two 1 6 rfl rfl (by kernel_rfl) ?_ ?_
                  · skip
                    refine (One.val rfl rfl rfl (yld_load1 on22 rfl (ev_t rfl) (fun _ => F24.cell 4 rfl rfl)) ?_)
                    refine ⟨((F24.erase 4).erase 3).drop1, ?_⟩
                    refine Hops.one 6 rfl (by kernel_rfl) (One.buildSlice (cells := (sCells keyS[ix])) F24 sl22 zero9 rfl rfl rfl rfl (evp1 (ev_t rfl)) rfl rfl (by kernel_rfl) ?_)
                    intro b7 w19 hb7 F36
                    refine ⟨(((F36.erase 5).erase 4).erase 1).drop1, ?_⟩
                    refine Hops.one 7 rfl (by kernel_rfl) (One.append (enc := sCells) [keyS[ix]] F36 4 rfl sl22 zero9 rfl rfl (fun _ => rfl) rfl rfl rfl rfl (ev_t rfl) (ev_t rfl) ((blk_rep (enc := sCells) (sz := 1) (xs := [keyS[ix]]) (fun _ => rfl) (by simpa using F36.get 0 rfl) (by simp) (by simp)).weak fun _ _ => trivial) (fun y hy => rfl) (by simp; omega) (by simp; omega) ?_)
                    intro ku2 w20 hku2 F37
                    refine ⟨(((F37.erase 5).erase 4).erase 1).drop1, ?_⟩
                    change Fr _ _ [_, _, _, _, _, blk _ _ [_, _, _, _, _], blk _ _ [_, _, _, _, _], _] _ at F37
                    refine Hops.take 8 rfl (by kernel_rfl) (fun _ _ _ h => h) rfl rfl rfl (((F37.erase 5).erase 4).erase 1).drop1 (fun w F => (yld_field fi33_3 rfl (ev_t rfl))) ?_
                    refine Hops.one 9 rfl (by kernel_rfl) (One.store1 F37 5 rfl sz22 rfl rfl rfl (ev_t rfl) rfl (ev_t rfl) (own_one (F37.get 4 rfl)) ?_)
                    intro w21 F38
                    refine ⟨(((F38.erase 5).erase 4).erase 1).drop1, ?_⟩
                    change Fr _ _ [_, _, _, _, _, blk _ _ [_, _, _, _, _], blk _ _ [_, _, _, _, _], _] _ at F38
                    refine Hops.nil (by kernel_rfl) fun a hS => ?_
                    have F39 := F38.pull 7 rfl
                    have F40 := F39.pull 7 rfl
                    have F41 := F40.pull 5 rfl
                    have F42 := F41.pull 5 rfl
                    have F43 := F42.pull 6 rfl
                    have F44 := F43.pull 7 rfl
                    have F45 := F44.erase 6
                    have F46 := F45.erase 6
                    exact hK16 (ku2, ()) _ a (hS.sub ⟨rfl, rfl, rfl, rfl, rfl, trivial⟩) F46
                  · skip
                    refine (One.buildSlice (cells := (sCells keyS[ix])) F24 sl22 zero9 rfl rfl rfl rfl (evp1 (ev_t rfl)) rfl rfl (by kernel_rfl) ?_)
                    intro b8 w22 hb8 F47
                    refine ⟨(((F47.erase 5).erase 4).erase 1).drop1, ?_⟩
                    refine Hops.one 1 rfl (by kernel_rfl) (One.val rfl rfl rfl (yld_load1 on22 rfl (ev_t rfl) (fun _ => F47.cell 5 rfl rfl)) ?_)
                    refine ⟨(((F47.erase 5).erase 4).erase 1).drop1, ?_⟩
                    refine Hops.one 7 rfl (by kernel_rfl) (One.append (enc := sCells) [keyS[ix]] F47 4 rfl sl22 zero9 rfl rfl (fun _ => rfl) rfl rfl rfl rfl (ev_t rfl) (ev_t rfl) ((blk_rep (enc := sCells) (sz := 1) (xs := [keyS[ix]]) (fun _ => rfl) (by simpa using F47.get 0 rfl) (by simp) (by simp)).weak fun _ _ => trivial) (fun y hy => rfl) (by simp; omega) (by simp; omega) ?_)
                    intro ku2 w23 hku2 F48
                    refine ⟨(((F48.erase 5).erase 4).erase 1).drop1, ?_⟩
                    change Fr _ _ [_, _, _, _, _, blk _ _ [_, _, _, _, _], blk _ _ [_, _, _, _, _], _] _ at F48
                    refine Hops.take 8 rfl (by kernel_rfl) (fun _ _ _ h => h) rfl rfl rfl (((F48.erase 5).erase 4).erase 1).drop1 (fun w F => (yld_field fi33_3 rfl (ev_t rfl))) ?_
                    refine Hops.one 9 rfl (by kernel_rfl) (One.store1 F48 5 rfl sz22 rfl rfl rfl (ev_t rfl) rfl (ev_t rfl) (own_one (F48.get 4 rfl)) ?_)
                    intro w24 F49
                    refine ⟨(((F49.erase 5).erase 4).erase 1).drop1, ?_⟩
                    change Fr _ _ [_, _, _, _, _, blk _ _ [_, _, _, _, _], blk _ _ [_, _, _, _, _], _] _ at F49
                    refine Hops.nil (by kernel_rfl) fun a hS => ?_
                    have F50 := F49.pull 7 rfl
                    have F51 := F50.pull 7 rfl
                    have F52 := F51.pull 5 rfl
                    have F53 := F52.pull 5 rfl
                    have F54 := F53.pull 6 rfl
                    have F55 := F54.pull 7 rfl
                    have F56 := F55.erase 6
                    have F57 := F56.erase 6
                    exact hK16 (ku2, ()) _ a (hS.sub ⟨rfl, rfl, rfl, rfl, rfl, trivial⟩) F57
            · skip
              intro i w25 hW
              obtain ⟨ku2, u0⟩ := i
              have F58 := hW
              dsimp only at *
              have F59 := F58.drew
              refine Cod.draw (C_of ((F59.erase 5).erase 2).drop1) (by kernel_rfl) ?_
              refine Hops.take 0 rfl (by kernel_rfl) (fun _ _ _ h => h) rfl rfl rfl ((F59.erase 5).erase 2).drop1 (fun w F => (yld_field fi33_4 rfl (ev_t rfl))) ?_
              refine Hops.take 2 rfl (by kernel_rfl) (fun _ _ _ h => h) rfl rfl rfl ((F59.erase 5).erase 2).drop1 (fun w F => (yld_move rfl (ev_t rfl))) ?_
              refine Hops.take 3 rfl (by kernel_rfl) (fun _ _ _ h => h) rfl rfl rfl ((F59.erase 5).erase 2).drop1 (fun w F => (yld_move rfl (ev_t rfl))) ?_
              refine Hops.take 4 rfl (by kernel_rfl) (fun _ _ _ h => h) rfl rfl rfl ((F59.erase 5).erase 2).drop1 (fun w F => (yld_sub rfl (ev_t rfl) ev_c (fun _ => by omega))) ?_
              refine Hops.two 1 5 rfl rfl (by kernel_rfl) ?_ ?_
              · skip
                refine (One.val rfl rfl rfl (yld_load1 on31 rfl (ev_t rfl) (fun _ => F59.cell 0 rfl rfl)) ?_)
                refine ⟨((F59.erase 5).erase 2).drop1, ?_⟩
                refine Hops.one 5 rfl (by kernel_rfl) (One.call rfl rfl rfl (ent_f rfl (evl2 (ev_t rfl) (ev_t rfl)) (enters en94)) (IH d (by omega) (dI - 1) bb cv _ _ (by omega) (hcode.keep F59.chg) (F59.get 5 rfl) (by omega) (by omega)) (fun e w26 hw26 => ?_))
                obtain ⟨sx, Gsx, tsx, rfl, C26, hrdsx, hssx, hbsx, hpsx⟩ := hw26
                have F60 := F59.updNew 5 rfl C26 (fun _ hk => hk) (rd bb cv _) hrdsx (fun _ hk => hk) (sep Gsx tsx sx.val) hssx hbsx
                change Fr _ _ (_ :: [_, _, _, _, _, _]) _ at F60
                refine ⟨_, rfl, ?_⟩
                refine ⟨(((F60.erase 6).erase 3).erase 1).drop1, ?_⟩
                refine Hops.one 6 rfl (by kernel_rfl) (One.buildSlice (cells := (enc5 sx)) F60 sl31 zero33 rfl rfl rfl rfl (evp1 (ev_t rfl)) rfl rfl (by kernel_rfl) ?_)
                intro b9 w27 hb9 F61
                refine ⟨((((F61.erase 7).erase 4).erase 2).erase 1).drop1, ?_⟩
                refine Hops.one 7 rfl (by kernel_rfl) (One.append (enc := enc5) [sx] F61 4 rfl sl31 zero33 rfl rfl (fun _ => rfl) rfl rfl rfl rfl (ev_t rfl) (ev_t rfl) ((blk_rep (enc := enc5) (sz := 5) (xs := [sx]) (fun _ => rfl) (by simpa using F61.get 0 rfl) (by simp) (by simp)).weak fun _ _ => trivial) (one_all hssx.one) (by simp; omega) (by simp; omega) ?_)
                intro lu2 w28 hlu2 F62
                refine ⟨((((F62.erase 7).erase 4).erase 2).erase 1).drop1, ?_⟩
                change Fr _ _ [_, _, blk _ _ [_, _, _, _, _], _, _, _, blk _ _ [_, _, _, _, _], _] _ at F62
                refine Hops.take 8 rfl (by kernel_rfl) (fun _ _ _ h => h) rfl rfl rfl ((((F62.erase 7).erase 4).erase 2).erase 1).drop1 (fun w F => (yld_field fi33_4 rfl (ev_t rfl))) ?_
                refine Hops.one 9 rfl (by kernel_rfl) (One.store1 F62 2 rfl sz31 rfl rfl rfl (ev_t rfl) rfl (ev_t rfl) (own_one (F62.get 4 rfl)) ?_)
                intro w29 F63
                refine ⟨((((F63.erase 7).erase 4).erase 2).erase 1).drop1, ?_⟩
                change Fr _ _ [_, _, blk _ _ [_, _, _, _, _], _, _, _, blk _ _ [_, _, _, _, _], _] _ at F63
                refine Hops.nil (by kernel_rfl) fun a hS => ?_
                refine hK14 _ _ ?_ a hS
                refine Cod.region ?_
                refine Ops.step (One.val rfl rfl rfl (yld_move rfl (ev_t rfl)) ?_)
                refine Ops.step (One.val rfl rfl rfl (yld_inc rfl (ev_t rfl) (fun _ => by omega)) ?_)
                refine Ops.step (One.val rfl rfl rfl (yld_assign rfl (ev_t rfl)) ?_)
                refine Ops.nil fun a hS => ?_
                have F64 := F63.pull 7 rfl
                have F65 := F64.pull 7 rfl
                have F66 := F65.pull 4 rfl
                have F67 := F66.pull 5 rfl
                have F68 := F67.pull 7 rfl
                have F69 := F68.pull 7 rfl
                have F70 := F69.pull 7 rfl
                have F71 := F70.erase 7
                have hF := F71.toKid (xs' := xs ++ [sx]) (by rw [← hxl]; simp) (fun j hj => by rw [List.getElem?_append_left (by omega)])
                have hF2 := hF.rdUp 5 rfl (lim + 2 + (ix + 1) * (1 + pk d)) (by rw [Nat.add_mul]; omega)
                exact hK11 (ix + 1, ks ++ [keyS[ix]], ts ++ [tsx], xs ++ [sx], ku2, lu2, _) _ a (hS.sub ⟨rfl, rfl, rfl, rfl, rfl, trivial⟩) ⟨by show ix + 1 ≤ 4; omega, hM.snoc (keyS_size hi4) ⟨hpsx.fit, hpsx.wt⟩, by simp [hxl], hF2⟩ (by show 4 - (ix + 1) < 4 - ix; omega)
              · skip
                refine (One.call rfl rfl rfl (ent_f rfl (evl2 (ev_t rfl) (ev_t rfl)) (enters en94)) (IH d (by omega) (dI - 1) bb cv _ _ (by omega) (hcode.keep F59.chg) (F59.get 5 rfl) (by omega) (by omega)) (fun e w30 hw30 => ?_))
                obtain ⟨sx, Gsx, tsx, rfl, C30, hrdsx, hssx, hbsx, hpsx⟩ := hw30
                have F72 := F59.updNew 5 rfl C30 (fun _ hk => hk) (rd bb cv _) hrdsx (fun _ hk => hk) (sep Gsx tsx sx.val) hssx hbsx
                change Fr _ _ (_ :: [_, _, _, _, _, _]) _ at F72
                refine ⟨_, rfl, ?_⟩
                refine ⟨(((F72.erase 6).erase 3).erase 1).drop1, ?_⟩
                refine Hops.two 1 6 rfl rfl (by kernel_rfl) ?_ ?_
                · skip
                  refine (One.val rfl rfl rfl (yld_load1 on31 rfl (ev_t rfl) (fun _ => F72.cell 1 rfl rfl)) ?_)
                  refine ⟨(((F72.erase 6).erase 3).erase 1).drop1, ?_⟩
                  refine Hops.one 6 rfl (by kernel_rfl) (One.buildSlice (cells := (enc5 sx)) F72 sl31 zero33 rfl rfl rfl rfl (evp1 (ev_t rfl)) rfl rfl (by kernel_rfl) ?_)
                  intro b10 w31 hb10 F73
                  refine ⟨((((F73.erase 7).erase 4).erase 2).erase 1).drop1, ?_⟩
                  refine Hops.one 7 rfl (by kernel_rfl) (One.append (enc := enc5) [sx] F73 4 rfl sl31 zero33 rfl rfl (fun _ => rfl) rfl rfl rfl rfl (ev_t rfl) (ev_t rfl) ((blk_rep (enc := enc5) (sz := 5) (xs := [sx]) (fun _ => rfl) (by simpa using F73.get 0 rfl) (by simp) (by simp)).weak fun _ _ => trivial) (one_all hssx.one) (by simp; omega) (by simp; omega) ?_)
                  intro lu2 w32 hlu2 F74
                  refine ⟨((((F74.erase 7).erase 4).erase 2).erase 1).drop1, ?_⟩
                  change Fr _ _ [_, _, blk _ _ [_, _, _, _, _], _, _, _, blk _ _ [_, _, _, _, _], _] _ at F74
                  refine Hops.take 8 rfl (by kernel_rfl) (fun _ _ _ h => h) rfl rfl rfl ((((F74.erase 7).erase 4).erase 2).erase 1).drop1 (fun w F => (yld_field fi33_4 rfl (ev_t rfl))) ?_
                  refine Hops.one 9 rfl (by kernel_rfl) (One.store1 F74 2 rfl sz31 rfl rfl rfl (ev_t rfl) rfl (ev_t rfl) (own_one (F74.get 4 rfl)) ?_)
                  intro w33 F75
                  refine ⟨((((F75.erase 7).erase 4).erase 2).erase 1).drop1, ?_⟩
                  change Fr _ _ [_, _, blk _ _ [_, _, _, _, _], _, _, _, blk _ _ [_, _, _, _, _], _] _ at F75
                  refine Hops.nil (by kernel_rfl) fun a hS => ?_
                  refine hK14 _ _ ?_ a hS
                  refine Cod.region ?_
                  refine Ops.step (One.val rfl rfl rfl (yld_move rfl (ev_t rfl)) ?_)
                  refine Ops.step (One.val rfl rfl rfl (yld_inc rfl (ev_t rfl) (fun _ => by omega)) ?_)
                  refine Ops.step (One.val rfl rfl rfl (yld_assign rfl (ev_t rfl)) ?_)
                  refine Ops.nil fun a hS => ?_
                  have F76 := F75.pull 7 rfl
                  have F77 := F76.pull 7 rfl
                  have F78 := F77.pull 4 rfl
                  have F79 := F78.pull 5 rfl
                  have F80 := F79.pull 7 rfl
                  have F81 := F80.pull 7 rfl
                  have F82 := F81.pull 7 rfl
                  have F83 := F82.erase 7
                  have hF := F83.toKid (xs' := xs ++ [sx]) (by rw [← hxl]; simp) (fun j hj => by rw [List.getElem?_append_left (by omega)])
                  have hF2 := hF.rdUp 5 rfl (lim + 2 + (ix + 1) * (1 + pk d)) (by rw [Nat.add_mul]; omega)
                  exact hK11 (ix + 1, ks ++ [keyS[ix]], ts ++ [tsx], xs ++ [sx], ku2, lu2, _) _ a (hS.sub ⟨rfl, rfl, rfl, rfl, rfl, trivial⟩) ⟨by show ix + 1 ≤ 4; omega, hM.snoc (keyS_size hi4) ⟨hpsx.fit, hpsx.wt⟩, by simp [hxl], hF2⟩ (by show 4 - (ix + 1) < 4 - ix; omega)
                · skip
                  refine (One.buildSlice (cells := (enc5 sx)) F72 sl31 zero33 rfl rfl rfl rfl (evp1 (ev_t rfl)) rfl rfl (by kernel_rfl) ?_)
                  intro b11 w34 hb11 F84
                  refine ⟨((((F84.erase 7).erase 4).erase 2).erase 1).drop1, ?_⟩
                  refine Hops.one 1 rfl (by kernel_rfl) (One.val rfl rfl rfl (yld_load1 on31 rfl (ev_t rfl) (fun _ => F84.cell 2 rfl rfl)) ?_)
                  refine ⟨((((F84.erase 7).erase 4).erase 2).erase 1).drop1, ?_⟩
                  refine Hops.one 7 rfl (by kernel_rfl) (One.append (enc := enc5) [sx] F84 4 rfl sl31 zero33 rfl rfl (fun _ => rfl) rfl rfl rfl rfl (ev_t rfl) (ev_t rfl) ((blk_rep (enc := enc5) (sz := 5) (xs := [sx]) (fun _ => rfl) (by simpa using F84.get 0 rfl) (by simp) (by simp)).weak fun _ _ => trivial) (one_all hssx.one) (by simp; omega) (by simp; omega) ?_)
                  intro lu2 w35 hlu2 F85
                  refine ⟨((((F85.erase 7).erase 4).erase 2).erase 1).drop1, ?_⟩
                  change Fr _ _ [_, _, blk _ _ [_, _, _, _, _], _, _, _, blk _ _ [_, _, _, _, _], _] _ at F85
                  refine Hops.take 8 rfl (by kernel_rfl) (fun _ _ _ h => h) rfl rfl rfl ((((F85.erase 7).erase 4).erase 2).erase 1).drop1 (fun w F => (yld_field fi33_4 rfl (ev_t rfl))) ?_
                  refine Hops.one 9 rfl (by kernel_rfl) (One.store1 F85 2 rfl sz31 rfl rfl rfl (ev_t rfl) rfl (ev_t rfl) (own_one (F85.get 4 rfl)) ?_)
                  intro w36 F86
                  refine ⟨((((F86.erase 7).erase 4).erase 2).erase 1).drop1, ?_⟩
                  change Fr _ _ [_, _, blk _ _ [_, _, _, _, _], _, _, _, blk _ _ [_, _, _, _, _], _] _ at F86
                  refine Hops.nil (by kernel_rfl) fun a hS => ?_
                  refine hK14 _ _ ?_ a hS
                  refine Cod.region ?_
                  refine Ops.step (One.val rfl rfl rfl (yld_move rfl (ev_t rfl)) ?_)
                  refine Ops.step (One.val rfl rfl rfl (yld_inc rfl (ev_t rfl) (fun _ => by omega)) ?_)
                  refine Ops.step (One.val rfl rfl rfl (yld_assign rfl (ev_t rfl)) ?_)
                  refine Ops.nil fun a hS => ?_
                  have F87 := F86.pull 7 rfl
                  have F88 := F87.pull 7 rfl
                  have F89 := F88.pull 4 rfl
                  have F90 := F89.pull 5 rfl
                  have F91 := F90.pull 7 rfl
                  have F92 := F91.pull 7 rfl
                  have F93 := F92.pull 7 rfl
                  have F94 := F93.erase 7
                  have hF := F94.toKid (xs' := xs ++ [sx]) (by rw [← hxl]; simp) (fun j hj => by rw [List.getElem?_append_left (by omega)])
                  have hF2 := hF.rdUp 5 rfl (lim + 2 + (ix + 1) * (1 + pk d)) (by rw [Nat.add_mul]; omega)
                  exact hK11 (ix + 1, ks ++ [keyS[ix]], ts ++ [tsx], xs ++ [sx], ku2, lu2, _) _ a (hS.sub ⟨rfl, rfl, rfl, rfl, rfl, trivial⟩) ⟨by show ix + 1 ≤ 4; omega, hM.snoc (keyS_size hi4) ⟨hpsx.fit, hpsx.wt⟩, by simp [hxl], hF2⟩ (by show 4 - (ix + 1) < 4 - ix; omega)
          · skip
            refine Cod.skip fun a hS => ?_
            refine hK14 _ _ ?_ a hS
            refine Cod.region ?_
            refine Ops.step (One.val rfl rfl rfl (yld_move rfl (ev_t rfl)) ?_)
            refine Ops.step (One.val rfl rfl rfl (yld_inc rfl (ev_t rfl) (fun _ => by omega)) ?_)
            refine Ops.step (One.val rfl rfl rfl (yld_assign rfl (ev_t rfl)) ?_)
            refine Ops.nil fun a hS => ?_
            have F95 := F10.pull 5 rfl
            have F96 := F95.pull 5 rfl
            have F97 := F96.pull 5 rfl
            have F98 := F97.pull 5 rfl
            have F99 := F98.pull 5 rfl
            have F100 := F99.pull 5 rfl
            have hF2 := F100.rdUp 5 rfl (lim + 2 + (ix + 1) * (1 + pk d)) (by rw [Nat.add_mul]; omega)
            exact hK11 (ix + 1, ks, ts, xs, ku, lu, G) _ a (hS.sub ⟨rfl, rfl, rfl, rfl, rfl, trivial⟩) ⟨by show ix + 1 ≤ 4; omega, hM.skip, hxl, hF2⟩ (by show 4 - (ix + 1) < 4 - ix; omega)
        · skip
          skip
          refine Cod.exit fun a hS => ?_
          simp only [Exit.then, Exit.inBlock, ↓reduceIte]
          refine hK9 _ _ ?_ a hS
          refine Cod.seq fun K17 hK17 => ?_
          refine Cod.region ?_
          refine Ops.step (One.val rfl rfl rfl (yld_loadN ag33 rfl (ev_t rfl) (fun _ => F9.range (m := 5) (cs' := [_, _, _, _, _]) 3 rfl rfl) rfl) ?_)
          refine Ops.step (One.storeN (vs := [_, _, _, _, _]) F9 4 rfl sz33 rfl rfl rfl (ev_t rfl) (ev_t rfl) rfl rfl (one5 (own_one (F9.get 2 rfl)) (own_one (F9.get 0 rfl))) ?_)
          intro w37 F101
          change Fr _ _ [_, _, _, blk _ _ [_, _, _, _, _], blk _ _ [_, _, _, _, _], _] _ at F101
          refine Ops.nil fun a hS => ?_
          refine hK17 _ _ ?_ a hS
          refine Cod.ret fun a hS => ?_
          try simp only [Exit.then, Exit.inBlock]
          obtain ⟨GG, hT⟩ := Fr.toTree (k := 6) (n := 0) (s := ⟨#[]⟩) F101 hxl
          exact retc (t := 4) (ty := 33) rfl hS ag33 rfl (F101.range (m := 5) (cs' := [_, _, _, _, _]) 4 rfl rfl) rfl (Drew.of (x := x5 6 0 ⟨#[]⟩ ku lu) hT 3 0 rfl rfl (by decide) (by omega) (hM.tree hi))
      · skip
        refine Cod.skip fun a hS => ?_
        refine hK6 _ _ ?_ a hS
        refine Cod.seq fun K18 hK18 => ?_
        refine Cod.seq fun K19 hK19 => ?_
        refine Cod.region ?_
        refine Ops.step (One.val rfl rfl rfl (yld_move rfl (ev_t rfl)) ?_)
        refine Ops.step (One.call rfl rfl rfl (ent_f rfl (evl2 (ev_t rfl) ev_c) (enters en95)) (pick_ct 4 bb cv _ _ (hcode.keep F7.chg) (F7.get 2 rfl) (by omega) (by omega)) (fun e w38 hw38 => ?_))
        obtain ⟨r13, rfl, C38, hrdr13, hr13⟩ := hw38
        have F102 := F7.upd 2 rfl C38 (fun _ hk => .inl hk) (rd bb cv _) hrdr13 (fun _ hk => .inl hk)
        change Fr _ _ [_, _, _] _ at F102
        refine ⟨_, rfl, ?_⟩
        refine Ops.step (One.val rfl rfl rfl (yld_assign rfl (ev_t rfl)) ?_)
        refine Ops.nil fun a hS => ?_
        refine hK19 _ _ ?_ a hS
        refine Cod.block ?_
        refine Cod.loop (fun i : Nat × Nat × List Tr × List V5 × Value × (Nat → Prop) => [(0, true, .pointer (some ⟨bb, 0, none⟩)), (1, true, .int .i64 dI), (4, true, .pointer (some ⟨b1, 0, none⟩)), (5, true, .pointer (some ⟨b2, 0, none⟩)), (7, true, .int .i64 (i.1 : Int))]) (fun i w' => i.1 + i.2.1 ≤ 3 ∧ RowI d i.2.1 i.2.2.1 ∧ i.2.2.2.1.length = i.2.2.1.length ∧ Fr (· = bb) w [own 33 5 i.2.2.2.2.1 i.2.2.2.1.length (i.2.2.2.1.flatMap enc5), kids i.2.2.2.2.2 i.2.2.1 i.2.2.2.1, blk b2 33 [.int .i64 5, .int .i64 0, .string ⟨#[]⟩, .slice none 0 0, i.2.2.2.2.1], blk b1 33 [.int .i64 0, .int .i64 0, .string ⟨#[]⟩, .slice none 0 0, .slice none 0 0], rd bb cv (lim + 3 + i.2.1 * pk d)] w') (fun i => i.1) (r13, 0, [], [], .slice none 0 0, No) ⟨rfl, rfl, rfl, rfl, rfl, trivial⟩ ⟨by show r13 + 0 ≤ 3; omega, RowI.nil d, rfl, (F102.rdUp 2 rfl (lim + 3 + 0 * pk d) (by omega)).nilKids.nilRow 33 5⟩ ?_
        intro i w39 hW K20 hK20
        obtain ⟨i, m, ts, xs, lu, G⟩ := i
        obtain ⟨hi, hM, hxl, F103⟩ := hW
        dsimp only at *
        have htl := hM.le
        have hmc : m * pk d ≤ 3 * pk d := Nat.mul_le_mul_right _ (by omega)
        refine Cod.seq fun K21 hK21 => ?_
        refine Cod.seq fun K22 hK22 => ?_
        refine Cod.region ?_
        refine Ops.step (One.val rfl rfl rfl (yld_move rfl (ev_t rfl)) ?_)
        refine Ops.step (One.val rfl rfl rfl (yld_gtr rfl (ev_t rfl) ev_c) ?_)
        refine Ops.nil fun a hS => ?_
        refine hK22 _ _ ?_ a hS
        refine Cod.cond rfl (fun hc51 => ?_) (fun hc51 => ?_)
        · skip
          obtain ⟨j, rfl⟩ : ∃ j, i = j + 1 := ⟨i - 1, by simp at hc51; omega⟩
          have hmc2 : (m + 1) * pk d ≤ 3 * pk d := Nat.mul_le_mul_right _ (by omega)
          rw [Nat.add_mul] at hmc2
          refine Cod.skip fun a hS => ?_
          refine hK21 _ _ ?_ a hS
          refine Cod.seq fun K23 hK23 => ?_
          refine Cod.block ?_
          have F104 := F103.drew
          refine Cod.draw (C_of ((F104.erase 4).erase 2).drop1) (by kernel_rfl) ?_
          refine Hops.take 0 rfl (by kernel_rfl) (fun _ _ _ h => h) rfl rfl rfl ((F104.erase 4).erase 2).drop1 (fun w F => (yld_field fi33_4 rfl (ev_t rfl))) ?_
          refine Hops.take 2 rfl (by kernel_rfl) (fun _ _ _ h => h) rfl rfl rfl ((F104.erase 4).erase 2).drop1 (fun w F => (yld_move rfl (ev_t rfl))) ?_
          refine Hops.take 3 rfl (by kernel_rfl) (fun _ _ _ h => h) rfl rfl rfl ((F104.erase 4).erase 2).drop1 (fun w F => (yld_move rfl (ev_t rfl))) ?_
          refine Hops.take 4 rfl (by kernel_rfl) (fun _ _ _ h => h) rfl rfl rfl ((F104.erase 4).erase 2).drop1 (fun w F => (yld_sub rfl (ev_t rfl) ev_c (fun _ => by omega))) ?_
          refine Hops.two 1 5 rfl rfl (by kernel_rfl) ?_ ?_
          · skip
            refine (One.val rfl rfl rfl (yld_load1 on31 rfl (ev_t rfl) (fun _ => F104.cell 2 rfl rfl)) ?_)
            refine ⟨((F104.erase 4).erase 2).drop1, ?_⟩
            refine Hops.one 5 rfl (by kernel_rfl) (One.call rfl rfl rfl (ent_f rfl (evl2 (ev_t rfl) (ev_t rfl)) (enters en94)) (IH d (by omega) (dI - 1) bb cv _ _ (by omega) (hcode.keep F104.chg) (F104.get 4 rfl) (by omega) (by omega)) (fun e w40 hw40 => ?_))
            obtain ⟨sx, Gsx, tsx, rfl, C40, hrdsx, hssx, hbsx, hpsx⟩ := hw40
            have F105 := F104.updNew 4 rfl C40 (fun _ hk => hk) (rd bb cv _) hrdsx (fun _ hk => hk) (sep Gsx tsx sx.val) hssx hbsx
            change Fr _ _ (_ :: [_, _, _, _, _]) _ at F105
            refine ⟨_, rfl, ?_⟩
            refine ⟨(((F105.erase 5).erase 3).erase 1).drop1, ?_⟩
            refine Hops.one 6 rfl (by kernel_rfl) (One.buildSlice (cells := (enc5 sx)) F105 sl31 zero33 rfl rfl rfl rfl (evp1 (ev_t rfl)) rfl rfl (by kernel_rfl) ?_)
            intro b12 w41 hb12 F106
            refine ⟨((((F106.erase 6).erase 4).erase 2).erase 1).drop1, ?_⟩
            refine Hops.one 7 rfl (by kernel_rfl) (One.append (enc := enc5) [sx] F106 2 rfl sl31 zero33 rfl rfl (fun _ => rfl) rfl rfl rfl rfl (ev_t rfl) (ev_t rfl) ((blk_rep (enc := enc5) (sz := 5) (xs := [sx]) (fun _ => rfl) (by simpa using F106.get 0 rfl) (by simp) (by simp)).weak fun _ _ => trivial) (one_all hssx.one) (by simp; omega) (by simp; omega) ?_)
            intro lu2 w42 hlu2 F107
            refine ⟨((((F107.erase 6).erase 4).erase 2).erase 1).drop1, ?_⟩
            change Fr _ _ [_, _, _, _, blk _ _ [_, _, _, _, _], blk _ _ [_, _, _, _, _], _] _ at F107
            refine Hops.take 8 rfl (by kernel_rfl) (fun _ _ _ h => h) rfl rfl rfl ((((F107.erase 6).erase 4).erase 2).erase 1).drop1 (fun w F => (yld_field fi33_4 rfl (ev_t rfl))) ?_
            refine Hops.one 9 rfl (by kernel_rfl) (One.store1 F107 4 rfl sz31 rfl rfl rfl (ev_t rfl) rfl (ev_t rfl) (own_one (F107.get 2 rfl)) ?_)
            intro w43 F108
            refine ⟨((((F108.erase 6).erase 4).erase 2).erase 1).drop1, ?_⟩
            change Fr _ _ [_, _, _, _, blk _ _ [_, _, _, _, _], blk _ _ [_, _, _, _, _], _] _ at F108
            refine Hops.nil (by kernel_rfl) fun a hS => ?_
            refine hK23 _ _ ?_ a hS
            refine Cod.region ?_
            refine Ops.step (One.val rfl rfl rfl (yld_move rfl (ev_t rfl)) ?_)
            refine Ops.step (One.val rfl rfl rfl (yld_sub rfl (ev_t rfl) ev_c (fun _ => by omega)) ?_)
            refine Ops.step (One.val rfl rfl rfl (yld_assign rfl (ev_t rfl)) ?_)
            refine Ops.nil fun a hS => ?_
            have F109 := F108.pull 6 rfl
            have F110 := F109.pull 6 rfl
            have F111 := F110.pull 6 rfl
            have F112 := F111.pull 6 rfl
            have F113 := F112.pull 6 rfl
            have F114 := F113.pull 6 rfl
            have F115 := F114.erase 6
            have hF := F115.toKid (xs' := xs ++ [sx]) (by rw [← hxl]; simp) (fun j hj => by rw [List.getElem?_append_left (by omega)])
            have hj : ((j + 1 : Nat) : Int) - 1 = (j : Int) := by omega
            rw [hj] at hS
            have hF2 := hF.rdUp 4 rfl (lim + 3 + (m + 1) * pk d) (by rw [Nat.add_mul]; omega)
            exact hK20 (j, m + 1, ts ++ [tsx], xs ++ [sx], lu2, _) _ a (hS.sub ⟨rfl, rfl, rfl, rfl, rfl, trivial⟩) ⟨by show j + (m + 1) ≤ 3; omega, hM.snoc ⟨hpsx.fit, hpsx.wt⟩, by simp [hxl], hF2⟩ (by show j < j + 1; omega)
          · skip
            refine (One.call rfl rfl rfl (ent_f rfl (evl2 (ev_t rfl) (ev_t rfl)) (enters en94)) (IH d (by omega) (dI - 1) bb cv _ _ (by omega) (hcode.keep F104.chg) (F104.get 4 rfl) (by omega) (by omega)) (fun e w44 hw44 => ?_))
            obtain ⟨sx, Gsx, tsx, rfl, C44, hrdsx, hssx, hbsx, hpsx⟩ := hw44
            have F116 := F104.updNew 4 rfl C44 (fun _ hk => hk) (rd bb cv _) hrdsx (fun _ hk => hk) (sep Gsx tsx sx.val) hssx hbsx
            change Fr _ _ (_ :: [_, _, _, _, _]) _ at F116
            refine ⟨_, rfl, ?_⟩
            refine ⟨(((F116.erase 5).erase 3).erase 1).drop1, ?_⟩
            refine Hops.two 1 6 rfl rfl (by kernel_rfl) ?_ ?_
            · skip
              refine (One.val rfl rfl rfl (yld_load1 on31 rfl (ev_t rfl) (fun _ => F116.cell 3 rfl rfl)) ?_)
              refine ⟨(((F116.erase 5).erase 3).erase 1).drop1, ?_⟩
              refine Hops.one 6 rfl (by kernel_rfl) (One.buildSlice (cells := (enc5 sx)) F116 sl31 zero33 rfl rfl rfl rfl (evp1 (ev_t rfl)) rfl rfl (by kernel_rfl) ?_)
              intro b13 w45 hb13 F117
              refine ⟨((((F117.erase 6).erase 4).erase 2).erase 1).drop1, ?_⟩
              refine Hops.one 7 rfl (by kernel_rfl) (One.append (enc := enc5) [sx] F117 2 rfl sl31 zero33 rfl rfl (fun _ => rfl) rfl rfl rfl rfl (ev_t rfl) (ev_t rfl) ((blk_rep (enc := enc5) (sz := 5) (xs := [sx]) (fun _ => rfl) (by simpa using F117.get 0 rfl) (by simp) (by simp)).weak fun _ _ => trivial) (one_all hssx.one) (by simp; omega) (by simp; omega) ?_)
              intro lu2 w46 hlu2 F118
              refine ⟨((((F118.erase 6).erase 4).erase 2).erase 1).drop1, ?_⟩
              change Fr _ _ [_, _, _, _, blk _ _ [_, _, _, _, _], blk _ _ [_, _, _, _, _], _] _ at F118
              refine Hops.take 8 rfl (by kernel_rfl) (fun _ _ _ h => h) rfl rfl rfl ((((F118.erase 6).erase 4).erase 2).erase 1).drop1 (fun w F => (yld_field fi33_4 rfl (ev_t rfl))) ?_
              refine Hops.one 9 rfl (by kernel_rfl) (One.store1 F118 4 rfl sz31 rfl rfl rfl (ev_t rfl) rfl (ev_t rfl) (own_one (F118.get 2 rfl)) ?_)
              intro w47 F119
              refine ⟨((((F119.erase 6).erase 4).erase 2).erase 1).drop1, ?_⟩
              change Fr _ _ [_, _, _, _, blk _ _ [_, _, _, _, _], blk _ _ [_, _, _, _, _], _] _ at F119
              refine Hops.nil (by kernel_rfl) fun a hS => ?_
              refine hK23 _ _ ?_ a hS
              refine Cod.region ?_
              refine Ops.step (One.val rfl rfl rfl (yld_move rfl (ev_t rfl)) ?_)
              refine Ops.step (One.val rfl rfl rfl (yld_sub rfl (ev_t rfl) ev_c (fun _ => by omega)) ?_)
              refine Ops.step (One.val rfl rfl rfl (yld_assign rfl (ev_t rfl)) ?_)
              refine Ops.nil fun a hS => ?_
              have F120 := F119.pull 6 rfl
              have F121 := F120.pull 6 rfl
              have F122 := F121.pull 6 rfl
              have F123 := F122.pull 6 rfl
              have F124 := F123.pull 6 rfl
              have F125 := F124.pull 6 rfl
              have F126 := F125.erase 6
              have hF := F126.toKid (xs' := xs ++ [sx]) (by rw [← hxl]; simp) (fun j hj => by rw [List.getElem?_append_left (by omega)])
              have hj : ((j + 1 : Nat) : Int) - 1 = (j : Int) := by omega
              rw [hj] at hS
              have hF2 := hF.rdUp 4 rfl (lim + 3 + (m + 1) * pk d) (by rw [Nat.add_mul]; omega)
              exact hK20 (j, m + 1, ts ++ [tsx], xs ++ [sx], lu2, _) _ a (hS.sub ⟨rfl, rfl, rfl, rfl, rfl, trivial⟩) ⟨by show j + (m + 1) ≤ 3; omega, hM.snoc ⟨hpsx.fit, hpsx.wt⟩, by simp [hxl], hF2⟩ (by show j < j + 1; omega)
            · skip
              refine (One.buildSlice (cells := (enc5 sx)) F116 sl31 zero33 rfl rfl rfl rfl (evp1 (ev_t rfl)) rfl rfl (by kernel_rfl) ?_)
              intro b14 w48 hb14 F127
              refine ⟨((((F127.erase 6).erase 4).erase 2).erase 1).drop1, ?_⟩
              refine Hops.one 1 rfl (by kernel_rfl) (One.val rfl rfl rfl (yld_load1 on31 rfl (ev_t rfl) (fun _ => F127.cell 4 rfl rfl)) ?_)
              refine ⟨((((F127.erase 6).erase 4).erase 2).erase 1).drop1, ?_⟩
              refine Hops.one 7 rfl (by kernel_rfl) (One.append (enc := enc5) [sx] F127 2 rfl sl31 zero33 rfl rfl (fun _ => rfl) rfl rfl rfl rfl (ev_t rfl) (ev_t rfl) ((blk_rep (enc := enc5) (sz := 5) (xs := [sx]) (fun _ => rfl) (by simpa using F127.get 0 rfl) (by simp) (by simp)).weak fun _ _ => trivial) (one_all hssx.one) (by simp; omega) (by simp; omega) ?_)
              intro lu2 w49 hlu2 F128
              refine ⟨((((F128.erase 6).erase 4).erase 2).erase 1).drop1, ?_⟩
              change Fr _ _ [_, _, _, _, blk _ _ [_, _, _, _, _], blk _ _ [_, _, _, _, _], _] _ at F128
              refine Hops.take 8 rfl (by kernel_rfl) (fun _ _ _ h => h) rfl rfl rfl ((((F128.erase 6).erase 4).erase 2).erase 1).drop1 (fun w F => (yld_field fi33_4 rfl (ev_t rfl))) ?_
              refine Hops.one 9 rfl (by kernel_rfl) (One.store1 F128 4 rfl sz31 rfl rfl rfl (ev_t rfl) rfl (ev_t rfl) (own_one (F128.get 2 rfl)) ?_)
              intro w50 F129
              refine ⟨((((F129.erase 6).erase 4).erase 2).erase 1).drop1, ?_⟩
              change Fr _ _ [_, _, _, _, blk _ _ [_, _, _, _, _], blk _ _ [_, _, _, _, _], _] _ at F129
              refine Hops.nil (by kernel_rfl) fun a hS => ?_
              refine hK23 _ _ ?_ a hS
              refine Cod.region ?_
              refine Ops.step (One.val rfl rfl rfl (yld_move rfl (ev_t rfl)) ?_)
              refine Ops.step (One.val rfl rfl rfl (yld_sub rfl (ev_t rfl) ev_c (fun _ => by omega)) ?_)
              refine Ops.step (One.val rfl rfl rfl (yld_assign rfl (ev_t rfl)) ?_)
              refine Ops.nil fun a hS => ?_
              have F130 := F129.pull 6 rfl
              have F131 := F130.pull 6 rfl
              have F132 := F131.pull 6 rfl
              have F133 := F132.pull 6 rfl
              have F134 := F133.pull 6 rfl
              have F135 := F134.pull 6 rfl
              have F136 := F135.erase 6
              have hF := F136.toKid (xs' := xs ++ [sx]) (by rw [← hxl]; simp) (fun j hj => by rw [List.getElem?_append_left (by omega)])
              have hj : ((j + 1 : Nat) : Int) - 1 = (j : Int) := by omega
              rw [hj] at hS
              have hF2 := hF.rdUp 4 rfl (lim + 3 + (m + 1) * pk d) (by rw [Nat.add_mul]; omega)
              exact hK20 (j, m + 1, ts ++ [tsx], xs ++ [sx], lu2, _) _ a (hS.sub ⟨rfl, rfl, rfl, rfl, rfl, trivial⟩) ⟨by show j + (m + 1) ≤ 3; omega, hM.snoc ⟨hpsx.fit, hpsx.wt⟩, by simp [hxl], hF2⟩ (by show j < j + 1; omega)
        · skip
          skip
          refine Cod.exit fun a hS => ?_
          simp only [Exit.then, Exit.inBlock, ↓reduceIte]
          refine hK18 _ _ ?_ a hS
          refine Cod.seq fun K24 hK24 => ?_
          refine Cod.region ?_
          refine Ops.step (One.val rfl rfl rfl (yld_loadN ag33 rfl (ev_t rfl) (fun _ => F103.range (m := 5) (cs' := [_, _, _, _, _]) 2 rfl rfl) rfl) ?_)
          refine Ops.step (One.storeN (vs := [_, _, _, _, _]) F103 3 rfl sz33 rfl rfl rfl (ev_t rfl) (ev_t rfl) rfl rfl (one5 rfl (own_one (F103.get 0 rfl))) ?_)
          intro w51 F137
          change Fr _ _ [_, _, blk _ _ [_, _, _, _, _], blk _ _ [_, _, _, _, _], _] _ at F137
          refine Ops.nil fun a hS => ?_
          refine hK24 _ _ ?_ a hS
          refine Cod.ret fun a hS => ?_
          try simp only [Exit.then, Exit.inBlock]
          obtain ⟨GG, hT⟩ := Fr.rowTree (k := 5) (n := 0) (s := ⟨#[]⟩) F137 hxl
          exact retc (t := 4) (ty := 33) rfl hS ag33 rfl (F137.range (m := 5) (cs' := [_, _, _, _, _]) 3 rfl rfl) rfl (Drew.of (x := x5 5 0 ⟨#[]⟩ (.slice none 0 0) lu) hT 3 0 rfl rfl (by decide) (by omega) (hM.tree (by omega)))
  · intro hgf
    have hd1 : dI ≤ 1 := by simp [gof] at hgf; omega
    refine Ops.step (One.gskip (v := .int .i64 0) (gd_some rfl rfl) hgf rfl rfl ?_)
    refine Ops.step (One.val (gd_some rfl rfl) rfl rfl (yld_eql rfl (ev_g rfl) ev_c) ?_)
    refine Ops.step (One.val rfl rfl rfl (yld_or rfl (ev_t rfl) (ev_g rfl)) ?_)
    refine Ops.nil fun a hS => ?_
    refine hK3 _ _ ?_ a hS
    refine Cod.cond rfl (fun hc14 => ?_) (fun hc14 => ?_)
    · skip
      skip
      refine Cod.seq fun K25 hK25 => ?_
      refine Cod.region ?_
      refine Ops.step (One.val rfl rfl rfl (yld_move rfl (ev_t rfl)) ?_)
      refine Ops.step (One.call rfl rfl rfl (ent_f rfl (evl1 (ev_t rfl)) (enters en96)) (leaf_ct bb cv _ _ (hcode.keep F1.chg) (F1.get 1 rfl) (by omega)) (fun e w53 hw53 => ?_))
      obtain ⟨x1, Gx1, tx1, rfl, C53, hrdx1, hsx1, hbx1, hpx1⟩ := hw53
      have F139 := F1.updNew 1 rfl C53 (fun _ hk => hk) (rd bb cv _) hrdx1 (fun _ hk => hk) (sep Gx1 tx1 x1.val) hsx1 hbx1
      change Fr _ _ (_ :: [_, _]) _ at F139
      refine ⟨_, rfl, ?_⟩
      refine Ops.step (One.storeN (vs := [_, _, _, _, _]) F139 1 rfl sz33 rfl rfl rfl (ev_t rfl) (ev_t rfl) rfl rfl hsx1.one ?_)
      intro w54 F140
      change Fr _ _ [_, blk _ _ [_, _, _, _, _], _] _ at F140
      refine Ops.nil fun a hS => ?_
      refine hK25 _ _ ?_ a hS
      refine Cod.ret fun a hS => ?_
      try simp only [Exit.then, Exit.inBlock]
      exact retc (t := 4) (ty := 33) rfl hS ag33 rfl (F140.range (m := 5) (cs' := [_, _, _, _, _]) 1 rfl rfl) rfl (Drew.of (x := x1) F140 2 0 rfl rfl (by decide) (by omega) ⟨hpx1.fit, by have := hpx1.wt; omega, by have := hpx1.len; omega⟩)
    · skip
      simp at hc14


theorem val_ct (d : Nat) : ValD d := by
  induction d using Nat.strongRecOn with
  | _ d ih => exact val_of d ih
structure SomeT (t : Tr) : Prop where
  fit : t.Fit
  wt : t.wt ≤ 4092
  len : t.list.length ≤ 4

end Go.Proofs.YtpfkcblhojkaiaaDoor.Eng
