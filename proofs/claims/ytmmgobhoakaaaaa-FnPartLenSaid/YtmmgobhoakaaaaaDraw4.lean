/- Walks of the functions that draw a tree with a place, a key, or another tree. -/
import Derived.Test.YtmmgobhoakaaaaaDraw3
namespace Go.Proofs.Ytmmgobhoakaaaaa.Eng
open Go.RowKit
set_option linter.unusedVariables false
set_option linter.unusedSimpArgs false
set_option maxHeartbeats 1000000


theorem retctc {P : Program} {n : Nat} {S : Env} {fn : Func} {t k u : Tmp} {ty b m ty' b' m' : Nat} {cs cs' : List Value} {v : Value} {w : World} {R : Ending → World → Prop} {a : Act} (h : fn.results = #[.cell t ty, .tmp k, .cell u ty']) (hs : St n S a) (ht : aggT P ty m = true) (ht' : aggT P ty' m' = true) (hv : look S t = some (true, .pointer (some ⟨b, 0, none⟩))) (hk : look S k = some (true, v)) (hu : look S u = some (true, .pointer (some ⟨b', 0, none⟩))) (hb : w.rangeAt b 0 cs) (hb' : w.rangeAt b' 0 cs') (hl : cs.length = m) (hl' : cs'.length = m') (hR : R (.returned (.tuple #[.agg cs.toArray, v, .agg cs'.toArray])) w) : bodyPost P fn R .ret a w := by
  obtain ⟨d, h1, h2, h3⟩ := aggT_row ht
  obtain ⟨d', h1', h2', h3'⟩ := aggT_row ht'
  subst hl; subst hl'
  refine ⟨hs.df, _, ?_, hR⟩
  have hp := hs.get hv
  have hp' : a.tmps[t]?.getD undef = .pointer (some ⟨b, 0, none⟩) := by simpa using hp
  have hq := hs.get hu
  have hq' : a.tmps[u]?.getD undef = .pointer (some ⟨b', 0, none⟩) := by simpa using hq
  have hx := hs.get hk
  have hx' : a.tmps[k]?.getD undef = v := by simpa using hx
  simp [results, h, hp', hq', hx', asAddr, run_loadVar_mid w b 0 ty cs d hb h1 h2 h3, run_loadVar_mid w b' 0 ty' cs' d' hb' h1' h2' h3']
theorem retctt {P : Program} {n : Nat} {S : Env} {fn : Func} {t k u : Tmp} {ty b m : Nat} {cs : List Value} {v v' : Value} {w : World} {R : Ending → World → Prop} {a : Act} (h : fn.results = #[.cell t ty, .tmp k, .tmp u]) (hs : St n S a) (ht : aggT P ty m = true) (hv : look S t = some (true, .pointer (some ⟨b, 0, none⟩))) (hk : look S k = some (true, v)) (hu : look S u = some (true, v')) (hb : w.rangeAt b 0 cs) (hl : cs.length = m) (hR : R (.returned (.tuple #[.agg cs.toArray, v, v'])) w) : bodyPost P fn R .ret a w := by
  obtain ⟨d, h1, h2, h3⟩ := aggT_row ht
  subst hl
  refine ⟨hs.df, _, ?_, hR⟩
  have hp := hs.get hv
  have hp' : a.tmps[t]?.getD undef = .pointer (some ⟨b, 0, none⟩) := by simpa using hp
  have hq := hs.get hu
  have hq' : a.tmps[u]?.getD undef = v' := by simpa using hq
  have hx := hs.get hk
  have hx' : a.tmps[k]?.getD undef = v := by simpa using hx
  simp [results, h, hp', hq', hx', asAddr, run_loadVar_mid w b 0 ty cs d hb h1 h2 h3]
def R64 (a : Int) : Prop := -9223372036854775808 ≤ a ∧ a ≤ 9223372036854775807
def atID : List Int := [0, 1, 2, -1, -2, 5, -5, 100]
def cutID : List Int := [0, 1, 2, -1, -2, 9, -9, 9223372036854775807, -9223372036854775808]
def cutJD : List Int := [0, 1, 3, -1, 9, -9, 9223372036854775807, -9223372036854775808]
def setID : List Int := [0, 1, 2, -1, -2, 5, 60, -9, 59]
def cutSD : List ByteArray := [⟨#[]⟩, ⟨#[97, 98, 99]⟩, ⟨#[122, 122]⟩, ⟨#[97, 98, 99, 100, 101, 102, 103, 104, 105, 106, 107, 108]⟩]
def keyD : List ByteArray := [⟨#[97]⟩, ⟨#[98]⟩, ⟨#[99]⟩, ⟨#[97]⟩, ⟨#[98]⟩, ⟨#[100]⟩, ⟨#[]⟩, ⟨#[65]⟩, ⟨#[122, 122]⟩]

theorem mem64 {a : Int} {l : List Int} (h : a ∈ l) (hl : l.all (fun x => decide (-9223372036854775808 ≤ x) && decide (x ≤ 9223372036854775807)) = true) : R64 a := by
  have := List.all_eq_true.1 hl a h
  simp at this
  exact this
theorem memS {s : ByteArray} {l : List ByteArray} (h : s ∈ l) (hl : l.all (fun x => decide (x.size ≤ 12)) = true) : s.size ≤ 12 := by
  have := List.all_eq_true.1 hl s h
  simpa using this
/-- What a function gives that draws a tree and more. -/
def DrawI (w : World) (e : Ending) (w' : World) : Prop := ∃ (x : V5) (t : Tr) (a : Int), e = .returned (.tuple #[x.val, .int .i64 a]) ∧ Chg No w w' ∧ (rps (New w w') [(t, x.val)]).is w' ∧ Dr t ∧ R64 a
def DrawS (w : World) (e : Ending) (w' : World) : Prop := ∃ (x : V5) (t : Tr) (s : ByteArray), e = .returned (.tuple #[x.val, .string s]) ∧ Chg No w w' ∧ (rps (New w w') [(t, x.val)]).is w' ∧ Dr t ∧ s.size ≤ 12
def DrawII (w : World) (e : Ending) (w' : World) : Prop := ∃ (x : V5) (t : Tr) (a b : Int), e = .returned (.tuple #[x.val, .int .i64 a, .int .i64 b]) ∧ Chg No w w' ∧ (rps (New w w') [(t, x.val)]).is w' ∧ Dr t ∧ R64 a ∧ R64 b
def DrawIT (w : World) (e : Ending) (w' : World) : Prop := ∃ (x y : V5) (t u : Tr) (a : Int), e = .returned (.tuple #[x.val, .int .i64 a, y.val]) ∧ Chg No w w' ∧ (rps (New w w') [(t, x.val), (u, y.val)]).is w' ∧ Dr t ∧ Dr u ∧ R64 a
def DrawST (w : World) (e : Ending) (w' : World) : Prop := ∃ (x y : V5) (t u : Tr) (s : ByteArray), e = .returned (.tuple #[x.val, .string s, y.val]) ∧ Chg No w w' ∧ (rps (New w w') [(t, x.val), (u, y.val)]).is w' ∧ Dr t ∧ Dr u ∧ s.size ≤ 12
theorem LeafT.dr {t : Tr} (h : LeafT t) : Dr t := ⟨h.fit, by have := h.wt; omega, by have := h.len; omega⟩
theorem SomeT.dr {t : Tr} (h : SomeT t) : Dr t := ⟨h.fit, by have := h.wt; omega, by have := h.len; omega⟩

set_option maxRecDepth 100000 in
theorem keyDraw_ct (bb : Nat) (cv : Value) (lim : Nat) (w : World) (hcode : Code bb w cv) (hr : (rd bb cv lim).is w) (hlim : lim ≤ 1099511627776) :
    Calls Try.prog 88 #[.pointer (some ⟨bb, 0, none⟩)] w fun e w' => ∃ s : ByteArray, s.size ≤ 12 ∧ e = .returned (.string s) ∧ Chg (· = bb) w w' ∧ (rd bb cv (lim + 1)).is w' := by
  refine enter Try.func88 rfl rfl rfl ?_
  have F0 := Fr.lend (rd bb cv lim) hr
  refine Cod.seq fun K1 hK1 => ?_
  refine Cod.region ?_
  refine Ops.step (One.val rfl rfl rfl (yld_assign rfl ev_c) ?_)
  refine Ops.nil fun a hS => ?_
  refine hK1 _ _ ?_ a hS
  refine Cod.seq fun K2 hK2 => ?_
  refine Cod.region ?_
  refine Ops.step (One.val rfl rfl rfl (yld_move rfl (ev_t rfl)) ?_)
  refine Ops.step (One.buildSlice (cells := (keyD.flatMap sCells)) F0 sl23 zero9 rfl rfl rfl rfl (evp9 ev_c ev_c ev_c ev_c ev_c ev_c ev_c ev_c ev_c) rfl rfl (by kernel_rfl) ?_)
  intro b1 w1 hb1 F1
  refine Ops.step (One.call rfl rfl rfl (ent_f rfl (evl2 (ev_t rfl) (ev_t rfl)) (enters en100)) (rof_ct keyD bb cv _ _ _ (hcode.keep F1.chg) (F1.get 1 rfl) (by have := F1.lit (enc := sCells) (sz := 1) (xs := keyD) (fun _ => rfl) 0 1 (by decide) rfl rfl (by decide); exact this) (by omega) (by decide) (by decide)) (fun e w2 hw2 => ?_))
  obtain ⟨s, hms, rfl, C2, hrds⟩ := hw2
  have F2 := F1.upd 1 rfl C2 (fun _ hk => .inl hk) (rd bb cv _) hrds (fun _ hk => .inl hk)
  change Fr _ _ [_, _] _ at F2
  refine ⟨_, rfl, ?_⟩
  refine Ops.step (One.val rfl rfl rfl (yld_assign rfl (ev_t rfl)) ?_)
  refine Ops.nil fun a hS => ?_
  refine hK2 _ _ ?_ a hS
  refine Cod.ret fun a hS => ?_
  try simp only [Exit.then, Exit.inBlock]
  exact ret1 (t := 2) rfl hS rfl ⟨s, memS hms (by decide), rfl, F2.chg, F2.get 1 rfl⟩

set_option maxRecDepth 100000 in
theorem drawAt_ct (code : List UInt8) (v : Value) (w : World) (hp : RepE bCells 1 Any w code v) : Calls Try.prog 53 #[v] w (DrawI w) := by
  refine enter Try.func53 rfl rfl rfl ?_
  have F0 := Fr.start w
  refine Cod.seq fun K1 hK1 => ?_
  refine Cod.region ?_
  refine Ops.step (One.alloc F0 zero26 rfl rfl rfl rfl ?_)
  intro b1 w1 hb1 F1
  change Fr _ _ [blk _ _ [_, _, _, _, _]] _ at F1
  refine Ops.step (One.val rfl rfl rfl (yld_assign rfl ev_c) ?_)
  refine Ops.nil fun a hS => ?_
  refine hK1 _ _ ?_ a hS
  refine Cod.seq fun K2 hK2 => ?_
  refine Cod.region ?_
  refine Ops.step (One.val rfl rfl rfl (yld_move rfl (ev_t rfl)) ?_)
  refine Ops.step (One.call rfl rfl rfl (ent_f rfl (evl1 (ev_t rfl)) (enters en61)) (open_ct code v _ (hp.chg F1.chg)) (fun e w2 hw2 => ?_))
  obtain ⟨bb, rfl, C2, hrd0, hbb⟩ := hw2
  obtain ⟨cv, hcv⟩ : ∃ cv, cv = cutv v := ⟨_, rfl⟩
  rw [← hcv] at hrd0
  have hcode : Code bb w cv := by rw [hcv]; exact code_of hp (by have := F1.chg.size; omega)
  have F2 := F1.new C2 (rd bb cv 0) hrd0 (fun k hk => by have h1 : k = bb := hk; subst h1; exact hbb)
  refine ⟨_, rfl, ?_⟩
  refine Ops.step (One.val rfl rfl rfl (yld_assign rfl (ev_t rfl)) ?_)
  refine Ops.nil fun a hS => ?_
  refine hK2 _ _ ?_ a hS
  refine Cod.seq fun K3 hK3 => ?_
  refine Cod.region ?_
  refine Ops.step (One.val rfl rfl rfl (yld_move rfl (ev_t rfl)) ?_)
  refine Ops.step (One.call rfl rfl rfl (ent_f rfl (evl1 (ev_t rfl)) (enters en65)) (bent_ct bb cv _ _ (hcode.chg F2.chg) (F2.get 0 rfl) (by omega)) (fun e w3 hw3 => ?_))
  obtain ⟨x1, Gx1, tx1, rfl, C3, hrdx1, hsx1, hbx1, hpx1⟩ := hw3
  have F3 := F2.updNew 0 rfl C3 (fun _ hk => hk) (rd bb cv _) hrdx1 (fun _ hk => hk) (sep Gx1 tx1 x1.val) hsx1 hbx1
  change Fr _ _ (_ :: [_, _]) _ at F3
  refine ⟨_, rfl, ?_⟩
  refine Ops.step (One.alloc F3 zero26 rfl rfl rfl rfl ?_)
  intro b2 w4 hb2 F4
  change Fr _ _ [blk _ _ [_, _, _, _, _], _, _, blk _ _ [_, _, _, _, _]] _ at F4
  refine Ops.step (One.storeN (vs := [_, _, _, _, _]) F4 0 rfl sz26 rfl rfl rfl (ev_t rfl) (ev_t rfl) rfl rfl hsx1.one ?_)
  intro w5 F5
  change Fr _ _ [blk _ _ [_, _, _, _, _], _, _, blk _ _ [_, _, _, _, _]] _ at F5
  refine Ops.nil fun a hS => ?_
  refine hK3 _ _ ?_ a hS
  refine Cod.seq fun K4 hK4 => ?_
  have F6 := F5.drew
  refine Cod.draw (C_of ((F6.erase 3).erase 2)) (by kernel_rfl) ?_
  refine Hops.take 0 rfl (by kernel_rfl) (fun _ _ _ h => h) rfl rfl rfl ((F6.erase 3).erase 2) (fun w F => (yld_loadN ag26 rfl (ev_t rfl) (fun _ => F.range (m := 5) (cs' := [_, _, _, _, _]) 0 rfl rfl) rfl)) ?_
  refine Hops.take 1 rfl (by kernel_rfl) (fun _ _ _ h => h) rfl rfl rfl ((F6.erase 3).erase 2) (fun w F => (yld_move rfl (ev_t rfl))) ?_
  refine Hops.one 2 rfl (by kernel_rfl) (One.buildSlice (cells := (atID.flatMap jCells)) F6 sl96 zero3 rfl rfl rfl rfl (evp8 ev_c ev_c ev_c ev_c ev_c ev_c ev_c ev_c) rfl rfl (by kernel_rfl) ?_)
  intro b3 w6 hb3 F7
  refine ⟨((F7.erase 4).erase 3).drop1, ?_⟩
  refine Hops.one 3 rfl (by kernel_rfl) (One.call rfl rfl rfl (ent_f rfl (evl2 (ev_t rfl) (ev_t rfl)) (enters en102)) (rnum_ct atID bb cv _ _ _ (hcode.chg F7.chg) (F7.get 3 rfl) (by have := F7.lit (enc := jCells) (sz := 1) (xs := atID) (fun _ => rfl) 0 3 (by decide) rfl rfl (by decide); exact this) (by omega) (by decide) (by decide)) (fun e w7 hw7 => ?_))
  obtain ⟨a1, hma1, rfl, C7, hrda1⟩ := hw7
  have F8 := F7.upd 3 rfl C7 (fun _ hk => .inl hk) (rd bb cv _) hrda1 (fun _ hk => .inl hk)
  change Fr _ _ [_, _, _, _, _] _ at F8
  refine ⟨_, rfl, ?_⟩
  refine ⟨((F8.erase 4).erase 3).drop1, ?_⟩
  refine Hops.one 4 rfl (by kernel_rfl) (One.storeN (vs := [_, _, _, _, _]) F8 4 rfl sz26 rfl rfl rfl (ev_t rfl) (ev_t rfl) rfl rfl (Sep.one (x := x1) (F8.get 2 rfl)) ?_)
  intro w8 F9
  refine ⟨((F9.erase 4).erase 3).drop1, ?_⟩
  change Fr _ _ [_, blk _ _ [_, _, _, _, _], _, _, blk _ _ [_, _, _, _, _]] _ at F9
  refine Hops.one 5 rfl (by kernel_rfl) (One.val rfl rfl rfl (yld_assign rfl (ev_t rfl)) ?_)
  refine ⟨((F9.erase 4).erase 3).drop1, ?_⟩
  refine Hops.nil (by kernel_rfl) fun a hS => ?_
  refine hK4 _ _ ?_ a hS
  refine Cod.ret fun a hS => ?_
  try simp only [Exit.then, Exit.inBlock]
  exact retct (t := 2) (u := 3) (ty := 26) rfl hS ag26 rfl rfl (F9.range (m := 5) (cs' := [_, _, _, _, _]) 4 rfl rfl) rfl ⟨x1, tx1, a1, rfl, F9.chg, rps_one (rps1 (X := No) F9 2 rfl), hpx1.dr, mem64 hma1 (by decide)⟩

set_option maxRecDepth 100000 in
theorem drawGet_ct (code : List UInt8) (v : Value) (w : World) (hp : RepE bCells 1 Any w code v) : Calls Try.prog 52 #[v] w (DrawS w) := by
  refine enter Try.func52 rfl rfl rfl ?_
  have F0 := Fr.start w
  refine Cod.seq fun K1 hK1 => ?_
  refine Cod.region ?_
  refine Ops.step (One.alloc F0 zero26 rfl rfl rfl rfl ?_)
  intro b1 w1 hb1 F1
  change Fr _ _ [blk _ _ [_, _, _, _, _]] _ at F1
  refine Ops.step (One.val rfl rfl rfl (yld_assign rfl ev_c) ?_)
  refine Ops.nil fun a hS => ?_
  refine hK1 _ _ ?_ a hS
  refine Cod.seq fun K2 hK2 => ?_
  refine Cod.region ?_
  refine Ops.step (One.val rfl rfl rfl (yld_move rfl (ev_t rfl)) ?_)
  refine Ops.step (One.call rfl rfl rfl (ent_f rfl (evl1 (ev_t rfl)) (enters en61)) (open_ct code v _ (hp.chg F1.chg)) (fun e w2 hw2 => ?_))
  obtain ⟨bb, rfl, C2, hrd0, hbb⟩ := hw2
  obtain ⟨cv, hcv⟩ : ∃ cv, cv = cutv v := ⟨_, rfl⟩
  rw [← hcv] at hrd0
  have hcode : Code bb w cv := by rw [hcv]; exact code_of hp (by have := F1.chg.size; omega)
  have F2 := F1.new C2 (rd bb cv 0) hrd0 (fun k hk => by have h1 : k = bb := hk; subst h1; exact hbb)
  refine ⟨_, rfl, ?_⟩
  refine Ops.step (One.val rfl rfl rfl (yld_assign rfl (ev_t rfl)) ?_)
  refine Ops.nil fun a hS => ?_
  refine hK2 _ _ ?_ a hS
  refine Cod.seq fun K3 hK3 => ?_
  refine Cod.region ?_
  refine Ops.step (One.val rfl rfl rfl (yld_move rfl (ev_t rfl)) ?_)
  refine Ops.step (One.call rfl rfl rfl (ent_f rfl (evl1 (ev_t rfl)) (enters en65)) (bent_ct bb cv _ _ (hcode.chg F2.chg) (F2.get 0 rfl) (by omega)) (fun e w3 hw3 => ?_))
  obtain ⟨x1, Gx1, tx1, rfl, C3, hrdx1, hsx1, hbx1, hpx1⟩ := hw3
  have F3 := F2.updNew 0 rfl C3 (fun _ hk => hk) (rd bb cv _) hrdx1 (fun _ hk => hk) (sep Gx1 tx1 x1.val) hsx1 hbx1
  change Fr _ _ (_ :: [_, _]) _ at F3
  refine ⟨_, rfl, ?_⟩
  refine Ops.step (One.alloc F3 zero26 rfl rfl rfl rfl ?_)
  intro b2 w4 hb2 F4
  change Fr _ _ [blk _ _ [_, _, _, _, _], _, _, blk _ _ [_, _, _, _, _]] _ at F4
  refine Ops.step (One.storeN (vs := [_, _, _, _, _]) F4 0 rfl sz26 rfl rfl rfl (ev_t rfl) (ev_t rfl) rfl rfl hsx1.one ?_)
  intro w5 F5
  change Fr _ _ [blk _ _ [_, _, _, _, _], _, _, blk _ _ [_, _, _, _, _]] _ at F5
  refine Ops.nil fun a hS => ?_
  refine hK3 _ _ ?_ a hS
  refine Cod.seq fun K4 hK4 => ?_
  have F6 := F5.drew
  refine Cod.draw (C_of ((F6.erase 3).erase 2)) (by kernel_rfl) ?_
  refine Hops.take 0 rfl (by kernel_rfl) (fun _ _ _ h => h) rfl rfl rfl ((F6.erase 3).erase 2) (fun w F => (yld_loadN ag26 rfl (ev_t rfl) (fun _ => F.range (m := 5) (cs' := [_, _, _, _, _]) 0 rfl rfl) rfl)) ?_
  refine Hops.take 1 rfl (by kernel_rfl) (fun _ _ _ h => h) rfl rfl rfl ((F6.erase 3).erase 2) (fun w F => (yld_move rfl (ev_t rfl))) ?_
  refine Hops.one 2 rfl (by kernel_rfl) (One.call rfl rfl rfl (ent_f rfl (evl1 (ev_t rfl)) (enters en88)) (keyDraw_ct bb cv _ _ (hcode.chg F6.chg) (F6.get 2 rfl) (by omega)) (fun e w6 hw6 => ?_))
  obtain ⟨ks1, hks1, rfl, C6, hrdk⟩ := hw6
  have F7 := F6.upd 2 rfl C6 (fun _ hk => .inl hk) (rd bb cv _) hrdk (fun _ hk => .inl hk)
  change Fr _ _ [_, _, _, _] _ at F7
  refine ⟨_, rfl, ?_⟩
  refine ⟨((F7.erase 3).erase 2), ?_⟩
  refine Hops.one 3 rfl (by kernel_rfl) (One.storeN (vs := [_, _, _, _, _]) F7 3 rfl sz26 rfl rfl rfl (ev_t rfl) (ev_t rfl) rfl rfl (Sep.one (x := x1) (F7.get 1 rfl)) ?_)
  intro w7 F8
  refine ⟨((F8.erase 3).erase 2), ?_⟩
  change Fr _ _ [blk _ _ [_, _, _, _, _], _, _, blk _ _ [_, _, _, _, _]] _ at F8
  refine Hops.one 4 rfl (by kernel_rfl) (One.val rfl rfl rfl (yld_assign rfl (ev_t rfl)) ?_)
  refine ⟨((F8.erase 3).erase 2), ?_⟩
  refine Hops.nil (by kernel_rfl) fun a hS => ?_
  refine hK4 _ _ ?_ a hS
  refine Cod.ret fun a hS => ?_
  try simp only [Exit.then, Exit.inBlock]
  exact retct (t := 2) (u := 3) (ty := 26) rfl hS ag26 rfl rfl (F8.range (m := 5) (cs' := [_, _, _, _, _]) 3 rfl rfl) rfl ⟨x1, tx1, ks1, rfl, F8.chg, rps_one (rps1 (X := No) F8 1 rfl), hpx1.dr, hks1⟩


theorem Fr.setSep {X : Nat → Prop} {w0 w : World} {L : List Res} (F : Fr X w0 L w) (i : Nat) {G : Nat → Prop} {t u : Tr} {v y : Value} (hi : L[i]? = some (sep G t v)) (h : Sep w No u y) : Fr X w0 (L.set i (sep No u y)) w :=
  F.upd i hi (Chg.refl No w) (fun _ h => h.elim) (sep No u y) h fun k hk => hk.elim

set_option maxRecDepth 100000 in
theorem drawCut_ct (code : List UInt8) (v : Value) (w : World) (hp : RepE bCells 1 Any w code v) : Calls Try.prog 49 #[v] w (DrawII w) := by
  refine enter Try.func49 rfl rfl rfl ?_
  have F0 := Fr.start w
  refine Cod.seq fun K1 hK1 => ?_
  refine Cod.region ?_
  refine Ops.step (One.alloc F0 zero26 rfl rfl rfl rfl ?_)
  intro b1 w1 hb1 F1
  change Fr _ _ [blk _ _ [_, _, _, _, _]] _ at F1
  refine Ops.step (One.val rfl rfl rfl (yld_assign rfl ev_c) ?_)
  refine Ops.step (One.val rfl rfl rfl (yld_assign rfl ev_c) ?_)
  refine Ops.nil fun a hS => ?_
  refine hK1 _ _ ?_ a hS
  refine Cod.seq fun K2 hK2 => ?_
  refine Cod.region ?_
  refine Ops.step (One.val rfl rfl rfl (yld_move rfl (ev_t rfl)) ?_)
  refine Ops.step (One.call rfl rfl rfl (ent_f rfl (evl1 (ev_t rfl)) (enters en61)) (open_ct code v _ (hp.chg F1.chg)) (fun e w2 hw2 => ?_))
  obtain ⟨bb, rfl, C2, hrd0, hbb⟩ := hw2
  obtain ⟨cv, hcv⟩ : ∃ cv, cv = cutv v := ⟨_, rfl⟩
  rw [← hcv] at hrd0
  have hcode : Code bb w cv := by rw [hcv]; exact code_of hp (by have := F1.chg.size; omega)
  have F2 := F1.new C2 (rd bb cv 0) hrd0 (fun k hk => by have h1 : k = bb := hk; subst h1; exact hbb)
  refine ⟨_, rfl, ?_⟩
  refine Ops.step (One.val rfl rfl rfl (yld_assign rfl (ev_t rfl)) ?_)
  refine Ops.nil fun a hS => ?_
  refine hK2 _ _ ?_ a hS
  refine Cod.seq fun K3 hK3 => ?_
  refine Cod.region ?_
  refine Ops.step (One.val rfl rfl rfl (yld_move rfl (ev_t rfl)) ?_)
  refine Ops.step (One.call rfl rfl rfl (ent_f rfl (evl1 (ev_t rfl)) (enters en62)) (rowDraw_ct bb cv _ _ (hcode.chg F2.chg) (F2.get 0 rfl) (by omega)) (fun e w3 hw3 => ?_))
  obtain ⟨x1, Gx1, tx1, rfl, C3, hrdx1, hsx1, hbx1, hpx1⟩ := hw3
  have F3 := F2.updNew 0 rfl C3 (fun _ hk => hk) (rd bb cv _) hrdx1 (fun _ hk => hk) (sep Gx1 tx1 x1.val) hsx1 hbx1
  change Fr _ _ (_ :: [_, _]) _ at F3
  refine ⟨_, rfl, ?_⟩
  refine Ops.step (One.alloc F3 zero26 rfl rfl rfl rfl ?_)
  intro b2 w4 hb2 F4
  change Fr _ _ [blk _ _ [_, _, _, _, _], _, _, blk _ _ [_, _, _, _, _]] _ at F4
  refine Ops.step (One.storeN (vs := [_, _, _, _, _]) F4 0 rfl sz26 rfl rfl rfl (ev_t rfl) (ev_t rfl) rfl rfl hsx1.one ?_)
  intro w5 F5
  change Fr _ _ [blk _ _ [_, _, _, _, _], _, _, blk _ _ [_, _, _, _, _]] _ at F5
  refine Ops.nil fun a hS => ?_
  refine hK3 _ _ ?_ a hS
  refine Cod.cut (fun i : V5 × Tr × (Nat → Prop) => [(2, true, .pointer (some ⟨b1, 0, none⟩)), (5, true, .pointer (some ⟨bb, 0, none⟩)), (6, true, .pointer (some ⟨b2, 0, none⟩))]) (fun i w' => Dr i.2.1 ∧ Fr No w [blk b2 26 (enc5 i.1), sep i.2.2 i.2.1 i.1.val, rd bb cv 3000, blk b1 26 [.int .i64 0, .int .i64 0, .string ⟨#[]⟩, .slice none 0 0, .slice none 0 0]] w') (fun K4 hK4 => ?_) ?_
  · skip
    refine Cod.seq fun K5 hK5 => ?_
    refine Cod.region ?_
    refine Ops.step (One.val rfl rfl rfl (yld_move rfl (ev_t rfl)) ?_)
    refine Ops.step (One.call rfl rfl rfl (ent_f rfl (evl2 (ev_t rfl) ev_c) (enters en63)) (pick_ct 3 bb cv _ _ (hcode.chg F5.chg) (F5.get 2 rfl) (by omega) (by omega)) (fun e w6 hw6 => ?_))
    obtain ⟨r3, rfl, C6, hrdr3, hr3⟩ := hw6
    have F6 := F5.upd 2 rfl C6 (fun _ hk => .inl hk) (rd bb cv _) hrdr3 (fun _ hk => .inl hk)
    change Fr _ _ [_, _, _, _] _ at F6
    refine ⟨_, rfl, ?_⟩
    refine Ops.step (One.val rfl rfl rfl (yld_eql rfl (ev_t rfl) ev_c) ?_)
    refine Ops.nil fun a hS => ?_
    refine hK5 _ _ ?_ a hS
    refine Cod.cond rfl (fun hc14 => ?_) (fun hc14 => ?_)
    · skip
      refine Cod.region ?_
      refine Ops.step (One.val rfl rfl rfl (yld_move rfl (ev_t rfl)) ?_)
      refine Ops.step (One.buildSlice (cells := (cutSD.flatMap sCells)) F6 sl23 zero9 rfl rfl rfl rfl (evp4 ev_c ev_c ev_c ev_c) rfl rfl (by kernel_rfl) ?_)
      intro b3 w7 hb3 F7
      refine Ops.step (One.call rfl rfl rfl (ent_f rfl (evl2 (ev_t rfl) (ev_t rfl)) (enters en100)) (rof_ct cutSD bb cv _ _ _ (hcode.chg F7.chg) (F7.get 3 rfl) (by have := F7.lit (enc := sCells) (sz := 1) (xs := cutSD) (fun _ => rfl) 0 3 (by decide) rfl rfl (by decide); exact this) (by omega) (by decide) (by decide)) (fun e w8 hw8 => ?_))
      obtain ⟨s4, hms4, rfl, C8, hrds4⟩ := hw8
      have F8 := F7.upd 3 rfl C8 (fun _ hk => .inl hk) (rd bb cv _) hrds4 (fun _ hk => .inl hk)
      change Fr _ _ [_, _, _, _, _] _ at F8
      refine ⟨_, rfl, ?_⟩
      refine Ops.step (One.val rfl rfl rfl (yld_build (cells := [.int .i64 4, .int .i64 0, .string s4, .slice none 0 0, .slice none 0 0]) rfl (evp2 ev_c (ev_t rfl)) (by kernel_rfl)) ?_)
      refine Ops.step (One.storeN (vs := [_, _, _, _, _]) F8 1 rfl sz26 rfl rfl rfl (ev_t rfl) (ev_t rfl) rfl rfl rfl ?_)
      intro w9 F9
      change Fr _ _ [_, blk _ _ [_, _, _, _, _], _, _, blk _ _ [_, _, _, _, _]] _ at F9
      refine Ops.nil fun a hS => ?_
      have F10 := F9.pull 4 rfl
      have F11 := F10.pull 4 rfl
      have F12 := F11.pull 4 rfl
      have F13 := F12.pull 4 rfl
      have F14 := F13.erase 4
      exact hK4 (x5 4 0 s4 (.slice none 0 0) (.slice none 0 0), .mk 4 0 s4 [] [], No) _ a (hS.sub ⟨rfl, rfl, rfl, trivial⟩) ⟨LeafT.dr (.mk (memS hms4 (by decide))), ((F14.setSep 1 rfl (sep_leaf _ 4 0 s4)).rdUp 2 rfl 3000 (by omega))⟩
    · skip
      refine Cod.skip fun a hS => ?_
      have F15 := F6.pull 3 rfl
      have F16 := F15.pull 3 rfl
      have F17 := F16.pull 3 rfl
      have F18 := F17.pull 3 rfl
      exact hK4 (x1, tx1, Gx1) _ a (hS.sub ⟨rfl, rfl, rfl, trivial⟩) ⟨hpx1, (F18.rdUp 2 rfl 3000 (by omega))⟩
  · skip
    intro i w10 hW
    obtain ⟨x, t, G⟩ := i
    obtain ⟨hdr, F19⟩ := hW
    dsimp only at *
    refine Cod.seq fun K6 hK6 => ?_
    refine Cod.region ?_
    refine Ops.step (One.val rfl rfl rfl (yld_move rfl (ev_t rfl)) ?_)
    refine Ops.step (One.buildSlice (cells := (cutID.flatMap jCells)) F19 sl96 zero3 rfl rfl rfl rfl (evp9 ev_c ev_c ev_c ev_c ev_c ev_c ev_c ev_c ev_c) rfl rfl (by kernel_rfl) ?_)
    intro b4 w11 hb4 F20
    refine Ops.step (One.call rfl rfl rfl (ent_f rfl (evl2 (ev_t rfl) (ev_t rfl)) (enters en102)) (rnum_ct cutID bb cv _ _ _ (hcode.chg F20.chg) (F20.get 3 rfl) (by have := F20.lit (enc := jCells) (sz := 1) (xs := cutID) (fun _ => rfl) 0 3 (by decide) rfl rfl (by decide); exact this) (by omega) (by decide) (by decide)) (fun e w12 hw12 => ?_))
    obtain ⟨a1, hma1, rfl, C12, hrda1⟩ := hw12
    have F21 := F20.upd 3 rfl C12 (fun _ hk => .inl hk) (rd bb cv _) hrda1 (fun _ hk => .inl hk)
    change Fr _ _ [_, _, _, _, _] _ at F21
    refine ⟨_, rfl, ?_⟩
    refine Ops.step (One.val rfl rfl rfl (yld_assign rfl (ev_t rfl)) ?_)
    refine Ops.nil fun a hS => ?_
    refine hK6 _ _ ?_ a hS
    refine Cod.seq fun K7 hK7 => ?_
    have F22 := F21.drew
    refine Cod.draw (C_of ((F22.erase 4).erase 3).drop1) (by kernel_rfl) ?_
    refine Hops.take 0 rfl (by kernel_rfl) (fun _ _ _ h => h) rfl rfl rfl ((F22.erase 4).erase 3).drop1 (fun w F => (yld_loadN ag26 rfl (ev_t rfl) (fun _ => F.range (m := 5) (cs' := [_, _, _, _, _]) 0 rfl rfl) rfl)) ?_
    refine Hops.take 1 rfl (by kernel_rfl) (fun _ _ _ h => h) rfl rfl rfl ((F22.erase 4).erase 3).drop1 (fun w F => (yld_move rfl (ev_t rfl))) ?_
    refine Hops.take 2 rfl (by kernel_rfl) (fun _ _ _ h => h) rfl rfl rfl ((F22.erase 4).erase 3).drop1 (fun w F => (yld_move rfl (ev_t rfl))) ?_
    refine Hops.one 3 rfl (by kernel_rfl) (One.buildSlice (cells := (cutJD.flatMap jCells)) F22 sl96 zero3 rfl rfl rfl rfl (evp8 ev_c ev_c ev_c ev_c ev_c ev_c ev_c ev_c) rfl rfl (by kernel_rfl) ?_)
    intro b5 w13 hb5 F23
    refine ⟨(((F23.erase 5).erase 4).erase 1).drop1, ?_⟩
    refine Hops.one 4 rfl (by kernel_rfl) (One.call rfl rfl rfl (ent_f rfl (evl2 (ev_t rfl) (ev_t rfl)) (enters en102)) (rnum_ct cutJD bb cv _ _ _ (hcode.chg F23.chg) (F23.get 4 rfl) (by have := F23.lit (enc := jCells) (sz := 1) (xs := cutJD) (fun _ => rfl) 0 4 (by decide) rfl rfl (by decide); exact this) (by omega) (by decide) (by decide)) (fun e w14 hw14 => ?_))
    obtain ⟨a2, hma2, rfl, C14, hrda2⟩ := hw14
    have F24 := F23.upd 4 rfl C14 (fun _ hk => .inl hk) (rd bb cv _) hrda2 (fun _ hk => .inl hk)
    change Fr _ _ [_, _, _, _, _, _] _ at F24
    refine ⟨_, rfl, ?_⟩
    refine ⟨(((F24.erase 5).erase 4).erase 1).drop1, ?_⟩
    refine Hops.one 5 rfl (by kernel_rfl) (One.storeN (vs := [_, _, _, _, _]) F24 5 rfl sz26 rfl rfl rfl (ev_t rfl) (ev_t rfl) rfl rfl (Sep.one (x := x) (F24.get 3 rfl)) ?_)
    intro w15 F25
    refine ⟨(((F25.erase 5).erase 4).erase 1).drop1, ?_⟩
    change Fr _ _ [_, _, blk _ _ [_, _, _, _, _], _, _, blk _ _ [_, _, _, _, _]] _ at F25
    refine Hops.one 6 rfl (by kernel_rfl) (One.val rfl rfl rfl (yld_assign rfl (ev_t rfl)) ?_)
    refine ⟨(((F25.erase 5).erase 4).erase 1).drop1, ?_⟩
    refine Hops.one 7 rfl (by kernel_rfl) (One.val rfl rfl rfl (yld_assign rfl (ev_t rfl)) ?_)
    refine ⟨(((F25.erase 5).erase 4).erase 1).drop1, ?_⟩
    refine Hops.nil (by kernel_rfl) fun a hS => ?_
    refine hK7 _ _ ?_ a hS
    refine Cod.ret fun a hS => ?_
    try simp only [Exit.then, Exit.inBlock]
    exact retctt (t := 2) (k := 3) (u := 4) (ty := 26) rfl hS ag26 rfl rfl rfl (F25.range (m := 5) (cs' := [_, _, _, _, _]) 5 rfl rfl) rfl ⟨x, t, a1, a2, rfl, F25.chg, rps_one (rps1 (X := No) F25 3 rfl), hdr, mem64 hma1 (by decide), mem64 hma2 (by decide)⟩

end Go.Proofs.Ytmmgobhoakaaaaa.Eng
