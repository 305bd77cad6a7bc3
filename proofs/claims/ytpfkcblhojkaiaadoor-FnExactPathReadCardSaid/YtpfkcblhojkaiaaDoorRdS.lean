/- The walk of the reference's PathRead: a way, as its text tells it. -/
import Derived.Test.YtpfkcblhojkaiaaDoorRdI
import Derived.Test.YtpfkcblhojkaiaaDoorPath0
import Derived.Test.YtpfkcblhojkaiaaDoorCopy
namespace Go.Proofs.YtpfkcblhojkaiaaDoor.Eng
open Go.RowKit
set_option linter.unusedVariables false
set_option linter.unusedSimpArgs false
set_option maxHeartbeats 1000000


/-- What a reader of a way gives: the way, in memory of its own. -/
def ReadEnd (t : ByteArray) (w : World) (e : Ending) (w' : World) : Prop := ∃ (v : Value) (r : Option (List Stp)), ReadsTo t r ∧ e = .returned (.tuple #[v, .bool r.isSome]) ∧ Chg No w w' ∧ (own 61 3 v (r.getD []).length ((r.getD []).flatMap pCells)).is w' ∧ ∀ k, v.ownBlock = some k → w.heap.size ≤ k
theorem ReadEnd.of {t : ByteArray} {w0 w : World} {v : Value} {L : List Res} {r : Option (List Stp)} (F : Fr No w0 L w) (j : Nat) (hj : L[j]? = some (own 61 3 v (r.getD []).length ((r.getD []).flatMap pCells))) (hr : ReadsTo t r) : ReadEnd t w0 (.returned (.tuple #[v, .bool r.isSome])) w :=
  ⟨v, r, hr, rfl, F.chg, F.get j hj, fun k hk => (F.dom _ (List.mem_of_getElem? hj) k hk).elim (fun h => h.elim) id⟩
theorem ReadEnd.nil {t : ByteArray} {w0 w : World} {L : List Res} (F : Fr No w0 L w) (h : Gone t) : ReadEnd t w0 (.returned (.tuple #[.slice none 0 0, .bool false])) w :=
  ReadEnd.of (r := none) (F.nilRow 61 3) 0 rfl h
theorem ReadEnd.gone {t : ByteArray} {w0 w : World} {v : Value} {L : List Res} (F : Fr No w0 L w) (j : Nat) (hj : L[j]? = some (own 61 3 v 0 [])) (h : Gone t) : ReadEnd t w0 (.returned (.tuple #[v, .bool false])) w :=
  ReadEnd.of (r := none) F j hj h
theorem ReadEnd.found {t : ByteArray} {w0 w : World} {v : Value} {p : List Stp} {L : List Res} (F : Fr No w0 L w) (j : Nat) (hj : L[j]? = some (own 61 3 v p.length (p.flatMap pCells))) (h : pathOk p = true ∧ pathS p = t) : ReadEnd t w0 (.returned (.tuple #[v, .bool true])) w :=
  ReadEnd.of (r := some p) F j hj h
def keysLe (p : List Stp) (n : Nat) : Prop := ∀ s ∈ p, s.key.size ≤ n
theorem keysLe.nil (n : Nat) : keysLe [] n := fun s h => by simp at h
theorem keysLe.snoc {p : List Stp} {s : Stp} {n : Nat} (h : keysLe p n) (hs : s.key.size ≤ n) : keysLe (p ++ [s]) n := fun x hx => by
  rcases List.mem_append.1 hx with hx | hx
  · exact h x hx
  · obtain rfl := List.mem_singleton.1 hx; exact hs
theorem keysLe.up {p : List Stp} {n m : Nat} (h : keysLe p n) (hm : n ≤ m) : ∀ s ∈ p, s.key.size ≤ m := fun s hs => Nat.le_trans (h s hs) hm
theorem pathL_snoc (p : List Stp) (s : Stp) : pathL (p ++ [s]) = pathL p ++ stpL s := by simp [pathL, stepsL]
theorem pathL_next {t : ByteArray} {p : List Stp} {i k : Nat} {s : Stp} (h : pathL p = t.data.toList.take i) (hr : rdStep (t.data.toList.drop i) = Option.some (s, k)) : pathL (p ++ [s]) = t.data.toList.take (i + k) := by
  rw [pathL_snoc, h, ← (rdStep_sound hr).1, List.take_add]

set_option maxRecDepth 100000 in
theorem specRead_ct (t : ByteArray) (ht : t.size ≤ 1048576) (w : World) : Calls Tryd.prog 22 #[.string t] w (ReadEnd t w) := by
  refine enter Tryd.func22 rfl rfl rfl ?_
  have F0 := Fr.start w
  refine Cod.seq fun K1 hK1 => ?_
  refine Cod.region ?_
  refine Ops.step (One.val rfl rfl rfl (yld_assign rfl ev_c) ?_)
  refine Ops.step (One.val rfl rfl rfl (yld_assign rfl ev_c) ?_)
  refine Ops.nil fun a hS => ?_
  refine hK1 _ _ ?_ a hS
  refine Cod.seq fun K2 hK2 => ?_
  refine Cod.seq fun K3 hK3 => ?_
  refine Cod.region ?_
  refine Ops.step (One.val rfl rfl rfl (yld_move rfl (ev_t rfl)) ?_)
  refine Ops.step (One.val rfl rfl rfl (yld_slen st9 rfl (ev_t rfl)) ?_)
  refine Ops.step (One.val rfl rfl rfl (yld_gtr rfl (ev_t rfl) ev_c) ?_)
  refine Ops.step (One.val rfl rfl rfl (yld_move rfl (ev_t rfl)) ?_)
  refine Ops.step (One.val (gd_some rfl rfl) rfl rfl (yld_move rfl (ev_t rfl)) ?_)
  refine Ops.step (One.gcall (R := Chg No w) (gd_some rfl rfl) rfl rfl (ent_f rfl (evl3 (ev_g rfl) ev_c ev_c) (enters en52)) (Chg.refl _ _) (fun hg => l1At_ct t 0 36 _) ?_)
  intro w1 C1
  have F1 := F0.call C1
  refine Ops.step (One.val (gd_some rfl rfl) rfl rfl (yld_not rfl (ev_g rfl)) ?_)
  refine Ops.step (One.val rfl rfl rfl (yld_or rfl (ev_t rfl) (ev_g rfl)) ?_)
  refine Ops.nil fun a hS => ?_
  refine hK3 _ _ ?_ a hS
  refine Cod.cond rfl (fun hc15 => ?_) (fun hc15 => ?_)
  · skip
    have hno : Gone t := by
      rcases Nat.lt_or_ge 120 t.size with h | h
      · exact gone_long h
      · refine gone_head ?_
        have hc := hc15
        rw [decide_eq_false (by omega), Bool.false_or] at hc
        cases hz : hd t.data.toList 36 with
        | false => rfl
        | true =>
          rw [List.drop_zero, hz] at hc
          cases hc
    refine Cod.seq fun K4 hK4 => ?_
    refine Cod.region ?_
    refine Ops.step (One.val rfl rfl rfl (yld_assign rfl ev_c) ?_)
    refine Ops.step (One.val rfl rfl rfl (yld_assign rfl ev_c) ?_)
    refine Ops.nil fun a hS => ?_
    refine hK4 _ _ ?_ a hS
    refine Cod.ret fun a hS => ?_
    try simp only [Exit.then, Exit.inBlock]
    exact ret2 (t := 2) (u := 3) rfl hS rfl rfl (ReadEnd.nil F1 hno)
  · skip
    obtain ⟨h120, h36⟩ : t.size ≤ 120 ∧ hd t.data.toList 36 = true := by
      have hc := hc15
      rw [List.drop_zero] at hc
      cases hz : hd t.data.toList 36 with
      | false => rw [hz] at hc; simp at hc
      | true => rw [hz] at hc; simp at hc; exact ⟨by omega, rfl⟩
    obtain ⟨r0, hr0⟩ := hd_cons h36
    have hpos : 1 ≤ t.size := by rw [← txt_len, hr0, List.length_cons]; omega
    refine Cod.skip fun a hS => ?_
    refine hK2 _ _ ?_ a hS
    refine Cod.seq fun K5 hK5 => ?_
    refine Cod.region ?_
    refine Ops.step (One.buildNil pCells F1 sl44 rfl rfl rfl rfl ?_)
    intro b1 w2 hb1 F2
    refine Ops.step (One.val rfl rfl rfl (yld_assign rfl (ev_t rfl)) ?_)
    refine Ops.nil fun a hS => ?_
    refine hK5 _ _ ?_ a hS
    refine Cod.seq fun K6 hK6 => ?_
    refine Cod.region ?_
    refine Ops.step (One.val rfl rfl rfl (yld_assign rfl ev_c) ?_)
    refine Ops.nil fun a hS => ?_
    refine hK6 _ _ ?_ a hS
    refine Cod.seq fun K7 hK7 => ?_
    refine Cod.block ?_
    have F3 := F2.pull 0 rfl
    refine Cod.loop (fun i : Nat × List Stp × Value => [(0, true, .string t), (4, true, i.2.2), (5, true, .int .i64 (i.1 : Int))]) (fun i w' => 1 ≤ i.1 ∧ i.1 ≤ t.size ∧ i.2.1.length ≤ i.1 ∧ pathL i.2.1 = t.data.toList.take i.1 ∧ keysLe i.2.1 120 ∧ Pre t i.2.1 i.1 ∧ Fr No w [own 61 3 i.2.2 i.2.1.length (i.2.1.flatMap pCells)] w') (fun i => t.size - i.1) (1, [], .slice (some ⟨b1, 0, none⟩) 0 0) ⟨rfl, rfl, rfl, trivial⟩ ⟨Nat.le_refl _, hpos, Nat.zero_le _, by rw [hr0]; rfl, keysLe.nil _, Pre.one t, F3⟩ ?_
    intro i w3 hW K8 hK8
    obtain ⟨j, p, pv⟩ := i
    obtain ⟨hj1, hjs, hpl, hpp, hpk, hpre, F4⟩ := hW
    dsimp only at *
    refine Cod.seq fun K9 hK9 => ?_
    refine Cod.seq fun K10 hK10 => ?_
    refine Cod.region ?_
    refine Ops.step (One.val rfl rfl rfl (yld_move rfl (ev_t rfl)) ?_)
    refine Ops.step (One.val rfl rfl rfl (yld_move rfl (ev_t rfl)) ?_)
    refine Ops.step (One.val rfl rfl rfl (yld_slen st9 rfl (ev_t rfl)) ?_)
    refine Ops.step (One.val rfl rfl rfl (yld_lss rfl (ev_t rfl) (ev_t rfl)) ?_)
    refine Ops.nil fun a hS => ?_
    refine hK10 _ _ ?_ a hS
    refine Cod.cond rfl (fun hc20 => ?_) (fun hc20 => ?_)
    · skip
      have hj : j < t.size := by simpa using hc20
      obtain ⟨r, hr⟩ : ∃ r, rdStep (t.data.toList.drop j) = r := ⟨_, rfl⟩
      refine Cod.skip fun a hS => ?_
      refine hK9 _ _ ?_ a hS
      refine Cod.block ?_
      refine Cod.seq fun K11 hK11 => ?_
      refine Cod.region ?_
      refine Ops.step (One.val rfl rfl rfl (yld_move rfl (ev_t rfl)) ?_)
      refine Ops.step (One.val rfl rfl rfl (yld_move rfl (ev_t rfl)) ?_)
      refine Ops.step (One.call rfl rfl rfl (ent_f rfl (evl2 (ev_t rfl) (ev_t rfl)) (enters en53)) (l3Read_ct t j hj ht _) (fun e w4 hw4 => ?_))
      obtain ⟨rfl, C4⟩ := hw4
      rw [hr]
      have F5 := F4.call C4
      refine ⟨_, rfl, ?_⟩
      refine Ops.step (One.val rfl rfl rfl (yld_move rfl (ev_t rfl)) ?_)
      refine Ops.step (One.val rfl rfl rfl (yld_extract rfl (ev_t rfl) rfl) ?_)
      refine Ops.step (One.val rfl rfl rfl (yld_extract rfl (ev_t rfl) rfl) ?_)
      refine Ops.step (One.alloc F5 zero61 rfl rfl rfl rfl ?_)
      intro b2 w5 hb2 F6
      change Fr _ _ [blk _ _ [_, _, _], _] _ at F6
      refine Ops.step (One.storeN (vs := [_, _, _]) F6 0 rfl sz61 rfl rfl rfl (ev_t rfl) (ev_t rfl) rfl rfl rfl ?_)
      intro w6 F7
      change Fr _ _ [blk _ _ [_, _, _], _] _ at F7
      refine Ops.step (One.val rfl rfl rfl (yld_assign rfl (ev_t rfl)) ?_)
      refine Ops.nil fun a hS => ?_
      refine hK11 _ _ ?_ a hS
      refine Cod.seq fun K12 hK12 => ?_
      refine Cod.seq fun K13 hK13 => ?_
      refine Cod.region ?_
      refine Ops.step (One.val rfl rfl rfl (yld_move rfl (ev_t rfl)) ?_)
      refine Ops.step (One.val rfl rfl rfl (yld_lss rfl (ev_t rfl) ev_c) ?_)
      refine Ops.nil fun a hS => ?_
      refine hK13 _ _ ?_ a hS
      refine Cod.cond rfl (fun hc28 => ?_) (fun hc28 => ?_)
      · skip
        have hno : Gone t := by
          have hc := hc28
          cases r with
          | none => exact hpre.stuck reads_spec hj hr
          | some x =>
            have e : numP j (some x) = ((j + x.2 : Nat) : Int) := rfl
            rw [e] at hc
            simp at hc
            omega
        refine Cod.seq fun K14 hK14 => ?_
        refine Cod.region ?_
        refine Ops.step (One.val rfl rfl rfl (yld_assign rfl ev_c) ?_)
        refine Ops.step (One.val rfl rfl rfl (yld_assign rfl ev_c) ?_)
        refine Ops.nil fun a hS => ?_
        refine hK14 _ _ ?_ a hS
        refine Cod.ret fun a hS => ?_
        try simp only [Exit.then, Exit.inBlock]
        exact ret2 (t := 2) (u := 3) rfl hS rfl rfl (ReadEnd.nil F7 hno)
      · skip
        obtain ⟨st, k, rfl⟩ : ∃ st k, r = some (st, k) := by
          have hc := hc28
          cases r with
          | none => simp [numP] at hc
          | some x => exact ⟨x.1, x.2, rfl⟩
        have hst := hr
        have hkk := rdStep_sound hst
        have hkey := rdStep_key hst
        rw [List.length_drop, txt_len] at hkk hkey
        have hkey : st.key.size ≤ 120 := by omega
        have eP : numP j (some ((st, k) : Stp × Nat)) = ((j + k : Nat) : Int) := rfl
        rw [eP]
        change Fr _ _ [blk _ _ (pCells st), _] _ at F7
        refine Cod.skip fun a hS => ?_
        refine hK12 _ _ ?_ a hS
        refine Cod.seq fun K15 hK15 => ?_
        refine Cod.region ?_
        refine Ops.step (One.val rfl rfl rfl (yld_move rfl (ev_t rfl)) ?_)
        refine Ops.step (One.val rfl rfl rfl (yld_loadN ag61 rfl (ev_t rfl) (fun _ => F7.range (m := 3) (cs' := [_, _, _]) 0 rfl rfl) rfl) ?_)
        refine Ops.step (One.buildSlice (cells := (pCells st)) F7 sl44 zero61 rfl rfl rfl rfl (evp1 (ev_t rfl)) rfl rfl (by kernel_rfl) ?_)
        intro b3 w7 hb3 F8
        refine Ops.step (One.append (enc := pCells) [st] F8 2 rfl sl44 zero61 rfl rfl (fun _ => rfl) rfl rfl rfl rfl (ev_t rfl) (ev_t rfl) ((blk_rep (enc := pCells) (sz := 3) (xs := [st]) (fun _ => rfl) (by simpa using F8.get 0 rfl) (by simp) (by simp)).weak fun _ _ => trivial) (fun _ _ => rfl) (by simp; omega) (by simp; omega) ?_)
        intro u9 w8 hu9 F9
        change Fr _ _ [_, blk _ _ [_, _, _], _] _ at F9
        refine Ops.step (One.val rfl rfl rfl (yld_assign rfl (ev_t rfl)) ?_)
        refine Ops.nil fun a hS => ?_
        refine hK15 _ _ ?_ a hS
        refine Cod.region ?_
        refine Ops.step (One.val rfl rfl rfl (yld_move rfl (ev_t rfl)) ?_)
        refine Ops.step (One.val rfl rfl rfl (yld_assign rfl (ev_t rfl)) ?_)
        refine Ops.nil fun a hS => ?_
        have F10 := F9.pull 2 rfl
        have F11 := F10.erase 1
        have F12 := F11.erase 1
        exact hK8 (j + k, p ++ [st], _) _ a (hS.sub ⟨rfl, rfl, rfl, trivial⟩) ⟨by show 1 ≤ j + k; omega, by show j + k ≤ _; omega, by simp; omega, pathL_next hpp hst, hpk.snoc hkey, hpre.next reads_spec hj hst, F12⟩ (by show t.size - (j + k) < t.size - j; omega)
    · skip
      obtain rfl : j = t.size := by simp at hc20; omega
      have hend : pathS p = t := data_inj (by rw [pathS_L, hpp, List.take_of_length_le (by rw [txt_len]; exact Nat.le_refl _)])
      refine Cod.exit fun a hS => ?_
      simp only [Exit.then, Exit.inBlock, ↓reduceIte]
      refine hK7 _ _ ?_ a hS
      refine Cod.seq fun K16 hK16 => ?_
      refine Cod.seq fun K17 hK17 => ?_
      refine Cod.region ?_
      refine Ops.step (One.val rfl rfl rfl (yld_move rfl (ev_t rfl)) ?_)
      refine Ops.step (One.call rfl rfl rfl (ent_f rfl (evl1 (ev_t rfl)) (enters en33)) (specPathOk_ct p _ _ (ownP (F4.get 0 rfl)) (hpk.up (by decide))) (fun e w9 hw9 => ?_))
      obtain ⟨rfl, C9⟩ := hw9
      have F13 := F4.call C9
      refine ⟨_, rfl, ?_⟩
      refine Ops.step (One.val rfl rfl rfl (yld_not rfl (ev_t rfl)) ?_)
      refine Ops.nil fun a hS => ?_
      refine hK17 _ _ ?_ a hS
      refine Cod.cond rfl (fun hc36 => ?_) (fun hc36 => ?_)
      · skip
        have hno : Gone t := by
          have hc := hc36
          intro q h1 h2
          rw [hpre.fin (Nat.le_refl _) h1 h2] at h1
          rw [h1] at hc
          cases hc
        refine Cod.seq fun K18 hK18 => ?_
        refine Cod.region ?_
        refine Ops.step (One.val rfl rfl rfl (yld_assign rfl ev_c) ?_)
        refine Ops.step (One.val rfl rfl rfl (yld_assign rfl ev_c) ?_)
        refine Ops.nil fun a hS => ?_
        refine hK18 _ _ ?_ a hS
        refine Cod.ret fun a hS => ?_
        try simp only [Exit.then, Exit.inBlock]
        exact ret2 (t := 2) (u := 3) rfl hS rfl rfl (ReadEnd.nil F13 hno)
      · skip
        have hyes : pathOk p = true := by
          have hc := hc36
          cases hz : pathOk p with
          | true => rfl
          | false => rw [hz] at hc; cases hc
        refine Cod.skip fun a hS => ?_
        refine hK16 _ _ ?_ a hS
        refine Cod.seq fun K19 hK19 => ?_
        refine Cod.region ?_
        refine Ops.step (One.val rfl rfl rfl (yld_move rfl (ev_t rfl)) ?_)
        refine Ops.step (One.val rfl rfl rfl (yld_assign rfl (ev_t rfl)) ?_)
        refine Ops.step (One.val rfl rfl rfl (yld_assign rfl ev_c) ?_)
        refine Ops.nil fun a hS => ?_
        refine hK19 _ _ ?_ a hS
        refine Cod.ret fun a hS => ?_
        try simp only [Exit.then, Exit.inBlock]
        exact ret2 (t := 2) (u := 3) rfl hS rfl rfl (ReadEnd.found F13 0 rfl ⟨hyes, hend⟩)

end Go.Proofs.YtpfkcblhojkaiaaDoor.Eng
