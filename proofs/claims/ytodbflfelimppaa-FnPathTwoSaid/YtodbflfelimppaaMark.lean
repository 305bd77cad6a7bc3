/- Walks of what the laws do to see that nothing is shared: marks are laid in a tree that a call owns, and looked for. -/
import Derived.Test.YtodbflfelimppaaKid
import Derived.Test.YtodbflfelimppaaCopy
namespace Go.Proofs.Ytodbflfelimppaa.Eng
open Go.RowKit
set_option linter.unusedVariables false
set_option linter.unusedSimpArgs false
set_option maxHeartbeats 1000000


def addN (k : Int) : Nat → Int
  | 0 => k
  | n + 1 => k + ((n + 1 : Nat) : Int)
theorem addN_eq (k : Int) (n : Nat) : addN k n = k + (n : Int) := by
  cases n with
  | zero => simp [addN]
  | succ n => rfl

set_option maxRecDepth 100000 in
theorem markText_ct (k : Int) (w : World) (hk : k ≤ 4611686018427387904) : Calls Try.prog 112 #[.int .i64 k] w fun e w' => e = .returned (.string (mt k)) ∧ Chg No w w' := by
  refine enter Try.func112 rfl rfl rfl ?_
  have F0 := Fr.start w
  refine Cod.seq fun K1 hK1 => ?_
  refine Cod.region ?_
  refine Ops.step (One.val rfl rfl rfl (yld_assign rfl ev_c) ?_)
  refine Ops.nil fun a hS => ?_
  refine hK1 _ _ ?_ a hS
  refine Cod.seq fun K2 hK2 => ?_
  refine Cod.seq fun K3 hK3 => ?_
  refine Cod.region ?_
  refine Ops.step (One.val rfl rfl rfl (yld_move rfl (ev_t rfl)) ?_)
  refine Ops.step (One.val rfl rfl rfl (yld_leq rfl (ev_t rfl) ev_c) ?_)
  refine Ops.nil fun a hS => ?_
  refine hK3 _ _ ?_ a hS
  refine Cod.cond rfl (fun hc5 => ?_) (fun hc5 => ?_)
  · skip
    have hk0 : k ≤ 0 := by simpa using hc5
    refine Cod.seq fun K4 hK4 => ?_
    refine Cod.region ?_
    refine Ops.step (One.val rfl rfl rfl (yld_assign rfl ev_c) ?_)
    refine Ops.nil fun a hS => ?_
    refine hK4 _ _ ?_ a hS
    refine Cod.ret fun a hS => ?_
    try simp only [Exit.then, Exit.inBlock]
    exact ret1 (t := 2) rfl hS rfl ⟨by rw [mt, if_pos hk0], F0.chg⟩
  · skip
    have hk0 : ¬ k ≤ 0 := by simpa using hc5
    obtain ⟨q, rfl⟩ := Int.eq_ofNat_of_zero_le (show 0 ≤ k by omega)
    refine Cod.skip fun a hS => ?_
    refine hK2 _ _ ?_ a hS
    refine Cod.seq fun K5 hK5 => ?_
    refine Cod.region ?_
    refine Ops.step (One.val rfl rfl rfl (yld_assign rfl ev_c) ?_)
    refine Ops.nil fun a hS => ?_
    refine hK5 _ _ ?_ a hS
    refine Cod.seq fun K6 hK6 => ?_
    refine Cod.block ?_
    refine Cod.loop (fun i : Nat × ByteArray => [(0, true, .int .i64 (i.1 : Int)), (3, true, .string i.2)]) (fun i w' => mtL q ⟨#[]⟩ = mtL i.1 i.2 ∧ i.1 + i.2.size ≤ q ∧ Fr No w [] w') (fun i => i.1) (q, ⟨#[]⟩) ⟨rfl, rfl, trivial⟩ ⟨rfl, Nat.le_refl _, F0⟩ ?_
    intro i w1 hW K7 hK7
    obtain ⟨r, out⟩ := i
    obtain ⟨hq, hsz, F1⟩ := hW
    dsimp only at *
    refine Cod.seq fun K8 hK8 => ?_
    refine Cod.seq fun K9 hK9 => ?_
    refine Cod.region ?_
    refine Ops.step (One.val rfl rfl rfl (yld_move rfl (ev_t rfl)) ?_)
    refine Ops.step (One.val rfl rfl rfl (yld_gtr rfl (ev_t rfl) ev_c) ?_)
    refine Ops.nil fun a hS => ?_
    refine hK9 _ _ ?_ a hS
    refine Cod.cond rfl (fun hc7 => ?_) (fun hc7 => ?_)
    · skip
      have hr0 : 0 < r := by simp at hc7; omega
      refine Cod.skip fun a hS => ?_
      refine hK8 _ _ ?_ a hS
      refine Cod.block ?_
      refine Cod.seq fun K10 hK10 => ?_
      refine Cod.region ?_
      refine Ops.step (One.val rfl rfl rfl (yld_move rfl (ev_t rfl)) ?_)
      refine Ops.step (One.val rfl rfl rfl (yld_rem rfl (ev_t rfl) ev_c (j := 10) (by omega)) ?_)
      refine Ops.step (One.val rfl rfl rfl (yld_add rfl ev_c (ev_t rfl) (fun _ => by omega)) ?_)
      refine Ops.step (One.val rfl rfl rfl (yld_conv Try.underlying3 Try.underlying5 rfl (ev_t rfl)) ?_)
      refine Ops.step (One.buildSlice (cells := [.int .u8 (IntKind.u8.wrap (48 + ((r % 10 : Nat) : Int)))]) F1 sl45 zero5 rfl rfl rfl rfl (evp1 (ev_t rfl)) rfl rfl (by kernel_rfl) ?_)
      intro b1 w2 hb1 F2
      refine Ops.step (One.val rfl rfl rfl (yld_text (l := [UInt8.ofNat (48 + r % 10)]) Try.underlying45 Try.underlying5 Try.underlying9 rfl (ev_t rfl) (fun _ => by
      have hd := digit (r % 10) (Nat.mod_lt _ (by omega))
      rw [List.map_cons, List.map_nil, ← hd]
      exact F2.range (m := 1) 0 rfl rfl)) ?_)
      refine Ops.step (One.val rfl rfl rfl (yld_move rfl (ev_t rfl)) ?_)
      refine Ops.step (One.val rfl rfl rfl (yld_sadd rfl (ev_t rfl) (ev_t rfl) (fun _ => by have h1 : (⟨#[UInt8.ofNat (48 + r % 10)]⟩ : ByteArray).size = 1 := rfl; have h2 : (⟨[UInt8.ofNat (48 + r % 10)].toArray⟩ : ByteArray).size = 1 := rfl; omega)) ?_)
      refine Ops.step (One.val rfl rfl rfl (yld_assign rfl (ev_t rfl)) ?_)
      refine Ops.nil fun a hS => ?_
      refine hK10 _ _ ?_ a hS
      refine Cod.region ?_
      refine Ops.step (One.val rfl rfl rfl (yld_move rfl (ev_t rfl)) ?_)
      refine Ops.step (One.val rfl rfl rfl (yld_quo rfl (ev_t rfl) ev_c (j := 10) (by omega) (by omega)) ?_)
      refine Ops.step (One.val rfl rfl rfl (yld_assign rfl (ev_t rfl)) ?_)
      refine Ops.nil fun a hS => ?_
      have hsz' : ((⟨#[UInt8.ofNat (48 + r % 10)]⟩ : ByteArray) ++ out).size = 1 + out.size := by rw [ByteArray.size_append]; rfl
      exact hK7 (r / 10, (⟨#[UInt8.ofNat (48 + r % 10)]⟩ : ByteArray) ++ out) _ a (hS.sub ⟨rfl, rfl, trivial⟩) ⟨by rw [hq]; exact mtL_step r out hr0, by show r / 10 + ((⟨#[UInt8.ofNat (48 + r % 10)]⟩ : ByteArray) ++ out).size ≤ q; omega, F2.drop1⟩ (by show r / 10 < r; omega)
    · skip
      obtain rfl : r = 0 := by simp at hc7; omega
      rw [mtL_zero] at hq
      refine Cod.exit fun a hS => ?_
      simp only [Exit.then, Exit.inBlock, ↓reduceIte]
      refine hK6 _ _ ?_ a hS
      refine Cod.seq fun K11 hK11 => ?_
      refine Cod.region ?_
      refine Ops.step (One.val rfl rfl rfl (yld_move rfl (ev_t rfl)) ?_)
      refine Ops.step (One.val rfl rfl rfl (yld_sadd rfl ev_c (ev_t rfl) (fun _ => by have h1 : (⟨#[109]⟩ : ByteArray).size = 1 := rfl; omega)) ?_)
      refine Ops.step (One.val rfl rfl rfl (yld_assign rfl (ev_t rfl)) ?_)
      refine Ops.nil fun a hS => ?_
      refine hK11 _ _ ?_ a hS
      refine Cod.ret fun a hS => ?_
      try simp only [Exit.then, Exit.inBlock]
      exact ret1 (t := 2) rfl hS rfl ⟨by rw [mt, if_neg hk0, Int.toNat_natCast, hq], F1.chg⟩

set_option maxRecDepth 100000 in
theorem markStringS_ct (ks : List ByteArray) (k : Int) (v : Value) (w : World) (h : (own 9 1 v ks.length (ks.flatMap sCells)).is w) (hk0 : 0 ≤ k) (hk : k + ks.length ≤ 4611686018427387904) :
    Calls Try.prog 56 #[v, .int .i64 k] w fun e w' => e = .returned (.int .i64 (k + ks.length)) ∧ Chg (fun b => v.ownBlock = some b) w w' ∧ (own 9 1 v (mks ks k).length ((mks ks k).flatMap sCells)).is w' := by
  obtain ⟨A, m0, c0, hv⟩ := own_form h
  have hm0 : m0 = ks.length := own_len h hv
  subst hv
  subst hm0
  refine enter Try.func56 rfl rfl rfl ?_
  have F0 := Fr.lend _ h
  refine Cod.seq fun K1 hK1 => ?_
  refine Cod.region ?_
  refine Ops.step (One.val rfl rfl rfl (yld_assign rfl ev_c) ?_)
  refine Ops.nil fun a hS => ?_
  refine hK1 _ _ ?_ a hS
  refine Cod.seq fun K2 hK2 => ?_
  refine Cod.seq fun K3 hK3 => ?_
  refine Cod.region ?_
  refine Ops.step (One.val rfl rfl rfl (yld_assign rfl ev_c) ?_)
  refine Ops.nil fun a hS => ?_
  refine hK3 _ _ ?_ a hS
  refine Cod.block ?_
  refine Cod.loop (fun i : Nat => [(0, true, .slice A ks.length c0), (1, true, .int .i64 (addN k i)), (5, true, .int .i64 (i : Int))]) (fun i w' => i ≤ ks.length ∧ Fr (fun b => (Value.slice A ks.length c0).ownBlock = some b) w [own 9 1 (.slice A ks.length c0) ks.length ((mpart ks k i).flatMap sCells)] w') (fun i => ks.length - i) 0 ⟨rfl, rfl, rfl, trivial⟩ ⟨Nat.zero_le _, by rw [mpart_zero]; exact F0⟩ ?_
  intro i w1 hW K4 hK4
  obtain ⟨hi, F1⟩ := hW
  simp only [addN_eq]
  refine Cod.seq fun K5 hK5 => ?_
  refine Cod.seq fun K6 hK6 => ?_
  refine Cod.region ?_
  refine Ops.step (One.val rfl rfl rfl (yld_move rfl (ev_t rfl)) ?_)
  refine Ops.step (One.val rfl rfl rfl (yld_move rfl (ev_t rfl)) ?_)
  refine Ops.step (One.val rfl rfl rfl (yld_len sl22 rfl (ev_t rfl)) ?_)
  refine Ops.step (One.val rfl rfl rfl (yld_lss rfl (ev_t rfl) (ev_t rfl)) ?_)
  refine Ops.nil fun a hS => ?_
  refine hK6 _ _ ?_ a hS
  refine Cod.cond rfl (fun hc9 => ?_) (fun hc9 => ?_)
  · skip
    have hi : i < ks.length := by simpa using hc9
    obtain ⟨bb, cap, hv, -, -⟩ := World.ownsRow.form (F1.get 0 rfl) (by omega)
    obtain ⟨rfl, -⟩ : A = some ⟨bb, 0, none⟩ ∧ c0 = cap := by simpa using hv
    refine Cod.skip fun a hS => ?_
    refine hK5 _ _ ?_ a hS
    refine Cod.seq fun K7 hK7 => ?_
    refine Cod.block ?_
    refine Cod.seq fun K8 hK8 => ?_
    refine Cod.region ?_
    refine Ops.step (One.val rfl rfl rfl (yld_move rfl (ev_t rfl)) ?_)
    refine Ops.step (One.val rfl rfl rfl (yld_move rfl (ev_t rfl)) ?_)
    refine Ops.step (One.val rfl rfl rfl (yld_move rfl (ev_t rfl)) ?_)
    refine Ops.step (One.call rfl rfl rfl (ent_f rfl (evl1 (ev_t rfl)) (enters en112)) (markText_ct _ _ (by omega)) (fun e w2 hw2 => ?_))
    obtain ⟨rfl, C2⟩ := hw2
    have F2 := F1.call C2
    refine ⟨_, rfl, ?_⟩
    refine Ops.step (One.val rfl rfl rfl (yld_indexN sl22 rfl (ev_t rfl) (ev_t rfl) (fun _ => by omega)) ?_)
    refine Ops.step (One.storeRow1 (enc := sCells) (mt (k + (i : Int))) (fun _ => rfl) F2 0 rfl (mpart_length ks k i (by omega)) (by omega) sz9 rfl rfl rfl (ev_t rfl) (ev_t rfl) rfl rfl ?_)
    intro w3 F3
    change Fr _ _ [_] _ at F3
    refine Ops.nil fun a hS => ?_
    refine hK8 _ _ ?_ a hS
    refine Cod.region ?_
    refine Ops.step (One.val rfl rfl rfl (yld_move rfl (ev_t rfl)) ?_)
    refine Ops.step (One.val rfl rfl rfl (yld_add rfl (ev_t rfl) ev_c (fun _ => by omega)) ?_)
    refine Ops.step (One.val rfl rfl rfl (yld_assign rfl (ev_t rfl)) ?_)
    refine Ops.nil fun a hS => ?_
    refine hK7 _ _ ?_ a hS
    refine Cod.region ?_
    refine Ops.step (One.val rfl rfl rfl (yld_move rfl (ev_t rfl)) ?_)
    refine Ops.step (One.val rfl rfl rfl (yld_inc rfl (ev_t rfl) (fun _ => by omega)) ?_)
    refine Ops.step (One.val rfl rfl rfl (yld_assign rfl (ev_t rfl)) ?_)
    refine Ops.nil fun a hS => ?_
    rw [show k + (i : Int) + 1 = addN k (i + 1) by rw [addN_eq]; omega] at hS
    rw [mpart_set ks k i hi] at F3
    exact hK4 (i + 1) _ a (hS.sub ⟨rfl, rfl, rfl, trivial⟩) ⟨by omega, F3⟩ (by omega)
  · skip
    obtain rfl : i = ks.length := by simp at hc9; omega
    rw [mpart_end] at F1
    refine Cod.exit fun a hS => ?_
    simp only [Exit.then, Exit.inBlock, ↓reduceIte]
    refine hK2 _ _ ?_ a hS
    refine Cod.seq fun K9 hK9 => ?_
    refine Cod.region ?_
    refine Ops.step (One.val rfl rfl rfl (yld_move rfl (ev_t rfl)) ?_)
    refine Ops.step (One.val rfl rfl rfl (yld_assign rfl (ev_t rfl)) ?_)
    refine Ops.nil fun a hS => ?_
    refine hK9 _ _ ?_ a hS
    refine Cod.ret fun a hS => ?_
    try simp only [Exit.then, Exit.inBlock]
    exact ret1 (t := 4) rfl hS rfl ⟨rfl, F1.chg, by rw [mks_length]; exact F1.get 0 rfl⟩


/-- What markValS says of one list. -/
def MarkLOk (l : List Tr) : Prop := ∀ (k : Int) (v : Value) (w : World) (F : Nat → Prop), SepL w F l v → 0 ≤ k → k + ((sumN Tr.mkn l : Nat) : Int) ≤ 4611686018427387904 →
    Calls Try.prog 57 #[v, .int .i64 k] w fun e w' => e = .returned (.int .i64 (k + ((sumN Tr.mkn l : Nat) : Int))) ∧ Chg F w w' ∧ SepL w' F (Tr.mkL l k) v
theorem SepL.form {w F l v} (h : SepL w F l v) : ∃ A c, v = .slice A l.length c := by
  obtain ⟨xs, Fk, h1, h2, -⟩ := h
  obtain ⟨A, m, c, rfl⟩ := own_form (e := 31) (sz := 5) h2
  have := own_len (e := 31) (sz := 5) h2 rfl
  subst this
  exact ⟨A, c, rfl⟩

set_option maxRecDepth 100000 in
theorem markValS_of (l : List Tr) (H : ∀ t ∈ l, MarkLOk t.list) : MarkLOk l := by
  intro k v w F hs hk0 hk
  obtain ⟨A, c0, rfl⟩ := hs.form
  have hFlt : ∀ b, F b → b < w.heap.size := by obtain ⟨_, _, _, _, _, _, _, h⟩ := hs; exact h
  have hnl : l.length ≤ 9223372036854775807 := by obtain ⟨_, _, _, h⟩ := hs.rep.open; exact h
  obtain ⟨xs0, Fk0, hxl0, hvF, hkF0, FF⟩ := Fr.lendL hs
  refine enter Try.func57 rfl rfl rfl ?_
  have F0 := FF
  refine Cod.seq fun K1 hK1 => ?_
  refine Cod.region ?_
  refine Ops.step (One.val rfl rfl rfl (yld_assign rfl ev_c) ?_)
  refine Ops.nil fun a hS => ?_
  refine hK1 _ _ ?_ a hS
  refine Cod.seq fun K2 hK2 => ?_
  refine Cod.seq fun K3 hK3 => ?_
  refine Cod.region ?_
  refine Ops.step (One.val rfl rfl rfl (yld_assign rfl ev_c) ?_)
  refine Ops.nil fun a hS => ?_
  refine hK3 _ _ ?_ a hS
  refine Cod.block ?_
  refine Cod.loop (fun i : Nat × List V5 × (Nat → Prop) => [(0, true, .slice A l.length c0), (1, true, .int .i64 (addN k (sumN Tr.mkn (l.take i.1)))), (5, true, .int .i64 (i.1 : Int))]) (fun i w' => i.1 ≤ l.length ∧ i.2.1.length = l.length ∧ (∀ b, i.2.2 b → F b) ∧ Fr F w [own 31 5 (.slice A l.length c0) l.length (i.2.1.flatMap enc5), kids i.2.2 (Tr.part l k i.1) i.2.1] w') (fun i => l.length - i.1) (0, xs0, Fk0) ⟨rfl, rfl, rfl, trivial⟩ ⟨Nat.zero_le _, hxl0, hkF0, by rw [Tr.part_zero]; exact F0⟩ ?_
  intro i w1 hW K4 hK4
  obtain ⟨i, xs, Fk⟩ := i
  obtain ⟨hi, hxl, hkF, F1⟩ := hW
  dsimp only at *
  simp only [addN_eq]
  refine Cod.seq fun K5 hK5 => ?_
  refine Cod.seq fun K6 hK6 => ?_
  refine Cod.region ?_
  refine Ops.step (One.val rfl rfl rfl (yld_move rfl (ev_t rfl)) ?_)
  refine Ops.step (One.val rfl rfl rfl (yld_move rfl (ev_t rfl)) ?_)
  refine Ops.step (One.val rfl rfl rfl (yld_len sl29 rfl (ev_t rfl)) ?_)
  refine Ops.step (One.val rfl rfl rfl (yld_lss rfl (ev_t rfl) (ev_t rfl)) ?_)
  refine Ops.nil fun a hS => ?_
  refine hK6 _ _ ?_ a hS
  refine Cod.cond rfl (fun hc9 => ?_) (fun hc9 => ?_)
  · skip
    have hi : i < l.length := by simpa using hc9
    obtain ⟨bb, cap, hv, -, -⟩ := World.ownsRow.form (F1.get 0 rfl) (by omega)
    obtain ⟨rfl, -⟩ : A = some ⟨bb, 0, none⟩ ∧ c0 = cap := by simpa using hv
    obtain ⟨x, Gi, F', hx, hGk, hF'k, hK1⟩ := F1.kidOut i (by rw [Tr.part_length l k i (by omega)]; exact hi)
    obtain ⟨kk, nn, ss, kks, ll, hti⟩ := Tr.eta l[i]
    rw [Tr.part_get l k i hi, hti] at hK1
    obtain ⟨u3, u4, Fu, hxe, hsub, F2⟩ := hK1.sepOut
    have hx0 : xs[i]? = some (x5 kk nn ss u3 u4) := by rw [hx, V5.inj hxe]
    have Hi : MarkLOk ll := by have := H _ (List.getElem_mem hi); rw [hti] at this; exact this
    have hst := sumN_take Tr.mkn l i hi
    have hsl := sumN_take_le Tr.mkn l (i + 1)
    have hmk : l[i].mkn = 3 + kks.length + sumN Tr.mkn ll := by rw [hti, Tr.mkn_mk]
    let KK : Int := k + ((sumN Tr.mkn (l.take i) : Nat) : Int)
    have hKK : KK = k + ((sumN Tr.mkn (l.take i) : Nat) : Int) := rfl
    let xs1 : List V5 := xs
    let xs2 : List V5 := xs1.set i (x5 KK nn ss u3 u4)
    let xs3 : List V5 := xs2.set i (x5 KK (KK + 1) ss u3 u4)
    let xs4 : List V5 := xs3.set i (x5 KK (KK + 1) (mt (KK + 1 + 1)) u3 u4)
    have hx2 : xs2[i]? = some (x5 KK nn ss u3 u4) := set_get_self (by simp only [xs1]; omega)
    have hx3 : xs3[i]? = some (x5 KK (KK + 1) ss u3 u4) := set_get_self (by simp only [xs2, xs1, List.length_set]; omega)
    have hx4 : xs4[i]? = some (x5 KK (KK + 1) (mt (KK + 1 + 1)) u3 u4) := set_get_self (by simp only [xs3, xs2, xs1, List.length_set]; omega)
    have hl2 : xs2.length = l.length := by simp only [xs2, xs1, List.length_set]; exact hxl
    have hl3 : xs3.length = l.length := by simp only [xs3, List.length_set]; exact hl2
    have hl4 : xs4.length = l.length := by simp only [xs4, List.length_set]; exact hl3
    refine Cod.skip fun a hS => ?_
    refine hK5 _ _ ?_ a hS
    refine Cod.seq fun K7 hK7 => ?_
    refine Cod.block ?_
    refine Cod.seq fun K8 hK8 => ?_
    refine Cod.region ?_
    refine Ops.step (One.val rfl rfl rfl (yld_move rfl (ev_t rfl)) ?_)
    refine Ops.step (One.val rfl rfl rfl (yld_move rfl (ev_t rfl)) ?_)
    refine Ops.step (One.val rfl rfl rfl (yld_move rfl (ev_t rfl)) ?_)
    refine Ops.step (One.val rfl rfl rfl (yld_indexN sl29 rfl (ev_t rfl) (ev_t rfl) (fun _ => by omega)) ?_)
    refine Ops.step (One.val rfl rfl rfl (yld_field fi31_0 rfl (ev_t rfl)) ?_)
    refine Ops.step (One.storeCell (enc := enc5) (x5 KK nn ss u3 u4) 0 (fun _ => rfl) rfl F2 2 rfl hxl hx0 rfl sz3 rfl rfl rfl (ev_t rfl) (ev_t rfl) rfl ?_)
    intro w2 F3
    change Fr _ _ [_, _, _, _] _ at F3
    refine Ops.nil fun a hS => ?_
    refine hK8 _ _ ?_ a hS
    refine Cod.seq fun K9 hK9 => ?_
    refine Cod.region ?_
    refine Ops.step (One.val rfl rfl rfl (yld_move rfl (ev_t rfl)) ?_)
    refine Ops.step (One.val rfl rfl rfl (yld_add rfl (ev_t rfl) ev_c (fun _ => by omega)) ?_)
    refine Ops.step (One.val rfl rfl rfl (yld_assign rfl (ev_t rfl)) ?_)
    refine Ops.nil fun a hS => ?_
    refine hK9 _ _ ?_ a hS
    refine Cod.seq fun K10 hK10 => ?_
    refine Cod.region ?_
    refine Ops.step (One.val rfl rfl rfl (yld_move rfl (ev_t rfl)) ?_)
    refine Ops.step (One.val rfl rfl rfl (yld_move rfl (ev_t rfl)) ?_)
    refine Ops.step (One.val rfl rfl rfl (yld_move rfl (ev_t rfl)) ?_)
    refine Ops.step (One.val rfl rfl rfl (yld_indexN sl29 rfl (ev_t rfl) (ev_t rfl) (fun _ => by omega)) ?_)
    refine Ops.step (One.val rfl rfl rfl (yld_field fi31_1 rfl (ev_t rfl)) ?_)
    refine Ops.step (One.storeCell (enc := enc5) (x5 KK (KK + 1) ss u3 u4) 1 (fun _ => rfl) rfl F3 2 rfl hl2 hx2 rfl sz3 rfl rfl rfl (ev_t rfl) (ev_t rfl) rfl ?_)
    intro w3 F4
    change Fr _ _ [_, _, _, _] _ at F4
    refine Ops.nil fun a hS => ?_
    refine hK10 _ _ ?_ a hS
    refine Cod.seq fun K11 hK11 => ?_
    refine Cod.region ?_
    refine Ops.step (One.val rfl rfl rfl (yld_move rfl (ev_t rfl)) ?_)
    refine Ops.step (One.val rfl rfl rfl (yld_add rfl (ev_t rfl) ev_c (fun _ => by omega)) ?_)
    refine Ops.step (One.val rfl rfl rfl (yld_assign rfl (ev_t rfl)) ?_)
    refine Ops.nil fun a hS => ?_
    refine hK11 _ _ ?_ a hS
    refine Cod.seq fun K12 hK12 => ?_
    refine Cod.region ?_
    refine Ops.step (One.val rfl rfl rfl (yld_move rfl (ev_t rfl)) ?_)
    refine Ops.step (One.val rfl rfl rfl (yld_move rfl (ev_t rfl)) ?_)
    refine Ops.step (One.val rfl rfl rfl (yld_move rfl (ev_t rfl)) ?_)
    refine Ops.step (One.call rfl rfl rfl (ent_f rfl (evl1 (ev_t rfl)) (enters en112)) (markText_ct _ _ (by omega)) (fun e w4 hw4 => ?_))
    obtain ⟨rfl, C4⟩ := hw4
    have F5 := F4.call C4
    refine ⟨_, rfl, ?_⟩
    refine Ops.step (One.val rfl rfl rfl (yld_indexN sl29 rfl (ev_t rfl) (ev_t rfl) (fun _ => by omega)) ?_)
    refine Ops.step (One.val rfl rfl rfl (yld_field fi31_2 rfl (ev_t rfl)) ?_)
    refine Ops.step (One.storeCell (enc := enc5) (x5 KK (KK + 1) (mt (KK + 1 + 1)) u3 u4) 2 (fun _ => rfl) rfl F5 2 rfl hl3 hx3 rfl sz9 rfl rfl rfl (ev_t rfl) (ev_t rfl) rfl ?_)
    intro w5 F6
    change Fr _ _ [_, _, _, _] _ at F6
    refine Ops.nil fun a hS => ?_
    refine hK12 _ _ ?_ a hS
    refine Cod.seq fun K13 hK13 => ?_
    refine Cod.region ?_
    refine Ops.step (One.val rfl rfl rfl (yld_move rfl (ev_t rfl)) ?_)
    refine Ops.step (One.val rfl rfl rfl (yld_add rfl (ev_t rfl) ev_c (fun _ => by omega)) ?_)
    refine Ops.step (One.val rfl rfl rfl (yld_assign rfl (ev_t rfl)) ?_)
    refine Ops.nil fun a hS => ?_
    refine hK13 _ _ ?_ a hS
    refine Cod.seq fun K14 hK14 => ?_
    refine Cod.region ?_
    refine Ops.step (One.val rfl rfl rfl (yld_move rfl (ev_t rfl)) ?_)
    refine Ops.step (One.val rfl rfl rfl (yld_move rfl (ev_t rfl)) ?_)
    refine Ops.step (One.val rfl rfl rfl (yld_indexN sl29 rfl (ev_t rfl) (ev_t rfl) (fun _ => by omega)) ?_)
    refine Ops.step (One.val rfl rfl rfl (yld_field fi31_3 rfl (ev_t rfl)) ?_)
    refine Ops.step (One.val rfl rfl rfl (yld_load1 on22 rfl (ev_t rfl) (fun _ => own_cell (enc := enc5) (fun _ => rfl) (F6.get 2 rfl) hl4 i 3 hx4 rfl)) ?_)
    refine Ops.step (One.val rfl rfl rfl (yld_move rfl (ev_t rfl)) ?_)
    refine Ops.step (One.call rfl rfl rfl (ent_f rfl (evl2 (ev_t rfl) (ev_t rfl)) (enters en56)) (markStringS_ct kks _ u3 _ (F6.get 1 rfl) (by omega) (by omega)) (fun e w6 hw6 => ?_))
    obtain ⟨rfl, C6, hk1⟩ := hw6
    have F7 := F6.upd 1 rfl C6 (fun _ hk => .inl hk) _ hk1 (fun _ hk => .inl hk)
    change Fr _ _ [_, _, _, _] _ at F7
    refine ⟨_, rfl, ?_⟩
    refine Ops.step (One.val rfl rfl rfl (yld_assign rfl (ev_t rfl)) ?_)
    refine Ops.nil fun a hS => ?_
    refine hK14 _ _ ?_ a hS
    refine Cod.region ?_
    refine Ops.step (One.val rfl rfl rfl (yld_move rfl (ev_t rfl)) ?_)
    refine Ops.step (One.val rfl rfl rfl (yld_move rfl (ev_t rfl)) ?_)
    refine Ops.step (One.val rfl rfl rfl (yld_indexN sl29 rfl (ev_t rfl) (ev_t rfl) (fun _ => by omega)) ?_)
    refine Ops.step (One.val rfl rfl rfl (yld_field fi31_4 rfl (ev_t rfl)) ?_)
    refine Ops.step (One.val rfl rfl rfl (yld_load1 on29 rfl (ev_t rfl) (fun _ => own_cell (enc := enc5) (fun _ => rfl) (F7.get 2 rfl) hl4 i 4 hx4 rfl)) ?_)
    refine Ops.step (One.val rfl rfl rfl (yld_move rfl (ev_t rfl)) ?_)
    refine Ops.step (One.call rfl rfl rfl (ent_f rfl (evl2 (ev_t rfl) (ev_t rfl)) (enters en57)) (Hi _ u4 _ Fu (F7.get 0 rfl) (by omega) (by omega)) (fun e w7 hw7 => ?_))
    obtain ⟨rfl, C7, hk2⟩ := hw7
    have F8 := F7.upd 0 rfl C7 (fun _ hk => .inl hk) (sepL Fu (Tr.mkL ll (KK + 1 + 1 + 1 + (kks.length : Int))) u4) hk2 (fun _ hk => .inl hk)
    change Fr _ _ [_, _, _, _] _ at F8
    refine ⟨_, rfl, ?_⟩
    refine Ops.step (One.val rfl rfl rfl (yld_assign rfl (ev_t rfl)) ?_)
    refine Ops.nil fun a hS => ?_
    refine hK7 _ _ ?_ a hS
    refine Cod.region ?_
    refine Ops.step (One.val rfl rfl rfl (yld_move rfl (ev_t rfl)) ?_)
    refine Ops.step (One.val rfl rfl rfl (yld_inc rfl (ev_t rfl) (fun _ => by omega)) ?_)
    refine Ops.step (One.val rfl rfl rfl (yld_assign rfl (ev_t rfl)) ?_)
    refine Ops.nil fun a hS => ?_
    have hF := Fr.toSep (k := KK) (n := KK + 1) (s := mt (KK + 1 + 1)) F8
    have hF2 := hF.kidIn (xs' := xs4) (by rw [Tr.part_length l k i (by omega)]; exact hi) hx4 (fun j hj => by simp only [xs4, xs3, xs2, xs1]; rw [List.getElem?_set_ne (Ne.symm hj), List.getElem?_set_ne (Ne.symm hj), List.getElem?_set_ne (Ne.symm hj)])
    have et : Tr.mk KK (KK + 1) (mt (KK + 1 + 1)) (mks kks (KK + 1 + 1 + 1)) (Tr.mkL ll (KK + 1 + 1 + 1 + (kks.length : Int))) = l[i].mk1 (k + ((sumN Tr.mkn (l.take i) : Nat) : Int)) := by rw [hti, Tr.mk1]
    rw [et, Tr.part_set l k i hi] at hF2
    rw [show KK + 1 + 1 + 1 + (kks.length : Int) + ((sumN Tr.mkn ll : Nat) : Int) = addN k (sumN Tr.mkn (l.take (i + 1))) by rw [addN_eq]; omega] at hS
    exact hK4 (i + 1, xs4, fun b => F' b ∨ (u3.ownBlock = some b ∨ Fu b)) _ a (hS.sub ⟨rfl, rfl, rfl, trivial⟩) ⟨by show i + 1 ≤ _; omega, by simp [xs4, xs3, xs2, xs1, hxl], fun b hb => hb.elim (fun h => hkF b (hF'k b h)) (fun h => hkF b (hGk b (hsub b h))), hF2⟩ (by show l.length - (i + 1) < l.length - i; omega)
  · skip
    obtain rfl : i = l.length := by simp at hc9; omega
    rw [Tr.part_end] at F1
    rw [List.take_length]
    refine Cod.exit fun a hS => ?_
    simp only [Exit.then, Exit.inBlock, ↓reduceIte]
    refine hK2 _ _ ?_ a hS
    refine Cod.seq fun K15 hK15 => ?_
    refine Cod.region ?_
    refine Ops.step (One.val rfl rfl rfl (yld_move rfl (ev_t rfl)) ?_)
    refine Ops.step (One.val rfl rfl rfl (yld_assign rfl (ev_t rfl)) ?_)
    refine Ops.nil fun a hS => ?_
    refine hK15 _ _ ?_ a hS
    refine Cod.ret fun a hS => ?_
    try simp only [Exit.then, Exit.inBlock]
    exact ret1 (t := 4) rfl hS rfl ⟨rfl, F1.chg, by
      exact F1.backL (Tr.mkL_length l k).symm (by rw [hxl, Tr.mkL_length]) hvF hkF (fun b hb => Nat.lt_of_lt_of_le (hFlt b hb) F1.chg.size)⟩


theorem markLP (t : Tr) : MarkLOk t.list := Tr.ind (p := fun t => MarkLOk t.list) (fun k n s ks l H => markValS_of l H) t
theorem markValS_ct (l : List Tr) : MarkLOk l := markValS_of l fun t _ => markLP t

set_option maxRecDepth 100000 in
theorem markVal_ct (t : Tr) (k : Int) (v : Value) (w : World) (F : Nat → Prop) (hs : Sep w F t v) (hk0 : 0 ≤ k) (hk : k + t.keys.length + ((sumN Tr.mkn t.list : Nat) : Int) ≤ 4611686018427387904) :
    Calls Try.prog 16 #[v, .int .i64 k] w fun e w' => e = .returned (.int .i64 (k + t.keys.length + ((sumN Tr.mkn t.list : Nat) : Int))) ∧ Chg F w w' ∧ Sep w' F (t.mkT k) v := by
  obtain ⟨tk, tn, ts, tks, tl, rfl⟩ := Tr.eta t
  have hFlt := hs.lt
  obtain ⟨u3, u4, Fu, rfl, hsub, FF⟩ := (Fr.lend (sep F _ v) hs).sepOut
  simp only [Tr.keys, Tr.list] at hk ⊢
  refine enter Try.func16 rfl rfl rfl ?_
  have F0 := FF
  refine Cod.seq fun K1 hK1 => ?_
  refine Cod.region ?_
  refine Ops.step (One.box F0 rfl rfl rfl rfl (ev_t rfl) ?_)
  intro b1 w1 hb1 F1
  change Fr _ _ [blk _ _ [_, _, _, _, _], _, _] _ at F1
  refine Ops.step (One.val rfl rfl rfl (yld_assign rfl ev_c) ?_)
  refine Ops.nil fun a hS => ?_
  refine hK1 _ _ ?_ a hS
  refine Cod.seq fun K2 hK2 => ?_
  refine Cod.region ?_
  refine Ops.step (One.val rfl rfl rfl (yld_field fi31_3 rfl (ev_t rfl)) ?_)
  refine Ops.step (One.val rfl rfl rfl (yld_load1 on22 rfl (ev_t rfl) (fun _ => F1.cell 0 rfl rfl)) ?_)
  refine Ops.step (One.val rfl rfl rfl (yld_move rfl (ev_t rfl)) ?_)
  refine Ops.step (One.call rfl rfl rfl (ent_f rfl (evl2 (ev_t rfl) (ev_t rfl)) (enters en56)) (markStringS_ct tks _ u3 _ (F1.get 2 rfl) (by omega) (by omega)) (fun e w2 hw2 => ?_))
  obtain ⟨rfl, C2, hk1⟩ := hw2
  have F2 := F1.upd 2 rfl C2 (fun _ hk => .inl hk) _ hk1 (fun _ hk => .inl hk)
  change Fr _ _ [_, _, _] _ at F2
  refine ⟨_, rfl, ?_⟩
  refine Ops.step (One.val rfl rfl rfl (yld_assign rfl (ev_t rfl)) ?_)
  refine Ops.nil fun a hS => ?_
  refine hK2 _ _ ?_ a hS
  refine Cod.seq fun K3 hK3 => ?_
  refine Cod.region ?_
  refine Ops.step (One.val rfl rfl rfl (yld_field fi31_4 rfl (ev_t rfl)) ?_)
  refine Ops.step (One.val rfl rfl rfl (yld_load1 on29 rfl (ev_t rfl) (fun _ => F2.cell 0 rfl rfl)) ?_)
  refine Ops.step (One.val rfl rfl rfl (yld_move rfl (ev_t rfl)) ?_)
  refine Ops.step (One.call rfl rfl rfl (ent_f rfl (evl2 (ev_t rfl) (ev_t rfl)) (enters en57)) (markValS_ct tl _ u4 _ Fu (F2.get 1 rfl) (by omega) (by omega)) (fun e w3 hw3 => ?_))
  obtain ⟨rfl, C3, hk2⟩ := hw3
  have F3 := F2.upd 1 rfl C3 (fun _ hk => .inl hk) (sepL Fu (Tr.mkL tl (k + (tks.length : Int))) u4) hk2 (fun _ hk => .inl hk)
  change Fr _ _ [_, _, _] _ at F3
  refine ⟨_, rfl, ?_⟩
  refine Ops.step (One.val rfl rfl rfl (yld_assign rfl (ev_t rfl)) ?_)
  refine Ops.nil fun a hS => ?_
  refine hK3 _ _ ?_ a hS
  refine Cod.seq fun K4 hK4 => ?_
  refine Cod.region ?_
  refine Ops.step (One.val rfl rfl rfl (yld_move rfl (ev_t rfl)) ?_)
  refine Ops.step (One.val rfl rfl rfl (yld_assign rfl (ev_t rfl)) ?_)
  refine Ops.nil fun a hS => ?_
  refine hK4 _ _ ?_ a hS
  refine Cod.ret fun a hS => ?_
  try simp only [Exit.then, Exit.inBlock]
  have hF := Fr.toSep (k := tk) (n := tn) (s := ts) F3.drop1
  exact ret1 (t := 4) rfl hS rfl ⟨rfl, F3.chg, Sep.grow (hF.get 0 rfl) hsub (fun b hb => Nat.lt_of_lt_of_le (hFlt b hb) F3.chg.size)⟩

end Go.Proofs.Ytodbflfelimppaa.Eng
