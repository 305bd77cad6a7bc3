/- Walks of slices.BinarySearch, Clone and Insert over texts and over trees. -/
import Derived.Test.YtodbflfelimppaaCom
import Derived.Test.YtodbflfelimppaaIns
import Derived.Test.YtodbflfelimppaaNil
namespace Go.Proofs.Ytodbflfelimppaa.Eng
open Go.RowKit
set_option linter.unusedVariables false
set_option linter.unusedSimpArgs false
set_option maxHeartbeats 1000000


theorem ltS_iff {s u : ByteArray} : ltS s u = true ↔ s.toList < u.toList := by unfold ltS; rw [less_eq]; simp
theorem ltS_tr {a b c : ByteArray} (h1 : ltS a b = true) (h2 : ltS b c = true) : ltS a c = true := ltS_iff.2 (List.lt_trans (ltS_iff.1 h1) (ltS_iff.1 h2))
theorem ltS_self (s : ByteArray) : ltS s s = false := by
  have := ltS_not s s
  cases h : ltS s s <;> simp [h] at this ⊢
theorem ltS_asym {a b : ByteArray} (h : ltS a b = true) : ltS b a = false := by
  have := ltS_not a b
  rw [h] at this
  cases h2 : ltS b a <;> simp [h2] at this ⊢
/-- Keys in strict order. -/
def Sorted (ks : List ByteArray) : Prop := ∀ i, 0 < i → i < ks.length → ltS (nth ks (i - 1)) (nth ks i) = true
theorem Sorted.lt {ks : List ByteArray} (h : Sorted ks) : ∀ b a, a < b → b < ks.length → ltS (nth ks a) (nth ks b) = true
  | 0, a, h1, _ => absurd h1 (by omega)
  | b + 1, a, h1, h2 => by
    have h3 := h (b + 1) (by omega) h2
    rw [Nat.add_sub_cancel] at h3
    by_cases hab : a = b
    · subst hab; exact h3
    · exact ltS_tr (Sorted.lt h b a (by omega) (by omega)) h3
/-- The place of a key: all ahead are less, all from it on are not. -/
def Pos (ks : List ByteArray) (key : ByteArray) (q : Nat) : Prop := q ≤ ks.length ∧ (∀ k, k < q → ltS (nth ks k) key = true) ∧ ∀ k, q ≤ k → k < ks.length → ltS (nth ks k) key = false
def hasAt (ks : List ByteArray) (key : ByteArray) (q : Nat) : Bool := decide (q < ks.length) && decide (nth ks q = key)
theorem Pos.uniq {ks : List ByteArray} {key : ByteArray} {p q : Nat} (h1 : Pos ks key p) (h2 : Pos ks key q) : p = q := by
  obtain ⟨a1, a2, a3⟩ := h1
  obtain ⟨b1, b2, b3⟩ := h2
  rcases Nat.lt_trichotomy p q with h | h | h
  · have e1 := b2 p h
    have e2 := a3 p (Nat.le_refl _) (by omega)
    rw [e1] at e2; cases e2
  · exact h
  · have e1 := a2 q h
    have e2 := b3 q (Nat.le_refl _) (by omega)
    rw [e1] at e2; cases e2

set_option maxRecDepth 100000 in
theorem nanT_ct (x : ByteArray) (w : World) : Calls Try.prog 129 #[.string x] w fun e w' => e = .returned (.bool false) ∧ Chg No w w' := by
  refine enter Try.func129 rfl rfl rfl ?_
  have F0 := Fr.start w
  refine Cod.seq fun K1 hK1 => ?_
  refine Cod.region ?_
  refine Ops.step (One.val rfl rfl rfl (yld_assign rfl ev_c) ?_)
  refine Ops.nil fun a hS => ?_
  refine hK1 _ _ ?_ a hS
  refine Cod.seq fun K2 hK2 => ?_
  refine Cod.region ?_
  refine Ops.step (One.val rfl rfl rfl (yld_move rfl (ev_t rfl)) ?_)
  refine Ops.step (One.val rfl rfl rfl (yld_move rfl (ev_t rfl)) ?_)
  refine Ops.step (One.val rfl rfl rfl (yld_sneq rfl (ev_t rfl) (ev_t rfl)) ?_)
  refine Ops.step (One.val rfl rfl rfl (yld_assign rfl (ev_t rfl)) ?_)
  refine Ops.nil fun a hS => ?_
  refine hK2 _ _ ?_ a hS
  refine Cod.ret fun a hS => ?_
  try simp only [Exit.then, Exit.inBlock]
  exact ret1 (t := 2) rfl hS rfl ⟨by simp, F0.chg⟩

set_option maxRecDepth 100000 in
theorem nanL_ct (x : ByteArray) (w : World) : Calls Try.prog 147 #[.string x] w fun e w' => e = .returned (.bool false) ∧ Chg No w w' := by
  refine enter Try.func147 rfl rfl rfl ?_
  have F0 := Fr.start w
  refine Cod.seq fun K1 hK1 => ?_
  refine Cod.region ?_
  refine Ops.step (One.val rfl rfl rfl (yld_assign rfl ev_c) ?_)
  refine Ops.nil fun a hS => ?_
  refine hK1 _ _ ?_ a hS
  refine Cod.seq fun K2 hK2 => ?_
  refine Cod.region ?_
  refine Ops.step (One.val rfl rfl rfl (yld_move rfl (ev_t rfl)) ?_)
  refine Ops.step (One.val rfl rfl rfl (yld_move rfl (ev_t rfl)) ?_)
  refine Ops.step (One.val rfl rfl rfl (yld_sneq rfl (ev_t rfl) (ev_t rfl)) ?_)
  refine Ops.step (One.val rfl rfl rfl (yld_assign rfl (ev_t rfl)) ?_)
  refine Ops.nil fun a hS => ?_
  refine hK2 _ _ ?_ a hS
  refine Cod.ret fun a hS => ?_
  try simp only [Exit.then, Exit.inBlock]
  exact ret1 (t := 2) rfl hS rfl ⟨by simp, F0.chg⟩

set_option maxRecDepth 100000 in
theorem lessT_ct (x y : ByteArray) (w : World) : Calls Try.prog 146 #[.string x, .string y] w fun e w' => e = .returned (.bool (ltS x y)) ∧ Chg No w w' := by
  refine enter Try.func146 rfl rfl rfl ?_
  have F0 := Fr.start w
  refine Cod.seq fun K1 hK1 => ?_
  refine Cod.region ?_
  refine Ops.step (One.val rfl rfl rfl (yld_assign rfl ev_c) ?_)
  refine Ops.nil fun a hS => ?_
  refine hK1 _ _ ?_ a hS
  refine Cod.seq fun K2 hK2 => ?_
  refine Cod.region ?_
  refine Ops.step (One.val rfl rfl rfl (yld_move rfl (ev_t rfl)) ?_)
  refine Ops.step (One.call rfl rfl rfl (ent_f rfl (evl1 (ev_t rfl)) (enters en129)) (nanT_ct x _) (fun e w1 hw1 => ?_))
  obtain ⟨rfl, C1⟩ := hw1
  have F1 := F0.call C1
  refine ⟨_, rfl, ?_⟩
  refine Ops.step (One.val rfl rfl rfl (yld_move rfl (ev_t rfl)) ?_)
  refine Ops.step (One.val (gd_some rfl rfl) rfl rfl (yld_move rfl (ev_t rfl)) ?_)
  refine Ops.step (One.gcall (R := Chg No w1) (gd_some rfl rfl) rfl rfl (ent_f rfl (evl1 (ev_g rfl)) (enters en129)) (Chg.refl _ _) (fun hg => nanT_ct y _) ?_)
  intro w2 C2
  have F2 := F1.call C2
  refine Ops.step (One.val (gd_some rfl rfl) rfl rfl (yld_not rfl (ev_g rfl)) ?_)
  refine Ops.step (One.val rfl rfl rfl (yld_and rfl (ev_t rfl) (ev_g rfl)) ?_)
  refine Ops.step (One.val rfl rfl rfl (yld_move rfl (ev_t rfl)) ?_)
  refine Ops.step (One.val (gd_some rfl rfl) rfl rfl (yld_move rfl (ev_t rfl)) ?_)
  refine Ops.step (One.val (gd_some rfl rfl) rfl rfl (yld_move rfl (ev_t rfl)) ?_)
  refine Ops.step (One.val (gd_some rfl rfl) rfl rfl (yld_slss rfl (ev_g rfl) (ev_g rfl)) ?_)
  refine Ops.step (One.val rfl rfl rfl (yld_or rfl (ev_t rfl) (ev_g rfl)) ?_)
  refine Ops.step (One.val rfl rfl rfl (yld_assign rfl (ev_t rfl)) ?_)
  refine Ops.nil fun a hS => ?_
  refine hK2 _ _ ?_ a hS
  refine Cod.ret fun a hS => ?_
  try simp only [Exit.then, Exit.inBlock]
  exact ret1 (t := 4) rfl hS rfl ⟨ret_b (by simp [ltS]), F2.chg⟩

set_option maxRecDepth 100000 in
theorem bin_ct (ks : List ByteArray) (key : ByteArray) (v : Value) (w : World) (hp : RepS Any w ks v) (hso : Sorted ks) (hn : ks.length ≤ 1048576) :
    Calls Try.prog 133 #[v, .string key] w fun e w' => ∃ q, Pos ks key q ∧ e = .returned (.tuple #[.int .i64 (q : Int), .bool (hasAt ks key q)]) ∧ Chg No w w' := by
  obtain ⟨A, c, rfl, hnn⟩ := hp.open
  refine enter Try.func133 rfl rfl rfl ?_
  have F0 := Fr.start w
  refine Cod.seq fun K1 hK1 => ?_
  refine Cod.region ?_
  refine Ops.step (One.val rfl rfl rfl (yld_assign rfl ev_c) ?_)
  refine Ops.step (One.val rfl rfl rfl (yld_assign rfl ev_c) ?_)
  refine Ops.nil fun a hS => ?_
  refine hK1 _ _ ?_ a hS
  refine Cod.seq fun K2 hK2 => ?_
  refine Cod.region ?_
  refine Ops.step (One.val rfl rfl rfl (yld_move rfl (ev_t rfl)) ?_)
  refine Ops.step (One.val rfl rfl rfl (yld_len sl22 rfl (ev_t rfl)) ?_)
  refine Ops.step (One.val rfl rfl rfl (yld_assign rfl (ev_t rfl)) ?_)
  refine Ops.nil fun a hS => ?_
  refine hK2 _ _ ?_ a hS
  refine Cod.seq fun K3 hK3 => ?_
  refine Cod.region ?_
  refine Ops.step (One.val rfl rfl rfl (yld_move rfl (ev_t rfl)) ?_)
  refine Ops.step (One.val rfl rfl rfl (yld_assign rfl ev_c) ?_)
  refine Ops.step (One.val rfl rfl rfl (yld_assign rfl (ev_t rfl)) ?_)
  refine Ops.nil fun a hS => ?_
  refine hK3 _ _ ?_ a hS
  refine Cod.seq fun K4 hK4 => ?_
  refine Cod.block ?_
  refine Cod.loop (fun i : Nat × Nat => [(0, true, .slice A ks.length c), (1, true, .string key), (6, true, .int .i64 (ks.length : Int)), (7, true, .int .i64 (i.1 : Int)), (8, true, .int .i64 (i.2 : Int))]) (fun i w' => i.1 ≤ i.2 ∧ i.2 ≤ ks.length ∧ (∀ k, k < i.1 → ltS (nth ks k) key = true) ∧ (∀ k, i.2 ≤ k → k < ks.length → ltS (nth ks k) key = false) ∧ Fr No w [] w') (fun i => i.2 - i.1) (0, ks.length) ⟨rfl, rfl, rfl, rfl, rfl, trivial⟩ ⟨Nat.zero_le _, Nat.le_refl _, fun k h => by omega, fun k h1 h2 => by omega, F0⟩ ?_
  intro i w1 hW K5 hK5
  obtain ⟨i, j⟩ := i
  obtain ⟨hij, hjn, hlo, hhi, F1⟩ := hW
  dsimp only at *
  refine Cod.seq fun K6 hK6 => ?_
  refine Cod.seq fun K7 hK7 => ?_
  refine Cod.region ?_
  refine Ops.step (One.val rfl rfl rfl (yld_move rfl (ev_t rfl)) ?_)
  refine Ops.step (One.val rfl rfl rfl (yld_move rfl (ev_t rfl)) ?_)
  refine Ops.step (One.val rfl rfl rfl (yld_lss rfl (ev_t rfl) (ev_t rfl)) ?_)
  refine Ops.nil fun a hS => ?_
  refine hK7 _ _ ?_ a hS
  refine Cod.cond rfl (fun hc15 => ?_) (fun hc15 => ?_)
  · skip
    have hlt : i < j := by simpa using hc15
    refine Cod.skip fun a hS => ?_
    refine hK6 _ _ ?_ a hS
    refine Cod.block ?_
    refine Cod.seq fun K8 hK8 => ?_
    refine Cod.region ?_
    refine Ops.step (One.val rfl rfl rfl (yld_move rfl (ev_t rfl)) ?_)
    refine Ops.step (One.val rfl rfl rfl (yld_move rfl (ev_t rfl)) ?_)
    refine Ops.step (One.val rfl rfl rfl (yld_add rfl (ev_t rfl) (ev_t rfl) (fun _ => by omega)) ?_)
    refine Ops.step (One.val rfl rfl rfl (yld_convU Try.underlying3 Try.underlying152 rfl (ev_t rfl) (by omega)) ?_)
    refine Ops.step (One.val rfl rfl rfl (yld_half rfl (ev_t rfl) (by omega)) ?_)
    refine Ops.step (One.val rfl rfl rfl (yld_convI Try.underlying152 Try.underlying3 rfl (ev_t rfl) (by omega)) ?_)
    refine Ops.step (One.val rfl rfl rfl (yld_assign rfl (ev_t rfl)) ?_)
    refine Ops.nil fun a hS => ?_
    refine hK8 _ _ ?_ a hS
    refine Cod.seq fun K9 hK9 => ?_
    obtain ⟨m, hm⟩ : ∃ m : Nat, m = (i + j) / 2 := ⟨_, rfl⟩
    have hcast : ((i : Int) + (j : Int)) / 2 = (m : Int) := by omega
    have hmi : i ≤ m := by omega
    have hmj : m < j := by omega
    rw [hcast]
    have hmn : m < ks.length := by omega
    obtain ⟨b, o, rfl, -, hr⟩ := hp.at m hmn
    refine Cod.region ?_
    refine Ops.step (One.val rfl rfl rfl (yld_move rfl (ev_t rfl)) ?_)
    refine Ops.step (One.val rfl rfl rfl (yld_move rfl (ev_t rfl)) ?_)
    refine Ops.step (One.val rfl rfl rfl (yld_indexN sl22 rfl (ev_t rfl) (ev_t rfl) (fun _ => by omega)) ?_)
    refine Ops.step (One.val rfl rfl rfl (yld_load1 on9 rfl (ev_t rfl) (fun _ => rangeAt_cell (rng hr F1.chg) (j := 0) rfl)) ?_)
    refine Ops.step (One.val rfl rfl rfl (yld_move rfl (ev_t rfl)) ?_)
    refine Ops.step (One.call rfl rfl rfl (ent_f rfl (evl2 (ev_t rfl) (ev_t rfl)) (enters en146)) (lessT_ct _ key _) (fun e w2 hw2 => ?_))
    obtain ⟨rfl, C2⟩ := hw2
    have F2 := F1.call C2
    refine ⟨_, rfl, ?_⟩
    refine Ops.nil fun a hS => ?_
    refine hK9 _ _ ?_ a hS
    refine Cod.cond rfl (fun hc27 => ?_) (fun hc27 => ?_)
    · skip
      have hl : ltS (nth ks m) key = true := by rw [nth_eq hmn]; exact hc27
      obtain ⟨ni, hni⟩ : ∃ q : Nat, q = m + 1 := ⟨_, rfl⟩
      obtain ⟨nj, hnj⟩ : ∃ q : Nat, q = j := ⟨_, rfl⟩
      have hb1 : ni ≤ nj := by omega
      have hb2 : nj ≤ ks.length := by omega
      have hlo2 : ∀ k, k < ni → ltS (nth ks k) key = true := fun k hk => by
        by_cases hkm : k = m
        · subst hkm; exact hl
        · exact ltS_tr (hso.lt m k (by omega) hmn) hl
      have hhi2 : ∀ k, nj ≤ k → k < ks.length → ltS (nth ks k) key = false := fun k h1 h2 => hhi k (by omega) h2
      have hmu : nj - ni < j - i := by omega
      refine Cod.region ?_
      refine Ops.step (One.val rfl rfl rfl (yld_move rfl (ev_t rfl)) ?_)
      refine Ops.step (One.val rfl rfl rfl (yld_inc rfl (ev_t rfl) (fun _ => by omega)) ?_)
      refine Ops.step (One.val rfl rfl rfl (yld_assign rfl (ev_t rfl)) ?_)
      refine Ops.nil fun a hS => ?_
      exact hK5 (ni, nj) _ a (by subst hni; subst hnj; exact (hS.sub ⟨rfl, rfl, rfl, rfl, rfl, trivial⟩)) ⟨hb1, hb2, hlo2, hhi2, F2⟩ hmu
    · skip
      have hl : ltS (nth ks m) key = false := by rw [nth_eq hmn]; exact hc27
      obtain ⟨ni, hni⟩ : ∃ q : Nat, q = i := ⟨_, rfl⟩
      obtain ⟨nj, hnj⟩ : ∃ q : Nat, q = m := ⟨_, rfl⟩
      have hb1 : ni ≤ nj := by omega
      have hb2 : nj ≤ ks.length := by omega
      have hlo2 : ∀ k, k < ni → ltS (nth ks k) key = true := fun k hk => hlo k (by omega)
      have hhi2 : ∀ k, nj ≤ k → k < ks.length → ltS (nth ks k) key = false := fun k h1 h2 => by
        by_cases hkm : k = m
        · subst hkm; exact hl
        · have h3 := hso.lt k m (by omega) h2
          cases h4 : ltS (nth ks k) key
          · rfl
          · rw [ltS_tr h3 h4] at hl; cases hl
      have hmu : nj - ni < j - i := by omega
      refine Cod.region ?_
      refine Ops.step (One.val rfl rfl rfl (yld_move rfl (ev_t rfl)) ?_)
      refine Ops.step (One.val rfl rfl rfl (yld_assign rfl (ev_t rfl)) ?_)
      refine Ops.nil fun a hS => ?_
      exact hK5 (ni, nj) _ a (by subst hni; subst hnj; exact (hS.sub ⟨rfl, rfl, rfl, rfl, rfl, trivial⟩)) ⟨hb1, hb2, hlo2, hhi2, F2⟩ hmu
  · skip
    have hje : i = j := by simp at hc15; omega
    subst hje
    obtain ⟨b, o, hbo⟩ : ∃ b o, i < ks.length → A = some ⟨b, o, none⟩ ∧ w.rangeAt b (o + i * 1) (sCells (nth ks i)) := by
      by_cases h : i < ks.length
      · obtain ⟨b, o, e, -, hr⟩ := hp.at i h
        exact ⟨b, o, fun _ => ⟨e, by rw [nth_eq h]; exact hr⟩⟩
      · exact ⟨0, 0, fun h' => absurd h' h⟩
    refine Cod.exit fun a hS => ?_
    simp only [Exit.then, Exit.inBlock, ↓reduceIte]
    refine hK4 _ _ ?_ a hS
    refine Cod.seq fun K10 hK10 => ?_
    refine Cod.region ?_
    refine Ops.step (One.val rfl rfl rfl (yld_move rfl (ev_t rfl)) ?_)
    refine Ops.step (One.val rfl rfl rfl (yld_move rfl (ev_t rfl)) ?_)
    refine Ops.step (One.val rfl rfl rfl (yld_move rfl (ev_t rfl)) ?_)
    refine Ops.step (One.val rfl rfl rfl (yld_lss rfl (ev_t rfl) (ev_t rfl)) ?_)
    refine Ops.step (One.val rfl rfl rfl (yld_move rfl (ev_t rfl)) ?_)
    refine Ops.step (One.val (gd_some rfl rfl) rfl rfl (yld_move rfl (ev_t rfl)) ?_)
    refine Ops.step (One.val (gd_some rfl rfl) rfl rfl (yld_move rfl (ev_t rfl)) ?_)
    refine Ops.step (One.val (gd_some rfl rfl) rfl rfl (yld_indexG (b := b) (q := o) sl22 rfl (ev_g rfl) (ev_g rfl) (fun hg => (hbo (by simp [gof] at hg; omega)).1) (fun hg => by simp [gof] at hg; omega)) ?_)
    refine Ops.step (One.val (gd_some rfl rfl) rfl rfl (yld_load1 on9 rfl (ev_g rfl) (fun hg => rangeAt_cell (rng (hbo (by simp [gof] at hg; omega)).2 F1.chg) (j := 0) rfl)) ?_)
    refine Ops.step (One.val (gd_some rfl rfl) rfl rfl (yld_move rfl (ev_t rfl)) ?_)
    refine Ops.step (One.val (gd_some rfl rfl) rfl rfl (yld_seql rfl (ev_g rfl) (ev_g rfl)) ?_)
    refine Ops.step (One.val (gd_some rfl rfl) rfl rfl (yld_move rfl (ev_g rfl)) ?_)
    refine Ops.step (One.val (gd_some rfl rfl) rfl rfl (yld_move rfl (ev_t rfl)) ?_)
    refine Ops.step (One.val (gd_some rfl rfl) rfl rfl (yld_move rfl (ev_t rfl)) ?_)
    refine Ops.step (One.val (gd_some rfl rfl) rfl rfl (yld_indexG (b := b) (q := o) sl22 rfl (ev_g rfl) (ev_g rfl) (fun hg => (hbo (by simp [gof] at hg; omega)).1) (fun hg => by simp [gof] at hg; omega)) ?_)
    refine Ops.step (One.val (gd_some rfl rfl) rfl rfl (yld_load1 on9 rfl (ev_g rfl) (fun hg => rangeAt_cell (rng (hbo (by simp [gof] at hg; omega)).2 F1.chg) (j := 0) rfl)) ?_)
    refine Ops.step (One.gcall (R := Chg No w1) (gd_some rfl rfl) rfl rfl (ent_f rfl (evl1 (ev_g rfl)) (enters en147)) (Chg.refl _ _) (fun hg => nanL_ct _ _) ?_)
    intro w3 C3
    have F3 := F1.call C3
    refine Ops.step (One.val (gd_some rfl rfl) rfl rfl (yld_move rfl (ev_g rfl)) ?_)
    refine Ops.step (One.val (gd_some rfl rfl) rfl rfl (yld_move rfl (ev_t rfl)) ?_)
    refine Ops.step (One.gcall (R := Chg No w3) (gd_some rfl rfl) rfl rfl (ent_f rfl (evl1 (ev_g rfl)) (enters en147)) (Chg.refl _ _) (fun hg => nanL_ct _ _) ?_)
    intro w4 C4
    have F4 := F3.call C4
    refine Ops.step (One.val (gd_some rfl rfl) rfl rfl (yld_and rfl (ev_g rfl) (ev_g rfl)) ?_)
    refine Ops.step (One.val (gd_some rfl rfl) rfl rfl (yld_or rfl (ev_g rfl) (ev_g rfl)) ?_)
    refine Ops.step (One.val rfl rfl rfl (yld_and rfl (ev_t rfl) (ev_g rfl)) ?_)
    refine Ops.step (One.val rfl rfl rfl (yld_assign rfl (ev_t rfl)) ?_)
    refine Ops.step (One.val rfl rfl rfl (yld_assign rfl (ev_t rfl)) ?_)
    refine Ops.nil fun a hS => ?_
    refine hK10 _ _ ?_ a hS
    refine Cod.ret fun a hS => ?_
    try simp only [Exit.then, Exit.inBlock]
    exact ret2 (t := 4) (u := 5) rfl hS rfl rfl ⟨i, ⟨hjn, hlo, hhi⟩, by simp [hasAt], F4.chg⟩

set_option maxRecDepth 100000 in
theorem cloneT_ct (ks : List ByteArray) (v : Value) (w : World) (hp : RepS Any w ks v) (hn : ks.length ≤ 1048576) : Calls Try.prog 132 #[v] w fun e w' => ∃ v', e = .returned v' ∧ Chg No w w' ∧ (own 9 1 v' ks.length (ks.flatMap sCells)).is w' ∧ ∀ k, v'.ownBlock = some k → w.heap.size ≤ k := by
  obtain ⟨A, c, rfl, hnn⟩ := hp.open
  refine enter Try.func132 rfl rfl rfl ?_
  have F0 := Fr.start w
  refine Cod.seq fun K1 hK1 => ?_
  refine Cod.region ?_
  refine Ops.step (One.val rfl rfl rfl (yld_assign rfl ev_c) ?_)
  refine Ops.nil fun a hS => ?_
  refine hK1 _ _ ?_ a hS
  refine Cod.seq fun K2 hK2 => ?_
  refine Cod.seq fun K3 hK3 => ?_
  refine Cod.region ?_
  refine Ops.step (One.val rfl rfl rfl (yld_move rfl (ev_t rfl)) ?_)
  refine Ops.step (One.val rfl rfl rfl (yld_nileq sl22 rfl (ev_t rfl)) ?_)
  refine Ops.nil fun a hS => ?_
  refine hK3 _ _ ?_ a hS
  refine Cod.cond rfl (fun hc4 => ?_) (fun hc4 => ?_)
  · skip
    have hA : A = none := by cases A <;> simp at hc4 ⊢
    have hys : ks = [] := by
      subst hA
      obtain ⟨A2, c2, e2, -, -, h2⟩ := hp
      by_cases hne : ks = []
      · exact hne
      · obtain ⟨b, o, e3, -⟩ := h2 hne
        subst e3
        simp at e2
    refine Cod.seq fun K4 hK4 => ?_
    refine Cod.region ?_
    refine Ops.step (One.val rfl rfl rfl (yld_assign rfl ev_c) ?_)
    refine Ops.nil fun a hS => ?_
    refine hK4 _ _ ?_ a hS
    refine Cod.ret fun a hS => ?_
    try simp only [Exit.then, Exit.inBlock]
    exact ret1 (t := 2) rfl hS rfl ⟨.slice none 0 0, rfl, F0.chg, by rw [hys]; exact World.ownsRow_nil _ 0 9 1, fun k hk => by simp [Value.ownBlock] at hk⟩
  · skip
    refine Cod.skip fun a hS => ?_
    refine hK2 _ _ ?_ a hS
    refine Cod.seq fun K5 hK5 => ?_
    refine Cod.region ?_
    refine Ops.step (One.buildNil sCells F0 sl22 rfl rfl rfl rfl ?_)
    intro b1 w1 hb1 F1
    refine Ops.step (One.val rfl rfl rfl (yld_move rfl (ev_t rfl)) ?_)
    refine Ops.step (One.append (enc := sCells) ks F1 0 rfl sl22 zero9 rfl rfl (fun _ => rfl) rfl rfl rfl rfl (ev_t rfl) (ev_t rfl) (hp.chg F1.chg) (fun x _ => rfl) (by simp; omega) (by simp; omega) ?_)
    intro u2 w2 hu2 F2
    change Fr _ _ [_] _ at F2
    refine Ops.step (One.val rfl rfl rfl (yld_assign rfl (ev_t rfl)) ?_)
    refine Ops.nil fun a hS => ?_
    refine hK5 _ _ ?_ a hS
    refine Cod.ret fun a hS => ?_
    try simp only [Exit.then, Exit.inBlock]
    exact ret1 (t := 2) rfl hS rfl ⟨u2, rfl, F2.chg, F2.get 0 rfl, fun b hb => (F2.dom _ (List.mem_cons_self ..) b hb).resolve_left id⟩


theorem blk_shape {w : World} {b ty : Nat} {cs : List Value} (h : (blk b ty cs).is w) : w.shape? b = some (ty, cs.length) ∧ ∀ j, w.frozen? ⟨b, j, none⟩ = false := by
  have h' : w.heap[b]? = some (.cells cs.toArray ty (0, 0)) := h
  exact ⟨by simp [World.shape?, h'], fun j => by simp [World.frozen?, h']⟩
theorem own_shape {w : World} {e sz b len cap n : Nat} {cells : List Value} (h : w.ownsRow 0 e sz (.slice (some ⟨b, 0, none⟩) len cap) n cells) (hp : 0 < n) (hsz : 0 < sz) : ∃ k, w.shape? b = some (e, k) ∧ k ≠ 0 := by
  rcases h.2 with ⟨h', _⟩ | ⟨g, cap', cur, h', hb, hg, hnc, hcm, hcs, htake⟩
  · cases h'
  · obtain ⟨rfl, rfl, rfl⟩ : b = g ∧ len = n ∧ cap = cap' := by simpa using h'
    refine ⟨cur.size, by simp [World.shape?, hg], ?_⟩
    rw [hcs]
    have : 0 < cap * sz := Nat.mul_pos (by omega) hsz
    omega
theorem drop_len {p q : List Value} {n : Nat} (h : p.length = n) : (p ++ q).drop n = q := by subst h; exact List.drop_left
theorem flat_split {α : Type} {enc : α → List Value} {sz : Nat} (he : ∀ x, (enc x).length = sz) (xs : List α) (i : Nat) (hi : i ≤ xs.length) : (xs.flatMap enc).take (i * sz) = (xs.take i).flatMap enc ∧ (xs.flatMap enc).drop (i * sz) = (xs.drop i).flatMap enc := by
  have h1 : xs.flatMap enc = (xs.take i).flatMap enc ++ (xs.drop i).flatMap enc := by rw [← List.flatMap_append, List.take_append_drop]
  have h2 : ((xs.take i).flatMap enc).length = i * sz := by rw [flat_length he, List.length_take, Nat.min_eq_left hi]
  rw [h1, ← h2]
  exact ⟨List.take_left, List.drop_left⟩
theorem ins_cells {α : Type} {enc : α → List Value} {sz : Nat} (he : ∀ x, (enc x).length = sz) (xs : List α) (i : Nat) (hi : i ≤ xs.length) (x : α) (cells : List Value) (hl : cells.length = (xs.length + 1) * sz) (ht : cells.take (i * sz) = (xs.take i).flatMap enc) :
    putAt (putAt cells (i * sz) (enc x)) ((i + 1) * sz) ((xs.drop i).flatMap enc) = (xs.take i ++ x :: xs.drop i).flatMap enc ∧ putAt (putAt cells ((i + 1) * sz) ((xs.drop i).flatMap enc)) (i * sz) (enc x) = (xs.take i ++ x :: xs.drop i).flatMap enc := by
  have hd : ((xs.drop i).flatMap enc).length = (xs.length - i) * sz := by rw [flat_length he, List.length_drop]
  have h1 : (i + 1) * sz = i * sz + sz := by rw [Nat.add_mul]; omega
  have h2 : (xs.length + 1) * sz = i * sz + (xs.length - i) * sz + sz := by rw [← Nat.add_mul, show xs.length + 1 = (i + (xs.length - i)) + 1 by omega, Nat.add_mul _ 1, Nat.one_mul]
  have htl : ((xs.take i).flatMap enc).length = i * sz := by rw [flat_length he, List.length_take, Nat.min_eq_left hi]
  have goal : (xs.take i ++ x :: xs.drop i).flatMap enc = (xs.take i).flatMap enc ++ (enc x ++ (xs.drop i).flatMap enc) := by rw [List.flatMap_append, List.flatMap_cons]
  constructor
  · have a1 := putAt_eq (enc x) cells (i * sz) (by rw [he, hl]; omega)
    rw [a1, ht]
    have e1 : ((xs.take i).flatMap enc ++ enc x ++ cells.drop (i * sz + (enc x).length)).length = (xs.length + 1) * sz := by
      simp only [List.length_append, htl, he, List.length_drop, hl]; omega
    have a2 := putAt_eq ((xs.drop i).flatMap enc) _ ((i + 1) * sz) (by rw [e1, hd]; omega)
    have a3 : (((xs.take i).flatMap enc ++ enc x ++ cells.drop (i * sz + (enc x).length)).drop ((i + 1) * sz + ((xs.drop i).flatMap enc).length)) = [] := List.drop_eq_nil_of_le (by rw [e1, hd]; omega)
    rw [a2, a3, List.append_nil, goal]
    have e2 : ((xs.take i).flatMap enc ++ enc x).length = (i + 1) * sz := by rw [List.length_append, htl, he]; omega
    rw [← e2, List.take_left, List.append_assoc]
  · have a1 := putAt_eq ((xs.drop i).flatMap enc) cells ((i + 1) * sz) (by rw [hl, hd]; omega)
    have a3 : cells.drop ((i + 1) * sz + ((xs.drop i).flatMap enc).length) = [] := List.drop_eq_nil_of_le (by rw [hl, hd]; omega)
    rw [a1, a3, List.append_nil]
    have e3 : (cells.take ((i + 1) * sz)).length = (i + 1) * sz := by rw [List.length_take, hl]; omega
    have a2 := putAt_eq (enc x) (cells.take ((i + 1) * sz) ++ (xs.drop i).flatMap enc) (i * sz) (by rw [List.length_append, e3, he, hd]; omega)
    rw [a2, goal, he]
    have e4 : (cells.take ((i + 1) * sz) ++ (xs.drop i).flatMap enc).take (i * sz) = (xs.take i).flatMap enc := by
      rw [List.take_append_of_le_length (by rw [e3]; omega), List.take_take, Nat.min_eq_left (by omega), ht]
    have e5 : (cells.take ((i + 1) * sz) ++ (xs.drop i).flatMap enc).drop (i * sz + sz) = (xs.drop i).flatMap enc := by
      rw [← h1]
      exact drop_len e3
    rw [e4, e5, List.append_assoc]


theorem overT (w : World) (a b : Addr) (la ca lb cb : Nat) (hne : a.block ≠ b.block) (tA tB kA kB : Nat) (hsa : w.shape? a.block = some (tA, kA)) (hsb : w.shape? b.block = some (tB, kB)) (hkB : kB ≠ 0) (hfa : w.frozen? a = false) (hfe : w.frozen? { block := a.block, off := kA } = false) :
    (callFunc 148 #[.slice (some a) la ca, .slice (some b) lb cb]).run Try.prog w = .ok (.value (.bool false)) w := by
  rw [run_callFunc_extern Try.func148 (by kernel_rfl) (by kernel_rfl) (by kernel_rfl) (e := Extern.SlicesOverlaps.overlaps #[22, 22] #[4]) (by kernel_rfl),
    Lib.run_overlaps_apart w 22 4 9 (sliceT_spec sl22).1 1 (fun w => by obtain ⟨-, i, h2, h3, -⟩ := sliceT_spec sl22; simp [sizeOf, typeInfo, h2, h3]) a b la ca lb cb hne tA tB kA kB hsa hsb hkB hfa hfe]
  rfl

set_option maxRecDepth 100000 in
theorem insT_ct (i : Nat) (x : ByteArray) (xs : List ByteArray) (v : Value) (w : World) (vb : Nat) (hi : i ≤ xs.length) (ho : (own 9 1 v xs.length (xs.flatMap sCells)).is w) (hvb : (blk vb 9 (sCells x)).is w) (hne : v.ownBlock ≠ some vb) (hn : xs.length ≤ 1048576) (h1 : ∀ y ∈ xs, (sCells y).all (·.oneCell') = true) (h1x : (sCells x).all (·.oneCell') = true) :
    Calls Try.prog 134 #[v, .int .i64 (i : Int), .slice (some ⟨vb, 0, none⟩) 1 1] w fun e w' => ∃ v', e = .returned v' ∧ Chg (fun k => v.ownBlock = some k) w w' ∧ (own 9 1 v' (xs.take i ++ x :: xs.drop i).length ((xs.take i ++ x :: xs.drop i).flatMap sCells)).is w' ∧ ∀ k, v'.ownBlock = some k → v.ownBlock = some k ∨ w.heap.size ≤ k := by
  obtain ⟨A, m0, c, hv⟩ := own_form ho
  have hm0 : m0 = xs.length := own_len ho hv
  subst hv
  subst hm0
  have hcap : xs.length ≤ c := by
    rcases ho.2 with ⟨h', h0⟩ | ⟨g, cap', cur, h', hb, hg, hnc, hcm, hcs, htake⟩
    · omega
    · obtain ⟨-, rfl⟩ : A = some ⟨g, 0, none⟩ ∧ c = cap' := by simpa using h'
      exact hnc
  have hc63 : c ≤ 9223372036854775807 := by
    rcases ho.2 with ⟨h', h0⟩ | ⟨g, cap', cur, h', hb, hg, hnc, hcm, hcs, htake⟩
    · obtain ⟨-, -, rfl⟩ : A = none ∧ xs.length = 0 ∧ c = 0 := by simpa using h'
      omega
    · obtain ⟨-, rfl⟩ : A = some ⟨g, 0, none⟩ ∧ c = cap' := by simpa using h'
      simpa [maxLen] using hcm
  have hone : ∀ u ∈ xs.flatMap sCells, u.oneCell' = true := fun u hu => by
    obtain ⟨y, hy, hyu⟩ := List.mem_flatMap.1 hu
    exact (List.all_eq_true.1 (h1 y hy)) u hyu
  have hspl := flat_split (enc := sCells) (sz := 1) (fun _ => rfl) xs i hi
  have hvs : ∀ {w' : World}, Chg (fun k => (Value.slice A xs.length c).ownBlock = some k) w w' → (blk vb 9 (sCells x)).is w' := fun hc => by
    have h2 : w.heap[vb]? = _ := hvb
    have h3 := hc.block vb (blk_lt h2) hne
    show _ = _
    rw [h3]; exact h2
  refine enter Try.func134 rfl rfl rfl ?_
  have F0 := Fr.lend (own 9 1 (.slice A xs.length c) xs.length (xs.flatMap sCells)) ho
  refine Cod.seq fun K1 hK1 => ?_
  refine Cod.region ?_
  refine Ops.step (One.val rfl rfl rfl (yld_assign rfl ev_c) ?_)
  refine Ops.nil fun a hS => ?_
  refine hK1 _ _ ?_ a hS
  refine Cod.seq fun K2 hK2 => ?_
  refine Cod.region ?_
  refine Ops.step (One.val rfl rfl rfl (yld_move rfl (ev_t rfl)) ?_)
  refine Ops.step (One.val rfl rfl rfl (yld_move rfl (ev_t rfl)) ?_)
  refine Ops.step (One.val rfl rfl rfl (yld_slcL i sl22 rfl (ev_t rfl) (ev_t rfl) rfl hi) ?_)
  refine Ops.nil fun a hS => ?_
  refine hK2 _ _ ?_ a hS
  refine Cod.seq fun K3 hK3 => ?_
  refine Cod.region ?_
  refine Ops.step (One.val rfl rfl rfl (yld_move rfl (ev_t rfl)) ?_)
  refine Ops.step (One.val rfl rfl rfl (yld_len sl22 rfl (ev_t rfl)) ?_)
  refine Ops.step (One.val rfl rfl rfl (yld_assign rfl (ev_t rfl)) ?_)
  refine Ops.nil fun a hS => ?_
  refine hK3 _ _ ?_ a hS
  refine Cod.seq fun K4 hK4 => ?_
  refine Cod.seq fun K5 hK5 => ?_
  refine Cod.region ?_
  refine Ops.step (One.val rfl rfl rfl (yld_move rfl (ev_t rfl)) ?_)
  refine Ops.step (One.val rfl rfl rfl (yld_eql rfl (ev_t rfl) ev_c) ?_)
  refine Ops.nil fun a hS => ?_
  refine hK5 _ _ ?_ a hS
  refine Cod.cond rfl (fun hc16 => ?_) (fun hc16 => ?_)
  · skip
    simp at hc16
  · skip
    refine Cod.skip fun a hS => ?_
    refine hK4 _ _ ?_ a hS
    refine Cod.seq fun K6 hK6 => ?_
    refine Cod.region ?_
    refine Ops.step (One.val rfl rfl rfl (yld_move rfl (ev_t rfl)) ?_)
    refine Ops.step (One.val rfl rfl rfl (yld_len sl22 rfl (ev_t rfl)) ?_)
    refine Ops.step (One.val rfl rfl rfl (yld_assign rfl (ev_t rfl)) ?_)
    refine Ops.nil fun a hS => ?_
    refine hK6 _ _ ?_ a hS
    refine Cod.seq fun K7 hK7 => ?_
    refine Cod.seq fun K8 hK8 => ?_
    refine Cod.region ?_
    refine Ops.step (One.val rfl rfl rfl (yld_move rfl (ev_t rfl)) ?_)
    refine Ops.step (One.val rfl rfl rfl (yld_move rfl (ev_t rfl)) ?_)
    refine Ops.step (One.val rfl rfl rfl (yld_eql rfl (ev_t rfl) (ev_t rfl)) ?_)
    refine Ops.nil fun a hS => ?_
    refine hK8 _ _ ?_ a hS
    refine Cod.cond rfl (fun hc22 => ?_) (fun hc22 => ?_)
    · skip
      have hin : i = xs.length := by
        have : (i : Int) = (xs.length : Int) := by simpa using hc22
        omega
      refine Cod.seq fun K9 hK9 => ?_
      refine Cod.region ?_
      refine Ops.step (One.val rfl rfl rfl (yld_move rfl (ev_t rfl)) ?_)
      refine Ops.step (One.val rfl rfl rfl (yld_move rfl (ev_t rfl)) ?_)
      refine Ops.step (One.append (enc := sCells) [x] F0 0 rfl sl22 zero9 rfl rfl (fun _ => rfl) rfl rfl rfl rfl (ev_t rfl) (ev_t rfl) ((blk_rep (enc := sCells) (sz := 1) (xs := [x]) (fun _ => rfl) (by simpa using hvs F0.chg) (by simp) (by simp)).weak fun _ _ => trivial) (fun y hy => by simp at hy; subst hy; exact h1x) (by simp; omega) (by simp; omega) ?_)
      intro u w1 hu F1
      change Fr _ _ [_] _ at F1
      refine Ops.step (One.val rfl rfl rfl (yld_assign rfl (ev_t rfl)) ?_)
      refine Ops.nil fun a hS => ?_
      refine hK9 _ _ ?_ a hS
      refine Cod.ret fun a hS => ?_
      try simp only [Exit.then, Exit.inBlock]
      have he : xs.take i ++ x :: xs.drop i = xs ++ [x] := by rw [hin, List.take_length, List.drop_length]
      exact ret1 (t := 6) rfl hS rfl ⟨u, rfl, F1.chg, by rw [he]; exact F1.get 0 rfl, fun k hk => F1.dom _ (List.mem_cons_self ..) k hk⟩
    · skip
      have hin : i < xs.length := by simp at hc22; omega
      obtain ⟨bb, cap, hv2, -, -⟩ := World.ownsRow.form ho (by omega)
      obtain ⟨rfl, rfl⟩ : A = some ⟨bb, 0, none⟩ ∧ c = cap := by simpa using hv2
      have hvb2 : vb ≠ bb := fun e => hne (by rw [e]; rfl)
      refine Cod.skip fun a hS => ?_
      refine hK7 _ _ ?_ a hS
      refine Cod.seq fun K10 hK10 => ?_
      refine Cod.seq fun K11 hK11 => ?_
      refine Cod.region ?_
      refine Ops.step (One.val rfl rfl rfl (yld_move rfl (ev_t rfl)) ?_)
      refine Ops.step (One.val rfl rfl rfl (yld_move rfl (ev_t rfl)) ?_)
      refine Ops.step (One.val rfl rfl rfl (yld_add rfl (ev_t rfl) (ev_t rfl) (fun _ => by omega)) ?_)
      refine Ops.step (One.val rfl rfl rfl (yld_move rfl (ev_t rfl)) ?_)
      refine Ops.step (One.val rfl rfl rfl (yld_cap sl22 rfl (ev_t rfl)) ?_)
      refine Ops.step (One.val rfl rfl rfl (yld_gtr rfl (ev_t rfl) (ev_t rfl)) ?_)
      refine Ops.nil fun a hS => ?_
      refine hK11 _ _ ?_ a hS
      refine Cod.cond rfl (fun hc31 => ?_) (fun hc31 => ?_)
      · skip
        have hroom : c < xs.length + 1 := by simp at hc31; omega
        have hci : 0 < c := by omega
        refine Cod.seq fun K12 hK12 => ?_
        refine Cod.region ?_
        refine Ops.step (One.val rfl rfl rfl (yld_move rfl (ev_t rfl)) ?_)
        refine Ops.step (One.val rfl rfl rfl (yld_move rfl (ev_t rfl)) ?_)
        refine Ops.step (One.val rfl rfl rfl (yld_slcH' i sl22 rfl (ev_t rfl) (ev_t rfl) (by omega) (by omega) (by omega)) ?_)
        refine Ops.step (One.val rfl rfl rfl (yld_move rfl (ev_t rfl)) ?_)
        refine Ops.step (One.val rfl rfl rfl (yld_move rfl (ev_t rfl)) ?_)
        refine Ops.step (One.val rfl rfl rfl (yld_add rfl (ev_t rfl) (ev_t rfl) (fun _ => by omega)) ?_)
        refine Ops.step (One.val rfl rfl rfl (yld_move rfl (ev_t rfl)) ?_)
        refine Ops.step (One.val rfl rfl rfl (yld_sub rfl (ev_t rfl) (ev_t rfl) (fun _ => by omega)) ?_)
        refine Ops.step (One.appendZ (k := xs.length + 1 - i) (olds := (xs.take i).flatMap sCells) F0 sl22 zero9 rfl rfl Try.underlying3 rfl rfl rfl rfl (ev_t rfl) (ev_t rfl) (by omega) (by rw [flat_length (sz := 1) (fun _ => rfl), List.length_take, Nat.min_eq_left hi]) (fun j u hj => by
    have h3 : (xs.flatMap sCells)[j]? = some u := by
      rw [← hspl.1] at hj
      rw [List.getElem?_take] at hj
      split at hj
      · exact hj
      · cases hj
    exact World.ownsRow.cells (F0.get 0 rfl) (g := bb) rfl j u h3) (by omega) (by omega) (by omega) (by omega) ?_)
        intro b2 cp2 cells2 w2 hb2 hl2 ht2 hcp2 F2
        refine Ops.step (One.val rfl rfl rfl (yld_assign rfl (ev_t rfl)) ?_)
        refine Ops.nil fun a hS => ?_
        refine hK12 _ _ ?_ a hS
        refine Cod.seq fun K13 hK13 => ?_
        have hmi : i + (xs.length + 1 - i) = xs.length + 1 := by omega
        rw [hmi] at hl2 hcp2 F2
        rw [hmi]
        refine Cod.region ?_
        refine Ops.step (One.val rfl rfl rfl (yld_move rfl (ev_t rfl)) ?_)
        refine Ops.step (One.val rfl rfl rfl (yld_move rfl (ev_t rfl)) ?_)
        refine Ops.step (One.val rfl rfl rfl (yld_slcL' i sl22 rfl (ev_t rfl) (ev_t rfl) (by omega) (by omega) (by omega)) ?_)
        refine Ops.step (One.val rfl rfl rfl (yld_move rfl (ev_t rfl)) ?_)
        refine Ops.step (One.copyCells (cs := (sCells x)) F2 0 rfl sl22 rfl rfl rfl rfl (ev_t rfl) (ev_t rfl) (by rw [show Nat.min 1 (xs.length + 1 - i) = 1 by simp only [Nat.min_def]; split <;> omega]; rfl) (by rw [hl2]; have : (sCells x).length = 1 := rfl; omega) (fun j u hj => by rw [Addr.add_mid, Nat.zero_add]; exact blk_cell (hvs F2.chg) hj) (fun u hu => (List.all_eq_true.1 h1x) u hu) ?_)
        intro w3 F3
        change Fr _ _ [_, _] _ at F3
        refine Ops.nil fun a hS => ?_
        refine hK13 _ _ ?_ a hS
        refine Cod.seq fun K14 hK14 => ?_
        have F4 := F3.drew
        refine Cod.draw (C_of F4.drop1) (by kernel_rfl) ?_
        refine Hops.take 0 rfl (by kernel_rfl) (fun _ _ _ h => h) rfl rfl rfl F4.drop1 (fun w F => (yld_move rfl (ev_t rfl))) ?_
        refine Hops.take 1 rfl (by kernel_rfl) (fun _ _ _ h => h) rfl rfl rfl F4.drop1 (fun w F => (yld_move rfl (ev_t rfl))) ?_
        refine Hops.take 2 rfl (by kernel_rfl) (fun _ _ _ h => h) rfl rfl rfl F4.drop1 (fun w F => (yld_move rfl (ev_t rfl))) ?_
        refine Hops.take 3 rfl (by kernel_rfl) (fun _ _ _ h => h) rfl rfl rfl F4.drop1 (fun w F => (yld_add rfl (ev_t rfl) (ev_t rfl) (fun _ => by omega))) ?_
        refine Hops.take 4 rfl (by kernel_rfl) (fun _ _ _ h => h) rfl rfl rfl F4.drop1 (fun w F => (yld_slcL' (i + 1) sl22 rfl (ev_t rfl) (ev_t rfl) (by omega) (by omega) (by omega))) ?_
        refine Hops.take 5 rfl (by kernel_rfl) (fun _ _ _ h => h) rfl rfl rfl F4.drop1 (fun w F => (yld_move rfl (ev_t rfl))) ?_
        refine Hops.take 6 rfl (by kernel_rfl) (fun _ _ _ h => h) rfl rfl rfl F4.drop1 (fun w F => (yld_move rfl (ev_t rfl))) ?_
        refine Hops.take 7 rfl (by kernel_rfl) (fun _ _ _ h => h) rfl rfl rfl F4.drop1 (fun w F => (yld_slcL' i sl22 rfl (ev_t rfl) (ev_t rfl) (by omega) (by omega) (by omega))) ?_
        refine Hops.one 8 rfl (by kernel_rfl) (One.copyCells (cs := ((xs.drop i).flatMap sCells)) F4 0 rfl sl22 rfl rfl rfl rfl (ev_t rfl) (ev_t rfl) (by rw [flat_length (sz := 1) (fun _ => rfl), List.length_drop, show Nat.min (xs.length - i) (xs.length + 1 - (i + 1)) = xs.length - i by simp only [Nat.min_def]; split <;> omega]) (by rw [putAt_length, hl2, flat_length (sz := 1) (fun _ => rfl), List.length_drop]; omega) (fun j u hj => by rw [← hspl.2, List.getElem?_drop] at hj; rw [Addr.add_mid]; have := World.ownsRow.cells (F4.get 1 rfl) (g := bb) rfl _ u hj; rwa [Addr.add_mid, Nat.zero_add] at this) (fun u hu => hone u (by rw [← hspl.2] at hu; exact List.mem_of_mem_drop hu)) ?_)
        intro w4 F5
        refine ⟨F5.drop1, ?_⟩
        change Fr _ _ [_, _] _ at F5
        refine Hops.nil (by kernel_rfl) fun a hS => ?_
        refine hK14 _ _ ?_ a hS
        refine Cod.seq fun K15 hK15 => ?_
        refine Cod.region ?_
        refine Ops.step (One.val rfl rfl rfl (yld_move rfl (ev_t rfl)) ?_)
        refine Ops.step (One.val rfl rfl rfl (yld_assign rfl (ev_t rfl)) ?_)
        refine Ops.nil fun a hS => ?_
        refine hK15 _ _ ?_ a hS
        refine Cod.ret fun a hS => ?_
        try simp only [Exit.then, Exit.inBlock]
        have hcl := (ins_cells (enc := sCells) (sz := 1) (fun _ => rfl) xs i hi x cells2 hl2 ht2).1
        have hll : (xs.take i ++ x :: xs.drop i).length = xs.length + 1 := by simp; omega
        exact ret1 (t := 6) rfl hS rfl ⟨_, rfl, F5.chg, by rw [hll, ← hcl]; exact F5.get 0 rfl, fun k hk => F5.dom _ (List.mem_cons_self ..) k hk⟩
      · skip
        have hroom : xs.length + 1 ≤ c := by simp at hc31; omega
        have hci : 0 < c := by omega
        refine Cod.skip fun a hS => ?_
        refine hK10 _ _ ?_ a hS
        refine Cod.seq fun K16 hK16 => ?_
        refine Cod.region ?_
        refine Ops.step (One.val rfl rfl rfl (yld_move rfl (ev_t rfl)) ?_)
        refine Ops.step (One.val rfl rfl rfl (yld_move rfl (ev_t rfl)) ?_)
        refine Ops.step (One.val rfl rfl rfl (yld_move rfl (ev_t rfl)) ?_)
        refine Ops.step (One.val rfl rfl rfl (yld_add rfl (ev_t rfl) (ev_t rfl) (fun _ => by omega)) ?_)
        refine Ops.step (One.val rfl rfl rfl (yld_slcH' (xs.length + 1) sl22 rfl (ev_t rfl) (ev_t rfl) (by omega) (by omega) (by omega)) ?_)
        refine Ops.step (One.val rfl rfl rfl (yld_assign rfl (ev_t rfl)) ?_)
        refine Ops.nil fun a hS => ?_
        refine hK16 _ _ ?_ a hS
        refine Cod.seq fun K17 hK17 => ?_
        refine Cod.seq fun K18 hK18 => ?_
        obtain ⟨ys, hyl, F0x⟩ := F0.ownExt 0 (xs.length + 1) rfl (by omega) hroom
        have F0 := F0x
        clear F0x
        change Fr _ _ [_] _ at F0
        refine Cod.region ?_
        refine Ops.step (One.val rfl rfl rfl (yld_move rfl (ev_t rfl)) ?_)
        refine Ops.step (One.val rfl rfl rfl (yld_move rfl (ev_t rfl)) ?_)
        refine Ops.step (One.val rfl rfl rfl (yld_move rfl (ev_t rfl)) ?_)
        refine Ops.step (One.val rfl rfl rfl (yld_move rfl (ev_t rfl)) ?_)
        refine Ops.step (One.val rfl rfl rfl (yld_add rfl (ev_t rfl) (ev_t rfl) (fun _ => by omega)) ?_)
        refine Ops.step (One.val rfl rfl rfl (yld_slcL' (i + 1) sl22 rfl (ev_t rfl) (ev_t rfl) (by omega) (by omega) (by omega)) ?_)
        obtain ⟨kB, hkB, hkB0⟩ := own_shape (F0.get 0 rfl) (by omega) (by omega)
        obtain ⟨hsa, hfz⟩ := blk_shape (hvs F0.chg)
        refine Ops.step (One.val rfl rfl rfl (yld_ext rfl (evl2 (ev_t rfl) (ev_t rfl)) (fun _ => overT _ ⟨vb, 0, none⟩ ⟨bb, (i + 1) * 1, none⟩ _ _ _ _ hvb2 _ _ _ _ hsa hkB hkB0 (hfz _) (hfz _))) ?_)
        refine Ops.step (One.val rfl rfl rfl (yld_not rfl (ev_t rfl)) ?_)
        refine Ops.nil fun a hS => ?_
        refine hK18 _ _ ?_ a hS
        refine Cod.cond rfl (fun hc68 => ?_) (fun hc68 => ?_)
        · skip
          refine Cod.seq fun K19 hK19 => ?_
          have F6 := F0.drew
          refine Cod.draw (C_of F6.drop1) (by kernel_rfl) ?_
          refine Hops.take 0 rfl (by kernel_rfl) (fun _ _ _ h => h) rfl rfl rfl F6.drop1 (fun w F => (yld_move rfl (ev_t rfl))) ?_
          refine Hops.take 1 rfl (by kernel_rfl) (fun _ _ _ h => h) rfl rfl rfl F6.drop1 (fun w F => (yld_move rfl (ev_t rfl))) ?_
          refine Hops.take 2 rfl (by kernel_rfl) (fun _ _ _ h => h) rfl rfl rfl F6.drop1 (fun w F => (yld_move rfl (ev_t rfl))) ?_
          refine Hops.take 3 rfl (by kernel_rfl) (fun _ _ _ h => h) rfl rfl rfl F6.drop1 (fun w F => (yld_add rfl (ev_t rfl) (ev_t rfl) (fun _ => by omega))) ?_
          refine Hops.take 4 rfl (by kernel_rfl) (fun _ _ _ h => h) rfl rfl rfl F6.drop1 (fun w F => (yld_slcL' (i + 1) sl22 rfl (ev_t rfl) (ev_t rfl) (by omega) (by omega) (by omega))) ?_
          refine Hops.take 5 rfl (by kernel_rfl) (fun _ _ _ h => h) rfl rfl rfl F6.drop1 (fun w F => (yld_move rfl (ev_t rfl))) ?_
          refine Hops.take 6 rfl (by kernel_rfl) (fun _ _ _ h => h) rfl rfl rfl F6.drop1 (fun w F => (yld_move rfl (ev_t rfl))) ?_
          refine Hops.take 7 rfl (by kernel_rfl) (fun _ _ _ h => h) rfl rfl rfl F6.drop1 (fun w F => (yld_slcL' i sl22 rfl (ev_t rfl) (ev_t rfl) (by omega) (by omega) (by omega))) ?_
          refine Hops.one 8 rfl (by kernel_rfl) (One.copyCells (cs := ((xs.drop i).flatMap sCells)) F6 0 rfl sl22 rfl rfl rfl rfl (ev_t rfl) (ev_t rfl) (by rw [flat_length (sz := 1) (fun _ => rfl), List.length_drop, show Nat.min (xs.length + 1 - i) (xs.length + 1 - (i + 1)) = xs.length - i by simp only [Nat.min_def]; split <;> omega]) (by rw [List.length_append, hyl, flat_length (sz := 1) (fun _ => rfl), flat_length (sz := 1) (fun _ => rfl), List.length_drop]; omega) (fun j u hj => by rw [← hspl.2, List.getElem?_drop] at hj; rw [Addr.add_mid]; have := World.ownsRow.cells (F6.get 0 rfl) (g := bb) rfl (i * 1 + j) u (by rw [List.getElem?_append_left (List.getElem?_eq_some_iff.1 hj).1]; exact hj); rwa [Addr.add_mid, Nat.zero_add] at this) (fun u hu => hone u (by rw [← hspl.2] at hu; exact List.mem_of_mem_drop hu)) ?_)
          intro w5 F7
          refine ⟨F7.drop1, ?_⟩
          change Fr _ _ [_] _ at F7
          refine Hops.nil (by kernel_rfl) fun a hS => ?_
          refine hK19 _ _ ?_ a hS
          refine Cod.seq fun K20 hK20 => ?_
          refine Cod.region ?_
          refine Ops.step (One.val rfl rfl rfl (yld_move rfl (ev_t rfl)) ?_)
          refine Ops.step (One.val rfl rfl rfl (yld_move rfl (ev_t rfl)) ?_)
          refine Ops.step (One.val rfl rfl rfl (yld_slcL' i sl22 rfl (ev_t rfl) (ev_t rfl) (by omega) (by omega) (by omega)) ?_)
          refine Ops.step (One.val rfl rfl rfl (yld_move rfl (ev_t rfl)) ?_)
          refine Ops.step (One.copyCells (cs := (sCells x)) F7 0 rfl sl22 rfl rfl rfl rfl (ev_t rfl) (ev_t rfl) (by rw [show Nat.min 1 (xs.length + 1 - i) = 1 by simp only [Nat.min_def]; split <;> omega]; rfl) (by rw [putAt_length, List.length_append, hyl, flat_length (sz := 1) (fun _ => rfl)]; have : (sCells x).length = 1 := rfl; omega) (fun j u hj => by rw [Addr.add_mid, Nat.zero_add]; exact blk_cell (hvs F7.chg) hj) (fun u hu => (List.all_eq_true.1 h1x) u hu) ?_)
          intro w6 F8
          change Fr _ _ [_] _ at F8
          refine Ops.nil fun a hS => ?_
          refine hK20 _ _ ?_ a hS
          refine Cod.seq fun K21 hK21 => ?_
          refine Cod.region ?_
          refine Ops.step (One.val rfl rfl rfl (yld_move rfl (ev_t rfl)) ?_)
          refine Ops.step (One.val rfl rfl rfl (yld_assign rfl (ev_t rfl)) ?_)
          refine Ops.nil fun a hS => ?_
          refine hK21 _ _ ?_ a hS
          refine Cod.ret fun a hS => ?_
          try simp only [Exit.then, Exit.inBlock]
          have hcl := (ins_cells (enc := sCells) (sz := 1) (fun _ => rfl) xs i hi x (xs.flatMap sCells ++ ys) (by rw [List.length_append, hyl, flat_length (sz := 1) (fun _ => rfl)]; omega) (by rw [List.take_append_of_le_length (by rw [flat_length (sz := 1) (fun _ => rfl)]; omega)]; exact hspl.1)).2
          have hll : (xs.take i ++ x :: xs.drop i).length = xs.length + 1 := by simp; omega
          exact ret1 (t := 6) rfl hS rfl ⟨_, rfl, F8.chg, by rw [hll, ← hcl]; exact F8.get 0 rfl, fun k hk => F8.dom _ (List.mem_cons_self ..) k hk⟩
        · skip
          simp at hc68


theorem overV (w : World) (a b : Addr) (la ca lb cb : Nat) (hne : a.block ≠ b.block) (tA tB kA kB : Nat) (hsa : w.shape? a.block = some (tA, kA)) (hsb : w.shape? b.block = some (tB, kB)) (hkB : kB ≠ 0) (hfa : w.frozen? a = false) (hfe : w.frozen? { block := a.block, off := kA } = false) :
    (callFunc 150 #[.slice (some a) la ca, .slice (some b) lb cb]).run Try.prog w = .ok (.value (.bool false)) w := by
  rw [run_callFunc_extern Try.func150 (by kernel_rfl) (by kernel_rfl) (by kernel_rfl) (e := Extern.SlicesOverlaps.overlaps #[29, 29] #[4]) (by kernel_rfl),
    Lib.run_overlaps_apart w 29 4 31 (sliceT_spec sl29).1 5 (fun w => by obtain ⟨-, i, h2, h3, -⟩ := sliceT_spec sl29; simp [sizeOf, typeInfo, h2, h3]) a b la ca lb cb hne tA tB kA kB hsa hsb hkB hfa hfe]
  rfl

set_option maxRecDepth 100000 in
theorem insV_ct (i : Nat) (x : V5) (xs : List V5) (v : Value) (w : World) (vb : Nat) (hi : i ≤ xs.length) (ho : (own 31 5 v xs.length (xs.flatMap enc5)).is w) (hvb : (blk vb 31 (enc5 x)).is w) (hne : v.ownBlock ≠ some vb) (hn : xs.length ≤ 1048576) (h1 : ∀ y ∈ xs, (enc5 y).all (·.oneCell') = true) (h1x : (enc5 x).all (·.oneCell') = true) :
    Calls Try.prog 135 #[v, .int .i64 (i : Int), .slice (some ⟨vb, 0, none⟩) 1 1] w fun e w' => ∃ v', e = .returned v' ∧ Chg (fun k => v.ownBlock = some k) w w' ∧ (own 31 5 v' (xs.take i ++ x :: xs.drop i).length ((xs.take i ++ x :: xs.drop i).flatMap enc5)).is w' ∧ ∀ k, v'.ownBlock = some k → v.ownBlock = some k ∨ w.heap.size ≤ k := by
  obtain ⟨A, m0, c, hv⟩ := own_form ho
  have hm0 : m0 = xs.length := own_len ho hv
  subst hv
  subst hm0
  have hcap : xs.length ≤ c := by
    rcases ho.2 with ⟨h', h0⟩ | ⟨g, cap', cur, h', hb, hg, hnc, hcm, hcs, htake⟩
    · omega
    · obtain ⟨-, rfl⟩ : A = some ⟨g, 0, none⟩ ∧ c = cap' := by simpa using h'
      exact hnc
  have hc63 : c ≤ 9223372036854775807 := by
    rcases ho.2 with ⟨h', h0⟩ | ⟨g, cap', cur, h', hb, hg, hnc, hcm, hcs, htake⟩
    · obtain ⟨-, -, rfl⟩ : A = none ∧ xs.length = 0 ∧ c = 0 := by simpa using h'
      omega
    · obtain ⟨-, rfl⟩ : A = some ⟨g, 0, none⟩ ∧ c = cap' := by simpa using h'
      simpa [maxLen] using hcm
  have hone : ∀ u ∈ xs.flatMap enc5, u.oneCell' = true := fun u hu => by
    obtain ⟨y, hy, hyu⟩ := List.mem_flatMap.1 hu
    exact (List.all_eq_true.1 (h1 y hy)) u hyu
  have hspl := flat_split (enc := enc5) (sz := 5) (fun _ => rfl) xs i hi
  have hvs : ∀ {w' : World}, Chg (fun k => (Value.slice A xs.length c).ownBlock = some k) w w' → (blk vb 31 (enc5 x)).is w' := fun hc => by
    have h2 : w.heap[vb]? = _ := hvb
    have h3 := hc.block vb (blk_lt h2) hne
    show _ = _
    rw [h3]; exact h2
  refine enter Try.func135 rfl rfl rfl ?_
  have F0 := Fr.lend (own 31 5 (.slice A xs.length c) xs.length (xs.flatMap enc5)) ho
  refine Cod.seq fun K1 hK1 => ?_
  refine Cod.region ?_
  refine Ops.step (One.val rfl rfl rfl (yld_assign rfl ev_c) ?_)
  refine Ops.nil fun a hS => ?_
  refine hK1 _ _ ?_ a hS
  refine Cod.seq fun K2 hK2 => ?_
  refine Cod.region ?_
  refine Ops.step (One.val rfl rfl rfl (yld_move rfl (ev_t rfl)) ?_)
  refine Ops.step (One.val rfl rfl rfl (yld_move rfl (ev_t rfl)) ?_)
  refine Ops.step (One.val rfl rfl rfl (yld_slcL i sl29 rfl (ev_t rfl) (ev_t rfl) rfl hi) ?_)
  refine Ops.nil fun a hS => ?_
  refine hK2 _ _ ?_ a hS
  refine Cod.seq fun K3 hK3 => ?_
  refine Cod.region ?_
  refine Ops.step (One.val rfl rfl rfl (yld_move rfl (ev_t rfl)) ?_)
  refine Ops.step (One.val rfl rfl rfl (yld_len sl29 rfl (ev_t rfl)) ?_)
  refine Ops.step (One.val rfl rfl rfl (yld_assign rfl (ev_t rfl)) ?_)
  refine Ops.nil fun a hS => ?_
  refine hK3 _ _ ?_ a hS
  refine Cod.seq fun K4 hK4 => ?_
  refine Cod.seq fun K5 hK5 => ?_
  refine Cod.region ?_
  refine Ops.step (One.val rfl rfl rfl (yld_move rfl (ev_t rfl)) ?_)
  refine Ops.step (One.val rfl rfl rfl (yld_eql rfl (ev_t rfl) ev_c) ?_)
  refine Ops.nil fun a hS => ?_
  refine hK5 _ _ ?_ a hS
  refine Cod.cond rfl (fun hc16 => ?_) (fun hc16 => ?_)
  · skip
    simp at hc16
  · skip
    refine Cod.skip fun a hS => ?_
    refine hK4 _ _ ?_ a hS
    refine Cod.seq fun K6 hK6 => ?_
    refine Cod.region ?_
    refine Ops.step (One.val rfl rfl rfl (yld_move rfl (ev_t rfl)) ?_)
    refine Ops.step (One.val rfl rfl rfl (yld_len sl29 rfl (ev_t rfl)) ?_)
    refine Ops.step (One.val rfl rfl rfl (yld_assign rfl (ev_t rfl)) ?_)
    refine Ops.nil fun a hS => ?_
    refine hK6 _ _ ?_ a hS
    refine Cod.seq fun K7 hK7 => ?_
    refine Cod.seq fun K8 hK8 => ?_
    refine Cod.region ?_
    refine Ops.step (One.val rfl rfl rfl (yld_move rfl (ev_t rfl)) ?_)
    refine Ops.step (One.val rfl rfl rfl (yld_move rfl (ev_t rfl)) ?_)
    refine Ops.step (One.val rfl rfl rfl (yld_eql rfl (ev_t rfl) (ev_t rfl)) ?_)
    refine Ops.nil fun a hS => ?_
    refine hK8 _ _ ?_ a hS
    refine Cod.cond rfl (fun hc22 => ?_) (fun hc22 => ?_)
    · skip
      have hin : i = xs.length := by
        have : (i : Int) = (xs.length : Int) := by simpa using hc22
        omega
      refine Cod.seq fun K9 hK9 => ?_
      refine Cod.region ?_
      refine Ops.step (One.val rfl rfl rfl (yld_move rfl (ev_t rfl)) ?_)
      refine Ops.step (One.val rfl rfl rfl (yld_move rfl (ev_t rfl)) ?_)
      refine Ops.step (One.append (enc := enc5) [x] F0 0 rfl sl29 zero31 rfl rfl (fun _ => rfl) rfl rfl rfl rfl (ev_t rfl) (ev_t rfl) ((blk_rep (enc := enc5) (sz := 5) (xs := [x]) (fun _ => rfl) (by simpa using hvs F0.chg) (by simp) (by simp)).weak fun _ _ => trivial) (fun y hy => by simp at hy; subst hy; exact h1x) (by simp; omega) (by simp; omega) ?_)
      intro u w1 hu F1
      change Fr _ _ [_] _ at F1
      refine Ops.step (One.val rfl rfl rfl (yld_assign rfl (ev_t rfl)) ?_)
      refine Ops.nil fun a hS => ?_
      refine hK9 _ _ ?_ a hS
      refine Cod.ret fun a hS => ?_
      try simp only [Exit.then, Exit.inBlock]
      have he : xs.take i ++ x :: xs.drop i = xs ++ [x] := by rw [hin, List.take_length, List.drop_length]
      exact ret1 (t := 6) rfl hS rfl ⟨u, rfl, F1.chg, by rw [he]; exact F1.get 0 rfl, fun k hk => F1.dom _ (List.mem_cons_self ..) k hk⟩
    · skip
      have hin : i < xs.length := by simp at hc22; omega
      obtain ⟨bb, cap, hv2, -, -⟩ := World.ownsRow.form ho (by omega)
      obtain ⟨rfl, rfl⟩ : A = some ⟨bb, 0, none⟩ ∧ c = cap := by simpa using hv2
      have hvb2 : vb ≠ bb := fun e => hne (by rw [e]; rfl)
      refine Cod.skip fun a hS => ?_
      refine hK7 _ _ ?_ a hS
      refine Cod.seq fun K10 hK10 => ?_
      refine Cod.seq fun K11 hK11 => ?_
      refine Cod.region ?_
      refine Ops.step (One.val rfl rfl rfl (yld_move rfl (ev_t rfl)) ?_)
      refine Ops.step (One.val rfl rfl rfl (yld_move rfl (ev_t rfl)) ?_)
      refine Ops.step (One.val rfl rfl rfl (yld_add rfl (ev_t rfl) (ev_t rfl) (fun _ => by omega)) ?_)
      refine Ops.step (One.val rfl rfl rfl (yld_move rfl (ev_t rfl)) ?_)
      refine Ops.step (One.val rfl rfl rfl (yld_cap sl29 rfl (ev_t rfl)) ?_)
      refine Ops.step (One.val rfl rfl rfl (yld_gtr rfl (ev_t rfl) (ev_t rfl)) ?_)
      refine Ops.nil fun a hS => ?_
      refine hK11 _ _ ?_ a hS
      refine Cod.cond rfl (fun hc31 => ?_) (fun hc31 => ?_)
      · skip
        have hroom : c < xs.length + 1 := by simp at hc31; omega
        have hci : 0 < c := by omega
        refine Cod.seq fun K12 hK12 => ?_
        refine Cod.region ?_
        refine Ops.step (One.val rfl rfl rfl (yld_move rfl (ev_t rfl)) ?_)
        refine Ops.step (One.val rfl rfl rfl (yld_move rfl (ev_t rfl)) ?_)
        refine Ops.step (One.val rfl rfl rfl (yld_slcH' i sl29 rfl (ev_t rfl) (ev_t rfl) (by omega) (by omega) (by omega)) ?_)
        refine Ops.step (One.val rfl rfl rfl (yld_move rfl (ev_t rfl)) ?_)
        refine Ops.step (One.val rfl rfl rfl (yld_move rfl (ev_t rfl)) ?_)
        refine Ops.step (One.val rfl rfl rfl (yld_add rfl (ev_t rfl) (ev_t rfl) (fun _ => by omega)) ?_)
        refine Ops.step (One.val rfl rfl rfl (yld_move rfl (ev_t rfl)) ?_)
        refine Ops.step (One.val rfl rfl rfl (yld_sub rfl (ev_t rfl) (ev_t rfl) (fun _ => by omega)) ?_)
        refine Ops.step (One.appendZ (k := xs.length + 1 - i) (olds := (xs.take i).flatMap enc5) F0 sl29 zero31 rfl rfl Try.underlying3 rfl rfl rfl rfl (ev_t rfl) (ev_t rfl) (by omega) (by rw [flat_length (sz := 5) (fun _ => rfl), List.length_take, Nat.min_eq_left hi]) (fun j u hj => by
    have h3 : (xs.flatMap enc5)[j]? = some u := by
      rw [← hspl.1] at hj
      rw [List.getElem?_take] at hj
      split at hj
      · exact hj
      · cases hj
    exact World.ownsRow.cells (F0.get 0 rfl) (g := bb) rfl j u h3) (by omega) (by omega) (by omega) (by omega) ?_)
        intro b2 cp2 cells2 w2 hb2 hl2 ht2 hcp2 F2
        refine Ops.step (One.val rfl rfl rfl (yld_assign rfl (ev_t rfl)) ?_)
        refine Ops.nil fun a hS => ?_
        refine hK12 _ _ ?_ a hS
        refine Cod.seq fun K13 hK13 => ?_
        have hmi : i + (xs.length + 1 - i) = xs.length + 1 := by omega
        rw [hmi] at hl2 hcp2 F2
        rw [hmi]
        refine Cod.region ?_
        refine Ops.step (One.val rfl rfl rfl (yld_move rfl (ev_t rfl)) ?_)
        refine Ops.step (One.val rfl rfl rfl (yld_move rfl (ev_t rfl)) ?_)
        refine Ops.step (One.val rfl rfl rfl (yld_slcL' i sl29 rfl (ev_t rfl) (ev_t rfl) (by omega) (by omega) (by omega)) ?_)
        refine Ops.step (One.val rfl rfl rfl (yld_move rfl (ev_t rfl)) ?_)
        refine Ops.step (One.copyCells (cs := (enc5 x)) F2 0 rfl sl29 rfl rfl rfl rfl (ev_t rfl) (ev_t rfl) (by rw [show Nat.min 1 (xs.length + 1 - i) = 1 by simp only [Nat.min_def]; split <;> omega]; rfl) (by rw [hl2]; have : (enc5 x).length = 5 := rfl; omega) (fun j u hj => by rw [Addr.add_mid, Nat.zero_add]; exact blk_cell (hvs F2.chg) hj) (fun u hu => (List.all_eq_true.1 h1x) u hu) ?_)
        intro w3 F3
        change Fr _ _ [_, _] _ at F3
        refine Ops.nil fun a hS => ?_
        refine hK13 _ _ ?_ a hS
        refine Cod.seq fun K14 hK14 => ?_
        have F4 := F3.drew
        refine Cod.draw (C_of F4.drop1) (by kernel_rfl) ?_
        refine Hops.take 0 rfl (by kernel_rfl) (fun _ _ _ h => h) rfl rfl rfl F4.drop1 (fun w F => (yld_move rfl (ev_t rfl))) ?_
        refine Hops.take 1 rfl (by kernel_rfl) (fun _ _ _ h => h) rfl rfl rfl F4.drop1 (fun w F => (yld_move rfl (ev_t rfl))) ?_
        refine Hops.take 2 rfl (by kernel_rfl) (fun _ _ _ h => h) rfl rfl rfl F4.drop1 (fun w F => (yld_move rfl (ev_t rfl))) ?_
        refine Hops.take 3 rfl (by kernel_rfl) (fun _ _ _ h => h) rfl rfl rfl F4.drop1 (fun w F => (yld_add rfl (ev_t rfl) (ev_t rfl) (fun _ => by omega))) ?_
        refine Hops.take 4 rfl (by kernel_rfl) (fun _ _ _ h => h) rfl rfl rfl F4.drop1 (fun w F => (yld_slcL' (i + 1) sl29 rfl (ev_t rfl) (ev_t rfl) (by omega) (by omega) (by omega))) ?_
        refine Hops.take 5 rfl (by kernel_rfl) (fun _ _ _ h => h) rfl rfl rfl F4.drop1 (fun w F => (yld_move rfl (ev_t rfl))) ?_
        refine Hops.take 6 rfl (by kernel_rfl) (fun _ _ _ h => h) rfl rfl rfl F4.drop1 (fun w F => (yld_move rfl (ev_t rfl))) ?_
        refine Hops.take 7 rfl (by kernel_rfl) (fun _ _ _ h => h) rfl rfl rfl F4.drop1 (fun w F => (yld_slcL' i sl29 rfl (ev_t rfl) (ev_t rfl) (by omega) (by omega) (by omega))) ?_
        refine Hops.one 8 rfl (by kernel_rfl) (One.copyCells (cs := ((xs.drop i).flatMap enc5)) F4 0 rfl sl29 rfl rfl rfl rfl (ev_t rfl) (ev_t rfl) (by rw [flat_length (sz := 5) (fun _ => rfl), List.length_drop, show Nat.min (xs.length - i) (xs.length + 1 - (i + 1)) = xs.length - i by simp only [Nat.min_def]; split <;> omega]) (by rw [putAt_length, hl2, flat_length (sz := 5) (fun _ => rfl), List.length_drop]; omega) (fun j u hj => by rw [← hspl.2, List.getElem?_drop] at hj; rw [Addr.add_mid]; have := World.ownsRow.cells (F4.get 1 rfl) (g := bb) rfl _ u hj; rwa [Addr.add_mid, Nat.zero_add] at this) (fun u hu => hone u (by rw [← hspl.2] at hu; exact List.mem_of_mem_drop hu)) ?_)
        intro w4 F5
        refine ⟨F5.drop1, ?_⟩
        change Fr _ _ [_, _] _ at F5
        refine Hops.nil (by kernel_rfl) fun a hS => ?_
        refine hK14 _ _ ?_ a hS
        refine Cod.seq fun K15 hK15 => ?_
        refine Cod.region ?_
        refine Ops.step (One.val rfl rfl rfl (yld_move rfl (ev_t rfl)) ?_)
        refine Ops.step (One.val rfl rfl rfl (yld_assign rfl (ev_t rfl)) ?_)
        refine Ops.nil fun a hS => ?_
        refine hK15 _ _ ?_ a hS
        refine Cod.ret fun a hS => ?_
        try simp only [Exit.then, Exit.inBlock]
        have hcl := (ins_cells (enc := enc5) (sz := 5) (fun _ => rfl) xs i hi x cells2 hl2 ht2).1
        have hll : (xs.take i ++ x :: xs.drop i).length = xs.length + 1 := by simp; omega
        exact ret1 (t := 6) rfl hS rfl ⟨_, rfl, F5.chg, by rw [hll, ← hcl]; exact F5.get 0 rfl, fun k hk => F5.dom _ (List.mem_cons_self ..) k hk⟩
      · skip
        have hroom : xs.length + 1 ≤ c := by simp at hc31; omega
        have hci : 0 < c := by omega
        refine Cod.skip fun a hS => ?_
        refine hK10 _ _ ?_ a hS
        refine Cod.seq fun K16 hK16 => ?_
        refine Cod.region ?_
        refine Ops.step (One.val rfl rfl rfl (yld_move rfl (ev_t rfl)) ?_)
        refine Ops.step (One.val rfl rfl rfl (yld_move rfl (ev_t rfl)) ?_)
        refine Ops.step (One.val rfl rfl rfl (yld_move rfl (ev_t rfl)) ?_)
        refine Ops.step (One.val rfl rfl rfl (yld_add rfl (ev_t rfl) (ev_t rfl) (fun _ => by omega)) ?_)
        refine Ops.step (One.val rfl rfl rfl (yld_slcH' (xs.length + 1) sl29 rfl (ev_t rfl) (ev_t rfl) (by omega) (by omega) (by omega)) ?_)
        refine Ops.step (One.val rfl rfl rfl (yld_assign rfl (ev_t rfl)) ?_)
        refine Ops.nil fun a hS => ?_
        refine hK16 _ _ ?_ a hS
        refine Cod.seq fun K17 hK17 => ?_
        refine Cod.seq fun K18 hK18 => ?_
        obtain ⟨ys, hyl, F0x⟩ := F0.ownExt 0 (xs.length + 1) rfl (by omega) hroom
        have F0 := F0x
        clear F0x
        change Fr _ _ [_] _ at F0
        refine Cod.region ?_
        refine Ops.step (One.val rfl rfl rfl (yld_move rfl (ev_t rfl)) ?_)
        refine Ops.step (One.val rfl rfl rfl (yld_move rfl (ev_t rfl)) ?_)
        refine Ops.step (One.val rfl rfl rfl (yld_move rfl (ev_t rfl)) ?_)
        refine Ops.step (One.val rfl rfl rfl (yld_move rfl (ev_t rfl)) ?_)
        refine Ops.step (One.val rfl rfl rfl (yld_add rfl (ev_t rfl) (ev_t rfl) (fun _ => by omega)) ?_)
        refine Ops.step (One.val rfl rfl rfl (yld_slcL' (i + 1) sl29 rfl (ev_t rfl) (ev_t rfl) (by omega) (by omega) (by omega)) ?_)
        obtain ⟨kB, hkB, hkB0⟩ := own_shape (F0.get 0 rfl) (by omega) (by omega)
        obtain ⟨hsa, hfz⟩ := blk_shape (hvs F0.chg)
        refine Ops.step (One.val rfl rfl rfl (yld_ext rfl (evl2 (ev_t rfl) (ev_t rfl)) (fun _ => overV _ ⟨vb, 0, none⟩ ⟨bb, (i + 1) * 5, none⟩ _ _ _ _ hvb2 _ _ _ _ hsa hkB hkB0 (hfz _) (hfz _))) ?_)
        refine Ops.step (One.val rfl rfl rfl (yld_not rfl (ev_t rfl)) ?_)
        refine Ops.nil fun a hS => ?_
        refine hK18 _ _ ?_ a hS
        refine Cod.cond rfl (fun hc68 => ?_) (fun hc68 => ?_)
        · skip
          refine Cod.seq fun K19 hK19 => ?_
          have F6 := F0.drew
          refine Cod.draw (C_of F6.drop1) (by kernel_rfl) ?_
          refine Hops.take 0 rfl (by kernel_rfl) (fun _ _ _ h => h) rfl rfl rfl F6.drop1 (fun w F => (yld_move rfl (ev_t rfl))) ?_
          refine Hops.take 1 rfl (by kernel_rfl) (fun _ _ _ h => h) rfl rfl rfl F6.drop1 (fun w F => (yld_move rfl (ev_t rfl))) ?_
          refine Hops.take 2 rfl (by kernel_rfl) (fun _ _ _ h => h) rfl rfl rfl F6.drop1 (fun w F => (yld_move rfl (ev_t rfl))) ?_
          refine Hops.take 3 rfl (by kernel_rfl) (fun _ _ _ h => h) rfl rfl rfl F6.drop1 (fun w F => (yld_add rfl (ev_t rfl) (ev_t rfl) (fun _ => by omega))) ?_
          refine Hops.take 4 rfl (by kernel_rfl) (fun _ _ _ h => h) rfl rfl rfl F6.drop1 (fun w F => (yld_slcL' (i + 1) sl29 rfl (ev_t rfl) (ev_t rfl) (by omega) (by omega) (by omega))) ?_
          refine Hops.take 5 rfl (by kernel_rfl) (fun _ _ _ h => h) rfl rfl rfl F6.drop1 (fun w F => (yld_move rfl (ev_t rfl))) ?_
          refine Hops.take 6 rfl (by kernel_rfl) (fun _ _ _ h => h) rfl rfl rfl F6.drop1 (fun w F => (yld_move rfl (ev_t rfl))) ?_
          refine Hops.take 7 rfl (by kernel_rfl) (fun _ _ _ h => h) rfl rfl rfl F6.drop1 (fun w F => (yld_slcL' i sl29 rfl (ev_t rfl) (ev_t rfl) (by omega) (by omega) (by omega))) ?_
          refine Hops.one 8 rfl (by kernel_rfl) (One.copyCells (cs := ((xs.drop i).flatMap enc5)) F6 0 rfl sl29 rfl rfl rfl rfl (ev_t rfl) (ev_t rfl) (by rw [flat_length (sz := 5) (fun _ => rfl), List.length_drop, show Nat.min (xs.length + 1 - i) (xs.length + 1 - (i + 1)) = xs.length - i by simp only [Nat.min_def]; split <;> omega]) (by rw [List.length_append, hyl, flat_length (sz := 5) (fun _ => rfl), flat_length (sz := 5) (fun _ => rfl), List.length_drop]; omega) (fun j u hj => by rw [← hspl.2, List.getElem?_drop] at hj; rw [Addr.add_mid]; have := World.ownsRow.cells (F6.get 0 rfl) (g := bb) rfl (i * 5 + j) u (by rw [List.getElem?_append_left (List.getElem?_eq_some_iff.1 hj).1]; exact hj); rwa [Addr.add_mid, Nat.zero_add] at this) (fun u hu => hone u (by rw [← hspl.2] at hu; exact List.mem_of_mem_drop hu)) ?_)
          intro w5 F7
          refine ⟨F7.drop1, ?_⟩
          change Fr _ _ [_] _ at F7
          refine Hops.nil (by kernel_rfl) fun a hS => ?_
          refine hK19 _ _ ?_ a hS
          refine Cod.seq fun K20 hK20 => ?_
          refine Cod.region ?_
          refine Ops.step (One.val rfl rfl rfl (yld_move rfl (ev_t rfl)) ?_)
          refine Ops.step (One.val rfl rfl rfl (yld_move rfl (ev_t rfl)) ?_)
          refine Ops.step (One.val rfl rfl rfl (yld_slcL' i sl29 rfl (ev_t rfl) (ev_t rfl) (by omega) (by omega) (by omega)) ?_)
          refine Ops.step (One.val rfl rfl rfl (yld_move rfl (ev_t rfl)) ?_)
          refine Ops.step (One.copyCells (cs := (enc5 x)) F7 0 rfl sl29 rfl rfl rfl rfl (ev_t rfl) (ev_t rfl) (by rw [show Nat.min 1 (xs.length + 1 - i) = 1 by simp only [Nat.min_def]; split <;> omega]; rfl) (by rw [putAt_length, List.length_append, hyl, flat_length (sz := 5) (fun _ => rfl)]; have : (enc5 x).length = 5 := rfl; omega) (fun j u hj => by rw [Addr.add_mid, Nat.zero_add]; exact blk_cell (hvs F7.chg) hj) (fun u hu => (List.all_eq_true.1 h1x) u hu) ?_)
          intro w6 F8
          change Fr _ _ [_] _ at F8
          refine Ops.nil fun a hS => ?_
          refine hK20 _ _ ?_ a hS
          refine Cod.seq fun K21 hK21 => ?_
          refine Cod.region ?_
          refine Ops.step (One.val rfl rfl rfl (yld_move rfl (ev_t rfl)) ?_)
          refine Ops.step (One.val rfl rfl rfl (yld_assign rfl (ev_t rfl)) ?_)
          refine Ops.nil fun a hS => ?_
          refine hK21 _ _ ?_ a hS
          refine Cod.ret fun a hS => ?_
          try simp only [Exit.then, Exit.inBlock]
          have hcl := (ins_cells (enc := enc5) (sz := 5) (fun _ => rfl) xs i hi x (xs.flatMap enc5 ++ ys) (by rw [List.length_append, hyl, flat_length (sz := 5) (fun _ => rfl)]; omega) (by rw [List.take_append_of_le_length (by rw [flat_length (sz := 5) (fun _ => rfl)]; omega)]; exact hspl.1)).2
          have hll : (xs.take i ++ x :: xs.drop i).length = xs.length + 1 := by simp; omega
          exact ret1 (t := 6) rfl hS rfl ⟨_, rfl, F8.chg, by rw [hll, ← hcl]; exact F8.get 0 rfl, fun k hk => F8.dom _ (List.mem_cons_self ..) k hk⟩
        · skip
          simp at hc68

end Go.Proofs.Ytodbflfelimppaa.Eng
