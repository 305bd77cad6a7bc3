/- Walks of both ValOk and what they call: they tell just whether a tree is well made and small enough. -/
import Derived.Test.YtpfkcblhojkaiaaDoorVal0
namespace Go.Proofs.YtpfkcblhojkaiaaDoor.Eng
open Go.RowKit
set_option linter.unusedVariables false
set_option linter.unusedSimpArgs false
set_option maxHeartbeats 1000000


theorem less_eq : ∀ (x y : List UInt8), Op.bytesLess x y = decide (x < y)
  | [], [] => by simp [Op.bytesLess]
  | _ :: _, [] => by simp [Op.bytesLess]
  | [], _ :: _ => by simp [Op.bytesLess]
  | a :: x, b :: y => by
    rw [Op.bytesLess, less_eq x y]
    simp only [List.cons_lt_cons_iff]
    by_cases h1 : a < b <;> by_cases h2 : a = b <;> by_cases h3 : x < y <;> simp [h1, h2, h3]
def ltS (s u : ByteArray) : Bool := Op.bytesLess s.toList u.toList
theorem toList_inj {s u : ByteArray} (h : s.toList = u.toList) : s = u := by
  have := bytes_beq s u
  rw [h] at this
  simpa using this
theorem ltS_not (s u : ByteArray) : (ltS s u || decide (s = u)) = !ltS u s := by
  unfold ltS
  rw [less_eq, less_eq]
  by_cases h : s = u
  · subst h
    simp [List.lt_irrefl]
  · have hne : s.toList ≠ u.toList := fun e => h (toList_inj e)
    by_cases h1 : s.toList < u.toList
    · have h2 : ¬ u.toList < s.toList := List.lt_asymm h1
      simp [h1, h2]
    · have h2 : u.toList < s.toList := by
        rcases List.le_iff_lt_or_eq.1 (List.not_lt.1 h1) with h2 | h2
        · exact h2
        · exact absurd h2.symm hne
      simp [h1, h2, h]
def nth (ks : List ByteArray) (i : Nat) : ByteArray := ks.getD i ⟨#[]⟩
theorem nth_eq {ks : List ByteArray} {i : Nat} (h : i < ks.length) : nth ks i = ks[i] := by simp [nth, h]
/-- The keys are texts in strict order. -/
def KeysP (ks : List ByteArray) : Prop := ∀ i, i < ks.length → okS (nth ks i) = true ∧ (0 < i → ltS (nth ks (i - 1)) (nth ks i) = true)
structure NodeP (k n : Int) (s : ByteArray) (ks : List ByteArray) (l : List Tr) : Prop where
  z3 : k ≠ 3 → n = 0
  z4 : k ≠ 4 → s = ⟨#[]⟩
  z6 : k ≠ 6 → ks = []
  z5 : k < 5 → l = []
  k0 : 0 ≤ k
  k6 : k ≤ 6
  n0 : -1000000 ≤ n
  n1 : n ≤ 1000000
  ok : okS s = true
  len : k = 6 → ks.length = l.length
  keys : KeysP ks
inductive Form : Int → Tr → Prop
  | mk {d k n s ks l} (hd : 1 ≤ d) (hn : NodeP k n s ks l) (hl : ∀ x ∈ l, Form (d - 1) x) : Form d (.mk k n s ks l)
theorem Form.iff {d k n s ks l} : Form d (.mk k n s ks l) ↔ 1 ≤ d ∧ NodeP k n s ks l ∧ ∀ x ∈ l, Form (d - 1) x :=
  ⟨fun h => by cases h with | mk hd hn hl => exact ⟨hd, hn, hl⟩, fun ⟨a, b, c⟩ => .mk a b c⟩
noncomputable instance (d : Int) (t : Tr) : Decidable (Form d t) := Classical.propDecidable _
noncomputable instance (ks : List ByteArray) : Decidable (KeysP ks) := Classical.propDecidable _
theorem KeysP.nil : KeysP [] := fun i hi => by simp at hi
theorem okS_nil : okS ⟨#[]⟩ = true := by decide
mutual
def Tr.cnt : Tr → Nat | .mk _ _ _ _ l => 1 + Tr.cnt1 l
def Tr.cnt1 : List Tr → Nat | [] => 0 | x :: l => x.cnt + Tr.cnt1 l
end
theorem Tr.cnt1_sum : ∀ l : List Tr, Tr.cnt1 l = sumN Tr.cnt l
  | [] => by simp [Tr.cnt1, sumN]
  | x :: l => by rw [Tr.cnt1, Tr.cnt1_sum l, sumN_cons]
theorem Tr.cnt_mk (k n : Int) (s : ByteArray) (ks : List ByteArray) (l : List Tr) : (Tr.mk k n s ks l).cnt = 1 + sumN Tr.cnt l := by rw [Tr.cnt, Tr.cnt1_sum]
theorem sumN_le {α : Type} {f g : α → Nat} : ∀ {l : List α}, (∀ x ∈ l, f x ≤ g x + 1) → sumN f l ≤ l.length + sumN g l
  | [], _ => by simp [sumN]
  | x :: l, h => by
    have h1 := h x (by simp)
    have h2 := sumN_le (l := l) fun y hy => h y (by simp [hy])
    simp only [sumN_cons, List.length_cons]
    omega
theorem Tr.cnt_wt (t : Tr) : t.cnt ≤ t.wt + 1 := Tr.ind (p := fun t => t.cnt ≤ t.wt + 1) (fun k n s ks l H => by
  rw [Tr.cnt_mk, Tr.wt_mk]
  have := sumN_le H
  omega) t
theorem shape {k n : Int} {s : ByteArray} {ks : List ByteArray} {l : List Tr} : ((((k != 3 && n != 0) || (k != 4 && !decide (s = ⟨#[]⟩))) || (k != 6 && decide ((0 : Int) < (ks.length : Int)))) || (decide (k < 5) && decide ((0 : Int) < (l.length : Int)))) = false ↔ (k ≠ 3 → n = 0) ∧ (k ≠ 4 → s = ⟨#[]⟩) ∧ (k ≠ 6 → ks = []) ∧ (k < 5 → l = []) := by
  have e1 : decide ((0 : Int) < (ks.length : Int)) = !decide (ks = []) := by
    cases ks <;> simp <;> omega
  have e2 : decide ((0 : Int) < (l.length : Int)) = !decide (l = []) := by
    cases l <;> simp <;> omega
  rw [e1, e2]
  by_cases h1 : k = 3 <;> by_cases h2 : n = 0 <;> by_cases h3 : k = 4 <;> by_cases h4 : s = ⟨#[]⟩ <;> by_cases h5 : k = 6 <;> by_cases h6 : ks = [] <;> by_cases h7 : k < 5 <;> by_cases h8 : l = [] <;> simp_all
theorem shape_d {d k n : Int} {s : ByteArray} {ks : List ByteArray} {l : List Tr} : (((((decide (d < 1)) || (k != 3 && n != 0)) || (k != 4 && !decide (s = ⟨#[]⟩))) || (k != 6 && decide ((0 : Int) < (ks.length : Int)))) || (decide (k < 5) && decide ((0 : Int) < (l.length : Int)))) = false ↔ 1 ≤ d ∧ (k ≠ 3 → n = 0) ∧ (k ≠ 4 → s = ⟨#[]⟩) ∧ (k ≠ 6 → ks = []) ∧ (k < 5 → l = []) := by
  rw [← shape]
  by_cases h : d < 1
  · simp [h]; omega
  · have : 1 ≤ d := by omega
    simp [h, this]
theorem leafP {k n : Int} {s : ByteArray} {ks : List ByteArray} {l : List Tr} (z3 : k ≠ 3 → n = 0) (z4 : k ≠ 4 → s = ⟨#[]⟩) (z6 : k ≠ 6 → ks = []) (z5 : k < 5 → l = []) (h0 : 0 ≤ k) (h5 : k ≤ 5) (hn : -1000000 ≤ n ∧ n ≤ 1000000) (ho : okS s = true) : NodeP k n s ks l :=
  ⟨z3, z4, z6, z5, h0, by omega, hn.1, hn.2, ho, fun h => by omega, by rw [z6 (by omega)]; exact KeysP.nil⟩
theorem leaf_form {d k n : Int} {s : ByteArray} {ks : List ByteArray} {l : List Tr} (hd : 1 ≤ d) (z3 : k ≠ 3 → n = 0) (z4 : k ≠ 4 → s = ⟨#[]⟩) (z6 : k ≠ 6 → ks = []) (z5 : k < 5 → l = []) (hk : 0 ≤ k ∧ k ≤ 2) : Form d (.mk k n s ks l) :=
  .mk hd (leafP z3 z4 z6 z5 (by omega) (by omega) (by rw [z3 (by omega)]; omega) (by rw [z4 (by omega)]; exact okS_nil)) (by rw [z5 (by omega)]; simp)
theorem form3 {d k n : Int} {s : ByteArray} {ks : List ByteArray} {l : List Tr} (hd : 1 ≤ d) (z3 : k ≠ 3 → n = 0) (z4 : k ≠ 4 → s = ⟨#[]⟩) (z6 : k ≠ 6 → ks = []) (z5 : k < 5 → l = []) (hk : k = 3) : Form d (.mk k n s ks l) ↔ -1000000 ≤ n ∧ n ≤ 1000000 :=
  ⟨fun h => ⟨(Form.iff.1 h).2.1.n0, (Form.iff.1 h).2.1.n1⟩, fun h => .mk hd (leafP z3 z4 z6 z5 (by omega) (by omega) h (by rw [z4 (by omega)]; exact okS_nil)) (by rw [z5 (by omega)]; simp)⟩
theorem form4 {d k n : Int} {s : ByteArray} {ks : List ByteArray} {l : List Tr} (hd : 1 ≤ d) (z3 : k ≠ 3 → n = 0) (z4 : k ≠ 4 → s = ⟨#[]⟩) (z6 : k ≠ 6 → ks = []) (z5 : k < 5 → l = []) (hk : k = 4) : Form d (.mk k n s ks l) ↔ okS s = true :=
  ⟨fun h => (Form.iff.1 h).2.1.ok, fun h => .mk hd (leafP z3 z4 z6 z5 (by omega) (by omega) (by rw [z3 (by omega)]; omega) h) (by rw [z5 (by omega)]; simp)⟩
theorem prev_cell {w : World} {ks : List ByteArray} {A m c F} (h : RepS F w ks (.slice A m c)) {i : Nat} (hi : i < ks.length) (h0 : 0 < i) {b o : Nat} (hA : A = some ⟨b, o, none⟩) : w.cell? ⟨b, o + ((i : Int) - 1).toNat * 1, none⟩ = some (.string (nth ks (i - 1))) := by
  obtain ⟨b', o', h1, -, hr⟩ := h.at (i - 1) (by omega)
  rw [hA] at h1
  obtain ⟨rfl, rfl⟩ : b = b' ∧ o = o' := by simpa using h1
  rw [nth_eq (by omega)]
  have := hr 0 (.string ks[i - 1]) (by simp [sCells])
  rw [show ((i : Int) - 1).toNat = i - 1 by omega]
  simpa using this

set_option maxRecDepth 100000 in
theorem l1Keys_ct (ks : List ByteArray) (v : Value) (w : World) (hp : RepS Any w ks v) (hs : ∀ s ∈ ks, s.size ≤ 9223372036854775807) :
    Calls Tryd.prog 100 #[v] w fun e w' => e = .returned (.bool (decide (KeysP ks))) ∧ Chg No w w' := by
  obtain ⟨A, c, rfl, hn⟩ := hp.open
  refine enter Tryd.func100 rfl rfl rfl ?_
  have F0 := Fr.start w
  refine Cod.seq fun K1 hK1 => ?_
  refine Cod.region ?_
  refine Ops.step (One.val rfl rfl rfl (yld_assign rfl ev_c) ?_)
  refine Ops.nil fun a hS => ?_
  refine hK1 _ _ ?_ a hS
  refine Cod.seq fun K2 hK2 => ?_
  refine Cod.seq fun K3 hK3 => ?_
  refine Cod.region ?_
  refine Ops.step (One.val rfl rfl rfl (yld_assign rfl ev_c) ?_)
  refine Ops.nil fun a hS => ?_
  refine hK3 _ _ ?_ a hS
  refine Cod.block ?_
  refine Cod.loop (fun i : Nat => [(0, true, .slice A ks.length c), (3, true, .int .i64 (i : Int))]) (fun i w' => i ≤ ks.length ∧ (∀ j, j < i → okS (nth ks j) = true ∧ (0 < j → ltS (nth ks (j - 1)) (nth ks j) = true)) ∧ Fr No w [] w') (fun i => ks.length - i) 0 ⟨rfl, rfl, trivial⟩ ⟨Nat.zero_le _, fun j h => by omega, F0⟩ ?_
  intro i w1 hW K4 hK4
  obtain ⟨hi, hall, F1⟩ := hW
  refine Cod.seq fun K5 hK5 => ?_
  refine Cod.seq fun K6 hK6 => ?_
  refine Cod.region ?_
  refine Ops.step (One.val rfl rfl rfl (yld_move rfl (ev_t rfl)) ?_)
  refine Ops.step (One.val rfl rfl rfl (yld_move rfl (ev_t rfl)) ?_)
  refine Ops.step (One.val rfl rfl rfl (yld_len sl22 rfl (ev_t rfl)) ?_)
  refine Ops.step (One.val rfl rfl rfl (yld_lss rfl (ev_t rfl) (ev_t rfl)) ?_)
  refine Ops.nil fun a hS => ?_
  refine hK6 _ _ ?_ a hS
  refine Cod.cond rfl (fun hc7 => ?_) (fun hc7 => ?_)
  · skip
    have hi : i < ks.length := by simpa using hc7
    obtain ⟨b, o, rfl, -, hr⟩ := hp.at i hi
    refine Cod.skip fun a hS => ?_
    refine hK5 _ _ ?_ a hS
    refine Cod.seq fun K7 hK7 => ?_
    refine Cod.block ?_
    refine Cod.seq fun K8 hK8 => ?_
    have F2 := F1.drew
    refine Cod.draw (C_of F2) (by kernel_rfl) ?_
    refine Hops.take 0 rfl (by kernel_rfl) (fun _ _ _ h => h) rfl rfl rfl F2 (fun w F => (yld_move rfl (ev_t rfl))) ?_
    refine Hops.take 1 rfl (by kernel_rfl) (fun _ _ _ h => h) rfl rfl rfl F2 (fun w F => (yld_move rfl (ev_t rfl))) ?_
    refine Hops.take 2 rfl (by kernel_rfl) (fun _ _ _ h => h) rfl rfl rfl F2 (fun w F => (yld_indexN sl22 rfl (ev_t rfl) (ev_t rfl) (fun _ => by omega))) ?_
    refine Hops.take 3 rfl (by kernel_rfl) (fun _ _ _ h => h) rfl rfl rfl F2 (fun w F => (yld_load1 on9 rfl (ev_t rfl) (fun _ => rangeAt_cell (rng hr F.chg) (j := 0) rfl))) ?_
    refine Hops.one 4 rfl (by kernel_rfl) (One.call rfl rfl rfl (ent_f rfl (evl1 (ev_t rfl)) (enters en81)) (l1Str_ct _ _ (hs _ (List.getElem_mem hi))) (fun e w2 hw2 => ?_))
    obtain ⟨rfl, C2⟩ := hw2
    have F3 := F2.call C2
    refine ⟨_, rfl, ?_⟩
    refine ⟨F3, ?_⟩
    refine Hops.take 5 rfl (by kernel_rfl) (fun _ _ _ h => h) rfl rfl rfl F3 (fun w F => (yld_not rfl (ev_t rfl))) ?_
    refine Hops.take 6 rfl (by kernel_rfl) (fun _ _ _ h => h) rfl rfl rfl F3 (fun w F => (yld_move rfl (ev_t rfl))) ?_
    refine Hops.take 7 rfl (by kernel_rfl) (fun _ _ _ h => h) (gd_some rfl rfl) rfl rfl F3 (fun w F => (yld_move rfl (ev_t rfl))) ?_
    refine Hops.take 8 rfl (by kernel_rfl) (fun _ _ _ h => h) (gd_some rfl rfl) rfl rfl F3 (fun w F => (yld_gtr rfl (ev_g rfl) ev_c)) ?_
    refine Hops.take 9 rfl (by kernel_rfl) (fun _ _ _ h => h) (gd_some rfl rfl) rfl rfl F3 (fun w F => (yld_move rfl (ev_g rfl))) ?_
    refine Hops.take 10 rfl (by kernel_rfl) (fun _ _ _ h => h) (gd_some rfl rfl) rfl rfl F3 (fun w F => (yld_move rfl (ev_t rfl))) ?_
    refine Hops.take 11 rfl (by kernel_rfl) (fun _ _ _ h => h) (gd_some rfl rfl) rfl rfl F3 (fun w F => (yld_move rfl (ev_t rfl))) ?_
    refine Hops.take 12 rfl (by kernel_rfl) (fun _ _ _ h => h) (gd_some rfl rfl) rfl rfl F3 (fun w F => (yld_indexN sl22 rfl (ev_g rfl) (ev_g rfl) (fun _ => by omega))) ?_
    refine Hops.take 13 rfl (by kernel_rfl) (fun _ _ _ h => h) (gd_some rfl rfl) rfl rfl F3 (fun w F => (yld_load1 on9 rfl (ev_g rfl) (fun _ => rangeAt_cell (rng hr F.chg) (j := 0) rfl))) ?_
    refine Hops.take 14 rfl (by kernel_rfl) (fun _ _ _ h => h) (gd_some rfl rfl) rfl rfl F3 (fun w F => (yld_move rfl (ev_t rfl))) ?_
    refine Hops.take 15 rfl (by kernel_rfl) (fun _ _ _ h => h) (gd_some rfl rfl) rfl rfl F3 (fun w F => (yld_move rfl (ev_t rfl))) ?_
    refine Hops.take 16 rfl (by kernel_rfl) (fun _ _ _ h => h) (gd_some rfl rfl) rfl rfl F3 (fun w F => (yld_sub rfl (ev_g rfl) ev_c (fun _ => by omega))) ?_
    refine Hops.take 17 rfl (by kernel_rfl) (fun _ _ _ h => h) (gd_some rfl rfl) rfl rfl F3 (fun w F => (yld_index sl22 rfl (ev_g rfl) (ev_g rfl) (fun hg => by simp [gof] at hg; omega))) ?_
    refine Hops.take 18 rfl (by kernel_rfl) (fun _ _ _ h => h) (gd_some rfl rfl) rfl rfl F3 (fun w F => (yld_load1 on9 rfl (ev_g rfl) (fun hg => prev_cell (hp.chg F.chg) hi (by simp [gof] at hg; omega) rfl))) ?_
    refine Hops.take 19 rfl (by kernel_rfl) (fun _ _ _ h => h) (gd_some rfl rfl) rfl rfl F3 (fun w F => (yld_sleq rfl (ev_g rfl) (ev_g rfl))) ?_
    refine Hops.take 20 rfl (by kernel_rfl) (fun _ _ _ h => h) (gd_some rfl rfl) rfl rfl F3 (fun w F => (yld_and rfl (ev_g rfl) (ev_g rfl))) ?_
    refine Hops.take 21 rfl (by kernel_rfl) (fun _ _ _ h => h) rfl rfl rfl F3 (fun w F => (yld_or rfl (ev_t rfl) (ev_g rfl))) ?_
    refine Hops.nil (by kernel_rfl) fun a hS => ?_
    refine hK8 _ _ ?_ a hS
    refine Cod.cond rfl (fun hc31 => ?_) (fun hc31 => ?_)
    · skip
      have hbad : ¬ KeysP ks := fun h => by
        obtain ⟨h1, h2⟩ := h i hi
        rw [nth_eq hi] at h1 h2
        have h3 := ltS_not ks[i] (nth ks (i - 1))
        unfold ltS at h2 h3
        simp only [h1, h3] at hc31
        by_cases h0 : 0 < i
        · simp [h2 h0] at hc31
        · simp at hc31; omega
      refine Cod.seq fun K9 hK9 => ?_
      refine Cod.region ?_
      refine Ops.step (One.val rfl rfl rfl (yld_assign rfl ev_c) ?_)
      refine Ops.nil fun a hS => ?_
      refine hK9 _ _ ?_ a hS
      refine Cod.ret fun a hS => ?_
      try simp only [Exit.then, Exit.inBlock]
      exact ret1 (t := 2) rfl hS rfl ⟨by rw [decide_eq_false hbad], F3.chg⟩
    · skip
      have hgood : okS (nth ks i) = true ∧ (0 < i → ltS (nth ks (i - 1)) (nth ks i) = true) := by
        rw [nth_eq hi]
        have h3 := ltS_not ks[i] (nth ks (i - 1))
        unfold ltS at h3 ⊢
        simp only [h3] at hc31
        simp at hc31
        exact ⟨hc31.1, fun h0 => hc31.2 h0⟩
      refine Cod.skip fun a hS => ?_
      refine hK7 _ _ ?_ a hS
      refine Cod.region ?_
      refine Ops.step (One.val rfl rfl rfl (yld_move rfl (ev_t rfl)) ?_)
      refine Ops.step (One.val rfl rfl rfl (yld_inc rfl (ev_t rfl) (fun _ => by omega)) ?_)
      refine Ops.step (One.val rfl rfl rfl (yld_assign rfl (ev_t rfl)) ?_)
      refine Ops.nil fun a hS => ?_
      exact hK4 (i + 1) _ a (hS.sub ⟨rfl, rfl, trivial⟩) ⟨by omega, fun j h => if e : j = i then (by subst e; exact hgood) else hall j (by omega), F3⟩ (by omega)
  · skip
    have hk : KeysP ks := fun j hj => hall j (by simp at hc7; omega)
    refine Cod.exit fun a hS => ?_
    simp only [Exit.then, Exit.inBlock, ↓reduceIte]
    refine hK2 _ _ ?_ a hS
    refine Cod.seq fun K10 hK10 => ?_
    refine Cod.region ?_
    refine Ops.step (One.val rfl rfl rfl (yld_assign rfl ev_c) ?_)
    refine Ops.nil fun a hS => ?_
    refine hK10 _ _ ?_ a hS
    refine Cod.ret fun a hS => ?_
    try simp only [Exit.then, Exit.inBlock]
    exact ret1 (t := 2) rfl hS rfl ⟨by rw [decide_eq_true hk], F1.chg⟩


/-- What l1Form says of one tree. -/
def FormOk (t : Tr) : Prop := ∀ (d : Int) (v : Value) (w : World), Rep Any w t v → t.Fit → 0 ≤ d → d ≤ 100 →
    Calls Tryd.prog 74 #[v, .int .i64 d] w fun e w' => e = .returned (.bool (decide (Form d t))) ∧ Chg No w w'

set_option maxRecDepth 100000 in
theorem l1Form_of (k n : Int) (s : ByteArray) (ks : List ByteArray) (l : List Tr) (H : ∀ t ∈ l, FormOk t) : FormOk (.mk k n s ks l) := by
  intro d v w hr hf hd0 hd1
  obtain ⟨v3, v4, rfl, h3, h4⟩ := hr.open
  obtain ⟨A3, c3, rfl, hn3⟩ := h3.open
  obtain ⟨A4, c4, rfl, hn4⟩ := h4.open
  cases hf with
  | mk hs hks hkl =>
  refine enter Tryd.func74 rfl rfl rfl ?_
  have F0 := Fr.start w
  refine Cod.seq fun K1 hK1 => ?_
  refine Cod.region ?_
  refine Ops.step (One.box F0 rfl rfl rfl rfl (ev_t rfl) ?_)
  intro b1 w1 hb1 F1
  change Fr _ _ [blk _ _ [_, _, _, _, _]] _ at F1
  refine Ops.step (One.val rfl rfl rfl (yld_assign rfl ev_c) ?_)
  refine Ops.nil fun a hS => ?_
  refine hK1 _ _ ?_ a hS
  refine Cod.seq fun K2 hK2 => ?_
  refine Cod.seq fun K3 hK3 => ?_
  refine Cod.region ?_
  refine Ops.step (One.val rfl rfl rfl (yld_move rfl (ev_t rfl)) ?_)
  refine Ops.step (One.val rfl rfl rfl (yld_lss rfl (ev_t rfl) ev_c) ?_)
  refine Ops.step (One.val rfl rfl rfl (yld_move rfl (ev_t rfl)) ?_)
  refine Ops.step (One.val (gd_some rfl rfl) rfl rfl (yld_field fi33_0 rfl (ev_t rfl)) ?_)
  refine Ops.step (One.val (gd_some rfl rfl) rfl rfl (yld_load1 on3 rfl (ev_g rfl) (fun _ => F1.cell 0 rfl rfl)) ?_)
  refine Ops.step (One.val (gd_some rfl rfl) rfl rfl (yld_neq rfl (ev_g rfl) ev_c) ?_)
  refine Ops.step (One.val (gd_some rfl rfl) rfl rfl (yld_move rfl (ev_g rfl)) ?_)
  refine Ops.step (One.val (gd_some rfl rfl) rfl rfl (yld_field fi33_1 rfl (ev_t rfl)) ?_)
  refine Ops.step (One.val (gd_some rfl rfl) rfl rfl (yld_load1 on3 rfl (ev_g rfl) (fun _ => F1.cell 0 rfl rfl)) ?_)
  refine Ops.step (One.val (gd_some rfl rfl) rfl rfl (yld_neq rfl (ev_g rfl) ev_c) ?_)
  refine Ops.step (One.val (gd_some rfl rfl) rfl rfl (yld_and rfl (ev_g rfl) (ev_g rfl)) ?_)
  refine Ops.step (One.val rfl rfl rfl (yld_or rfl (ev_t rfl) (ev_g rfl)) ?_)
  refine Ops.step (One.val rfl rfl rfl (yld_move rfl (ev_t rfl)) ?_)
  refine Ops.step (One.val (gd_some rfl rfl) rfl rfl (yld_field fi33_0 rfl (ev_t rfl)) ?_)
  refine Ops.step (One.val (gd_some rfl rfl) rfl rfl (yld_load1 on3 rfl (ev_g rfl) (fun _ => F1.cell 0 rfl rfl)) ?_)
  refine Ops.step (One.val (gd_some rfl rfl) rfl rfl (yld_neq rfl (ev_g rfl) ev_c) ?_)
  refine Ops.step (One.val (gd_some rfl rfl) rfl rfl (yld_move rfl (ev_g rfl)) ?_)
  refine Ops.step (One.val (gd_some rfl rfl) rfl rfl (yld_field fi33_2 rfl (ev_t rfl)) ?_)
  refine Ops.step (One.val (gd_some rfl rfl) rfl rfl (yld_load1 on9 rfl (ev_g rfl) (fun _ => F1.cell 0 rfl rfl)) ?_)
  refine Ops.step (One.val (gd_some rfl rfl) rfl rfl (yld_sneq rfl (ev_g rfl) ev_c) ?_)
  refine Ops.step (One.val (gd_some rfl rfl) rfl rfl (yld_and rfl (ev_g rfl) (ev_g rfl)) ?_)
  refine Ops.step (One.val rfl rfl rfl (yld_or rfl (ev_t rfl) (ev_g rfl)) ?_)
  refine Ops.step (One.val rfl rfl rfl (yld_move rfl (ev_t rfl)) ?_)
  refine Ops.step (One.val (gd_some rfl rfl) rfl rfl (yld_field fi33_0 rfl (ev_t rfl)) ?_)
  refine Ops.step (One.val (gd_some rfl rfl) rfl rfl (yld_load1 on3 rfl (ev_g rfl) (fun _ => F1.cell 0 rfl rfl)) ?_)
  refine Ops.step (One.val (gd_some rfl rfl) rfl rfl (yld_neq rfl (ev_g rfl) ev_c) ?_)
  refine Ops.step (One.val (gd_some rfl rfl) rfl rfl (yld_move rfl (ev_g rfl)) ?_)
  refine Ops.step (One.val (gd_some rfl rfl) rfl rfl (yld_field fi33_3 rfl (ev_t rfl)) ?_)
  refine Ops.step (One.val (gd_some rfl rfl) rfl rfl (yld_load1 on22 rfl (ev_g rfl) (fun _ => F1.cell 0 rfl rfl)) ?_)
  refine Ops.step (One.val (gd_some rfl rfl) rfl rfl (yld_len sl22 rfl (ev_g rfl)) ?_)
  refine Ops.step (One.val (gd_some rfl rfl) rfl rfl (yld_gtr rfl (ev_g rfl) ev_c) ?_)
  refine Ops.step (One.val (gd_some rfl rfl) rfl rfl (yld_and rfl (ev_g rfl) (ev_g rfl)) ?_)
  refine Ops.step (One.val rfl rfl rfl (yld_or rfl (ev_t rfl) (ev_g rfl)) ?_)
  refine Ops.step (One.val rfl rfl rfl (yld_move rfl (ev_t rfl)) ?_)
  refine Ops.step (One.val (gd_some rfl rfl) rfl rfl (yld_field fi33_0 rfl (ev_t rfl)) ?_)
  refine Ops.step (One.val (gd_some rfl rfl) rfl rfl (yld_load1 on3 rfl (ev_g rfl) (fun _ => F1.cell 0 rfl rfl)) ?_)
  refine Ops.step (One.val (gd_some rfl rfl) rfl rfl (yld_lss rfl (ev_g rfl) ev_c) ?_)
  refine Ops.step (One.val (gd_some rfl rfl) rfl rfl (yld_move rfl (ev_g rfl)) ?_)
  refine Ops.step (One.val (gd_some rfl rfl) rfl rfl (yld_field fi33_4 rfl (ev_t rfl)) ?_)
  refine Ops.step (One.val (gd_some rfl rfl) rfl rfl (yld_load1 on31 rfl (ev_g rfl) (fun _ => F1.cell 0 rfl rfl)) ?_)
  refine Ops.step (One.val (gd_some rfl rfl) rfl rfl (yld_len sl31 rfl (ev_g rfl)) ?_)
  refine Ops.step (One.val (gd_some rfl rfl) rfl rfl (yld_gtr rfl (ev_g rfl) ev_c) ?_)
  refine Ops.step (One.val (gd_some rfl rfl) rfl rfl (yld_and rfl (ev_g rfl) (ev_g rfl)) ?_)
  refine Ops.step (One.val rfl rfl rfl (yld_or rfl (ev_t rfl) (ev_g rfl)) ?_)
  refine Ops.nil fun a hS => ?_
  refine hK3 _ _ ?_ a hS
  refine Cod.cond rfl (fun hc49 => ?_) (fun hc49 => ?_)
  · skip
    have hne : ¬ Form d (.mk k n s ks l) := fun h => by
      obtain ⟨h1, hp, -⟩ := Form.iff.1 h
      rw [shape_d.2 ⟨h1, hp.z3, hp.z4, hp.z6, hp.z5⟩] at hc49
      cases hc49
    refine Cod.seq fun K4 hK4 => ?_
    refine Cod.region ?_
    refine Ops.step (One.val rfl rfl rfl (yld_assign rfl ev_c) ?_)
    refine Ops.nil fun a hS => ?_
    refine hK4 _ _ ?_ a hS
    refine Cod.ret fun a hS => ?_
    try simp only [Exit.then, Exit.inBlock]
    exact ret1 (t := 4) rfl hS rfl ⟨by rw [decide_eq_false hne], F1.chg⟩
  · skip
    obtain ⟨hd, z3, z4, z6, z5⟩ := shape_d.1 hc49
    refine Cod.skip fun a hS => ?_
    refine hK2 _ _ ?_ a hS
    refine Cod.seq fun K5 hK5 => ?_
    refine Cod.seq fun K6 hK6 => ?_
    refine Cod.region ?_
    refine Ops.step (One.val rfl rfl rfl (yld_field fi33_0 rfl (ev_t rfl)) ?_)
    refine Ops.step (One.val rfl rfl rfl (yld_load1 on3 rfl (ev_t rfl) (fun _ => F1.cell 0 rfl rfl)) ?_)
    refine Ops.nil fun a hS => ?_
    refine hK6 _ _ ?_ a hS
    refine Cod.block ?_
    refine Cod.seq fun K7 hK7 => ?_
    refine Cod.seq fun K8 hK8 => ?_
    refine Cod.region ?_
    refine Ops.step (One.val rfl rfl rfl (yld_eql rfl (ev_t rfl) ev_c) ?_)
    refine Ops.step (One.val rfl rfl rfl (yld_assign rfl (ev_t rfl)) ?_)
    refine Ops.nil fun a hS => ?_
    refine hK8 _ _ ?_ a hS
    refine Cod.cond rfl (fun hc52 => ?_) (fun hc52 => ?_)
    · skip
      have hk0 : k = 0 := by simpa using hc52
      refine Cod.skip fun a hS => ?_
      refine hK7 _ _ ?_ a hS
      refine Cod.cond rfl (fun hc52_1 => ?_) (fun hc52_1 => ?_)
      · skip
        have hform := leaf_form (d := d) hd z3 z4 z6 z5 (by omega)
        refine Cod.seq fun K9 hK9 => ?_
        refine Cod.region ?_
        refine Ops.step (One.val rfl rfl rfl (yld_assign rfl ev_c) ?_)
        refine Ops.nil fun a hS => ?_
        refine hK9 _ _ ?_ a hS
        refine Cod.ret fun a hS => ?_
        try simp only [Exit.then, Exit.inBlock]
        exact ret1 (t := 4) rfl hS rfl ⟨by rw [decide_eq_true hform], F1.chg⟩
      · skip
        rw [hc52] at hc52_1; cases hc52_1
    · skip
      have e0 : k ≠ 0 := by simpa using hc52
      refine Cod.seq fun K10 hK10 => ?_
      refine Cod.region ?_
      refine Ops.step (One.val rfl rfl rfl (yld_eql rfl (ev_t rfl) ev_c) ?_)
      refine Ops.step (One.val rfl rfl rfl (yld_assign rfl (ev_t rfl)) ?_)
      refine Ops.nil fun a hS => ?_
      refine hK10 _ _ ?_ a hS
      refine Cod.cond rfl (fun hc52 => ?_) (fun hc52 => ?_)
      · skip
        have hk0 : k = 1 := by simpa using hc52
        refine Cod.skip fun a hS => ?_
        refine hK7 _ _ ?_ a hS
        refine Cod.cond rfl (fun hc52_1 => ?_) (fun hc52_1 => ?_)
        · skip
          have hform := leaf_form (d := d) hd z3 z4 z6 z5 (by omega)
          refine Cod.seq fun K11 hK11 => ?_
          refine Cod.region ?_
          refine Ops.step (One.val rfl rfl rfl (yld_assign rfl ev_c) ?_)
          refine Ops.nil fun a hS => ?_
          refine hK11 _ _ ?_ a hS
          refine Cod.ret fun a hS => ?_
          try simp only [Exit.then, Exit.inBlock]
          exact ret1 (t := 4) rfl hS rfl ⟨by rw [decide_eq_true hform], F1.chg⟩
        · skip
          rw [hc52] at hc52_1; cases hc52_1
      · skip
        have e1 : k ≠ 1 := by simpa using hc52
        refine Cod.region ?_
        refine Ops.step (One.val rfl rfl rfl (yld_eql rfl (ev_t rfl) ev_c) ?_)
        refine Ops.step (One.val rfl rfl rfl (yld_assign rfl (ev_t rfl)) ?_)
        refine Ops.nil fun a hS => ?_
        refine hK7 _ _ ?_ a hS
        refine Cod.cond rfl (fun hc52 => ?_) (fun hc52 => ?_)
        · skip
          have hk0 : k = 2 := by simpa using hc52
          have hform := leaf_form (d := d) hd z3 z4 z6 z5 (by omega)
          refine Cod.seq fun K12 hK12 => ?_
          refine Cod.region ?_
          refine Ops.step (One.val rfl rfl rfl (yld_assign rfl ev_c) ?_)
          refine Ops.nil fun a hS => ?_
          refine hK12 _ _ ?_ a hS
          refine Cod.ret fun a hS => ?_
          try simp only [Exit.then, Exit.inBlock]
          exact ret1 (t := 4) rfl hS rfl ⟨by rw [decide_eq_true hform], F1.chg⟩
        · skip
          refine Cod.seq fun K13 hK13 => ?_
          refine Cod.region ?_
          refine Ops.step (One.val rfl rfl rfl (yld_eql rfl (ev_t rfl) ev_c) ?_)
          refine Ops.step (One.val rfl rfl rfl (yld_assign rfl (ev_t rfl)) ?_)
          refine Ops.nil fun a hS => ?_
          refine hK13 _ _ ?_ a hS
          refine Cod.cond rfl (fun hc56 => ?_) (fun hc56 => ?_)
          · skip
            have hk0 : k = 3 := by simpa using hc56
            refine Cod.seq fun K14 hK14 => ?_
            refine Cod.region ?_
            refine Ops.step (One.val rfl rfl rfl (yld_field fi33_1 rfl (ev_t rfl)) ?_)
            refine Ops.step (One.val rfl rfl rfl (yld_load1 on3 rfl (ev_t rfl) (fun _ => F1.cell 0 rfl rfl)) ?_)
            refine Ops.step (One.val rfl rfl rfl (yld_geq rfl (ev_t rfl) ev_c) ?_)
            refine Ops.step (One.val rfl rfl rfl (yld_move rfl (ev_t rfl)) ?_)
            refine Ops.step (One.val (gd_some rfl rfl) rfl rfl (yld_field fi33_1 rfl (ev_t rfl)) ?_)
            refine Ops.step (One.val (gd_some rfl rfl) rfl rfl (yld_load1 on3 rfl (ev_g rfl) (fun _ => F1.cell 0 rfl rfl)) ?_)
            refine Ops.step (One.val (gd_some rfl rfl) rfl rfl (yld_leq rfl (ev_g rfl) ev_c) ?_)
            refine Ops.step (One.val rfl rfl rfl (yld_and rfl (ev_t rfl) (ev_g rfl)) ?_)
            refine Ops.step (One.val rfl rfl rfl (yld_assign rfl (ev_t rfl)) ?_)
            refine Ops.nil fun a hS => ?_
            refine hK14 _ _ ?_ a hS
            refine Cod.ret fun a hS => ?_
            try simp only [Exit.then, Exit.inBlock]
            exact ret1 (t := 4) rfl hS rfl ⟨ret_b (by rw [Bool.eq_iff_iff]; simp [form3 hd z3 z4 z6 z5 hk0]), F1.chg⟩
          · skip
            refine Cod.seq fun K15 hK15 => ?_
            refine Cod.region ?_
            refine Ops.step (One.val rfl rfl rfl (yld_eql rfl (ev_t rfl) ev_c) ?_)
            refine Ops.step (One.val rfl rfl rfl (yld_assign rfl (ev_t rfl)) ?_)
            refine Ops.nil fun a hS => ?_
            refine hK15 _ _ ?_ a hS
            refine Cod.cond rfl (fun hc66 => ?_) (fun hc66 => ?_)
            · skip
              have hk0 : k = 4 := by simpa using hc66
              refine Cod.seq fun K16 hK16 => ?_
              refine Cod.region ?_
              refine Ops.step (One.val rfl rfl rfl (yld_field fi33_2 rfl (ev_t rfl)) ?_)
              refine Ops.step (One.val rfl rfl rfl (yld_load1 on9 rfl (ev_t rfl) (fun _ => F1.cell 0 rfl rfl)) ?_)
              refine Ops.step (One.call rfl rfl rfl (ent_f rfl (evl1 (ev_t rfl)) (enters en81)) (l1Str_ct _ _ hs) (fun e w2 hw2 => ?_))
              obtain ⟨rfl, C2⟩ := hw2
              have F2 := F1.call C2
              refine ⟨_, rfl, ?_⟩
              refine Ops.step (One.val rfl rfl rfl (yld_assign rfl (ev_t rfl)) ?_)
              refine Ops.nil fun a hS => ?_
              refine hK16 _ _ ?_ a hS
              refine Cod.ret fun a hS => ?_
              try simp only [Exit.then, Exit.inBlock]
              exact ret1 (t := 4) rfl hS rfl ⟨ret_b (by rw [Bool.eq_iff_iff]; simp [form4 hd z3 z4 z6 z5 hk0]), F2.chg⟩
            · skip
              refine Cod.seq fun K17 hK17 => ?_
              refine Cod.region ?_
              refine Ops.step (One.val rfl rfl rfl (yld_eql rfl (ev_t rfl) ev_c) ?_)
              refine Ops.step (One.val rfl rfl rfl (yld_assign rfl (ev_t rfl)) ?_)
              refine Ops.nil fun a hS => ?_
              refine hK17 _ _ ?_ a hS
              refine Cod.cond rfl (fun hc71 => ?_) (fun hc71 => ?_)
              · skip
                have hk0 : k = 6 := by simpa using hc71
                refine Cod.seq fun K18 hK18 => ?_
                refine Cod.region ?_
                refine Ops.step (One.val rfl rfl rfl (yld_field fi33_3 rfl (ev_t rfl)) ?_)
                refine Ops.step (One.val rfl rfl rfl (yld_load1 on22 rfl (ev_t rfl) (fun _ => F1.cell 0 rfl rfl)) ?_)
                refine Ops.step (One.val rfl rfl rfl (yld_len sl22 rfl (ev_t rfl)) ?_)
                refine Ops.step (One.val rfl rfl rfl (yld_field fi33_4 rfl (ev_t rfl)) ?_)
                refine Ops.step (One.val rfl rfl rfl (yld_load1 on31 rfl (ev_t rfl) (fun _ => F1.cell 0 rfl rfl)) ?_)
                refine Ops.step (One.val rfl rfl rfl (yld_len sl31 rfl (ev_t rfl)) ?_)
                refine Ops.step (One.val rfl rfl rfl (yld_neq rfl (ev_t rfl) (ev_t rfl)) ?_)
                refine Ops.step (One.val rfl rfl rfl (yld_move rfl (ev_t rfl)) ?_)
                refine Ops.step (One.val (gd_some rfl rfl) rfl rfl (yld_field fi33_3 rfl (ev_t rfl)) ?_)
                refine Ops.step (One.val (gd_some rfl rfl) rfl rfl (yld_load1 on22 rfl (ev_g rfl) (fun _ => F1.cell 0 rfl rfl)) ?_)
                refine Ops.step (One.gcall (R := Chg No w1) (gd_some rfl rfl) rfl rfl (ent_f rfl (evl1 (ev_g rfl)) (enters en100)) (Chg.refl _ _) (fun hg => l1Keys_ct ks _ _ (h3.chg F1.chg) hks) ?_)
                intro w3 C3
                have F3 := F1.call C3
                refine Ops.step (One.val (gd_some rfl rfl) rfl rfl (yld_not rfl (ev_g rfl)) ?_)
                refine Ops.step (One.val rfl rfl rfl (yld_or rfl (ev_t rfl) (ev_g rfl)) ?_)
                refine Ops.nil fun a hS => ?_
                refine hK18 _ _ ?_ a hS
                refine Cod.cond rfl (fun hc85 => ?_) (fun hc85 => ?_)
                · skip
                  have hne : ¬ Form d (.mk k n s ks l) := fun h => by
                    obtain ⟨h1, hp, -⟩ := Form.iff.1 h
                    have h2 := hp.len hk0
                    have h3 := hp.keys
                    simp [h2, h3] at hc85
                  refine Cod.seq fun K19 hK19 => ?_
                  refine Cod.region ?_
                  refine Ops.step (One.val rfl rfl rfl (yld_assign rfl ev_c) ?_)
                  refine Ops.nil fun a hS => ?_
                  refine hK19 _ _ ?_ a hS
                  refine Cod.ret fun a hS => ?_
                  try simp only [Exit.then, Exit.inBlock]
                  exact ret1 (t := 4) rfl hS rfl ⟨by rw [decide_eq_false hne], F3.chg⟩
                · skip
                  have hnode : NodeP k n s ks l := by
                    simp at hc85
                    exact ⟨z3, z4, z6, z5, by omega, by omega, by rw [z3 (by omega)]; omega, by rw [z3 (by omega)]; omega, by rw [z4 (by omega)]; exact okS_nil, fun _ => by omega, hc85.2⟩
                  refine Cod.skip fun a hS => ?_
                  refine hK5 _ _ ?_ a hS
                  refine Cod.seq fun K20 hK20 => ?_
                  refine Cod.seq fun K21 hK21 => ?_
                  refine Cod.region ?_
                  refine Ops.step (One.val rfl rfl rfl (yld_assign rfl ev_c) ?_)
                  refine Ops.nil fun a hS => ?_
                  refine hK21 _ _ ?_ a hS
                  refine Cod.block ?_
                  refine Cod.loop (fun i : Nat => [(1, true, .int .i64 d), (2, true, .pointer (some ⟨b1, 0, none⟩)), (5, true, .int .i64 (i : Int))]) (fun i w' => i ≤ l.length ∧ (∀ j (h : j < l.length), j < i → Form (d - 1) l[j]) ∧ Fr No w [blk b1 33 [.int .i64 k, .int .i64 n, .string s, .slice A3 ks.length c3, .slice A4 l.length c4]] w') (fun i => l.length - i) 0 ⟨rfl, rfl, rfl, trivial⟩ ⟨Nat.zero_le _, fun j _ h => by omega, F3⟩ ?_
                  intro i w4 hW K22 hK22
                  obtain ⟨hi, hall, F4⟩ := hW
                  refine Cod.seq fun K23 hK23 => ?_
                  refine Cod.seq fun K24 hK24 => ?_
                  refine Cod.region ?_
                  refine Ops.step (One.val rfl rfl rfl (yld_move rfl (ev_t rfl)) ?_)
                  refine Ops.step (One.val rfl rfl rfl (yld_field fi33_4 rfl (ev_t rfl)) ?_)
                  refine Ops.step (One.val rfl rfl rfl (yld_load1 on31 rfl (ev_t rfl) (fun _ => F4.cell 0 rfl rfl)) ?_)
                  refine Ops.step (One.val rfl rfl rfl (yld_len sl31 rfl (ev_t rfl)) ?_)
                  refine Ops.step (One.val rfl rfl rfl (yld_lss rfl (ev_t rfl) (ev_t rfl)) ?_)
                  refine Ops.nil fun a hS => ?_
                  refine hK24 _ _ ?_ a hS
                  refine Cod.cond rfl (fun hc92 => ?_) (fun hc92 => ?_)
                  · skip
                    have hi : i < l.length := by simpa using hc92
                    obtain ⟨b, o, cs, rfl, -, hlc, hr, ht⟩ := h4.at i hi
                    refine Cod.skip fun a hS => ?_
                    refine hK23 _ _ ?_ a hS
                    refine Cod.seq fun K25 hK25 => ?_
                    refine Cod.block ?_
                    refine Cod.seq fun K26 hK26 => ?_
                    refine Cod.region ?_
                    refine Ops.step (One.val rfl rfl rfl (yld_field fi33_4 rfl (ev_t rfl)) ?_)
                    refine Ops.step (One.val rfl rfl rfl (yld_load1 on31 rfl (ev_t rfl) (fun _ => F4.cell 0 rfl rfl)) ?_)
                    refine Ops.step (One.val rfl rfl rfl (yld_move rfl (ev_t rfl)) ?_)
                    refine Ops.step (One.val rfl rfl rfl (yld_indexN sl31 rfl (ev_t rfl) (ev_t rfl) (fun _ => by omega)) ?_)
                    refine Ops.step (One.val rfl rfl rfl (yld_loadN ag33 rfl (ev_t rfl) (fun _ => rng hr F4.chg) hlc) ?_)
                    refine Ops.step (One.val rfl rfl rfl (yld_move rfl (ev_t rfl)) ?_)
                    refine Ops.step (One.val rfl rfl rfl (yld_sub rfl (ev_t rfl) ev_c (fun _ => by omega)) ?_)
                    refine Ops.step (One.call rfl rfl rfl (ent_f rfl (evl2 (ev_t rfl) (ev_t rfl)) (enters en74)) (H _ (List.getElem_mem hi) _ _ _ (ht.chg F4.chg) (hkl _ (List.getElem_mem hi)) (by omega) (by omega)) (fun e w5 hw5 => ?_))
                    obtain ⟨rfl, C5⟩ := hw5
                    have F5 := F4.call C5
                    refine ⟨_, rfl, ?_⟩
                    refine Ops.step (One.val rfl rfl rfl (yld_not rfl (ev_t rfl)) ?_)
                    refine Ops.nil fun a hS => ?_
                    refine hK26 _ _ ?_ a hS
                    refine Cod.cond rfl (fun hc103 => ?_) (fun hc103 => ?_)
                    · skip
                      have hne : ¬ Form d (.mk k n s ks l) := fun h => by
                        have := (Form.iff.1 h).2.2 _ (List.getElem_mem hi)
                        simp [this] at hc103
                      refine Cod.seq fun K27 hK27 => ?_
                      refine Cod.region ?_
                      refine Ops.step (One.val rfl rfl rfl (yld_assign rfl ev_c) ?_)
                      refine Ops.nil fun a hS => ?_
                      refine hK27 _ _ ?_ a hS
                      refine Cod.ret fun a hS => ?_
                      try simp only [Exit.then, Exit.inBlock]
                      exact ret1 (t := 4) rfl hS rfl ⟨by rw [decide_eq_false hne], F5.chg⟩
                    · skip
                      have hgood : Form (d - 1) l[i] := by simpa using hc103
                      refine Cod.skip fun a hS => ?_
                      refine hK25 _ _ ?_ a hS
                      refine Cod.region ?_
                      refine Ops.step (One.val rfl rfl rfl (yld_move rfl (ev_t rfl)) ?_)
                      refine Ops.step (One.val rfl rfl rfl (yld_inc rfl (ev_t rfl) (fun _ => by omega)) ?_)
                      refine Ops.step (One.val rfl rfl rfl (yld_assign rfl (ev_t rfl)) ?_)
                      refine Ops.nil fun a hS => ?_
                      exact hK22 (i + 1) _ a (hS.sub ⟨rfl, rfl, rfl, trivial⟩) ⟨by omega, fun j h1 hji => if h : j = i then (by subst h; exact hgood) else hall j h1 (by omega), F5⟩ (by omega)
                  · skip
                    have hform : Form d (.mk k n s ks l) := Form.iff.2 ⟨hd, hnode, fun x hx => by
                      obtain ⟨j, hj, rfl⟩ := List.getElem_of_mem hx
                      exact hall j hj (by simp at hc92; omega)⟩
                    refine Cod.exit fun a hS => ?_
                    simp only [Exit.then, Exit.inBlock, ↓reduceIte]
                    refine hK20 _ _ ?_ a hS
                    refine Cod.seq fun K28 hK28 => ?_
                    refine Cod.region ?_
                    refine Ops.step (One.val rfl rfl rfl (yld_assign rfl ev_c) ?_)
                    refine Ops.nil fun a hS => ?_
                    refine hK28 _ _ ?_ a hS
                    refine Cod.ret fun a hS => ?_
                    try simp only [Exit.then, Exit.inBlock]
                    exact ret1 (t := 4) rfl hS rfl ⟨by rw [decide_eq_true hform], F4.chg⟩
              · skip
                refine Cod.seq fun K29 hK29 => ?_
                refine Cod.region ?_
                refine Ops.step (One.val rfl rfl rfl (yld_eql rfl (ev_t rfl) ev_c) ?_)
                refine Ops.step (One.val rfl rfl rfl (yld_assign rfl (ev_t rfl)) ?_)
                refine Ops.nil fun a hS => ?_
                refine hK29 _ _ ?_ a hS
                refine Cod.cond rfl (fun hc86 => ?_) (fun hc86 => ?_)
                · skip
                  have hk0 : k = 5 := by simpa using hc86
                  have hnode : NodeP k n s ks l := leafP z3 z4 z6 z5 (by omega) (by omega) (by rw [z3 (by omega)]; omega) (by rw [z4 (by omega)]; exact okS_nil)
                  refine Cod.skip fun a hS => ?_
                  refine hK5 _ _ ?_ a hS
                  refine Cod.seq fun K30 hK30 => ?_
                  refine Cod.seq fun K31 hK31 => ?_
                  refine Cod.region ?_
                  refine Ops.step (One.val rfl rfl rfl (yld_assign rfl ev_c) ?_)
                  refine Ops.nil fun a hS => ?_
                  refine hK31 _ _ ?_ a hS
                  refine Cod.block ?_
                  refine Cod.loop (fun i : Nat => [(1, true, .int .i64 d), (2, true, .pointer (some ⟨b1, 0, none⟩)), (5, true, .int .i64 (i : Int))]) (fun i w' => i ≤ l.length ∧ (∀ j (h : j < l.length), j < i → Form (d - 1) l[j]) ∧ Fr No w [blk b1 33 [.int .i64 k, .int .i64 n, .string s, .slice A3 ks.length c3, .slice A4 l.length c4]] w') (fun i => l.length - i) 0 ⟨rfl, rfl, rfl, trivial⟩ ⟨Nat.zero_le _, fun j _ h => by omega, F1⟩ ?_
                  intro i w6 hW K32 hK32
                  obtain ⟨hi, hall, F6⟩ := hW
                  refine Cod.seq fun K33 hK33 => ?_
                  refine Cod.seq fun K34 hK34 => ?_
                  refine Cod.region ?_
                  refine Ops.step (One.val rfl rfl rfl (yld_move rfl (ev_t rfl)) ?_)
                  refine Ops.step (One.val rfl rfl rfl (yld_field fi33_4 rfl (ev_t rfl)) ?_)
                  refine Ops.step (One.val rfl rfl rfl (yld_load1 on31 rfl (ev_t rfl) (fun _ => F6.cell 0 rfl rfl)) ?_)
                  refine Ops.step (One.val rfl rfl rfl (yld_len sl31 rfl (ev_t rfl)) ?_)
                  refine Ops.step (One.val rfl rfl rfl (yld_lss rfl (ev_t rfl) (ev_t rfl)) ?_)
                  refine Ops.nil fun a hS => ?_
                  refine hK34 _ _ ?_ a hS
                  refine Cod.cond rfl (fun hc92 => ?_) (fun hc92 => ?_)
                  · skip
                    have hi : i < l.length := by simpa using hc92
                    obtain ⟨b, o, cs, rfl, -, hlc, hr, ht⟩ := h4.at i hi
                    refine Cod.skip fun a hS => ?_
                    refine hK33 _ _ ?_ a hS
                    refine Cod.seq fun K35 hK35 => ?_
                    refine Cod.block ?_
                    refine Cod.seq fun K36 hK36 => ?_
                    refine Cod.region ?_
                    refine Ops.step (One.val rfl rfl rfl (yld_field fi33_4 rfl (ev_t rfl)) ?_)
                    refine Ops.step (One.val rfl rfl rfl (yld_load1 on31 rfl (ev_t rfl) (fun _ => F6.cell 0 rfl rfl)) ?_)
                    refine Ops.step (One.val rfl rfl rfl (yld_move rfl (ev_t rfl)) ?_)
                    refine Ops.step (One.val rfl rfl rfl (yld_indexN sl31 rfl (ev_t rfl) (ev_t rfl) (fun _ => by omega)) ?_)
                    refine Ops.step (One.val rfl rfl rfl (yld_loadN ag33 rfl (ev_t rfl) (fun _ => rng hr F6.chg) hlc) ?_)
                    refine Ops.step (One.val rfl rfl rfl (yld_move rfl (ev_t rfl)) ?_)
                    refine Ops.step (One.val rfl rfl rfl (yld_sub rfl (ev_t rfl) ev_c (fun _ => by omega)) ?_)
                    refine Ops.step (One.call rfl rfl rfl (ent_f rfl (evl2 (ev_t rfl) (ev_t rfl)) (enters en74)) (H _ (List.getElem_mem hi) _ _ _ (ht.chg F6.chg) (hkl _ (List.getElem_mem hi)) (by omega) (by omega)) (fun e w7 hw7 => ?_))
                    obtain ⟨rfl, C7⟩ := hw7
                    have F7 := F6.call C7
                    refine ⟨_, rfl, ?_⟩
                    refine Ops.step (One.val rfl rfl rfl (yld_not rfl (ev_t rfl)) ?_)
                    refine Ops.nil fun a hS => ?_
                    refine hK36 _ _ ?_ a hS
                    refine Cod.cond rfl (fun hc103 => ?_) (fun hc103 => ?_)
                    · skip
                      have hne : ¬ Form d (.mk k n s ks l) := fun h => by
                        have := (Form.iff.1 h).2.2 _ (List.getElem_mem hi)
                        simp [this] at hc103
                      refine Cod.seq fun K37 hK37 => ?_
                      refine Cod.region ?_
                      refine Ops.step (One.val rfl rfl rfl (yld_assign rfl ev_c) ?_)
                      refine Ops.nil fun a hS => ?_
                      refine hK37 _ _ ?_ a hS
                      refine Cod.ret fun a hS => ?_
                      try simp only [Exit.then, Exit.inBlock]
                      exact ret1 (t := 4) rfl hS rfl ⟨by rw [decide_eq_false hne], F7.chg⟩
                    · skip
                      have hgood : Form (d - 1) l[i] := by simpa using hc103
                      refine Cod.skip fun a hS => ?_
                      refine hK35 _ _ ?_ a hS
                      refine Cod.region ?_
                      refine Ops.step (One.val rfl rfl rfl (yld_move rfl (ev_t rfl)) ?_)
                      refine Ops.step (One.val rfl rfl rfl (yld_inc rfl (ev_t rfl) (fun _ => by omega)) ?_)
                      refine Ops.step (One.val rfl rfl rfl (yld_assign rfl (ev_t rfl)) ?_)
                      refine Ops.nil fun a hS => ?_
                      exact hK32 (i + 1) _ a (hS.sub ⟨rfl, rfl, rfl, trivial⟩) ⟨by omega, fun j h1 hji => if h : j = i then (by subst h; exact hgood) else hall j h1 (by omega), F7⟩ (by omega)
                  · skip
                    have hform : Form d (.mk k n s ks l) := Form.iff.2 ⟨hd, hnode, fun x hx => by
                      obtain ⟨j, hj, rfl⟩ := List.getElem_of_mem hx
                      exact hall j hj (by simp at hc92; omega)⟩
                    refine Cod.exit fun a hS => ?_
                    simp only [Exit.then, Exit.inBlock, ↓reduceIte]
                    refine hK30 _ _ ?_ a hS
                    refine Cod.seq fun K38 hK38 => ?_
                    refine Cod.region ?_
                    refine Ops.step (One.val rfl rfl rfl (yld_assign rfl ev_c) ?_)
                    refine Ops.nil fun a hS => ?_
                    refine hK38 _ _ ?_ a hS
                    refine Cod.ret fun a hS => ?_
                    try simp only [Exit.then, Exit.inBlock]
                    exact ret1 (t := 4) rfl hS rfl ⟨by rw [decide_eq_true hform], F6.chg⟩
                · skip
                  have hne : ¬ Form d (.mk k n s ks l) := fun h => by
                    obtain ⟨h1, hp, -⟩ := Form.iff.1 h
                    have h2 := hp.k0
                    have h3 := hp.k6
                    simp at hc52 hc56 hc66 hc71 hc86
                    omega
                  refine Cod.seq fun K39 hK39 => ?_
                  refine Cod.region ?_
                  refine Ops.step (One.val rfl rfl rfl (yld_assign rfl ev_c) ?_)
                  refine Ops.nil fun a hS => ?_
                  refine hK39 _ _ ?_ a hS
                  refine Cod.ret fun a hS => ?_
                  try simp only [Exit.then, Exit.inBlock]
                  exact ret1 (t := 4) rfl hS rfl ⟨by rw [decide_eq_false hne], F1.chg⟩


theorem l1Form_ct (t : Tr) : FormOk t := Tr.ind (p := FormOk) l1Form_of t
/-- What l1Many says of one tree that is well made. -/
def ManyOk (t : Tr) : Prop := ∀ (d : Int) (v : Value) (w : World), Rep Any w t v → Form d t → d ≤ 100 → t.wt ≤ 1048576 →
    Calls Tryd.prog 75 #[v, .int .i64 d] w fun e w' => e = .returned (.int .i64 (t.cnt : Int)) ∧ Chg No w w'

set_option maxRecDepth 100000 in
theorem l1Many_of (k n : Int) (s : ByteArray) (ks : List ByteArray) (l : List Tr) (H : ∀ t ∈ l, ManyOk t) : ManyOk (.mk k n s ks l) := by
  intro d v w hr hf hd1 hw
  obtain ⟨v3, v4, rfl, h3, h4⟩ := hr.open
  obtain ⟨A3, c3, rfl, hn3⟩ := h3.open
  obtain ⟨A4, c4, rfl, hn4⟩ := h4.open
  obtain ⟨hd, -, hfl⟩ := Form.iff.1 hf
  have hcw := Tr.cnt_wt (.mk k n s ks l)
  have hcm := Tr.cnt_mk k n s ks l
  rw [Tr.wt_mk] at hw
  have hcs : sumN Tr.cnt l ≤ l.length + sumN Tr.wt l := sumN_le fun x _ => x.cnt_wt
  refine enter Tryd.func75 rfl rfl rfl ?_
  have F0 := Fr.start w
  refine Cod.seq fun K1 hK1 => ?_
  refine Cod.region ?_
  refine Ops.step (One.box F0 rfl rfl rfl rfl (ev_t rfl) ?_)
  intro b1 w1 hb1 F1
  change Fr _ _ [blk _ _ [_, _, _, _, _]] _ at F1
  refine Ops.step (One.val rfl rfl rfl (yld_assign rfl ev_c) ?_)
  refine Ops.nil fun a hS => ?_
  refine hK1 _ _ ?_ a hS
  refine Cod.seq fun K2 hK2 => ?_
  refine Cod.region ?_
  refine Ops.step (One.val rfl rfl rfl (yld_assign rfl ev_c) ?_)
  refine Ops.nil fun a hS => ?_
  refine hK2 _ _ ?_ a hS
  refine Cod.seq fun K3 hK3 => ?_
  refine Cod.seq fun K4 hK4 => ?_
  refine Cod.region ?_
  refine Ops.step (One.val rfl rfl rfl (yld_assign rfl ev_c) ?_)
  refine Ops.nil fun a hS => ?_
  refine hK4 _ _ ?_ a hS
  refine Cod.block ?_
  refine Cod.loop (fun i : Nat => [(1, true, .int .i64 d), (2, true, .pointer (some ⟨b1, 0, none⟩)), (5, true, .int .i64 (1 + sumN Tr.cnt (l.take i) : Nat)), (6, true, .int .i64 (i : Int))]) (fun i w' => i ≤ l.length ∧ Fr No w [blk b1 33 [.int .i64 k, .int .i64 n, .string s, .slice A3 ks.length c3, .slice A4 l.length c4]] w') (fun i => l.length - i) 0 ⟨rfl, rfl, rfl, rfl, trivial⟩ ⟨Nat.zero_le _, F1⟩ ?_
  intro i w2 hW K5 hK5
  obtain ⟨hi, F2⟩ := hW
  refine Cod.seq fun K6 hK6 => ?_
  refine Cod.seq fun K7 hK7 => ?_
  refine Cod.region ?_
  refine Ops.step (One.val rfl rfl rfl (yld_move rfl (ev_t rfl)) ?_)
  refine Ops.step (One.val rfl rfl rfl (yld_field fi33_4 rfl (ev_t rfl)) ?_)
  refine Ops.step (One.val rfl rfl rfl (yld_load1 on31 rfl (ev_t rfl) (fun _ => F2.cell 0 rfl rfl)) ?_)
  refine Ops.step (One.val rfl rfl rfl (yld_len sl31 rfl (ev_t rfl)) ?_)
  refine Ops.step (One.val rfl rfl rfl (yld_lss rfl (ev_t rfl) (ev_t rfl)) ?_)
  refine Ops.step (One.val rfl rfl rfl (yld_move rfl (ev_t rfl)) ?_)
  refine Ops.step (One.val (gd_some rfl rfl) rfl rfl (yld_move rfl (ev_t rfl)) ?_)
  refine Ops.step (One.val (gd_some rfl rfl) rfl rfl (yld_gtr rfl (ev_g rfl) ev_c) ?_)
  refine Ops.step (One.val rfl rfl rfl (yld_and rfl (ev_t rfl) (ev_g rfl)) ?_)
  refine Ops.nil fun a hS => ?_
  refine hK7 _ _ ?_ a hS
  refine Cod.cond rfl (fun hc15 => ?_) (fun hc15 => ?_)
  · skip
    have hi : i < l.length := by simp at hc15; omega
    obtain ⟨b, o, cs, rfl, -, hlc, hr, ht⟩ := h4.at i hi
    have hst := sumN_take Tr.cnt l i hi
    have hsl := sumN_take_le Tr.cnt l (i + 1)
    have hwi := sumN_mem Tr.wt (List.getElem_mem hi)
    refine Cod.skip fun a hS => ?_
    refine hK6 _ _ ?_ a hS
    refine Cod.seq fun K8 hK8 => ?_
    refine Cod.block ?_
    refine Cod.region ?_
    refine Ops.step (One.val rfl rfl rfl (yld_move rfl (ev_t rfl)) ?_)
    refine Ops.step (One.val rfl rfl rfl (yld_field fi33_4 rfl (ev_t rfl)) ?_)
    refine Ops.step (One.val rfl rfl rfl (yld_load1 on31 rfl (ev_t rfl) (fun _ => F2.cell 0 rfl rfl)) ?_)
    refine Ops.step (One.val rfl rfl rfl (yld_move rfl (ev_t rfl)) ?_)
    refine Ops.step (One.val rfl rfl rfl (yld_indexN sl31 rfl (ev_t rfl) (ev_t rfl) (fun _ => by omega)) ?_)
    refine Ops.step (One.val rfl rfl rfl (yld_loadN ag33 rfl (ev_t rfl) (fun _ => rng hr F2.chg) hlc) ?_)
    refine Ops.step (One.val rfl rfl rfl (yld_move rfl (ev_t rfl)) ?_)
    refine Ops.step (One.val rfl rfl rfl (yld_sub rfl (ev_t rfl) ev_c (fun _ => by omega)) ?_)
    refine Ops.step (One.call rfl rfl rfl (ent_f rfl (evl2 (ev_t rfl) (ev_t rfl)) (enters en75)) (H _ (List.getElem_mem hi) _ _ _ (ht.chg F2.chg) (hfl _ (List.getElem_mem hi)) (by omega) (by omega)) (fun e w3 hw3 => ?_))
    obtain ⟨rfl, C3⟩ := hw3
    have F3 := F2.call C3
    refine ⟨_, rfl, ?_⟩
    refine Ops.step (One.val rfl rfl rfl (yld_add rfl (ev_t rfl) (ev_t rfl) (fun _ => by omega)) ?_)
    refine Ops.step (One.val rfl rfl rfl (yld_assign rfl (ev_t rfl)) ?_)
    refine Ops.nil fun a hS => ?_
    refine hK8 _ _ ?_ a hS
    refine Cod.region ?_
    refine Ops.step (One.val rfl rfl rfl (yld_move rfl (ev_t rfl)) ?_)
    refine Ops.step (One.val rfl rfl rfl (yld_inc rfl (ev_t rfl) (fun _ => by omega)) ?_)
    refine Ops.step (One.val rfl rfl rfl (yld_assign rfl (ev_t rfl)) ?_)
    refine Ops.nil fun a hS => ?_
    rw [show ((1 + sumN Tr.cnt (l.take i) : Nat) : Int) + (Tr.cnt l[i] : Int) = ((1 + sumN Tr.cnt (l.take (i + 1)) : Nat) : Int) by omega] at hS
    exact hK5 (i + 1) _ a (hS.sub ⟨rfl, rfl, rfl, rfl, trivial⟩) ⟨by omega, F3⟩ (by omega)
  · skip
    have hend : i = l.length := by simp at hc15; omega
    subst hend
    rw [List.take_length]
    refine Cod.exit fun a hS => ?_
    simp only [Exit.then, Exit.inBlock, ↓reduceIte]
    refine hK3 _ _ ?_ a hS
    refine Cod.seq fun K9 hK9 => ?_
    refine Cod.region ?_
    refine Ops.step (One.val rfl rfl rfl (yld_move rfl (ev_t rfl)) ?_)
    refine Ops.step (One.val rfl rfl rfl (yld_assign rfl (ev_t rfl)) ?_)
    refine Ops.nil fun a hS => ?_
    refine hK9 _ _ ?_ a hS
    refine Cod.ret fun a hS => ?_
    try simp only [Exit.then, Exit.inBlock]
    exact ret1 (t := 4) rfl hS rfl ⟨ret_i (by rw [hcm]), F2.chg⟩


theorem l1Many_ct (t : Tr) : ManyOk t := Tr.ind (p := ManyOk) l1Many_of t

set_option maxRecDepth 100000 in
theorem specOk_ct (t : Tr) (v : Value) (w : World) (hr : Rep Any w t v) (hf : t.Fit) (hw : t.wt ≤ 1048576) :
    Calls Tryd.prog 37 #[v] w fun e w' => e = .returned (.bool (decide (Form 6 t) && decide ((t.cnt : Int) ≤ 60))) ∧ Chg No w w' := by
  obtain ⟨v3, v4, ev, -, -⟩ := hr.form
  subst ev
  refine enter Tryd.func37 rfl rfl rfl ?_
  have F0 := Fr.start w
  refine Cod.seq fun K1 hK1 => ?_
  refine Cod.region ?_
  refine Ops.step (One.box F0 rfl rfl rfl rfl (ev_t rfl) ?_)
  intro b1 w1 hb1 F1
  change Fr _ _ [blk _ _ [_, _, _, _, _]] _ at F1
  refine Ops.step (One.val rfl rfl rfl (yld_assign rfl ev_c) ?_)
  refine Ops.nil fun a hS => ?_
  refine hK1 _ _ ?_ a hS
  refine Cod.seq fun K2 hK2 => ?_
  refine Cod.region ?_
  refine Ops.step (One.val rfl rfl rfl (yld_loadN ag33 rfl (ev_t rfl) (fun _ => F1.range (m := 5) (cs' := [_, _, _, _, _]) 0 rfl rfl) rfl) ?_)
  refine Ops.step (One.call rfl rfl rfl (ent_f rfl (evl2 (ev_t rfl) ev_c) (enters en74)) (l1Form_ct t _ _ _ (hr.chg F1.chg) hf (by omega) (by omega)) (fun e w2 hw2 => ?_))
  obtain ⟨rfl, C2⟩ := hw2
  have F2 := F1.call C2
  refine ⟨_, rfl, ?_⟩
  refine Ops.step (One.val rfl rfl rfl (yld_move rfl (ev_t rfl)) ?_)
  refine Ops.step (One.val (gd_some rfl rfl) rfl rfl (yld_loadN ag33 rfl (ev_t rfl) (fun _ => F2.range (m := 5) (cs' := [_, _, _, _, _]) 0 rfl rfl) rfl) ?_)
  refine Ops.step (One.gcall (R := Chg No w2) (gd_some rfl rfl) rfl rfl (ent_f rfl (evl2 (ev_g rfl) ev_c) (enters en75)) (Chg.refl _ _) (fun hg => l1Many_ct t _ _ _ (hr.chg F2.chg) (by simpa [gof] using hg) (by omega) hw) ?_)
  intro w3 C3
  have F3 := F2.call C3
  refine Ops.step (One.val (gd_some rfl rfl) rfl rfl (yld_leq rfl (ev_g rfl) ev_c) ?_)
  refine Ops.step (One.val rfl rfl rfl (yld_and rfl (ev_t rfl) (ev_g rfl)) ?_)
  refine Ops.step (One.val rfl rfl rfl (yld_assign rfl (ev_t rfl)) ?_)
  refine Ops.nil fun a hS => ?_
  refine hK2 _ _ ?_ a hS
  refine Cod.ret fun a hS => ?_
  try simp only [Exit.then, Exit.inBlock]
  exact ret1 (t := 2) rfl hS rfl ⟨rfl, F3.chg⟩


/-- What (Val).ok says of one tree: the count that is left lies in a block of its own. -/
def ImplOk (t : Tr) : Prop := ∀ (deep left : Int) (v : Value) (w : World) (b : Nat) (ty : TypeId), Rep (fun k => k ≠ b) w t v → (blk b ty [.int .i64 left]).is w → t.Fit → 0 ≤ deep → deep ≤ 7 → 0 ≤ left → left ≤ 1000 →
    Calls Tryd.prog 73 #[v, .int .i64 deep, .pointer (some ⟨b, 0, none⟩)] w fun e w' => ∃ (ok : Bool) (lf : Int), e = .returned (.bool ok) ∧ Chg (· = b) w w' ∧ (blk b ty [.int .i64 lf]).is w' ∧ (ok = true ↔ Form (7 - deep) t ∧ (t.cnt : Int) ≤ left) ∧ (ok = true → lf = left - t.cnt)
theorem ok_no {p : Prop} (h : ¬ p) : (false = true ↔ p) := ⟨(fun h => by cases h), fun h' => absurd h' h⟩

set_option maxRecDepth 100000 in
theorem implOk_of (k n : Int) (s : ByteArray) (ks : List ByteArray) (l : List Tr) (H : ∀ t ∈ l, ImplOk t) : ImplOk (.mk k n s ks l) := by
  intro deep left v w bb tyb hr hbb hf hd0 hd1 hl0 hl1
  obtain ⟨v3, v4, rfl, h3, h4⟩ := hr.open
  obtain ⟨A3, c3, rfl, hn3⟩ := h3.open
  obtain ⟨A4, c4, rfl, hn4⟩ := h4.open
  have hcm := Tr.cnt_mk k n s ks l
  cases hf with
  | mk hs hks hkl =>
  refine enter Tryd.func73 rfl rfl rfl ?_
  have F0 := Fr.borrow hbb
  refine Cod.seq fun K1 hK1 => ?_
  refine Cod.region ?_
  refine Ops.step (One.box F0 rfl rfl rfl rfl (ev_t rfl) ?_)
  intro b1 w1 hb1 F1
  change Fr _ _ [blk _ _ [_, _, _, _, _], blk _ _ [_]] _ at F1
  refine Ops.step (One.val rfl rfl rfl (yld_assign rfl ev_c) ?_)
  refine Ops.nil fun a hS => ?_
  refine hK1 _ _ ?_ a hS
  refine Cod.seq fun K2 hK2 => ?_
  refine Cod.region ?_
  refine Ops.step (One.val rfl rfl rfl (yld_move rfl (ev_t rfl)) ?_)
  refine Ops.step (One.val rfl rfl rfl (yld_nilCheck rfl (ev_t rfl)) ?_)
  refine Ops.step (One.val rfl rfl rfl (yld_load1 on3 rfl (ev_t rfl) (fun _ => F1.cell 1 rfl rfl)) ?_)
  refine Ops.step (One.val rfl rfl rfl (yld_sub rfl (ev_t rfl) ev_c (fun _ => by omega)) ?_)
  refine Ops.step (One.val rfl rfl rfl (yld_nilCheck rfl (ev_t rfl)) ?_)
  refine Ops.step (One.store1 F1 1 rfl sz3 rfl rfl rfl (ev_t rfl) rfl (ev_t rfl) rfl ?_)
  intro w2 F2
  change Fr _ _ [blk _ _ [_, _, _, _, _], blk _ _ [_]] _ at F2
  refine Ops.nil fun a hS => ?_
  refine hK2 _ _ ?_ a hS
  refine Cod.seq fun K3 hK3 => ?_
  refine Cod.seq fun K4 hK4 => ?_
  refine Cod.region ?_
  refine Ops.step (One.val rfl rfl rfl (yld_move rfl (ev_t rfl)) ?_)
  refine Ops.step (One.val rfl rfl rfl (yld_nilCheck rfl (ev_t rfl)) ?_)
  refine Ops.step (One.val rfl rfl rfl (yld_load1 on3 rfl (ev_t rfl) (fun _ => F2.cell 1 rfl rfl)) ?_)
  refine Ops.step (One.val rfl rfl rfl (yld_lss rfl (ev_t rfl) ev_c) ?_)
  refine Ops.step (One.val rfl rfl rfl (yld_move rfl (ev_t rfl)) ?_)
  refine Ops.step (One.val (gd_some rfl rfl) rfl rfl (yld_move rfl (ev_t rfl)) ?_)
  refine Ops.step (One.val (gd_some rfl rfl) rfl rfl (yld_gtr rfl (ev_g rfl) ev_c) ?_)
  refine Ops.step (One.val rfl rfl rfl (yld_or rfl (ev_t rfl) (ev_g rfl)) ?_)
  refine Ops.nil fun a hS => ?_
  refine hK4 _ _ ?_ a hS
  refine Cod.cond rfl (fun hc23 => ?_) (fun hc23 => ?_)
  · skip
    have hne : ¬ (Form (7 - deep) (.mk k n s ks l) ∧ ((Tr.mk k n s ks l).cnt : Int) ≤ left) := fun ⟨h1, h2⟩ => by
      have := (Form.iff.1 h1).1
      simp at hc23
      omega
    refine Cod.seq fun K5 hK5 => ?_
    refine Cod.region ?_
    refine Ops.step (One.val rfl rfl rfl (yld_assign rfl ev_c) ?_)
    refine Ops.nil fun a hS => ?_
    refine hK5 _ _ ?_ a hS
    refine Cod.ret fun a hS => ?_
    try simp only [Exit.then, Exit.inBlock]
    exact ret1 (t := 6) rfl hS rfl ⟨_, _, rfl, F2.chg, F2.get 1 rfl, ok_no hne, fun h => by cases h⟩
  · skip
    have hdl : 1 ≤ left ∧ deep ≤ 6 := by simp at hc23; omega
    refine Cod.skip fun a hS => ?_
    refine hK3 _ _ ?_ a hS
    refine Cod.seq fun K6 hK6 => ?_
    refine Cod.seq fun K7 hK7 => ?_
    refine Cod.region ?_
    refine Ops.step (One.val rfl rfl rfl (yld_field fi33_0 rfl (ev_t rfl)) ?_)
    refine Ops.step (One.val rfl rfl rfl (yld_load1 on3 rfl (ev_t rfl) (fun _ => F2.cell 0 rfl rfl)) ?_)
    refine Ops.step (One.val rfl rfl rfl (yld_neq rfl (ev_t rfl) ev_c) ?_)
    refine Ops.step (One.val rfl rfl rfl (yld_move rfl (ev_t rfl)) ?_)
    refine Ops.step (One.val (gd_some rfl rfl) rfl rfl (yld_field fi33_1 rfl (ev_t rfl)) ?_)
    refine Ops.step (One.val (gd_some rfl rfl) rfl rfl (yld_load1 on3 rfl (ev_g rfl) (fun _ => F2.cell 0 rfl rfl)) ?_)
    refine Ops.step (One.val (gd_some rfl rfl) rfl rfl (yld_neq rfl (ev_g rfl) ev_c) ?_)
    refine Ops.step (One.val rfl rfl rfl (yld_and rfl (ev_t rfl) (ev_g rfl)) ?_)
    refine Ops.step (One.val rfl rfl rfl (yld_move rfl (ev_t rfl)) ?_)
    refine Ops.step (One.val (gd_some rfl rfl) rfl rfl (yld_field fi33_0 rfl (ev_t rfl)) ?_)
    refine Ops.step (One.val (gd_some rfl rfl) rfl rfl (yld_load1 on3 rfl (ev_g rfl) (fun _ => F2.cell 0 rfl rfl)) ?_)
    refine Ops.step (One.val (gd_some rfl rfl) rfl rfl (yld_neq rfl (ev_g rfl) ev_c) ?_)
    refine Ops.step (One.val (gd_some rfl rfl) rfl rfl (yld_move rfl (ev_g rfl)) ?_)
    refine Ops.step (One.val (gd_some rfl rfl) rfl rfl (yld_field fi33_2 rfl (ev_t rfl)) ?_)
    refine Ops.step (One.val (gd_some rfl rfl) rfl rfl (yld_load1 on9 rfl (ev_g rfl) (fun _ => F2.cell 0 rfl rfl)) ?_)
    refine Ops.step (One.val (gd_some rfl rfl) rfl rfl (yld_sneq rfl (ev_g rfl) ev_c) ?_)
    refine Ops.step (One.val (gd_some rfl rfl) rfl rfl (yld_and rfl (ev_g rfl) (ev_g rfl)) ?_)
    refine Ops.step (One.val rfl rfl rfl (yld_or rfl (ev_t rfl) (ev_g rfl)) ?_)
    refine Ops.step (One.val rfl rfl rfl (yld_move rfl (ev_t rfl)) ?_)
    refine Ops.step (One.val (gd_some rfl rfl) rfl rfl (yld_field fi33_0 rfl (ev_t rfl)) ?_)
    refine Ops.step (One.val (gd_some rfl rfl) rfl rfl (yld_load1 on3 rfl (ev_g rfl) (fun _ => F2.cell 0 rfl rfl)) ?_)
    refine Ops.step (One.val (gd_some rfl rfl) rfl rfl (yld_neq rfl (ev_g rfl) ev_c) ?_)
    refine Ops.step (One.val (gd_some rfl rfl) rfl rfl (yld_move rfl (ev_g rfl)) ?_)
    refine Ops.step (One.val (gd_some rfl rfl) rfl rfl (yld_field fi33_3 rfl (ev_t rfl)) ?_)
    refine Ops.step (One.val (gd_some rfl rfl) rfl rfl (yld_load1 on22 rfl (ev_g rfl) (fun _ => F2.cell 0 rfl rfl)) ?_)
    refine Ops.step (One.val (gd_some rfl rfl) rfl rfl (yld_len sl22 rfl (ev_g rfl)) ?_)
    refine Ops.step (One.val (gd_some rfl rfl) rfl rfl (yld_gtr rfl (ev_g rfl) ev_c) ?_)
    refine Ops.step (One.val (gd_some rfl rfl) rfl rfl (yld_and rfl (ev_g rfl) (ev_g rfl)) ?_)
    refine Ops.step (One.val rfl rfl rfl (yld_or rfl (ev_t rfl) (ev_g rfl)) ?_)
    refine Ops.step (One.val rfl rfl rfl (yld_move rfl (ev_t rfl)) ?_)
    refine Ops.step (One.val (gd_some rfl rfl) rfl rfl (yld_field fi33_0 rfl (ev_t rfl)) ?_)
    refine Ops.step (One.val (gd_some rfl rfl) rfl rfl (yld_load1 on3 rfl (ev_g rfl) (fun _ => F2.cell 0 rfl rfl)) ?_)
    refine Ops.step (One.val (gd_some rfl rfl) rfl rfl (yld_lss rfl (ev_g rfl) ev_c) ?_)
    refine Ops.step (One.val (gd_some rfl rfl) rfl rfl (yld_move rfl (ev_g rfl)) ?_)
    refine Ops.step (One.val (gd_some rfl rfl) rfl rfl (yld_field fi33_4 rfl (ev_t rfl)) ?_)
    refine Ops.step (One.val (gd_some rfl rfl) rfl rfl (yld_load1 on31 rfl (ev_g rfl) (fun _ => F2.cell 0 rfl rfl)) ?_)
    refine Ops.step (One.val (gd_some rfl rfl) rfl rfl (yld_len sl31 rfl (ev_g rfl)) ?_)
    refine Ops.step (One.val (gd_some rfl rfl) rfl rfl (yld_gtr rfl (ev_g rfl) ev_c) ?_)
    refine Ops.step (One.val (gd_some rfl rfl) rfl rfl (yld_and rfl (ev_g rfl) (ev_g rfl)) ?_)
    refine Ops.step (One.val rfl rfl rfl (yld_or rfl (ev_t rfl) (ev_g rfl)) ?_)
    refine Ops.nil fun a hS => ?_
    refine hK7 _ _ ?_ a hS
    refine Cod.cond rfl (fun hc63 => ?_) (fun hc63 => ?_)
    · skip
      have hne : ¬ (Form (7 - deep) (.mk k n s ks l) ∧ ((Tr.mk k n s ks l).cnt : Int) ≤ left) := fun ⟨h1, h2⟩ => by
        obtain ⟨-, hp, -⟩ := Form.iff.1 h1
        rw [shape.2 ⟨hp.z3, hp.z4, hp.z6, hp.z5⟩] at hc63
        cases hc63
      refine Cod.seq fun K8 hK8 => ?_
      refine Cod.region ?_
      refine Ops.step (One.val rfl rfl rfl (yld_assign rfl ev_c) ?_)
      refine Ops.nil fun a hS => ?_
      refine hK8 _ _ ?_ a hS
      refine Cod.ret fun a hS => ?_
      try simp only [Exit.then, Exit.inBlock]
      exact ret1 (t := 6) rfl hS rfl ⟨_, _, rfl, F2.chg, F2.get 1 rfl, ok_no hne, fun h => by cases h⟩
    · skip
      obtain ⟨z3, z4, z6, z5⟩ := shape.1 hc63
      refine Cod.skip fun a hS => ?_
      refine hK6 _ _ ?_ a hS
      refine Cod.seq fun K9 hK9 => ?_
      refine Cod.seq fun K10 hK10 => ?_
      refine Cod.region ?_
      refine Ops.step (One.val rfl rfl rfl (yld_field fi33_0 rfl (ev_t rfl)) ?_)
      refine Ops.step (One.val rfl rfl rfl (yld_load1 on3 rfl (ev_t rfl) (fun _ => F2.cell 0 rfl rfl)) ?_)
      refine Ops.step (One.call rfl rfl rfl (ent_f rfl (evl3 (ev_t rfl) ev_c ev_c) (enters en70)) (within_ct k 0 6 _) (fun e w3 hw3 => ?_))
      obtain ⟨rfl, C3⟩ := hw3
      have F3 := F2.call C3
      refine ⟨_, rfl, ?_⟩
      refine Ops.step (One.val rfl rfl rfl (yld_not rfl (ev_t rfl)) ?_)
      refine Ops.step (One.val rfl rfl rfl (yld_move rfl (ev_t rfl)) ?_)
      refine Ops.step (One.val (gd_some rfl rfl) rfl rfl (yld_field fi33_1 rfl (ev_t rfl)) ?_)
      refine Ops.step (One.val (gd_some rfl rfl) rfl rfl (yld_load1 on3 rfl (ev_g rfl) (fun _ => F3.cell 0 rfl rfl)) ?_)
      refine Ops.step (One.gcall (R := Chg No w3) (gd_some rfl rfl) rfl rfl (ent_f rfl (evl3 (ev_g rfl) ev_c ev_c) (enters en70)) (Chg.refl _ _) (fun hg => within_ct n (-1000000) 1000000 _) ?_)
      intro w4 C4
      have F4 := F3.call C4
      refine Ops.step (One.val (gd_some rfl rfl) rfl rfl (yld_not rfl (ev_g rfl)) ?_)
      refine Ops.step (One.val rfl rfl rfl (yld_or rfl (ev_t rfl) (ev_g rfl)) ?_)
      refine Ops.step (One.val rfl rfl rfl (yld_move rfl (ev_t rfl)) ?_)
      refine Ops.step (One.val (gd_some rfl rfl) rfl rfl (yld_field fi33_2 rfl (ev_t rfl)) ?_)
      refine Ops.step (One.val (gd_some rfl rfl) rfl rfl (yld_load1 on9 rfl (ev_g rfl) (fun _ => F4.cell 0 rfl rfl)) ?_)
      refine Ops.step (One.gcall (R := Chg No w4) (gd_some rfl rfl) rfl rfl (ent_f rfl (evl1 (ev_g rfl)) (enters en69)) (Chg.refl _ _) (fun hg => textOk_ct s _ hs) ?_)
      intro w5 C5
      have F5 := F4.call C5
      refine Ops.step (One.val (gd_some rfl rfl) rfl rfl (yld_not rfl (ev_g rfl)) ?_)
      refine Ops.step (One.val rfl rfl rfl (yld_or rfl (ev_t rfl) (ev_g rfl)) ?_)
      refine Ops.step (One.val rfl rfl rfl (yld_move rfl (ev_t rfl)) ?_)
      refine Ops.step (One.val (gd_some rfl rfl) rfl rfl (yld_field fi33_0 rfl (ev_t rfl)) ?_)
      refine Ops.step (One.val (gd_some rfl rfl) rfl rfl (yld_load1 on3 rfl (ev_g rfl) (fun _ => F5.cell 0 rfl rfl)) ?_)
      refine Ops.step (One.val (gd_some rfl rfl) rfl rfl (yld_eql rfl (ev_g rfl) ev_c) ?_)
      refine Ops.step (One.val (gd_some rfl rfl) rfl rfl (yld_move rfl (ev_g rfl)) ?_)
      refine Ops.step (One.val (gd_some rfl rfl) rfl rfl (yld_field fi33_3 rfl (ev_t rfl)) ?_)
      refine Ops.step (One.val (gd_some rfl rfl) rfl rfl (yld_load1 on22 rfl (ev_g rfl) (fun _ => F5.cell 0 rfl rfl)) ?_)
      refine Ops.step (One.val (gd_some rfl rfl) rfl rfl (yld_len sl22 rfl (ev_g rfl)) ?_)
      refine Ops.step (One.val (gd_some rfl rfl) rfl rfl (yld_field fi33_4 rfl (ev_t rfl)) ?_)
      refine Ops.step (One.val (gd_some rfl rfl) rfl rfl (yld_load1 on31 rfl (ev_g rfl) (fun _ => F5.cell 0 rfl rfl)) ?_)
      refine Ops.step (One.val (gd_some rfl rfl) rfl rfl (yld_len sl31 rfl (ev_g rfl)) ?_)
      refine Ops.step (One.val (gd_some rfl rfl) rfl rfl (yld_neq rfl (ev_g rfl) (ev_g rfl)) ?_)
      refine Ops.step (One.val (gd_some rfl rfl) rfl rfl (yld_and rfl (ev_g rfl) (ev_g rfl)) ?_)
      refine Ops.step (One.val rfl rfl rfl (yld_or rfl (ev_t rfl) (ev_g rfl)) ?_)
      refine Ops.nil fun a hS => ?_
      refine hK10 _ _ ?_ a hS
      refine Cod.cond rfl (fun hc93 => ?_) (fun hc93 => ?_)
      · skip
        have hne : ¬ (Form (7 - deep) (.mk k n s ks l) ∧ ((Tr.mk k n s ks l).cnt : Int) ≤ left) := fun ⟨h1, h2⟩ => by
          obtain ⟨-, hp, -⟩ := Form.iff.1 h1
          have q1 := hp.k0
          have q2 := hp.k6
          have q3 := hp.n0
          have q4 := hp.n1
          have q5 := hp.ok
          have q6 := hp.len
          simp [q1, q2, q3, q4, q5] at hc93
          have := q6 hc93.1
          omega
        refine Cod.seq fun K11 hK11 => ?_
        refine Cod.region ?_
        refine Ops.step (One.val rfl rfl rfl (yld_assign rfl ev_c) ?_)
        refine Ops.nil fun a hS => ?_
        refine hK11 _ _ ?_ a hS
        refine Cod.ret fun a hS => ?_
        try simp only [Exit.then, Exit.inBlock]
        exact ret1 (t := 6) rfl hS rfl ⟨_, _, rfl, F5.chg, F5.get 1 rfl, ok_no hne, fun h => by cases h⟩
      · skip
        have hnd : 0 ≤ k ∧ k ≤ 6 ∧ -1000000 ≤ n ∧ n ≤ 1000000 ∧ okS s = true ∧ (k = 6 → ks.length = l.length) := by
          simp at hc93
          obtain ⟨⟨⟨⟨q1, q2⟩, q3, q4⟩, q5⟩, q6⟩ := hc93
          exact ⟨q1, q2, q3, q4, q5, fun h => by have := q6 h; omega⟩
        refine Cod.skip fun a hS => ?_
        refine hK9 _ _ ?_ a hS
        refine Cod.seq fun K12 hK12 => ?_
        refine Cod.seq fun K13 hK13 => ?_
        refine Cod.region ?_
        refine Ops.step (One.val rfl rfl rfl (yld_field fi33_3 rfl (ev_t rfl)) ?_)
        refine Ops.step (One.val rfl rfl rfl (yld_load1 on22 rfl (ev_t rfl) (fun _ => F5.cell 0 rfl rfl)) ?_)
        refine Ops.step (One.val rfl rfl rfl (yld_len sl22 rfl (ev_t rfl)) ?_)
        refine Ops.step (One.val rfl rfl rfl (yld_move rfl ev_c) ?_)
        refine Ops.nil fun a hS => ?_
        refine hK13 _ _ ?_ a hS
        refine Cod.block ?_
        refine Cod.loop (fun i : Nat => [(1, true, .int .i64 deep), (2, true, .pointer (some ⟨bb, 0, none⟩)), (3, true, .pointer (some ⟨b1, 0, none⟩)), (95, true, .slice A3 ks.length c3), (96, true, .int .i64 (ks.length : Int)), (97, true, .int .i64 (i : Int))]) (fun i w' => i ≤ ks.length ∧ (∀ j, j < i → okS (nth ks j) = true ∧ (0 < j → ltS (nth ks (j - 1)) (nth ks j) = true)) ∧ Fr (· = bb) w [blk b1 33 [.int .i64 k, .int .i64 n, .string s, .slice A3 ks.length c3, .slice A4 l.length c4], blk bb tyb [.int .i64 (left - 1)]] w') (fun i => ks.length - i) 0 ⟨rfl, rfl, rfl, rfl, rfl, rfl, trivial⟩ ⟨Nat.zero_le _, fun j h => by omega, F5⟩ ?_
        intro i w6 hW K14 hK14
        obtain ⟨hi, hall, F6⟩ := hW
        refine Cod.seq fun K15 hK15 => ?_
        refine Cod.region ?_
        refine Ops.step (One.val rfl rfl rfl (yld_lss rfl (ev_t rfl) (ev_t rfl)) ?_)
        refine Ops.nil fun a hS => ?_
        refine hK15 _ _ ?_ a hS
        refine Cod.seq fun K16 hK16 => ?_
        refine Cod.cond rfl (fun hc98 => ?_) (fun hc98 => ?_)
        · skip
          have hi : i < ks.length := by simpa using hc98
          obtain ⟨b, o, rfl, hF, hr⟩ := h3.at i hi
          refine Cod.skip fun a hS => ?_
          refine hK16 _ _ ?_ a hS
          refine Cod.seq fun K17 hK17 => ?_
          refine Cod.block ?_
          refine Cod.seq fun K18 hK18 => ?_
          refine Cod.region ?_
          refine Ops.step (One.val rfl rfl rfl (yld_move rfl (ev_t rfl)) ?_)
          refine Ops.step (One.val rfl rfl rfl (yld_indexN sl22 rfl (ev_t rfl) (ev_t rfl) (fun _ => by omega)) ?_)
          refine Ops.step (One.val rfl rfl rfl (yld_load1 on9 rfl (ev_t rfl) (fun _ => rangeAt_cell (rng_chg hr F6.chg hF) (j := 0) rfl)) ?_)
          refine Ops.step (One.val rfl rfl rfl (yld_assign rfl (ev_t rfl)) ?_)
          refine Ops.step (One.val rfl rfl rfl (yld_assign rfl (ev_t rfl)) ?_)
          refine Ops.nil fun a hS => ?_
          refine hK18 _ _ ?_ a hS
          refine Cod.seq fun K19 hK19 => ?_
          refine Cod.region ?_
          refine Ops.step (One.val rfl rfl rfl (yld_move rfl (ev_t rfl)) ?_)
          refine Ops.step (One.call rfl rfl rfl (ent_f rfl (evl1 (ev_t rfl)) (enters en69)) (textOk_ct _ _ (hks _ (List.getElem_mem hi))) (fun e w7 hw7 => ?_))
          obtain ⟨rfl, C7⟩ := hw7
          have F7 := F6.call C7
          refine ⟨_, rfl, ?_⟩
          refine Ops.step (One.val rfl rfl rfl (yld_not rfl (ev_t rfl)) ?_)
          refine Ops.step (One.val rfl rfl rfl (yld_move rfl (ev_t rfl)) ?_)
          refine Ops.step (One.val (gd_some rfl rfl) rfl rfl (yld_move rfl (ev_t rfl)) ?_)
          refine Ops.step (One.val (gd_some rfl rfl) rfl rfl (yld_gtr rfl (ev_g rfl) ev_c) ?_)
          refine Ops.step (One.val (gd_some rfl rfl) rfl rfl (yld_move rfl (ev_g rfl)) ?_)
          refine Ops.step (One.val (gd_some rfl rfl) rfl rfl (yld_field fi33_3 rfl (ev_t rfl)) ?_)
          refine Ops.step (One.val (gd_some rfl rfl) rfl rfl (yld_load1 on22 rfl (ev_g rfl) (fun _ => F7.cell 0 rfl rfl)) ?_)
          refine Ops.step (One.val (gd_some rfl rfl) rfl rfl (yld_move rfl (ev_t rfl)) ?_)
          refine Ops.step (One.val (gd_some rfl rfl) rfl rfl (yld_sub rfl (ev_g rfl) ev_c (fun _ => by omega)) ?_)
          refine Ops.step (One.val (gd_some rfl rfl) rfl rfl (yld_index sl22 rfl (ev_g rfl) (ev_g rfl) (fun hg => by simp [gof] at hg; omega)) ?_)
          refine Ops.step (One.val (gd_some rfl rfl) rfl rfl (yld_load1 on9 rfl (ev_g rfl) (fun hg => prev_cell (h3.keep fun k hk hF => F7.chg.block k hk hF) hi (by simp [gof] at hg; omega) rfl)) ?_)
          refine Ops.step (One.val (gd_some rfl rfl) rfl rfl (yld_move rfl (ev_t rfl)) ?_)
          refine Ops.step (One.val (gd_some rfl rfl) rfl rfl (yld_sgeq rfl (ev_g rfl) (ev_g rfl)) ?_)
          refine Ops.step (One.val (gd_some rfl rfl) rfl rfl (yld_and rfl (ev_g rfl) (ev_g rfl)) ?_)
          refine Ops.step (One.val rfl rfl rfl (yld_or rfl (ev_t rfl) (ev_g rfl)) ?_)
          refine Ops.nil fun a hS => ?_
          refine hK19 _ _ ?_ a hS
          refine Cod.cond rfl (fun hc118 => ?_) (fun hc118 => ?_)
          · skip
            have hne : ¬ (Form (7 - deep) (.mk k n s ks l) ∧ ((Tr.mk k n s ks l).cnt : Int) ≤ left) := fun ⟨h1, h2⟩ => by
              obtain ⟨-, hp, -⟩ := Form.iff.1 h1
              obtain ⟨h1, h2⟩ := hp.keys i hi
              rw [nth_eq hi] at h1 h2
              unfold ltS at h2
              by_cases h0 : 0 < i
              · simp [h1, h2 h0] at hc118
              · simp [h1] at hc118; omega
            refine Cod.seq fun K20 hK20 => ?_
            refine Cod.region ?_
            refine Ops.step (One.val rfl rfl rfl (yld_assign rfl ev_c) ?_)
            refine Ops.nil fun a hS => ?_
            refine hK20 _ _ ?_ a hS
            refine Cod.ret fun a hS => ?_
            try simp only [Exit.then, Exit.inBlock]
            exact ret1 (t := 6) rfl hS rfl ⟨_, _, rfl, F7.chg, F7.get 1 rfl, ok_no hne, fun h => by cases h⟩
          · skip
            have hgood : okS (nth ks i) = true ∧ (0 < i → ltS (nth ks (i - 1)) (nth ks i) = true) := by
              rw [nth_eq hi]
              unfold ltS
              simp at hc118
              exact ⟨hc118.1, fun h0 => hc118.2 h0⟩
            refine Cod.skip fun a hS => ?_
            refine hK17 _ _ ?_ a hS
            refine Cod.region ?_
            refine Ops.step (One.val rfl rfl rfl (yld_inc rfl (ev_t rfl) (fun _ => by omega)) ?_)
            refine Ops.step (One.val rfl rfl rfl (yld_move rfl (ev_t rfl)) ?_)
            refine Ops.nil fun a hS => ?_
            exact hK14 (i + 1) _ a (hS.sub ⟨rfl, rfl, rfl, rfl, rfl, rfl, trivial⟩) ⟨by omega, fun j h => if e : j = i then (by subst e; exact hgood) else hall j (by omega), F7⟩ (by omega)
        · skip
          have hkeys : KeysP ks := fun j hj => hall j (by simp at hc98; omega)
          have hnode : NodeP k n s ks l := ⟨z3, z4, z6, z5, hnd.1, hnd.2.1, hnd.2.2.1, hnd.2.2.2.1, hnd.2.2.2.2.1, hnd.2.2.2.2.2, hkeys⟩
          refine Cod.exit fun a hS => ?_
          simp only [Exit.then, Exit.inBlock, ↓reduceIte]
          refine hK12 _ _ ?_ a hS
          refine Cod.seq fun K21 hK21 => ?_
          refine Cod.seq fun K22 hK22 => ?_
          refine Cod.region ?_
          refine Ops.step (One.val rfl rfl rfl (yld_field fi33_4 rfl (ev_t rfl)) ?_)
          refine Ops.step (One.val rfl rfl rfl (yld_load1 on31 rfl (ev_t rfl) (fun _ => F6.cell 0 rfl rfl)) ?_)
          refine Ops.step (One.val rfl rfl rfl (yld_len sl31 rfl (ev_t rfl)) ?_)
          refine Ops.step (One.val rfl rfl rfl (yld_move rfl ev_c) ?_)
          refine Ops.nil fun a hS => ?_
          refine hK22 _ _ ?_ a hS
          refine Cod.block ?_
          refine Cod.loop (fun i : Nat => [(1, true, .int .i64 deep), (2, true, .pointer (some ⟨bb, 0, none⟩)), (121, true, .slice A4 l.length c4), (122, true, .int .i64 (l.length : Int)), (123, true, .int .i64 (i : Int))]) (fun i w' => i ≤ l.length ∧ (∀ j (h : j < l.length), j < i → Form (6 - deep) l[j]) ∧ ((1 + sumN Tr.cnt (l.take i) : Nat) : Int) ≤ left ∧ Fr (· = bb) w [blk bb tyb [.int .i64 (left - (1 + sumN Tr.cnt (l.take i) : Nat))]] w') (fun i => l.length - i) 0 ⟨rfl, rfl, rfl, rfl, rfl, trivial⟩ ⟨Nat.zero_le _, fun j _ h => by omega, by simp [sumN]; omega, by simpa [sumN] using F6.drop1⟩ ?_
          intro i w8 hW K23 hK23
          obtain ⟨hi, hall, hle, F8⟩ := hW
          refine Cod.seq fun K24 hK24 => ?_
          refine Cod.region ?_
          refine Ops.step (One.val rfl rfl rfl (yld_lss rfl (ev_t rfl) (ev_t rfl)) ?_)
          refine Ops.nil fun a hS => ?_
          refine hK24 _ _ ?_ a hS
          refine Cod.seq fun K25 hK25 => ?_
          refine Cod.cond rfl (fun hc124 => ?_) (fun hc124 => ?_)
          · skip
            have hi : i < l.length := by simpa using hc124
            obtain ⟨b, o, cs, rfl, hF, hlc, hr, ht⟩ := h4.at i hi
            obtain ⟨y1, y2, y3, y4, y5, rfl⟩ := five hlc
            have hst := sumN_take Tr.cnt l i hi
            have hsl := sumN_take_le Tr.cnt l (i + 1)
            refine Cod.skip fun a hS => ?_
            refine hK25 _ _ ?_ a hS
            refine Cod.seq fun K26 hK26 => ?_
            refine Cod.block ?_
            refine Cod.seq fun K27 hK27 => ?_
            refine Cod.region ?_
            refine Ops.step (One.val rfl rfl rfl (yld_indexN sl31 rfl (ev_t rfl) (ev_t rfl) (fun _ => by omega)) ?_)
            refine Ops.step (One.val rfl rfl rfl (yld_loadN ag33 rfl (ev_t rfl) (fun _ => rng_chg hr F8.chg hF) rfl) ?_)
            refine Ops.step (One.alloc F8 zero33 rfl rfl rfl rfl ?_)
            intro b2 w9 hb2 F9
            change Fr _ _ [blk _ _ [_, _, _, _, _], blk _ _ [_]] _ at F9
            refine Ops.step (One.storeN (vs := [_, _, _, _, _]) F9 0 rfl sz33 rfl rfl rfl (ev_t rfl) (ev_t rfl) rfl rfl ht.one ?_)
            intro w10 F10
            change Fr _ _ [blk _ _ [_, _, _, _, _], blk _ _ [_]] _ at F10
            refine Ops.nil fun a hS => ?_
            refine hK27 _ _ ?_ a hS
            refine Cod.seq fun K28 hK28 => ?_
            refine Cod.region ?_
            refine Ops.step (One.val rfl rfl rfl (yld_loadN ag33 rfl (ev_t rfl) (fun _ => F10.range (m := 5) (cs' := [_, _, _, _, _]) 0 rfl rfl) rfl) ?_)
            refine Ops.step (One.val rfl rfl rfl (yld_move rfl (ev_t rfl)) ?_)
            refine Ops.step (One.val rfl rfl rfl (yld_add rfl (ev_t rfl) ev_c (fun _ => by omega)) ?_)
            refine Ops.step (One.val rfl rfl rfl (yld_move rfl (ev_t rfl)) ?_)
            refine Ops.step (One.call rfl rfl rfl (ent_f rfl (evl3 (ev_t rfl) (ev_t rfl) (ev_t rfl)) (enters en73)) (H _ (List.getElem_mem hi) (deep + 1) (left - ((1 + sumN Tr.cnt (l.take i) : Nat) : Int)) _ _ bb tyb (ht.keep fun k hk hF => F10.chg.block k hk hF) (F10.get 1 rfl) (hkl _ (List.getElem_mem hi)) (by omega) (by omega) (by omega) (by omega)) (fun e w11 hw11 => ?_))
            obtain ⟨okc, lf, rfl, C11, hbc, hok, hlf⟩ := hw11
            have F11 := F10.upd 1 rfl C11 (fun _ hk => Or.inl hk) (blk bb tyb [.int .i64 lf]) hbc (fun _ hk => Or.inl hk)
            change Fr _ _ [_, _] _ at F11
            rw [show 7 - (deep + 1) = 6 - deep by omega] at hok
            refine ⟨_, rfl, ?_⟩
            refine Ops.step (One.val rfl rfl rfl (yld_not rfl (ev_t rfl)) ?_)
            refine Ops.nil fun a hS => ?_
            refine hK28 _ _ ?_ a hS
            refine Cod.cond rfl (fun hc132 => ?_) (fun hc132 => ?_)
            · skip
              have hne : ¬ (Form (7 - deep) (.mk k n s ks l) ∧ ((Tr.mk k n s ks l).cnt : Int) ≤ left) := fun ⟨h1, h2⟩ => by
                have h3 := (Form.iff.1 h1).2.2 _ (List.getElem_mem hi)
                rw [show 7 - deep - 1 = 6 - deep by omega] at h3
                rw [hcm] at h2
                have := hok.2 ⟨h3, by omega⟩
                simp [this] at hc132
              refine Cod.seq fun K29 hK29 => ?_
              refine Cod.region ?_
              refine Ops.step (One.val rfl rfl rfl (yld_assign rfl ev_c) ?_)
              refine Ops.nil fun a hS => ?_
              refine hK29 _ _ ?_ a hS
              refine Cod.ret fun a hS => ?_
              try simp only [Exit.then, Exit.inBlock]
              exact ret1 (t := 6) rfl hS rfl ⟨_, _, rfl, F11.chg, F11.get 1 rfl, ok_no hne, fun h => by cases h⟩
            · skip
              have hokc : okc = true := by simpa using hc132
              have hgood := hok.1 hokc
              have hlf := hlf hokc
              subst hlf
              refine Cod.skip fun a hS => ?_
              refine hK26 _ _ ?_ a hS
              refine Cod.region ?_
              refine Ops.step (One.val rfl rfl rfl (yld_inc rfl (ev_t rfl) (fun _ => by omega)) ?_)
              refine Ops.step (One.val rfl rfl rfl (yld_move rfl (ev_t rfl)) ?_)
              refine Ops.nil fun a hS => ?_
              have hF : Fr (· = bb) w [blk bb tyb [.int .i64 (left - (1 + sumN Tr.cnt (l.take (i + 1)) : Nat))]] w11 := by
                have := F11.drop1
                rw [show left - ((1 + sumN Tr.cnt (l.take i) : Nat) : Int) - (l[i].cnt : Int) = left - ((1 + sumN Tr.cnt (l.take (i + 1)) : Nat) : Int) by omega] at this
                exact this
              exact hK23 (i + 1) _ a (hS.sub ⟨rfl, rfl, rfl, rfl, rfl, trivial⟩) ⟨by omega, fun j h1 hji => if h : j = i then (by subst h; exact hgood.1) else hall j h1 (by omega), by omega, hF⟩ (by omega)
          · skip
            obtain rfl : i = l.length := by simp at hc124; omega
            rw [List.take_length] at F8 hle
            have hyes : Form (7 - deep) (.mk k n s ks l) ∧ ((Tr.mk k n s ks l).cnt : Int) ≤ left := ⟨Form.iff.2 ⟨by omega, hnode, fun x hx => by
              obtain ⟨j, hj, rfl⟩ := List.getElem_of_mem hx
              rw [show 7 - deep - 1 = 6 - deep by omega]
              exact hall j hj hj⟩, by rw [hcm]; exact hle⟩
            refine Cod.exit fun a hS => ?_
            simp only [Exit.then, Exit.inBlock, ↓reduceIte]
            refine hK21 _ _ ?_ a hS
            refine Cod.seq fun K30 hK30 => ?_
            refine Cod.region ?_
            refine Ops.step (One.val rfl rfl rfl (yld_assign rfl ev_c) ?_)
            refine Ops.nil fun a hS => ?_
            refine hK30 _ _ ?_ a hS
            refine Cod.ret fun a hS => ?_
            try simp only [Exit.then, Exit.inBlock]
            exact ret1 (t := 6) rfl hS rfl ⟨_, _, rfl, F8.chg, F8.get 0 rfl, ⟨fun _ => hyes, fun _ => rfl⟩, fun _ => by rw [hcm]⟩


theorem implOk_ct (t : Tr) : ImplOk t := Tr.ind (p := ImplOk) implOk_of t

set_option maxRecDepth 100000 in
theorem valOk_ct (t : Tr) (v : Value) (w : World) (hr : Rep Any w t v) (hf : t.Fit) :
    Calls Tryd.prog 36 #[v] w fun e w' => e = .returned (.bool (decide (Form 6 t) && decide ((t.cnt : Int) ≤ 60))) ∧ Chg No w w' := by
  obtain ⟨v3, v4, ev, -, -⟩ := hr.form
  subst ev
  refine enter Tryd.func36 rfl rfl rfl ?_
  have F0 := Fr.start w
  refine Cod.seq fun K1 hK1 => ?_
  refine Cod.region ?_
  refine Ops.step (One.box F0 rfl rfl rfl rfl (ev_t rfl) ?_)
  intro b1 w1 hb1 F1
  change Fr _ _ [blk _ _ [_, _, _, _, _]] _ at F1
  refine Ops.step (One.val rfl rfl rfl (yld_assign rfl ev_c) ?_)
  refine Ops.nil fun a hS => ?_
  refine hK1 _ _ ?_ a hS
  refine Cod.seq fun K2 hK2 => ?_
  refine Cod.region ?_
  refine Ops.step (One.alloc F1 zero3 rfl rfl rfl rfl ?_)
  intro b2 w2 hb2 F2
  change Fr _ _ [blk _ _ [_], blk _ _ [_, _, _, _, _]] _ at F2
  refine Ops.step (One.store1 F2 0 rfl sz3 rfl rfl rfl (ev_t rfl) rfl ev_c rfl ?_)
  intro w3 F3
  change Fr _ _ [blk _ _ [_], blk _ _ [_, _, _, _, _]] _ at F3
  refine Ops.nil fun a hS => ?_
  refine hK2 _ _ ?_ a hS
  refine Cod.seq fun K3 hK3 => ?_
  refine Cod.region ?_
  refine Ops.step (One.val rfl rfl rfl (yld_loadN ag33 rfl (ev_t rfl) (fun _ => F3.range (m := 5) (cs' := [_, _, _, _, _]) 1 rfl rfl) rfl) ?_)
  have hbv : w.heap.size ≤ b2 := (F3.dom _ (List.mem_cons_self ..) b2 rfl).resolve_left id
  refine Ops.step (One.call rfl rfl rfl (ent_f rfl (evl3 (ev_t rfl) ev_c (ev_t rfl)) (enters en73)) (implOk_ct t 1 60 _ _ _ _ ((hr.old.chg F3.chg).weak fun k hk e => by rw [e] at hk; omega) (F3.get 0 rfl) hf (by omega) (by omega) (by omega) (by omega)) (fun e w4 hw4 => ?_))
  obtain ⟨okc, lf, rfl, C4, hbc, hok, hlf⟩ := hw4
  have F4 := F3.upd 0 rfl C4 (fun _ hk => Or.inl hk) (blk b2 3 [.int .i64 lf]) hbc (fun _ hk => Or.inl hk)
  refine ⟨_, rfl, ?_⟩
  refine Ops.step (One.val rfl rfl rfl (yld_assign rfl (ev_t rfl)) ?_)
  refine Ops.nil fun a hS => ?_
  refine hK3 _ _ ?_ a hS
  refine Cod.ret fun a hS => ?_
  try simp only [Exit.then, Exit.inBlock]
  exact ret1 (t := 2) rfl hS rfl ⟨ret_b (by rw [Bool.eq_iff_iff, hok]; simp), F4.chg⟩

end Go.Proofs.YtpfkcblhojkaiaaDoor.Eng
