/- Walks of both ValOrder and what they call: trees are compared by kind, number, text, keys and list, in this order. -/
import Derived.Test.YtodbflfelimppaaOrd0
namespace Go.Proofs.Ytodbflfelimppaa.Eng
open Go.RowKit
set_option linter.unusedVariables false
set_option linter.unusedSimpArgs false
set_option maxHeartbeats 1000000


def cmpI (a b : Int) : Int := if a < b then -1 else if b < a then 1 else 0
def cmpS (s u : ByteArray) : Int := if ltS s u = true then -1 else if ltS u s = true then 1 else 0
theorem ltS_irr (s : ByteArray) : ltS s s = false := by
  have := ltS_not s s
  cases h : ltS s s <;> simp [h] at this ⊢
theorem cmpS_self (s : ByteArray) : cmpS s s = 0 := by simp [cmpS, ltS_irr]
theorem cmpS_ne {s u : ByteArray} (h : s ≠ u) : cmpS s u ≠ 0 := by
  have := ltS_not s u
  simp only [h, decide_false, Bool.or_false] at this
  unfold cmpS
  cases h1 : ltS u s <;> simp [h1] at this ⊢ <;> simp [this]
def listCmp {α : Type} (f : α → α → Int) : List α → List α → Int
  | [], [] => 0
  | [], _ :: _ => -1
  | _ :: _, [] => 1
  | a :: p, b :: q => if f a b ≠ 0 then f a b else listCmp f p q
def clampL (m n : Nat) : Int := if m < n then -1 else if n < m then 1 else 0
theorem listCmp_step {α : Type} {f : α → α → Int} {p q : List α} {i : Nat} (h1 : i < p.length) (h2 : i < q.length) (h : f p[i] q[i] = 0) : listCmp f (p.drop i) (q.drop i) = listCmp f (p.drop (i + 1)) (q.drop (i + 1)) := by
  rw [List.drop_eq_getElem_cons h1, List.drop_eq_getElem_cons h2, listCmp, if_neg (by simp [h])]
theorem listCmp_ne {α : Type} {f : α → α → Int} {p q : List α} {i : Nat} (h1 : i < p.length) (h2 : i < q.length) (h : f p[i] q[i] ≠ 0) : listCmp f (p.drop i) (q.drop i) = f p[i] q[i] := by
  rw [List.drop_eq_getElem_cons h1, List.drop_eq_getElem_cons h2, listCmp, if_pos h]
theorem listCmp_end {α : Type} {f : α → α → Int} {p q : List α} {i : Nat} (h1 : i ≤ p.length) (h2 : i ≤ q.length) (h : i = p.length ∨ i = q.length) : listCmp f (p.drop i) (q.drop i) = clampL p.length q.length := by
  unfold clampL
  rcases h with rfl | rfl
  · rw [List.drop_length]
    by_cases h3 : p.length = q.length
    · rw [h3, List.drop_length, listCmp]; simp
    · have h4 : p.length < q.length := by omega
      rw [List.drop_eq_getElem_cons h4, listCmp, if_pos h4]
  · rw [List.drop_length]
    by_cases h3 : q.length = p.length
    · rw [h3, List.drop_length, listCmp]; simp
    · have h4 : q.length < p.length := by omega
      rw [List.drop_eq_getElem_cons h4, listCmp, if_neg (by omega), if_pos h4]
theorem listCmp_rng {α : Type} {f : α → α → Int} (h : ∀ a b, f a b = -1 ∨ f a b = 0 ∨ f a b = 1) : ∀ p q : List α, listCmp f p q = -1 ∨ listCmp f p q = 0 ∨ listCmp f p q = 1
  | [], [] => by simp [listCmp]
  | [], _ :: _ => by simp [listCmp]
  | _ :: _, [] => by simp [listCmp]
  | a :: p, b :: q => by
    rw [listCmp]
    split
    · exact h a b
    · exact listCmp_rng h p q
def orI : List Int → Int
  | [] => 0
  | a :: r => if a ≠ 0 then a else orI r
mutual
def Tr.ord : Tr → Tr → Int
  | .mk k n s ks l, .mk k' n' s' ks' l' => orI [cmpI k k', cmpI n n', cmpS s s', listCmp cmpS ks ks', Tr.ords l l']
def Tr.ords : List Tr → List Tr → Int
  | [], [] => 0
  | [], _ :: _ => -1
  | _ :: _, [] => 1
  | a :: p, b :: q => if a.ord b ≠ 0 then a.ord b else Tr.ords p q
end
theorem Tr.ords_eq : ∀ p q : List Tr, Tr.ords p q = listCmp Tr.ord p q
  | [], [] => by simp [Tr.ords, listCmp]
  | [], _ :: _ => by simp [Tr.ords, listCmp]
  | _ :: _, [] => by simp [Tr.ords, listCmp]
  | a :: p, b :: q => by rw [Tr.ords, listCmp, Tr.ords_eq p q]
theorem Tr.ord_mk (k n : Int) (s : ByteArray) (ks : List ByteArray) (l : List Tr) (k' n' : Int) (s' : ByteArray) (ks' : List ByteArray) (l' : List Tr) : (Tr.mk k n s ks l).ord (.mk k' n' s' ks' l') = orI [cmpI k k', cmpI n n', cmpS s s', listCmp cmpS ks ks', listCmp Tr.ord l l'] := by rw [Tr.ord, Tr.ords_eq]
theorem cmpI_self (a : Int) : cmpI a a = 0 := by simp [cmpI]
def iCells (i : Int) : List Value := [.int .i64 i]
abbrev RepI (F : Nat → Prop) (w : World) (p : List Int) (v : Value) : Prop := RepE iCells 1 F w p v

set_option maxRecDepth 100000 in
theorem nanI_ct (a : Int) (w : World) : Calls Try.prog 128 #[.int .i64 a] w fun e w' => e = .returned (.bool false) ∧ Chg No w w' := by
  refine enter Try.func128 rfl rfl rfl ?_
  have F0 := Fr.start w
  refine Cod.seq fun K1 hK1 => ?_
  refine Cod.region ?_
  refine Ops.step (One.val rfl rfl rfl (yld_assign rfl ev_c) ?_)
  refine Ops.nil fun a hS => ?_
  refine hK1 _ _ ?_ a hS
  refine Cod.seq fun K2 hK2 => ?_
  refine Cod.region ?_
  refine Ops.step (One.val rfl rfl rfl (yld_move rfl (ev_t rfl)) ?_)
  refine Ops.step (One.val rfl rfl rfl (yld_move rfl (ev_t rfl)) ?_)
  refine Ops.step (One.val rfl rfl rfl (yld_neq rfl (ev_t rfl) (ev_t rfl)) ?_)
  refine Ops.step (One.val rfl rfl rfl (yld_assign rfl (ev_t rfl)) ?_)
  refine Ops.nil fun a hS => ?_
  refine hK2 _ _ ?_ a hS
  refine Cod.ret fun a hS => ?_
  try simp only [Exit.then, Exit.inBlock]
  exact ret1 (t := 2) rfl hS rfl ⟨by simp, F0.chg⟩

set_option maxRecDepth 100000 in
theorem nanS_ct (a : ByteArray) (w : World) : Calls Try.prog 129 #[.string a] w fun e w' => e = .returned (.bool false) ∧ Chg No w w' := by
  refine enter Try.func129 rfl rfl rfl ?_
  have F0 := Fr.start w
  refine Cod.seq fun K1 hK1 => ?_
  refine Cod.region ?_
  refine Ops.step (One.val rfl rfl rfl (yld_assign rfl ev_c) ?_)
  refine Ops.nil fun a hS => ?_
  refine hK1 _ _ ?_ a hS
  refine Cod.seq fun K2 hK2 => ?_
  refine Cod.region ?_
  refine Ops.step (One.val rfl rfl rfl (yld_move rfl (ev_t rfl)) ?_)
  refine Ops.step (One.val rfl rfl rfl (yld_move rfl (ev_t rfl)) ?_)
  refine Ops.step (One.val rfl rfl rfl (yld_sneq rfl (ev_t rfl) (ev_t rfl)) ?_)
  refine Ops.step (One.val rfl rfl rfl (yld_assign rfl (ev_t rfl)) ?_)
  refine Ops.nil fun a hS => ?_
  refine hK2 _ _ ?_ a hS
  refine Cod.ret fun a hS => ?_
  try simp only [Exit.then, Exit.inBlock]
  exact ret1 (t := 2) rfl hS rfl ⟨by simp, F0.chg⟩

set_option maxRecDepth 100000 in
theorem cmpI_ct (x y : Int) (w : World) : Calls Try.prog 95 #[.int .i64 x, .int .i64 y] w fun e w' => e = .returned (.int .i64 (cmpI x y)) ∧ Chg No w w' := by
  refine enter Try.func95 rfl rfl rfl ?_
  have F0 := Fr.start w
  refine Cod.seq fun K1 hK1 => ?_
  refine Cod.region ?_
  refine Ops.step (One.val rfl rfl rfl (yld_assign rfl ev_c) ?_)
  refine Ops.nil fun a hS => ?_
  refine hK1 _ _ ?_ a hS
  refine Cod.seq fun K2 hK2 => ?_
  refine Cod.region ?_
  refine Ops.step (One.val rfl rfl rfl (yld_move rfl (ev_t rfl)) ?_)
  refine Ops.step (One.call rfl rfl rfl (ent_f rfl (evl1 (ev_t rfl)) (enters en128)) (nanI_ct x _) (fun e w1 hw1 => ?_))
  obtain ⟨rfl, C1⟩ := hw1
  have F1 := F0.call C1
  refine ⟨_, rfl, ?_⟩
  refine Ops.step (One.val rfl rfl rfl (yld_assign rfl (ev_t rfl)) ?_)
  refine Ops.nil fun a hS => ?_
  refine hK2 _ _ ?_ a hS
  refine Cod.seq fun K3 hK3 => ?_
  refine Cod.region ?_
  refine Ops.step (One.val rfl rfl rfl (yld_move rfl (ev_t rfl)) ?_)
  refine Ops.step (One.call rfl rfl rfl (ent_f rfl (evl1 (ev_t rfl)) (enters en128)) (nanI_ct y _) (fun e w2 hw2 => ?_))
  obtain ⟨rfl, C2⟩ := hw2
  have F2 := F1.call C2
  refine ⟨_, rfl, ?_⟩
  refine Ops.step (One.val rfl rfl rfl (yld_assign rfl (ev_t rfl)) ?_)
  refine Ops.nil fun a hS => ?_
  refine hK3 _ _ ?_ a hS
  refine Cod.seq fun K4 hK4 => ?_
  refine Cod.seq fun K5 hK5 => ?_
  refine Cod.region ?_
  refine Ops.step (One.val rfl rfl rfl (yld_move rfl (ev_t rfl)) ?_)
  refine Ops.nil fun a hS => ?_
  refine hK5 _ _ ?_ a hS
  refine Cod.cond rfl (fun hc11 => ?_) (fun hc11 => ?_)
  · skip
    cases hc11
  · skip
    refine Cod.skip fun a hS => ?_
    refine hK4 _ _ ?_ a hS
    refine Cod.seq fun K6 hK6 => ?_
    refine Cod.seq fun K7 hK7 => ?_
    refine Cod.region ?_
    refine Ops.step (One.val rfl rfl rfl (yld_move rfl (ev_t rfl)) ?_)
    refine Ops.nil fun a hS => ?_
    refine hK7 _ _ ?_ a hS
    refine Cod.cond rfl (fun hc13 => ?_) (fun hc13 => ?_)
    · skip
      cases hc13
    · skip
      refine Cod.skip fun a hS => ?_
      refine hK6 _ _ ?_ a hS
      refine Cod.seq fun K8 hK8 => ?_
      refine Cod.seq fun K9 hK9 => ?_
      refine Cod.region ?_
      refine Ops.step (One.val rfl rfl rfl (yld_move rfl (ev_t rfl)) ?_)
      refine Ops.step (One.val rfl rfl rfl (yld_move rfl (ev_t rfl)) ?_)
      refine Ops.step (One.val rfl rfl rfl (yld_lss rfl (ev_t rfl) (ev_t rfl)) ?_)
      refine Ops.nil fun a hS => ?_
      refine hK9 _ _ ?_ a hS
      refine Cod.cond rfl (fun hc16 => ?_) (fun hc16 => ?_)
      · skip
        have h1 : x < y := by simpa using hc16
        refine Cod.seq fun K10 hK10 => ?_
        refine Cod.region ?_
        refine Ops.step (One.val rfl rfl rfl (yld_assign rfl ev_c) ?_)
        refine Ops.nil fun a hS => ?_
        refine hK10 _ _ ?_ a hS
        refine Cod.ret fun a hS => ?_
        try simp only [Exit.then, Exit.inBlock]
        exact ret1 (t := 4) rfl hS rfl ⟨ret_i (by simp [cmpI, h1]), F2.chg⟩
      · skip
        have h1 : ¬ x < y := by simpa using hc16
        refine Cod.skip fun a hS => ?_
        refine hK8 _ _ ?_ a hS
        refine Cod.seq fun K11 hK11 => ?_
        refine Cod.seq fun K12 hK12 => ?_
        refine Cod.region ?_
        refine Ops.step (One.val rfl rfl rfl (yld_move rfl (ev_t rfl)) ?_)
        refine Ops.step (One.val rfl rfl rfl (yld_move rfl (ev_t rfl)) ?_)
        refine Ops.step (One.val rfl rfl rfl (yld_gtr rfl (ev_t rfl) (ev_t rfl)) ?_)
        refine Ops.nil fun a hS => ?_
        refine hK12 _ _ ?_ a hS
        refine Cod.cond rfl (fun hc19 => ?_) (fun hc19 => ?_)
        · skip
          have h2 : y < x := by simpa using hc19
          refine Cod.seq fun K13 hK13 => ?_
          refine Cod.region ?_
          refine Ops.step (One.val rfl rfl rfl (yld_assign rfl ev_c) ?_)
          refine Ops.nil fun a hS => ?_
          refine hK13 _ _ ?_ a hS
          refine Cod.ret fun a hS => ?_
          try simp only [Exit.then, Exit.inBlock]
          exact ret1 (t := 4) rfl hS rfl ⟨ret_i (by simp [cmpI, h1, h2]), F2.chg⟩
        · skip
          have h2 : ¬ y < x := by simpa using hc19
          refine Cod.skip fun a hS => ?_
          refine hK11 _ _ ?_ a hS
          refine Cod.seq fun K14 hK14 => ?_
          refine Cod.region ?_
          refine Ops.step (One.val rfl rfl rfl (yld_assign rfl ev_c) ?_)
          refine Ops.nil fun a hS => ?_
          refine hK14 _ _ ?_ a hS
          refine Cod.ret fun a hS => ?_
          try simp only [Exit.then, Exit.inBlock]
          exact ret1 (t := 4) rfl hS rfl ⟨ret_i (by simp [cmpI, h1, h2]), F2.chg⟩

set_option maxRecDepth 100000 in
theorem cmpS_ct (x y : ByteArray) (w : World) : Calls Try.prog 96 #[.string x, .string y] w fun e w' => e = .returned (.int .i64 (cmpS x y)) ∧ Chg No w w' := by
  refine enter Try.func96 rfl rfl rfl ?_
  have F0 := Fr.start w
  refine Cod.seq fun K1 hK1 => ?_
  refine Cod.region ?_
  refine Ops.step (One.val rfl rfl rfl (yld_assign rfl ev_c) ?_)
  refine Ops.nil fun a hS => ?_
  refine hK1 _ _ ?_ a hS
  refine Cod.seq fun K2 hK2 => ?_
  refine Cod.region ?_
  refine Ops.step (One.val rfl rfl rfl (yld_move rfl (ev_t rfl)) ?_)
  refine Ops.step (One.call rfl rfl rfl (ent_f rfl (evl1 (ev_t rfl)) (enters en129)) (nanS_ct x _) (fun e w1 hw1 => ?_))
  obtain ⟨rfl, C1⟩ := hw1
  have F1 := F0.call C1
  refine ⟨_, rfl, ?_⟩
  refine Ops.step (One.val rfl rfl rfl (yld_assign rfl (ev_t rfl)) ?_)
  refine Ops.nil fun a hS => ?_
  refine hK2 _ _ ?_ a hS
  refine Cod.seq fun K3 hK3 => ?_
  refine Cod.region ?_
  refine Ops.step (One.val rfl rfl rfl (yld_move rfl (ev_t rfl)) ?_)
  refine Ops.step (One.call rfl rfl rfl (ent_f rfl (evl1 (ev_t rfl)) (enters en129)) (nanS_ct y _) (fun e w2 hw2 => ?_))
  obtain ⟨rfl, C2⟩ := hw2
  have F2 := F1.call C2
  refine ⟨_, rfl, ?_⟩
  refine Ops.step (One.val rfl rfl rfl (yld_assign rfl (ev_t rfl)) ?_)
  refine Ops.nil fun a hS => ?_
  refine hK3 _ _ ?_ a hS
  refine Cod.seq fun K4 hK4 => ?_
  refine Cod.seq fun K5 hK5 => ?_
  refine Cod.region ?_
  refine Ops.step (One.val rfl rfl rfl (yld_move rfl (ev_t rfl)) ?_)
  refine Ops.nil fun a hS => ?_
  refine hK5 _ _ ?_ a hS
  refine Cod.cond rfl (fun hc11 => ?_) (fun hc11 => ?_)
  · skip
    cases hc11
  · skip
    refine Cod.skip fun a hS => ?_
    refine hK4 _ _ ?_ a hS
    refine Cod.seq fun K6 hK6 => ?_
    refine Cod.seq fun K7 hK7 => ?_
    refine Cod.region ?_
    refine Ops.step (One.val rfl rfl rfl (yld_move rfl (ev_t rfl)) ?_)
    refine Ops.nil fun a hS => ?_
    refine hK7 _ _ ?_ a hS
    refine Cod.cond rfl (fun hc13 => ?_) (fun hc13 => ?_)
    · skip
      cases hc13
    · skip
      refine Cod.skip fun a hS => ?_
      refine hK6 _ _ ?_ a hS
      refine Cod.seq fun K8 hK8 => ?_
      refine Cod.seq fun K9 hK9 => ?_
      refine Cod.region ?_
      refine Ops.step (One.val rfl rfl rfl (yld_move rfl (ev_t rfl)) ?_)
      refine Ops.step (One.val rfl rfl rfl (yld_move rfl (ev_t rfl)) ?_)
      refine Ops.step (One.val rfl rfl rfl (yld_slss rfl (ev_t rfl) (ev_t rfl)) ?_)
      refine Ops.nil fun a hS => ?_
      refine hK9 _ _ ?_ a hS
      refine Cod.cond rfl (fun hc16 => ?_) (fun hc16 => ?_)
      · skip
        have h1 : ltS x y = true := hc16
        refine Cod.seq fun K10 hK10 => ?_
        refine Cod.region ?_
        refine Ops.step (One.val rfl rfl rfl (yld_assign rfl ev_c) ?_)
        refine Ops.nil fun a hS => ?_
        refine hK10 _ _ ?_ a hS
        refine Cod.ret fun a hS => ?_
        try simp only [Exit.then, Exit.inBlock]
        exact ret1 (t := 4) rfl hS rfl ⟨ret_i (by simp [cmpS, h1]), F2.chg⟩
      · skip
        have h1 : ltS x y = false := hc16
        refine Cod.skip fun a hS => ?_
        refine hK8 _ _ ?_ a hS
        refine Cod.seq fun K11 hK11 => ?_
        refine Cod.seq fun K12 hK12 => ?_
        refine Cod.region ?_
        refine Ops.step (One.val rfl rfl rfl (yld_move rfl (ev_t rfl)) ?_)
        refine Ops.step (One.val rfl rfl rfl (yld_move rfl (ev_t rfl)) ?_)
        refine Ops.step (One.val rfl rfl rfl (yld_sgtr rfl (ev_t rfl) (ev_t rfl)) ?_)
        refine Ops.nil fun a hS => ?_
        refine hK12 _ _ ?_ a hS
        refine Cod.cond rfl (fun hc19 => ?_) (fun hc19 => ?_)
        · skip
          have h2 : ltS y x = true := by have := ltS_not x y; unfold ltS at this ⊢; rw [this] at hc19; simpa using hc19
          refine Cod.seq fun K13 hK13 => ?_
          refine Cod.region ?_
          refine Ops.step (One.val rfl rfl rfl (yld_assign rfl ev_c) ?_)
          refine Ops.nil fun a hS => ?_
          refine hK13 _ _ ?_ a hS
          refine Cod.ret fun a hS => ?_
          try simp only [Exit.then, Exit.inBlock]
          exact ret1 (t := 4) rfl hS rfl ⟨ret_i (by simp [cmpS, h1, h2]), F2.chg⟩
        · skip
          have h2 : ltS y x = false := by have := ltS_not x y; unfold ltS at this ⊢; rw [this] at hc19; simpa using hc19
          refine Cod.skip fun a hS => ?_
          refine hK11 _ _ ?_ a hS
          refine Cod.seq fun K14 hK14 => ?_
          refine Cod.region ?_
          refine Ops.step (One.val rfl rfl rfl (yld_assign rfl ev_c) ?_)
          refine Ops.nil fun a hS => ?_
          refine hK14 _ _ ?_ a hS
          refine Cod.ret fun a hS => ?_
          try simp only [Exit.then, Exit.inBlock]
          exact ret1 (t := 4) rfl hS rfl ⟨ret_i (by simp [cmpS, h1, h2]), F2.chg⟩

set_option maxRecDepth 100000 in
theorem l1Texts_ct (x y : ByteArray) (w : World) : Calls Try.prog 156 #[.string x, .string y] w fun e w' => e = .returned (.int .i64 (cmpS x y)) ∧ Chg No w w' := by
  refine enter Try.func156 rfl rfl rfl ?_
  have F0 := Fr.start w
  refine Cod.seq fun K1 hK1 => ?_
  refine Cod.region ?_
  refine Ops.step (One.val rfl rfl rfl (yld_assign rfl ev_c) ?_)
  refine Ops.nil fun a hS => ?_
  refine hK1 _ _ ?_ a hS
  refine Cod.seq fun K2 hK2 => ?_
  refine Cod.seq fun K3 hK3 => ?_
  refine Cod.region ?_
  refine Ops.step (One.val rfl rfl rfl (yld_move rfl (ev_t rfl)) ?_)
  refine Ops.step (One.val rfl rfl rfl (yld_move rfl (ev_t rfl)) ?_)
  refine Ops.step (One.val rfl rfl rfl (yld_slss rfl (ev_t rfl) (ev_t rfl)) ?_)
  refine Ops.nil fun a hS => ?_
  refine hK3 _ _ ?_ a hS
  refine Cod.cond rfl (fun hc7 => ?_) (fun hc7 => ?_)
  · skip
    have h1 : ltS x y = true := hc7
    refine Cod.seq fun K4 hK4 => ?_
    refine Cod.region ?_
    refine Ops.step (One.val rfl rfl rfl (yld_assign rfl ev_c) ?_)
    refine Ops.nil fun a hS => ?_
    refine hK4 _ _ ?_ a hS
    refine Cod.ret fun a hS => ?_
    try simp only [Exit.then, Exit.inBlock]
    exact ret1 (t := 4) rfl hS rfl ⟨ret_i (by simp [cmpS, h1]), F0.chg⟩
  · skip
    have h1 : ltS x y = false := hc7
    refine Cod.skip fun a hS => ?_
    refine hK2 _ _ ?_ a hS
    refine Cod.seq fun K5 hK5 => ?_
    refine Cod.seq fun K6 hK6 => ?_
    refine Cod.region ?_
    refine Ops.step (One.val rfl rfl rfl (yld_move rfl (ev_t rfl)) ?_)
    refine Ops.step (One.val rfl rfl rfl (yld_move rfl (ev_t rfl)) ?_)
    refine Ops.step (One.val rfl rfl rfl (yld_sgtr rfl (ev_t rfl) (ev_t rfl)) ?_)
    refine Ops.nil fun a hS => ?_
    refine hK6 _ _ ?_ a hS
    refine Cod.cond rfl (fun hc10 => ?_) (fun hc10 => ?_)
    · skip
      have h2 : ltS y x = true := by have := ltS_not x y; unfold ltS at this ⊢; rw [this] at hc10; simpa using hc10
      refine Cod.seq fun K7 hK7 => ?_
      refine Cod.region ?_
      refine Ops.step (One.val rfl rfl rfl (yld_assign rfl ev_c) ?_)
      refine Ops.nil fun a hS => ?_
      refine hK7 _ _ ?_ a hS
      refine Cod.ret fun a hS => ?_
      try simp only [Exit.then, Exit.inBlock]
      exact ret1 (t := 4) rfl hS rfl ⟨ret_i (by simp [cmpS, h1, h2]), F0.chg⟩
    · skip
      have h2 : ltS y x = false := by have := ltS_not x y; unfold ltS at this ⊢; rw [this] at hc10; simpa using hc10
      refine Cod.skip fun a hS => ?_
      refine hK5 _ _ ?_ a hS
      refine Cod.seq fun K8 hK8 => ?_
      refine Cod.region ?_
      refine Ops.step (One.val rfl rfl rfl (yld_assign rfl ev_c) ?_)
      refine Ops.nil fun a hS => ?_
      refine hK8 _ _ ?_ a hS
      refine Cod.ret fun a hS => ?_
      try simp only [Exit.then, Exit.inBlock]
      exact ret1 (t := 4) rfl hS rfl ⟨ret_i (by simp [cmpS, h1, h2]), F0.chg⟩

set_option maxRecDepth 100000 in
theorem or_ct (p : List Int) (v : Value) (w : World) (hp : RepI Any w p v) : Calls Try.prog 94 #[v] w fun e w' => e = .returned (.int .i64 (orI p)) ∧ Chg No w w' := by
  obtain ⟨A, c, rfl, hn⟩ := hp.open
  refine enter Try.func94 rfl rfl rfl ?_
  have F0 := Fr.start w
  refine Cod.seq fun K1 hK1 => ?_
  refine Cod.region ?_
  refine Ops.step (One.val rfl rfl rfl (yld_assign rfl ev_c) ?_)
  refine Ops.nil fun a hS => ?_
  refine hK1 _ _ ?_ a hS
  refine Cod.seq fun K2 hK2 => ?_
  refine Cod.region ?_
  refine Ops.step (One.val rfl rfl rfl (yld_assign rfl ev_c) ?_)
  refine Ops.nil fun a hS => ?_
  refine hK2 _ _ ?_ a hS
  refine Cod.seq fun K3 hK3 => ?_
  refine Cod.seq fun K4 hK4 => ?_
  refine Cod.region ?_
  refine Ops.step (One.val rfl rfl rfl (yld_move rfl (ev_t rfl)) ?_)
  refine Ops.step (One.val rfl rfl rfl (yld_len sl128 rfl (ev_t rfl)) ?_)
  refine Ops.step (One.val rfl rfl rfl (yld_move rfl ev_c) ?_)
  refine Ops.nil fun a hS => ?_
  refine hK4 _ _ ?_ a hS
  refine Cod.block ?_
  refine Cod.loop (fun i : Nat => [(3, true, .int .i64 0), (6, true, .slice A p.length c), (7, true, .int .i64 (p.length : Int)), (8, true, .int .i64 (i : Int))]) (fun i w' => i ≤ p.length ∧ orI p = orI (p.drop i) ∧ Fr No w [] w') (fun i => p.length - i) 0 ⟨rfl, rfl, rfl, rfl, trivial⟩ ⟨Nat.zero_le _, rfl, F0⟩ ?_
  intro i w1 hW K5 hK5
  obtain ⟨hi, hall, F1⟩ := hW
  refine Cod.seq fun K6 hK6 => ?_
  refine Cod.region ?_
  refine Ops.step (One.val rfl rfl rfl (yld_lss rfl (ev_t rfl) (ev_t rfl)) ?_)
  refine Ops.nil fun a hS => ?_
  refine hK6 _ _ ?_ a hS
  refine Cod.seq fun K7 hK7 => ?_
  refine Cod.cond rfl (fun hc9 => ?_) (fun hc9 => ?_)
  · skip
    have hi : i < p.length := by simpa using hc9
    obtain ⟨b, o, rfl, -, hr⟩ := hp.at i hi
    refine Cod.skip fun a hS => ?_
    refine hK7 _ _ ?_ a hS
    refine Cod.seq fun K8 hK8 => ?_
    refine Cod.block ?_
    refine Cod.seq fun K9 hK9 => ?_
    refine Cod.region ?_
    refine Ops.step (One.val rfl rfl rfl (yld_indexN sl128 rfl (ev_t rfl) (ev_t rfl) (fun _ => by omega)) ?_)
    refine Ops.step (One.val rfl rfl rfl (yld_load1 on3 rfl (ev_t rfl) (fun _ => rangeAt_cell (rng hr F1.chg) (j := 0) rfl)) ?_)
    refine Ops.step (One.val rfl rfl rfl (yld_assign rfl (ev_t rfl)) ?_)
    refine Ops.nil fun a hS => ?_
    refine hK9 _ _ ?_ a hS
    refine Cod.seq fun K10 hK10 => ?_
    refine Cod.region ?_
    refine Ops.step (One.val rfl rfl rfl (yld_move rfl (ev_t rfl)) ?_)
    refine Ops.step (One.val rfl rfl rfl (yld_move rfl (ev_t rfl)) ?_)
    refine Ops.step (One.val rfl rfl rfl (yld_neq rfl (ev_t rfl) (ev_t rfl)) ?_)
    refine Ops.nil fun a hS => ?_
    refine hK10 _ _ ?_ a hS
    refine Cod.cond rfl (fun hc14 => ?_) (fun hc14 => ?_)
    · skip
      have hz : p[i] ≠ 0 := by simpa using hc14
      refine Cod.seq fun K11 hK11 => ?_
      refine Cod.region ?_
      refine Ops.step (One.val rfl rfl rfl (yld_move rfl (ev_t rfl)) ?_)
      refine Ops.step (One.val rfl rfl rfl (yld_assign rfl (ev_t rfl)) ?_)
      refine Ops.nil fun a hS => ?_
      refine hK11 _ _ ?_ a hS
      refine Cod.ret fun a hS => ?_
      try simp only [Exit.then, Exit.inBlock]
      exact ret1 (t := 2) rfl hS rfl ⟨ret_i (by rw [hall, List.drop_eq_getElem_cons hi, orI, if_pos hz]), F1.chg⟩
    · skip
      have hz : p[i] = 0 := by simpa using hc14
      refine Cod.skip fun a hS => ?_
      refine hK8 _ _ ?_ a hS
      refine Cod.region ?_
      refine Ops.step (One.val rfl rfl rfl (yld_inc rfl (ev_t rfl) (fun _ => by omega)) ?_)
      refine Ops.step (One.val rfl rfl rfl (yld_move rfl (ev_t rfl)) ?_)
      refine Ops.nil fun a hS => ?_
      exact hK5 (i + 1) _ a (hS.sub ⟨rfl, rfl, rfl, rfl, trivial⟩) ⟨by omega, by rw [hall, List.drop_eq_getElem_cons hi, orI, if_neg (by simp [hz])], F1⟩ (by omega)
  · skip
    obtain rfl : i = p.length := by simp at hc9; omega
    rw [List.drop_length] at hall
    refine Cod.exit fun a hS => ?_
    simp only [Exit.then, Exit.inBlock, ↓reduceIte]
    refine hK3 _ _ ?_ a hS
    refine Cod.seq fun K12 hK12 => ?_
    refine Cod.region ?_
    refine Ops.step (One.val rfl rfl rfl (yld_move rfl (ev_t rfl)) ?_)
    refine Ops.step (One.val rfl rfl rfl (yld_assign rfl (ev_t rfl)) ?_)
    refine Ops.nil fun a hS => ?_
    refine hK12 _ _ ?_ a hS
    refine Cod.ret fun a hS => ?_
    try simp only [Exit.then, Exit.inBlock]
    exact ret1 (t := 2) rfl hS rfl ⟨ret_i (by rw [hall]; rfl), F1.chg⟩

set_option maxRecDepth 100000 in
theorem l1Lists_ct (p q : List ByteArray) (v v' : Value) (w : World) (hp : RepS Any w p v) (hq : RepS Any w q v') : Calls Try.prog 157 #[v, v'] w fun e w' => e = .returned (.int .i64 (listCmp cmpS p q)) ∧ Chg No w w' := by
  obtain ⟨A, c, rfl, hn⟩ := hp.open
  obtain ⟨A', c', rfl, hn'⟩ := hq.open
  refine enter Try.func157 rfl rfl rfl ?_
  have F0 := Fr.start w
  refine Cod.seq fun K1 hK1 => ?_
  refine Cod.region ?_
  refine Ops.step (One.val rfl rfl rfl (yld_assign rfl ev_c) ?_)
  refine Ops.nil fun a hS => ?_
  refine hK1 _ _ ?_ a hS
  refine Cod.seq fun K2 hK2 => ?_
  refine Cod.seq fun K3 hK3 => ?_
  refine Cod.region ?_
  refine Ops.step (One.val rfl rfl rfl (yld_assign rfl ev_c) ?_)
  refine Ops.nil fun a hS => ?_
  refine hK3 _ _ ?_ a hS
  refine Cod.block ?_
  refine Cod.loop (fun i : Nat => [(0, true, .slice A p.length c), (1, true, .slice A' q.length c'), (5, true, .int .i64 (i : Int))]) (fun i w' => i ≤ p.length ∧ i ≤ q.length ∧ listCmp cmpS p q = listCmp cmpS (p.drop i) (q.drop i) ∧ Fr No w [] w') (fun i => p.length - i) 0 ⟨rfl, rfl, rfl, trivial⟩ ⟨Nat.zero_le _, Nat.zero_le _, rfl, F0⟩ ?_
  intro i w1 hW K4 hK4
  obtain ⟨hi, hi2, hall, F1⟩ := hW
  refine Cod.seq fun K5 hK5 => ?_
  refine Cod.seq fun K6 hK6 => ?_
  refine Cod.region ?_
  refine Ops.step (One.val rfl rfl rfl (yld_move rfl (ev_t rfl)) ?_)
  refine Ops.step (One.val rfl rfl rfl (yld_move rfl (ev_t rfl)) ?_)
  refine Ops.step (One.val rfl rfl rfl (yld_len sl22 rfl (ev_t rfl)) ?_)
  refine Ops.step (One.val rfl rfl rfl (yld_lss rfl (ev_t rfl) (ev_t rfl)) ?_)
  refine Ops.step (One.val rfl rfl rfl (yld_move rfl (ev_t rfl)) ?_)
  refine Ops.step (One.val (gd_some rfl rfl) rfl rfl (yld_move rfl (ev_t rfl)) ?_)
  refine Ops.step (One.val (gd_some rfl rfl) rfl rfl (yld_move rfl (ev_t rfl)) ?_)
  refine Ops.step (One.val (gd_some rfl rfl) rfl rfl (yld_len sl22 rfl (ev_g rfl)) ?_)
  refine Ops.step (One.val (gd_some rfl rfl) rfl rfl (yld_lss rfl (ev_g rfl) (ev_g rfl)) ?_)
  refine Ops.step (One.val rfl rfl rfl (yld_and rfl (ev_t rfl) (ev_g rfl)) ?_)
  refine Ops.nil fun a hS => ?_
  refine hK6 _ _ ?_ a hS
  refine Cod.cond rfl (fun hc16 => ?_) (fun hc16 => ?_)
  · skip
    have hii : i < p.length ∧ i < q.length := by simp at hc16; omega
    obtain ⟨hi, hi2⟩ := hii
    obtain ⟨b, o, rfl, -, hr⟩ := hp.at i hi
    obtain ⟨b2, o2, rfl, -, hr2⟩ := hq.at i hi2
    refine Cod.skip fun a hS => ?_
    refine hK5 _ _ ?_ a hS
    refine Cod.seq fun K7 hK7 => ?_
    refine Cod.block ?_
    refine Cod.seq fun K8 hK8 => ?_
    have F2 := F1.drew
    refine Cod.draw (C_of F2) (by kernel_rfl) ?_
    refine Hops.take 0 rfl (by kernel_rfl) (fun _ _ _ h => h) rfl rfl rfl F2 (fun w F => (yld_move rfl (ev_t rfl))) ?_
    refine Hops.take 1 rfl (by kernel_rfl) (fun _ _ _ h => h) rfl rfl rfl F2 (fun w F => (yld_move rfl (ev_t rfl))) ?_
    refine Hops.take 2 rfl (by kernel_rfl) (fun _ _ _ h => h) rfl rfl rfl F2 (fun w F => (yld_indexN sl22 rfl (ev_t rfl) (ev_t rfl) (fun _ => by omega))) ?_
    refine Hops.take 3 rfl (by kernel_rfl) (fun _ _ _ h => h) rfl rfl rfl F2 (fun w F => (yld_load1 on9 rfl (ev_t rfl) (fun _ => rangeAt_cell (rng hr F.chg) (j := 0) rfl))) ?_
    refine Hops.take 4 rfl (by kernel_rfl) (fun _ _ _ h => h) rfl rfl rfl F2 (fun w F => (yld_move rfl (ev_t rfl))) ?_
    refine Hops.take 5 rfl (by kernel_rfl) (fun _ _ _ h => h) rfl rfl rfl F2 (fun w F => (yld_move rfl (ev_t rfl))) ?_
    refine Hops.take 6 rfl (by kernel_rfl) (fun _ _ _ h => h) rfl rfl rfl F2 (fun w F => (yld_indexN sl22 rfl (ev_t rfl) (ev_t rfl) (fun _ => by omega))) ?_
    refine Hops.take 7 rfl (by kernel_rfl) (fun _ _ _ h => h) rfl rfl rfl F2 (fun w F => (yld_load1 on9 rfl (ev_t rfl) (fun _ => rangeAt_cell (rng hr2 F.chg) (j := 0) rfl))) ?_
    refine Hops.one 8 rfl (by kernel_rfl) (One.call rfl rfl rfl (ent_f rfl (evl2 (ev_t rfl) (ev_t rfl)) (enters en156)) (l1Texts_ct _ _ _) (fun e w2 hw2 => ?_))
    obtain ⟨rfl, C2⟩ := hw2
    have F3 := F2.call C2
    refine ⟨_, rfl, ?_⟩
    refine ⟨F3, ?_⟩
    refine Hops.one 9 rfl (by kernel_rfl) (One.val rfl rfl rfl (yld_assign rfl (ev_t rfl)) ?_)
    refine ⟨F3, ?_⟩
    refine Hops.nil (by kernel_rfl) fun a hS => ?_
    refine hK8 _ _ ?_ a hS
    refine Cod.seq fun K9 hK9 => ?_
    refine Cod.region ?_
    refine Ops.step (One.val rfl rfl rfl (yld_move rfl (ev_t rfl)) ?_)
    refine Ops.step (One.val rfl rfl rfl (yld_neq rfl (ev_t rfl) ev_c) ?_)
    refine Ops.nil fun a hS => ?_
    refine hK9 _ _ ?_ a hS
    refine Cod.cond rfl (fun hc29 => ?_) (fun hc29 => ?_)
    · skip
      have hz : cmpS p[i] q[i] ≠ 0 := by simpa using hc29
      refine Cod.seq fun K10 hK10 => ?_
      refine Cod.region ?_
      refine Ops.step (One.val rfl rfl rfl (yld_move rfl (ev_t rfl)) ?_)
      refine Ops.step (One.val rfl rfl rfl (yld_assign rfl (ev_t rfl)) ?_)
      refine Ops.nil fun a hS => ?_
      refine hK10 _ _ ?_ a hS
      refine Cod.ret fun a hS => ?_
      try simp only [Exit.then, Exit.inBlock]
      exact ret1 (t := 4) rfl hS rfl ⟨ret_i (by rw [hall, listCmp_ne hi hi2 hz]), F3.chg⟩
    · skip
      have hz : cmpS p[i] q[i] = 0 := by simpa using hc29
      refine Cod.skip fun a hS => ?_
      refine hK7 _ _ ?_ a hS
      refine Cod.region ?_
      refine Ops.step (One.val rfl rfl rfl (yld_move rfl (ev_t rfl)) ?_)
      refine Ops.step (One.val rfl rfl rfl (yld_inc rfl (ev_t rfl) (fun _ => by omega)) ?_)
      refine Ops.step (One.val rfl rfl rfl (yld_assign rfl (ev_t rfl)) ?_)
      refine Ops.nil fun a hS => ?_
      exact hK4 (i + 1) _ a (hS.sub ⟨rfl, rfl, rfl, trivial⟩) ⟨by omega, by omega, by rw [hall, listCmp_step hi hi2 hz], F3⟩ (by omega)
  · skip
    have hend := listCmp_end (f := cmpS) hi hi2 (by simp at hc16; omega)
    rw [← hall] at hend
    refine Cod.exit fun a hS => ?_
    simp only [Exit.then, Exit.inBlock, ↓reduceIte]
    refine hK2 _ _ ?_ a hS
    refine Cod.seq fun K11 hK11 => ?_
    refine Cod.region ?_
    refine Ops.step (One.val rfl rfl rfl (yld_move rfl (ev_t rfl)) ?_)
    refine Ops.step (One.val rfl rfl rfl (yld_len sl22 rfl (ev_t rfl)) ?_)
    refine Ops.step (One.val rfl rfl rfl (yld_move rfl (ev_t rfl)) ?_)
    refine Ops.step (One.val rfl rfl rfl (yld_len sl22 rfl (ev_t rfl)) ?_)
    refine Ops.step (One.val rfl rfl rfl (yld_sub rfl (ev_t rfl) (ev_t rfl) (fun _ => by omega)) ?_)
    refine Ops.step (One.call rfl rfl rfl (ent_f rfl (evl2 ev_c (ev_t rfl)) (enters en163)) (l1Min_ct _ _ _) (fun e w3 hw3 => ?_))
    obtain ⟨rfl, C3⟩ := hw3
    have F4 := F1.call C3
    refine ⟨_, rfl, ?_⟩
    refine Ops.step (One.call rfl rfl rfl (ent_f rfl (evl2 ev_c (ev_t rfl)) (enters en162)) (l1Max_ct _ _ _) (fun e w4 hw4 => ?_))
    obtain ⟨rfl, C4⟩ := hw4
    have F5 := F4.call C4
    refine ⟨_, rfl, ?_⟩
    refine Ops.step (One.val rfl rfl rfl (yld_assign rfl (ev_t rfl)) ?_)
    refine Ops.nil fun a hS => ?_
    refine hK11 _ _ ?_ a hS
    refine Cod.ret fun a hS => ?_
    try simp only [Exit.then, Exit.inBlock]
    exact ret1 (t := 4) rfl hS rfl ⟨ret_i (by rw [hend]; unfold clampL; repeat split <;> omega), F5.chg⟩


/-- What a ValOrder says of one tree. -/
def OrdOk (f : FuncId) (t : Tr) : Prop := ∀ (t' : Tr) (v v' : Value) (w : World), Rep Any w t v → Rep Any w t' v' →
    Calls Try.prog f #[v, v'] w fun e w' => e = .returned (.int .i64 (t.ord t')) ∧ Chg No w w'

set_option maxRecDepth 100000 in
theorem l1Rows_of (p q : List Tr) (H : ∀ t ∈ p, OrdOk 145 t) (v v' : Value) (w : World) (hp : RepL Any w p v) (hq : RepL Any w q v') : Calls Try.prog 158 #[v, v'] w fun e w' => e = .returned (.int .i64 (listCmp Tr.ord p q)) ∧ Chg No w w' := by
  obtain ⟨A, c, rfl, hn⟩ := hp.open
  obtain ⟨A', c', rfl, hn'⟩ := hq.open
  refine enter Try.func158 rfl rfl rfl ?_
  have F0 := Fr.start w
  refine Cod.seq fun K1 hK1 => ?_
  refine Cod.region ?_
  refine Ops.step (One.val rfl rfl rfl (yld_assign rfl ev_c) ?_)
  refine Ops.nil fun a hS => ?_
  refine hK1 _ _ ?_ a hS
  refine Cod.seq fun K2 hK2 => ?_
  refine Cod.seq fun K3 hK3 => ?_
  refine Cod.region ?_
  refine Ops.step (One.val rfl rfl rfl (yld_assign rfl ev_c) ?_)
  refine Ops.nil fun a hS => ?_
  refine hK3 _ _ ?_ a hS
  refine Cod.block ?_
  refine Cod.loop (fun i : Nat => [(0, true, .slice A p.length c), (1, true, .slice A' q.length c'), (5, true, .int .i64 (i : Int))]) (fun i w' => i ≤ p.length ∧ i ≤ q.length ∧ listCmp Tr.ord p q = listCmp Tr.ord (p.drop i) (q.drop i) ∧ Fr No w [] w') (fun i => p.length - i) 0 ⟨rfl, rfl, rfl, trivial⟩ ⟨Nat.zero_le _, Nat.zero_le _, rfl, F0⟩ ?_
  intro i w1 hW K4 hK4
  obtain ⟨hi, hi2, hall, F1⟩ := hW
  refine Cod.seq fun K5 hK5 => ?_
  refine Cod.seq fun K6 hK6 => ?_
  refine Cod.region ?_
  refine Ops.step (One.val rfl rfl rfl (yld_move rfl (ev_t rfl)) ?_)
  refine Ops.step (One.val rfl rfl rfl (yld_move rfl (ev_t rfl)) ?_)
  refine Ops.step (One.val rfl rfl rfl (yld_len sl29 rfl (ev_t rfl)) ?_)
  refine Ops.step (One.val rfl rfl rfl (yld_lss rfl (ev_t rfl) (ev_t rfl)) ?_)
  refine Ops.step (One.val rfl rfl rfl (yld_move rfl (ev_t rfl)) ?_)
  refine Ops.step (One.val (gd_some rfl rfl) rfl rfl (yld_move rfl (ev_t rfl)) ?_)
  refine Ops.step (One.val (gd_some rfl rfl) rfl rfl (yld_move rfl (ev_t rfl)) ?_)
  refine Ops.step (One.val (gd_some rfl rfl) rfl rfl (yld_len sl29 rfl (ev_g rfl)) ?_)
  refine Ops.step (One.val (gd_some rfl rfl) rfl rfl (yld_lss rfl (ev_g rfl) (ev_g rfl)) ?_)
  refine Ops.step (One.val rfl rfl rfl (yld_and rfl (ev_t rfl) (ev_g rfl)) ?_)
  refine Ops.nil fun a hS => ?_
  refine hK6 _ _ ?_ a hS
  refine Cod.cond rfl (fun hc16 => ?_) (fun hc16 => ?_)
  · skip
    have hii : i < p.length ∧ i < q.length := by simp at hc16; omega
    obtain ⟨hi, hi2⟩ := hii
    obtain ⟨b, o, cs, rfl, -, hlc, hr, ht⟩ := hp.at i hi
    obtain ⟨b2, o2, cs2, rfl, -, hlc2, hr2, ht2⟩ := hq.at i hi2
    refine Cod.skip fun a hS => ?_
    refine hK5 _ _ ?_ a hS
    refine Cod.seq fun K7 hK7 => ?_
    refine Cod.block ?_
    refine Cod.seq fun K8 hK8 => ?_
    have F2 := F1.drew
    refine Cod.draw (C_of F2) (by kernel_rfl) ?_
    refine Hops.take 0 rfl (by kernel_rfl) (fun _ _ _ h => h) rfl rfl rfl F2 (fun w F => (yld_move rfl (ev_t rfl))) ?_
    refine Hops.take 1 rfl (by kernel_rfl) (fun _ _ _ h => h) rfl rfl rfl F2 (fun w F => (yld_move rfl (ev_t rfl))) ?_
    refine Hops.take 2 rfl (by kernel_rfl) (fun _ _ _ h => h) rfl rfl rfl F2 (fun w F => (yld_indexN sl29 rfl (ev_t rfl) (ev_t rfl) (fun _ => by omega))) ?_
    refine Hops.take 3 rfl (by kernel_rfl) (fun _ _ _ h => h) rfl rfl rfl F2 (fun w F => (yld_loadN ag31 rfl (ev_t rfl) (fun _ => rng hr F.chg) hlc)) ?_
    refine Hops.take 4 rfl (by kernel_rfl) (fun _ _ _ h => h) rfl rfl rfl F2 (fun w F => (yld_move rfl (ev_t rfl))) ?_
    refine Hops.take 5 rfl (by kernel_rfl) (fun _ _ _ h => h) rfl rfl rfl F2 (fun w F => (yld_move rfl (ev_t rfl))) ?_
    refine Hops.take 6 rfl (by kernel_rfl) (fun _ _ _ h => h) rfl rfl rfl F2 (fun w F => (yld_indexN sl29 rfl (ev_t rfl) (ev_t rfl) (fun _ => by omega))) ?_
    refine Hops.take 7 rfl (by kernel_rfl) (fun _ _ _ h => h) rfl rfl rfl F2 (fun w F => (yld_loadN ag31 rfl (ev_t rfl) (fun _ => rng hr2 F.chg) hlc2)) ?_
    refine Hops.one 8 rfl (by kernel_rfl) (One.call rfl rfl rfl (ent_f rfl (evl2 (ev_t rfl) (ev_t rfl)) (enters en145)) (H _ (List.getElem_mem hi) q[i] _ _ _ (ht.chg F2.chg) (ht2.chg F2.chg)) (fun e w2 hw2 => ?_))
    obtain ⟨rfl, C2⟩ := hw2
    have F3 := F2.call C2
    refine ⟨_, rfl, ?_⟩
    refine ⟨F3, ?_⟩
    refine Hops.one 9 rfl (by kernel_rfl) (One.val rfl rfl rfl (yld_assign rfl (ev_t rfl)) ?_)
    refine ⟨F3, ?_⟩
    refine Hops.nil (by kernel_rfl) fun a hS => ?_
    refine hK8 _ _ ?_ a hS
    refine Cod.seq fun K9 hK9 => ?_
    refine Cod.region ?_
    refine Ops.step (One.val rfl rfl rfl (yld_move rfl (ev_t rfl)) ?_)
    refine Ops.step (One.val rfl rfl rfl (yld_neq rfl (ev_t rfl) ev_c) ?_)
    refine Ops.nil fun a hS => ?_
    refine hK9 _ _ ?_ a hS
    refine Cod.cond rfl (fun hc29 => ?_) (fun hc29 => ?_)
    · skip
      have hz : Tr.ord p[i] q[i] ≠ 0 := by simpa using hc29
      refine Cod.seq fun K10 hK10 => ?_
      refine Cod.region ?_
      refine Ops.step (One.val rfl rfl rfl (yld_move rfl (ev_t rfl)) ?_)
      refine Ops.step (One.val rfl rfl rfl (yld_assign rfl (ev_t rfl)) ?_)
      refine Ops.nil fun a hS => ?_
      refine hK10 _ _ ?_ a hS
      refine Cod.ret fun a hS => ?_
      try simp only [Exit.then, Exit.inBlock]
      exact ret1 (t := 4) rfl hS rfl ⟨ret_i (by rw [hall, listCmp_ne hi hi2 hz]), F3.chg⟩
    · skip
      have hz : Tr.ord p[i] q[i] = 0 := by simpa using hc29
      refine Cod.skip fun a hS => ?_
      refine hK7 _ _ ?_ a hS
      refine Cod.region ?_
      refine Ops.step (One.val rfl rfl rfl (yld_move rfl (ev_t rfl)) ?_)
      refine Ops.step (One.val rfl rfl rfl (yld_inc rfl (ev_t rfl) (fun _ => by omega)) ?_)
      refine Ops.step (One.val rfl rfl rfl (yld_assign rfl (ev_t rfl)) ?_)
      refine Ops.nil fun a hS => ?_
      exact hK4 (i + 1) _ a (hS.sub ⟨rfl, rfl, rfl, trivial⟩) ⟨by omega, by omega, by rw [hall, listCmp_step hi hi2 hz], F3⟩ (by omega)
  · skip
    have hend := listCmp_end (f := Tr.ord) hi hi2 (by simp at hc16; omega)
    rw [← hall] at hend
    refine Cod.exit fun a hS => ?_
    simp only [Exit.then, Exit.inBlock, ↓reduceIte]
    refine hK2 _ _ ?_ a hS
    refine Cod.seq fun K11 hK11 => ?_
    refine Cod.region ?_
    refine Ops.step (One.val rfl rfl rfl (yld_move rfl (ev_t rfl)) ?_)
    refine Ops.step (One.val rfl rfl rfl (yld_len sl29 rfl (ev_t rfl)) ?_)
    refine Ops.step (One.val rfl rfl rfl (yld_move rfl (ev_t rfl)) ?_)
    refine Ops.step (One.val rfl rfl rfl (yld_len sl29 rfl (ev_t rfl)) ?_)
    refine Ops.step (One.val rfl rfl rfl (yld_sub rfl (ev_t rfl) (ev_t rfl) (fun _ => by omega)) ?_)
    refine Ops.step (One.call rfl rfl rfl (ent_f rfl (evl2 ev_c (ev_t rfl)) (enters en163)) (l1Min_ct _ _ _) (fun e w3 hw3 => ?_))
    obtain ⟨rfl, C3⟩ := hw3
    have F4 := F1.call C3
    refine ⟨_, rfl, ?_⟩
    refine Ops.step (One.call rfl rfl rfl (ent_f rfl (evl2 ev_c (ev_t rfl)) (enters en162)) (l1Max_ct _ _ _) (fun e w4 hw4 => ?_))
    obtain ⟨rfl, C4⟩ := hw4
    have F5 := F4.call C4
    refine ⟨_, rfl, ?_⟩
    refine Ops.step (One.val rfl rfl rfl (yld_assign rfl (ev_t rfl)) ?_)
    refine Ops.nil fun a hS => ?_
    refine hK11 _ _ ?_ a hS
    refine Cod.ret fun a hS => ?_
    try simp only [Exit.then, Exit.inBlock]
    exact ret1 (t := 4) rfl hS rfl ⟨ret_i (by rw [hend]; unfold clampL; repeat split <;> omega), F5.chg⟩

set_option maxRecDepth 100000 in
theorem specOrd_of (k n : Int) (s : ByteArray) (ks : List ByteArray) (l : List Tr) (H : ∀ t ∈ l, OrdOk 145 t) : OrdOk 145 (.mk k n s ks l) := by
  intro t' v v' w hr hr'
  obtain ⟨v3, v4, rfl, h3, h4⟩ := hr.open
  obtain ⟨k', n', s', ks', l'⟩ := t'
  obtain ⟨v3', v4', rfl, h3', h4'⟩ := hr'.open
  refine enter Try.func145 rfl rfl rfl ?_
  have F0 := Fr.start w
  refine Cod.seq fun K1 hK1 => ?_
  refine Cod.region ?_
  refine Ops.step (One.box F0 rfl rfl rfl rfl (ev_t rfl) ?_)
  intro b1 w1 hb1 F1
  change Fr _ _ [blk _ _ [_, _, _, _, _]] _ at F1
  refine Ops.step (One.box F1 rfl rfl rfl rfl (ev_t rfl) ?_)
  intro b2 w2 hb2 F2
  change Fr _ _ [blk _ _ [_, _, _, _, _], blk _ _ [_, _, _, _, _]] _ at F2
  refine Ops.step (One.val rfl rfl rfl (yld_assign rfl ev_c) ?_)
  refine Ops.nil fun a hS => ?_
  refine hK1 _ _ ?_ a hS
  refine Cod.seq fun K2 hK2 => ?_
  refine Cod.block ?_
  refine Cod.seq fun K3 hK3 => ?_
  refine Cod.region ?_
  refine Ops.step (One.val rfl rfl rfl (yld_field fi31_0 rfl (ev_t rfl)) ?_)
  refine Ops.step (One.val rfl rfl rfl (yld_load1 on3 rfl (ev_t rfl) (fun _ => F2.cell 1 rfl rfl)) ?_)
  refine Ops.step (One.val rfl rfl rfl (yld_field fi31_0 rfl (ev_t rfl)) ?_)
  refine Ops.step (One.val rfl rfl rfl (yld_load1 on3 rfl (ev_t rfl) (fun _ => F2.cell 0 rfl rfl)) ?_)
  refine Ops.step (One.val rfl rfl rfl (yld_lss rfl (ev_t rfl) (ev_t rfl)) ?_)
  refine Ops.step (One.val rfl rfl rfl (yld_assign rfl (ev_t rfl)) ?_)
  refine Ops.nil fun a hS => ?_
  refine hK3 _ _ ?_ a hS
  refine Cod.cond rfl (fun hc6 => ?_) (fun hc6 => ?_)
  · skip
    have hk : k < k' := by simpa using hc6
    refine Cod.seq fun K4 hK4 => ?_
    refine Cod.region ?_
    refine Ops.step (One.val rfl rfl rfl (yld_assign rfl ev_c) ?_)
    refine Ops.nil fun a hS => ?_
    refine hK4 _ _ ?_ a hS
    refine Cod.ret fun a hS => ?_
    try simp only [Exit.then, Exit.inBlock]
    exact ret1 (t := 4) rfl hS rfl ⟨ret_i (by rw [Tr.ord_mk]; simp [orI, cmpI, hk]), F2.chg⟩
  · skip
    have hk : ¬ k < k' := by simpa using hc6
    refine Cod.seq fun K5 hK5 => ?_
    refine Cod.region ?_
    refine Ops.step (One.val rfl rfl rfl (yld_field fi31_0 rfl (ev_t rfl)) ?_)
    refine Ops.step (One.val rfl rfl rfl (yld_load1 on3 rfl (ev_t rfl) (fun _ => F2.cell 1 rfl rfl)) ?_)
    refine Ops.step (One.val rfl rfl rfl (yld_field fi31_0 rfl (ev_t rfl)) ?_)
    refine Ops.step (One.val rfl rfl rfl (yld_load1 on3 rfl (ev_t rfl) (fun _ => F2.cell 0 rfl rfl)) ?_)
    refine Ops.step (One.val rfl rfl rfl (yld_gtr rfl (ev_t rfl) (ev_t rfl)) ?_)
    refine Ops.step (One.val rfl rfl rfl (yld_assign rfl (ev_t rfl)) ?_)
    refine Ops.nil fun a hS => ?_
    refine hK5 _ _ ?_ a hS
    refine Cod.cond rfl (fun hc12 => ?_) (fun hc12 => ?_)
    · skip
      have hk2 : k' < k := by simpa using hc12
      refine Cod.seq fun K6 hK6 => ?_
      refine Cod.region ?_
      refine Ops.step (One.val rfl rfl rfl (yld_assign rfl ev_c) ?_)
      refine Ops.nil fun a hS => ?_
      refine hK6 _ _ ?_ a hS
      refine Cod.ret fun a hS => ?_
      try simp only [Exit.then, Exit.inBlock]
      exact ret1 (t := 4) rfl hS rfl ⟨ret_i (by rw [Tr.ord_mk]; simp [orI, cmpI, hk, hk2]), F2.chg⟩
    · skip
      have hkk : cmpI k k' = 0 := by unfold cmpI; rw [if_neg hk, if_neg (by simpa using hc12)]
      refine Cod.seq fun K7 hK7 => ?_
      refine Cod.region ?_
      refine Ops.step (One.val rfl rfl rfl (yld_field fi31_1 rfl (ev_t rfl)) ?_)
      refine Ops.step (One.val rfl rfl rfl (yld_load1 on3 rfl (ev_t rfl) (fun _ => F2.cell 1 rfl rfl)) ?_)
      refine Ops.step (One.val rfl rfl rfl (yld_field fi31_1 rfl (ev_t rfl)) ?_)
      refine Ops.step (One.val rfl rfl rfl (yld_load1 on3 rfl (ev_t rfl) (fun _ => F2.cell 0 rfl rfl)) ?_)
      refine Ops.step (One.val rfl rfl rfl (yld_lss rfl (ev_t rfl) (ev_t rfl)) ?_)
      refine Ops.step (One.val rfl rfl rfl (yld_assign rfl (ev_t rfl)) ?_)
      refine Ops.nil fun a hS => ?_
      refine hK7 _ _ ?_ a hS
      refine Cod.cond rfl (fun hc18 => ?_) (fun hc18 => ?_)
      · skip
        have hn : n < n' := by simpa using hc18
        refine Cod.seq fun K8 hK8 => ?_
        refine Cod.region ?_
        refine Ops.step (One.val rfl rfl rfl (yld_assign rfl ev_c) ?_)
        refine Ops.nil fun a hS => ?_
        refine hK8 _ _ ?_ a hS
        refine Cod.ret fun a hS => ?_
        try simp only [Exit.then, Exit.inBlock]
        exact ret1 (t := 4) rfl hS rfl ⟨ret_i (by rw [Tr.ord_mk, hkk]; simp [orI, cmpI, hn]), F2.chg⟩
      · skip
        have hn : ¬ n < n' := by simpa using hc18
        refine Cod.seq fun K9 hK9 => ?_
        refine Cod.region ?_
        refine Ops.step (One.val rfl rfl rfl (yld_field fi31_1 rfl (ev_t rfl)) ?_)
        refine Ops.step (One.val rfl rfl rfl (yld_load1 on3 rfl (ev_t rfl) (fun _ => F2.cell 1 rfl rfl)) ?_)
        refine Ops.step (One.val rfl rfl rfl (yld_field fi31_1 rfl (ev_t rfl)) ?_)
        refine Ops.step (One.val rfl rfl rfl (yld_load1 on3 rfl (ev_t rfl) (fun _ => F2.cell 0 rfl rfl)) ?_)
        refine Ops.step (One.val rfl rfl rfl (yld_gtr rfl (ev_t rfl) (ev_t rfl)) ?_)
        refine Ops.step (One.val rfl rfl rfl (yld_assign rfl (ev_t rfl)) ?_)
        refine Ops.nil fun a hS => ?_
        refine hK9 _ _ ?_ a hS
        refine Cod.cond rfl (fun hc24 => ?_) (fun hc24 => ?_)
        · skip
          have hn2 : n' < n := by simpa using hc24
          refine Cod.seq fun K10 hK10 => ?_
          refine Cod.region ?_
          refine Ops.step (One.val rfl rfl rfl (yld_assign rfl ev_c) ?_)
          refine Ops.nil fun a hS => ?_
          refine hK10 _ _ ?_ a hS
          refine Cod.ret fun a hS => ?_
          try simp only [Exit.then, Exit.inBlock]
          exact ret1 (t := 4) rfl hS rfl ⟨ret_i (by rw [Tr.ord_mk, hkk]; simp [orI, cmpI, hn, hn2]), F2.chg⟩
        · skip
          have hnn : cmpI n n' = 0 := by unfold cmpI; rw [if_neg hn, if_neg (by simpa using hc24)]
          refine Cod.seq fun K11 hK11 => ?_
          refine Cod.region ?_
          refine Ops.step (One.val rfl rfl rfl (yld_field fi31_2 rfl (ev_t rfl)) ?_)
          refine Ops.step (One.val rfl rfl rfl (yld_load1 on9 rfl (ev_t rfl) (fun _ => F2.cell 1 rfl rfl)) ?_)
          refine Ops.step (One.val rfl rfl rfl (yld_field fi31_2 rfl (ev_t rfl)) ?_)
          refine Ops.step (One.val rfl rfl rfl (yld_load1 on9 rfl (ev_t rfl) (fun _ => F2.cell 0 rfl rfl)) ?_)
          refine Ops.step (One.val rfl rfl rfl (yld_sneq rfl (ev_t rfl) (ev_t rfl)) ?_)
          refine Ops.step (One.val rfl rfl rfl (yld_assign rfl (ev_t rfl)) ?_)
          refine Ops.nil fun a hS => ?_
          refine hK11 _ _ ?_ a hS
          refine Cod.cond rfl (fun hc30 => ?_) (fun hc30 => ?_)
          · skip
            have hs : cmpS s s' ≠ 0 := cmpS_ne (by simpa using hc30)
            refine Cod.seq fun K12 hK12 => ?_
            refine Cod.region ?_
            refine Ops.step (One.val rfl rfl rfl (yld_field fi31_2 rfl (ev_t rfl)) ?_)
            refine Ops.step (One.val rfl rfl rfl (yld_load1 on9 rfl (ev_t rfl) (fun _ => F2.cell 1 rfl rfl)) ?_)
            refine Ops.step (One.val rfl rfl rfl (yld_field fi31_2 rfl (ev_t rfl)) ?_)
            refine Ops.step (One.val rfl rfl rfl (yld_load1 on9 rfl (ev_t rfl) (fun _ => F2.cell 0 rfl rfl)) ?_)
            refine Ops.step (One.call rfl rfl rfl (ent_f rfl (evl2 (ev_t rfl) (ev_t rfl)) (enters en156)) (l1Texts_ct _ _ _) (fun e w3 hw3 => ?_))
            obtain ⟨rfl, C3⟩ := hw3
            have F3 := F2.call C3
            refine ⟨_, rfl, ?_⟩
            refine Ops.step (One.val rfl rfl rfl (yld_assign rfl (ev_t rfl)) ?_)
            refine Ops.nil fun a hS => ?_
            refine hK12 _ _ ?_ a hS
            refine Cod.ret fun a hS => ?_
            try simp only [Exit.then, Exit.inBlock]
            exact ret1 (t := 4) rfl hS rfl ⟨ret_i (by rw [Tr.ord_mk, hkk, hnn]; simp [orI, hs]), F3.chg⟩
          · skip
            have hs : cmpS s s' = 0 := by
              obtain rfl : s = s' := by simpa using hc30
              exact cmpS_self s
            refine Cod.skip fun a hS => ?_
            refine hK2 _ _ ?_ a hS
            refine Cod.seq fun K13 hK13 => ?_
            refine Cod.region ?_
            refine Ops.step (One.val rfl rfl rfl (yld_field fi31_3 rfl (ev_t rfl)) ?_)
            refine Ops.step (One.val rfl rfl rfl (yld_load1 on22 rfl (ev_t rfl) (fun _ => F2.cell 1 rfl rfl)) ?_)
            refine Ops.step (One.val rfl rfl rfl (yld_field fi31_3 rfl (ev_t rfl)) ?_)
            refine Ops.step (One.val rfl rfl rfl (yld_load1 on22 rfl (ev_t rfl) (fun _ => F2.cell 0 rfl rfl)) ?_)
            refine Ops.step (One.call rfl rfl rfl (ent_f rfl (evl2 (ev_t rfl) (ev_t rfl)) (enters en157)) (l1Lists_ct _ _ _ _ _ (h3.chg F2.chg) (h3'.chg F2.chg)) (fun e w4 hw4 => ?_))
            obtain ⟨rfl, C4⟩ := hw4
            have F4 := F2.call C4
            refine ⟨_, rfl, ?_⟩
            refine Ops.step (One.val rfl rfl rfl (yld_assign rfl (ev_t rfl)) ?_)
            refine Ops.nil fun a hS => ?_
            refine hK13 _ _ ?_ a hS
            refine Cod.seq fun K14 hK14 => ?_
            refine Cod.seq fun K15 hK15 => ?_
            refine Cod.region ?_
            refine Ops.step (One.val rfl rfl rfl (yld_move rfl (ev_t rfl)) ?_)
            refine Ops.step (One.val rfl rfl rfl (yld_neq rfl (ev_t rfl) ev_c) ?_)
            refine Ops.nil fun a hS => ?_
            refine hK15 _ _ ?_ a hS
            refine Cod.cond rfl (fun hc47 => ?_) (fun hc47 => ?_)
            · skip
              have hl : listCmp cmpS ks ks' ≠ 0 := by simpa using hc47
              refine Cod.seq fun K16 hK16 => ?_
              refine Cod.region ?_
              refine Ops.step (One.val rfl rfl rfl (yld_move rfl (ev_t rfl)) ?_)
              refine Ops.step (One.val rfl rfl rfl (yld_assign rfl (ev_t rfl)) ?_)
              refine Ops.nil fun a hS => ?_
              refine hK16 _ _ ?_ a hS
              refine Cod.ret fun a hS => ?_
              try simp only [Exit.then, Exit.inBlock]
              exact ret1 (t := 4) rfl hS rfl ⟨ret_i (by rw [Tr.ord_mk, hkk, hnn, hs]; simp [orI, hl]), F4.chg⟩
            · skip
              have hl : listCmp cmpS ks ks' = 0 := by simpa using hc47
              refine Cod.skip fun a hS => ?_
              refine hK14 _ _ ?_ a hS
              refine Cod.seq fun K17 hK17 => ?_
              refine Cod.region ?_
              refine Ops.step (One.val rfl rfl rfl (yld_field fi31_4 rfl (ev_t rfl)) ?_)
              refine Ops.step (One.val rfl rfl rfl (yld_load1 on29 rfl (ev_t rfl) (fun _ => F4.cell 1 rfl rfl)) ?_)
              refine Ops.step (One.val rfl rfl rfl (yld_field fi31_4 rfl (ev_t rfl)) ?_)
              refine Ops.step (One.val rfl rfl rfl (yld_load1 on29 rfl (ev_t rfl) (fun _ => F4.cell 0 rfl rfl)) ?_)
              refine Ops.step (One.call rfl rfl rfl (ent_f rfl (evl2 (ev_t rfl) (ev_t rfl)) (enters en158)) (l1Rows_of _ _ H _ _ _ (h4.chg F4.chg) (h4'.chg F4.chg)) (fun e w5 hw5 => ?_))
              obtain ⟨rfl, C5⟩ := hw5
              have F5 := F4.call C5
              refine ⟨_, rfl, ?_⟩
              refine Ops.step (One.val rfl rfl rfl (yld_assign rfl (ev_t rfl)) ?_)
              refine Ops.nil fun a hS => ?_
              refine hK17 _ _ ?_ a hS
              refine Cod.ret fun a hS => ?_
              try simp only [Exit.then, Exit.inBlock]
              exact ret1 (t := 4) rfl hS rfl ⟨ret_i (by rw [Tr.ord_mk, hkk, hnn, hs, hl]; simp [orI]), F5.chg⟩


theorem specOrd_ct (t : Tr) : OrdOk 145 t := Tr.ind (p := OrdOk 145) specOrd_of t

set_option maxRecDepth 100000 in
theorem slCompare_ct (p q : List ByteArray) (v v' : Value) (w : World) (hp : RepS Any w p v) (hq : RepS Any w q v') : Calls Try.prog 97 #[v, v'] w fun e w' => e = .returned (.int .i64 (listCmp cmpS p q)) ∧ Chg No w w' := by
  obtain ⟨A, c, rfl, hn⟩ := hp.open
  obtain ⟨A', c', rfl, hn'⟩ := hq.open
  refine enter Try.func97 rfl rfl rfl ?_
  have F0 := Fr.start w
  refine Cod.seq fun K1 hK1 => ?_
  refine Cod.region ?_
  refine Ops.step (One.val rfl rfl rfl (yld_assign rfl ev_c) ?_)
  refine Ops.nil fun a hS => ?_
  refine hK1 _ _ ?_ a hS
  refine Cod.seq fun K2 hK2 => ?_
  refine Cod.seq fun K3 hK3 => ?_
  refine Cod.region ?_
  refine Ops.step (One.val rfl rfl rfl (yld_move rfl (ev_t rfl)) ?_)
  refine Ops.step (One.val rfl rfl rfl (yld_len sl22 rfl (ev_t rfl)) ?_)
  refine Ops.step (One.val rfl rfl rfl (yld_move rfl ev_c) ?_)
  refine Ops.nil fun a hS => ?_
  refine hK3 _ _ ?_ a hS
  refine Cod.block ?_
  refine Cod.loop (fun i : Nat => [(0, true, .slice A p.length c), (1, true, .slice A' q.length c'), (9, true, .slice A p.length c), (10, true, .int .i64 (p.length : Int)), (11, true, .int .i64 (i : Int))]) (fun i w' => i ≤ p.length ∧ i ≤ q.length ∧ listCmp cmpS p q = listCmp cmpS (p.drop i) (q.drop i) ∧ Fr No w [] w') (fun i => p.length - i) 0 ⟨rfl, rfl, rfl, rfl, rfl, trivial⟩ ⟨Nat.zero_le _, Nat.zero_le _, rfl, F0⟩ ?_
  intro i w1 hW K4 hK4
  obtain ⟨hi, hi2, hall, F1⟩ := hW
  refine Cod.seq fun K5 hK5 => ?_
  refine Cod.region ?_
  refine Ops.step (One.val rfl rfl rfl (yld_lss rfl (ev_t rfl) (ev_t rfl)) ?_)
  refine Ops.nil fun a hS => ?_
  refine hK5 _ _ ?_ a hS
  refine Cod.seq fun K6 hK6 => ?_
  refine Cod.cond rfl (fun hc12 => ?_) (fun hc12 => ?_)
  · skip
    have hi : i < p.length := by simpa using hc12
    obtain ⟨b, o, rfl, -, hr⟩ := hp.at i hi
    refine Cod.skip fun a hS => ?_
    refine hK6 _ _ ?_ a hS
    refine Cod.seq fun K7 hK7 => ?_
    refine Cod.block ?_
    refine Cod.seq fun K8 hK8 => ?_
    refine Cod.region ?_
    refine Ops.step (One.val rfl rfl rfl (yld_move rfl (ev_t rfl)) ?_)
    refine Ops.step (One.val rfl rfl rfl (yld_indexN sl22 rfl (ev_t rfl) (ev_t rfl) (fun _ => by omega)) ?_)
    refine Ops.step (One.val rfl rfl rfl (yld_load1 on9 rfl (ev_t rfl) (fun _ => rangeAt_cell (rng hr F1.chg) (j := 0) rfl)) ?_)
    refine Ops.step (One.val rfl rfl rfl (yld_assign rfl (ev_t rfl)) ?_)
    refine Ops.step (One.val rfl rfl rfl (yld_assign rfl (ev_t rfl)) ?_)
    refine Ops.nil fun a hS => ?_
    refine hK8 _ _ ?_ a hS
    refine Cod.seq fun K9 hK9 => ?_
    refine Cod.seq fun K10 hK10 => ?_
    refine Cod.region ?_
    refine Ops.step (One.val rfl rfl rfl (yld_move rfl (ev_t rfl)) ?_)
    refine Ops.step (One.val rfl rfl rfl (yld_move rfl (ev_t rfl)) ?_)
    refine Ops.step (One.val rfl rfl rfl (yld_len sl22 rfl (ev_t rfl)) ?_)
    refine Ops.step (One.val rfl rfl rfl (yld_geq rfl (ev_t rfl) (ev_t rfl)) ?_)
    refine Ops.nil fun a hS => ?_
    refine hK10 _ _ ?_ a hS
    refine Cod.cond rfl (fun hc19 => ?_) (fun hc19 => ?_)
    · skip
      have hend := listCmp_end (f := cmpS) (Nat.le_of_lt hi) hi2 (.inr (by simp at hc19; omega))
      rw [← hall] at hend
      have hql : q.length ≤ i := by simp at hc19; omega
      refine Cod.seq fun K11 hK11 => ?_
      refine Cod.region ?_
      refine Ops.step (One.val rfl rfl rfl (yld_assign rfl ev_c) ?_)
      refine Ops.nil fun a hS => ?_
      refine hK11 _ _ ?_ a hS
      refine Cod.ret fun a hS => ?_
      try simp only [Exit.then, Exit.inBlock]
      exact ret1 (t := 4) rfl hS rfl ⟨ret_i (by rw [hend]; unfold clampL; repeat split <;> omega), F1.chg⟩
    · skip
      have hi2 : i < q.length := by simp at hc19; omega
      obtain ⟨b2, o2, rfl, -, hr2⟩ := hq.at i hi2
      refine Cod.skip fun a hS => ?_
      refine hK9 _ _ ?_ a hS
      refine Cod.seq fun K12 hK12 => ?_
      refine Cod.region ?_
      refine Ops.step (One.val rfl rfl rfl (yld_move rfl (ev_t rfl)) ?_)
      refine Ops.step (One.val rfl rfl rfl (yld_move rfl (ev_t rfl)) ?_)
      refine Ops.step (One.val rfl rfl rfl (yld_indexN sl22 rfl (ev_t rfl) (ev_t rfl) (fun _ => by omega)) ?_)
      refine Ops.step (One.val rfl rfl rfl (yld_load1 on9 rfl (ev_t rfl) (fun _ => rangeAt_cell (rng hr2 F1.chg) (j := 0) rfl)) ?_)
      refine Ops.step (One.val rfl rfl rfl (yld_assign rfl (ev_t rfl)) ?_)
      refine Ops.nil fun a hS => ?_
      refine hK12 _ _ ?_ a hS
      refine Cod.seq fun K13 hK13 => ?_
      refine Cod.region ?_
      refine Ops.step (One.val rfl rfl rfl (yld_move rfl (ev_t rfl)) ?_)
      refine Ops.step (One.val rfl rfl rfl (yld_move rfl (ev_t rfl)) ?_)
      refine Ops.step (One.call rfl rfl rfl (ent_f rfl (evl2 (ev_t rfl) (ev_t rfl)) (enters en96)) (cmpS_ct _ _ _) (fun e w2 hw2 => ?_))
      obtain ⟨rfl, C2⟩ := hw2
      have F2 := F1.call C2
      refine ⟨_, rfl, ?_⟩
      refine Ops.step (One.val rfl rfl rfl (yld_assign rfl (ev_t rfl)) ?_)
      refine Ops.nil fun a hS => ?_
      refine hK13 _ _ ?_ a hS
      refine Cod.seq fun K14 hK14 => ?_
      refine Cod.region ?_
      refine Ops.step (One.val rfl rfl rfl (yld_move rfl (ev_t rfl)) ?_)
      refine Ops.step (One.val rfl rfl rfl (yld_neq rfl (ev_t rfl) ev_c) ?_)
      refine Ops.nil fun a hS => ?_
      refine hK14 _ _ ?_ a hS
      refine Cod.cond rfl (fun hc28 => ?_) (fun hc28 => ?_)
      · skip
        have hz : cmpS p[i] q[i] ≠ 0 := by simpa using hc28
        refine Cod.seq fun K15 hK15 => ?_
        refine Cod.region ?_
        refine Ops.step (One.val rfl rfl rfl (yld_move rfl (ev_t rfl)) ?_)
        refine Ops.step (One.val rfl rfl rfl (yld_assign rfl (ev_t rfl)) ?_)
        refine Ops.nil fun a hS => ?_
        refine hK15 _ _ ?_ a hS
        refine Cod.ret fun a hS => ?_
        try simp only [Exit.then, Exit.inBlock]
        exact ret1 (t := 4) rfl hS rfl ⟨ret_i (by rw [hall, listCmp_ne hi hi2 hz]), F2.chg⟩
      · skip
        have hz : cmpS p[i] q[i] = 0 := by simpa using hc28
        refine Cod.skip fun a hS => ?_
        refine hK7 _ _ ?_ a hS
        refine Cod.region ?_
        refine Ops.step (One.val rfl rfl rfl (yld_inc rfl (ev_t rfl) (fun _ => by omega)) ?_)
        refine Ops.step (One.val rfl rfl rfl (yld_move rfl (ev_t rfl)) ?_)
        refine Ops.nil fun a hS => ?_
        exact hK4 (i + 1) _ a (hS.sub ⟨rfl, rfl, rfl, rfl, rfl, trivial⟩) ⟨by omega, by omega, by rw [hall, listCmp_step hi hi2 hz], F2⟩ (by omega)
  · skip
    have hip : i = p.length := by simp at hc12; omega
    have hend := listCmp_end (f := cmpS) hi hi2 (.inl hip)
    rw [← hall] at hend
    refine Cod.exit fun a hS => ?_
    simp only [Exit.then, Exit.inBlock, ↓reduceIte]
    refine hK2 _ _ ?_ a hS
    refine Cod.seq fun K16 hK16 => ?_
    refine Cod.seq fun K17 hK17 => ?_
    refine Cod.region ?_
    refine Ops.step (One.val rfl rfl rfl (yld_move rfl (ev_t rfl)) ?_)
    refine Ops.step (One.val rfl rfl rfl (yld_len sl22 rfl (ev_t rfl)) ?_)
    refine Ops.step (One.val rfl rfl rfl (yld_move rfl (ev_t rfl)) ?_)
    refine Ops.step (One.val rfl rfl rfl (yld_len sl22 rfl (ev_t rfl)) ?_)
    refine Ops.step (One.val rfl rfl rfl (yld_lss rfl (ev_t rfl) (ev_t rfl)) ?_)
    refine Ops.nil fun a hS => ?_
    refine hK17 _ _ ?_ a hS
    refine Cod.cond rfl (fun hc35 => ?_) (fun hc35 => ?_)
    · skip
      refine Cod.seq fun K18 hK18 => ?_
      refine Cod.region ?_
      refine Ops.step (One.val rfl rfl rfl (yld_assign rfl ev_c) ?_)
      refine Ops.nil fun a hS => ?_
      refine hK18 _ _ ?_ a hS
      refine Cod.ret fun a hS => ?_
      try simp only [Exit.then, Exit.inBlock]
      exact ret1 (t := 4) rfl hS rfl ⟨ret_i (by rw [hend]; unfold clampL; simp at hc35; repeat split <;> omega), F1.chg⟩
    · skip
      refine Cod.skip fun a hS => ?_
      refine hK16 _ _ ?_ a hS
      refine Cod.seq fun K19 hK19 => ?_
      refine Cod.region ?_
      refine Ops.step (One.val rfl rfl rfl (yld_assign rfl ev_c) ?_)
      refine Ops.nil fun a hS => ?_
      refine hK19 _ _ ?_ a hS
      refine Cod.ret fun a hS => ?_
      try simp only [Exit.then, Exit.inBlock]
      exact ret1 (t := 4) rfl hS rfl ⟨ret_i (by rw [hend]; unfold clampL; simp at hc35; repeat split <;> omega), F1.chg⟩

set_option maxRecDepth 100000 in
theorem compareFunc_of (p q : List Tr) (H : ∀ t ∈ p, OrdOk 38 t) (v v' : Value) (w : World) (hp : RepL Any w p v) (hq : RepL Any w q v') : Calls Try.prog 98 #[v, v', .func (.func 38) #[] #[]] w fun e w' => e = .returned (.int .i64 (listCmp Tr.ord p q)) ∧ Chg No w w' := by
  obtain ⟨A, c, rfl, hn⟩ := hp.open
  obtain ⟨A', c', rfl, hn'⟩ := hq.open
  refine enter Try.func98 rfl rfl rfl ?_
  have F0 := Fr.start w
  refine Cod.seq fun K1 hK1 => ?_
  refine Cod.region ?_
  refine Ops.step (One.val rfl rfl rfl (yld_assign rfl ev_c) ?_)
  refine Ops.nil fun a hS => ?_
  refine hK1 _ _ ?_ a hS
  refine Cod.seq fun K2 hK2 => ?_
  refine Cod.seq fun K3 hK3 => ?_
  refine Cod.region ?_
  refine Ops.step (One.val rfl rfl rfl (yld_move rfl (ev_t rfl)) ?_)
  refine Ops.step (One.val rfl rfl rfl (yld_len sl29 rfl (ev_t rfl)) ?_)
  refine Ops.step (One.val rfl rfl rfl (yld_move rfl ev_c) ?_)
  refine Ops.nil fun a hS => ?_
  refine hK3 _ _ ?_ a hS
  refine Cod.block ?_
  refine Cod.loop (fun i : Nat => [(0, true, .slice A p.length c), (1, true, .slice A' q.length c'), (2, true, .func (.func 38) #[] #[]), (11, true, .slice A p.length c), (12, true, .int .i64 (p.length : Int)), (13, true, .int .i64 (i : Int))]) (fun i w' => i ≤ p.length ∧ i ≤ q.length ∧ listCmp Tr.ord p q = listCmp Tr.ord (p.drop i) (q.drop i) ∧ Fr No w [] w') (fun i => p.length - i) 0 ⟨rfl, rfl, rfl, rfl, rfl, rfl, trivial⟩ ⟨Nat.zero_le _, Nat.zero_le _, rfl, F0⟩ ?_
  intro i w1 hW K4 hK4
  obtain ⟨hi, hi2, hall, F1⟩ := hW
  refine Cod.seq fun K5 hK5 => ?_
  refine Cod.region ?_
  refine Ops.step (One.val rfl rfl rfl (yld_lss rfl (ev_t rfl) (ev_t rfl)) ?_)
  refine Ops.nil fun a hS => ?_
  refine hK5 _ _ ?_ a hS
  refine Cod.seq fun K6 hK6 => ?_
  refine Cod.cond rfl (fun hc14 => ?_) (fun hc14 => ?_)
  · skip
    have hi : i < p.length := by simpa using hc14
    obtain ⟨b, o, cs, rfl, -, hlc, hr, ht⟩ := hp.at i hi
    obtain ⟨y1, y2, y3, y4, y5, rfl⟩ := five hlc
    refine Cod.skip fun a hS => ?_
    refine hK6 _ _ ?_ a hS
    refine Cod.seq fun K7 hK7 => ?_
    refine Cod.block ?_
    refine Cod.seq fun K8 hK8 => ?_
    refine Cod.region ?_
    refine Ops.step (One.val rfl rfl rfl (yld_move rfl (ev_t rfl)) ?_)
    refine Ops.step (One.val rfl rfl rfl (yld_indexN sl29 rfl (ev_t rfl) (ev_t rfl) (fun _ => by omega)) ?_)
    refine Ops.step (One.val rfl rfl rfl (yld_loadN ag31 rfl (ev_t rfl) (fun _ => rng hr F1.chg) rfl) ?_)
    refine Ops.step (One.alloc F1 zero31 rfl rfl rfl rfl ?_)
    intro b1 w2 hb1 F2
    change Fr _ _ [blk _ _ [_, _, _, _, _]] _ at F2
    refine Ops.step (One.val rfl rfl rfl (yld_assign rfl (ev_t rfl)) ?_)
    refine Ops.step (One.storeN (vs := [_, _, _, _, _]) F2 0 rfl sz31 rfl rfl rfl (ev_t rfl) (ev_t rfl) rfl rfl ht.one ?_)
    intro w3 F3
    change Fr _ _ [blk _ _ [_, _, _, _, _]] _ at F3
    refine Ops.nil fun a hS => ?_
    refine hK8 _ _ ?_ a hS
    refine Cod.seq fun K9 hK9 => ?_
    refine Cod.seq fun K10 hK10 => ?_
    refine Cod.region ?_
    refine Ops.step (One.val rfl rfl rfl (yld_move rfl (ev_t rfl)) ?_)
    refine Ops.step (One.val rfl rfl rfl (yld_move rfl (ev_t rfl)) ?_)
    refine Ops.step (One.val rfl rfl rfl (yld_len sl29 rfl (ev_t rfl)) ?_)
    refine Ops.step (One.val rfl rfl rfl (yld_geq rfl (ev_t rfl) (ev_t rfl)) ?_)
    refine Ops.nil fun a hS => ?_
    refine hK10 _ _ ?_ a hS
    refine Cod.cond rfl (fun hc21 => ?_) (fun hc21 => ?_)
    · skip
      have hend := listCmp_end (f := Tr.ord) (Nat.le_of_lt hi) hi2 (.inr (by simp at hc21; omega))
      rw [← hall] at hend
      have hql : q.length ≤ i := by simp at hc21; omega
      refine Cod.seq fun K11 hK11 => ?_
      refine Cod.region ?_
      refine Ops.step (One.val rfl rfl rfl (yld_assign rfl ev_c) ?_)
      refine Ops.nil fun a hS => ?_
      refine hK11 _ _ ?_ a hS
      refine Cod.ret fun a hS => ?_
      try simp only [Exit.then, Exit.inBlock]
      exact ret1 (t := 6) rfl hS rfl ⟨ret_i (by rw [hend]; unfold clampL; repeat split <;> omega), F3.chg⟩
    · skip
      have hi2 : i < q.length := by simp at hc21; omega
      obtain ⟨b2, o2, cs2, rfl, -, hlc2, hr2, ht2⟩ := hq.at i hi2
      obtain ⟨z1, z2, z3, z4, z5, rfl⟩ := five hlc2
      refine Cod.skip fun a hS => ?_
      refine hK9 _ _ ?_ a hS
      refine Cod.seq fun K12 hK12 => ?_
      refine Cod.region ?_
      refine Ops.step (One.val rfl rfl rfl (yld_move rfl (ev_t rfl)) ?_)
      refine Ops.step (One.val rfl rfl rfl (yld_move rfl (ev_t rfl)) ?_)
      refine Ops.step (One.val rfl rfl rfl (yld_indexN sl29 rfl (ev_t rfl) (ev_t rfl) (fun _ => by omega)) ?_)
      refine Ops.step (One.val rfl rfl rfl (yld_loadN ag31 rfl (ev_t rfl) (fun _ => rng hr2 F3.chg) rfl) ?_)
      refine Ops.step (One.alloc F3 zero31 rfl rfl rfl rfl ?_)
      intro b2 w4 hb2 F4
      change Fr _ _ [blk _ _ [_, _, _, _, _], blk _ _ [_, _, _, _, _]] _ at F4
      refine Ops.step (One.storeN (vs := [_, _, _, _, _]) F4 0 rfl sz31 rfl rfl rfl (ev_t rfl) (ev_t rfl) rfl rfl ht2.one ?_)
      intro w5 F5
      change Fr _ _ [blk _ _ [_, _, _, _, _], blk _ _ [_, _, _, _, _]] _ at F5
      refine Ops.nil fun a hS => ?_
      refine hK12 _ _ ?_ a hS
      refine Cod.seq fun K13 hK13 => ?_
      refine Cod.region ?_
      refine Ops.step (One.val rfl rfl rfl (yld_move rfl (ev_t rfl)) ?_)
      refine Ops.step (One.val rfl rfl rfl (yld_loadN ag31 rfl (ev_t rfl) (fun _ => F5.range (m := 5) (cs' := [_, _, _, _, _]) 1 rfl rfl) rfl) ?_)
      refine Ops.step (One.val rfl rfl rfl (yld_loadN ag31 rfl (ev_t rfl) (fun _ => F5.range (m := 5) (cs' := [_, _, _, _, _]) 0 rfl rfl) rfl) ?_)
      refine Ops.step (One.call rfl rfl rfl (ent_c0 rfl (ev_t rfl) (evl2 (ev_t rfl) (ev_t rfl)) (enters en38)) (H _ (List.getElem_mem hi) q[i] _ _ _ (ht.chg F5.chg) (ht2.chg F5.chg)) (fun e w6 hw6 => ?_))
      obtain ⟨rfl, C6⟩ := hw6
      have F6 := F5.call C6
      refine ⟨_, rfl, ?_⟩
      refine Ops.step (One.val rfl rfl rfl (yld_assign rfl (ev_t rfl)) ?_)
      refine Ops.nil fun a hS => ?_
      refine hK13 _ _ ?_ a hS
      refine Cod.seq fun K14 hK14 => ?_
      refine Cod.region ?_
      refine Ops.step (One.val rfl rfl rfl (yld_move rfl (ev_t rfl)) ?_)
      refine Ops.step (One.val rfl rfl rfl (yld_neq rfl (ev_t rfl) ev_c) ?_)
      refine Ops.nil fun a hS => ?_
      refine hK14 _ _ ?_ a hS
      refine Cod.cond rfl (fun hc31 => ?_) (fun hc31 => ?_)
      · skip
        have hz : Tr.ord p[i] q[i] ≠ 0 := by simpa using hc31
        refine Cod.seq fun K15 hK15 => ?_
        refine Cod.region ?_
        refine Ops.step (One.val rfl rfl rfl (yld_move rfl (ev_t rfl)) ?_)
        refine Ops.step (One.val rfl rfl rfl (yld_assign rfl (ev_t rfl)) ?_)
        refine Ops.nil fun a hS => ?_
        refine hK15 _ _ ?_ a hS
        refine Cod.ret fun a hS => ?_
        try simp only [Exit.then, Exit.inBlock]
        exact ret1 (t := 6) rfl hS rfl ⟨ret_i (by rw [hall, listCmp_ne hi hi2 hz]), F6.chg⟩
      · skip
        have hz : Tr.ord p[i] q[i] = 0 := by simpa using hc31
        refine Cod.skip fun a hS => ?_
        refine hK7 _ _ ?_ a hS
        refine Cod.region ?_
        refine Ops.step (One.val rfl rfl rfl (yld_inc rfl (ev_t rfl) (fun _ => by omega)) ?_)
        refine Ops.step (One.val rfl rfl rfl (yld_move rfl (ev_t rfl)) ?_)
        refine Ops.nil fun a hS => ?_
        exact hK4 (i + 1) _ a (hS.sub ⟨rfl, rfl, rfl, rfl, rfl, rfl, trivial⟩) ⟨by omega, by omega, by rw [hall, listCmp_step hi hi2 hz], F6.drop1.drop1⟩ (by omega)
  · skip
    have hip : i = p.length := by simp at hc14; omega
    have hend := listCmp_end (f := Tr.ord) hi hi2 (.inl hip)
    rw [← hall] at hend
    refine Cod.exit fun a hS => ?_
    simp only [Exit.then, Exit.inBlock, ↓reduceIte]
    refine hK2 _ _ ?_ a hS
    refine Cod.seq fun K16 hK16 => ?_
    refine Cod.seq fun K17 hK17 => ?_
    refine Cod.region ?_
    refine Ops.step (One.val rfl rfl rfl (yld_move rfl (ev_t rfl)) ?_)
    refine Ops.step (One.val rfl rfl rfl (yld_len sl29 rfl (ev_t rfl)) ?_)
    refine Ops.step (One.val rfl rfl rfl (yld_move rfl (ev_t rfl)) ?_)
    refine Ops.step (One.val rfl rfl rfl (yld_len sl29 rfl (ev_t rfl)) ?_)
    refine Ops.step (One.val rfl rfl rfl (yld_lss rfl (ev_t rfl) (ev_t rfl)) ?_)
    refine Ops.nil fun a hS => ?_
    refine hK17 _ _ ?_ a hS
    refine Cod.cond rfl (fun hc38 => ?_) (fun hc38 => ?_)
    · skip
      refine Cod.seq fun K18 hK18 => ?_
      refine Cod.region ?_
      refine Ops.step (One.val rfl rfl rfl (yld_assign rfl ev_c) ?_)
      refine Ops.nil fun a hS => ?_
      refine hK18 _ _ ?_ a hS
      refine Cod.ret fun a hS => ?_
      try simp only [Exit.then, Exit.inBlock]
      exact ret1 (t := 6) rfl hS rfl ⟨ret_i (by rw [hend]; unfold clampL; simp at hc38; repeat split <;> omega), F1.chg⟩
    · skip
      refine Cod.skip fun a hS => ?_
      refine hK16 _ _ ?_ a hS
      refine Cod.seq fun K19 hK19 => ?_
      refine Cod.region ?_
      refine Ops.step (One.val rfl rfl rfl (yld_assign rfl ev_c) ?_)
      refine Ops.nil fun a hS => ?_
      refine hK19 _ _ ?_ a hS
      refine Cod.ret fun a hS => ?_
      try simp only [Exit.then, Exit.inBlock]
      exact ret1 (t := 6) rfl hS rfl ⟨ret_i (by rw [hend]; unfold clampL; simp at hc38; repeat split <;> omega), F1.chg⟩

set_option maxRecDepth 100000 in
theorem valOrd_of (k n : Int) (s : ByteArray) (ks : List ByteArray) (l : List Tr) (H : ∀ t ∈ l, OrdOk 38 t) : OrdOk 38 (.mk k n s ks l) := by
  intro t' v v' w hr hr'
  obtain ⟨v3, v4, rfl, h3, h4⟩ := hr.open
  obtain ⟨k', n', s', ks', l'⟩ := t'
  obtain ⟨v3', v4', rfl, h3', h4'⟩ := hr'.open
  refine enter Try.func38 rfl rfl rfl ?_
  have F0 := Fr.start w
  refine Cod.seq fun K1 hK1 => ?_
  refine Cod.region ?_
  refine Ops.step (One.box F0 rfl rfl rfl rfl (ev_t rfl) ?_)
  intro b1 w1 hb1 F1
  change Fr _ _ [blk _ _ [_, _, _, _, _]] _ at F1
  refine Ops.step (One.box F1 rfl rfl rfl rfl (ev_t rfl) ?_)
  intro b2 w2 hb2 F2
  change Fr _ _ [blk _ _ [_, _, _, _, _], blk _ _ [_, _, _, _, _]] _ at F2
  refine Ops.step (One.val rfl rfl rfl (yld_assign rfl ev_c) ?_)
  refine Ops.nil fun a hS => ?_
  refine hK1 _ _ ?_ a hS
  refine Cod.seq fun K2 hK2 => ?_
  have F3 := F2.drew
  refine Cod.draw (C_of F3) (by kernel_rfl) ?_
  refine Hops.take 0 rfl (by kernel_rfl) (fun _ _ _ h => h) rfl rfl rfl F3 (fun w F => (yld_field fi31_0 rfl (ev_t rfl))) ?_
  refine Hops.take 1 rfl (by kernel_rfl) (fun _ _ _ h => h) rfl rfl rfl F3 (fun w F => (yld_load1 on3 rfl (ev_t rfl) (fun _ => F.cell 1 rfl rfl))) ?_
  refine Hops.take 2 rfl (by kernel_rfl) (fun _ _ _ h => h) rfl rfl rfl F3 (fun w F => (yld_field fi31_0 rfl (ev_t rfl))) ?_
  refine Hops.take 3 rfl (by kernel_rfl) (fun _ _ _ h => h) rfl rfl rfl F3 (fun w F => (yld_load1 on3 rfl (ev_t rfl) (fun _ => F.cell 0 rfl rfl))) ?_
  refine Hops.take 5 rfl (by kernel_rfl) (fun _ _ _ h => h) rfl rfl rfl F3 (fun w F => (yld_field fi31_1 rfl (ev_t rfl))) ?_
  refine Hops.take 6 rfl (by kernel_rfl) (fun _ _ _ h => h) rfl rfl rfl F3 (fun w F => (yld_load1 on3 rfl (ev_t rfl) (fun _ => F.cell 1 rfl rfl))) ?_
  refine Hops.take 7 rfl (by kernel_rfl) (fun _ _ _ h => h) rfl rfl rfl F3 (fun w F => (yld_field fi31_1 rfl (ev_t rfl))) ?_
  refine Hops.take 8 rfl (by kernel_rfl) (fun _ _ _ h => h) rfl rfl rfl F3 (fun w F => (yld_load1 on3 rfl (ev_t rfl) (fun _ => F.cell 0 rfl rfl))) ?_
  refine Hops.take 10 rfl (by kernel_rfl) (fun _ _ _ h => h) rfl rfl rfl F3 (fun w F => (yld_field fi31_2 rfl (ev_t rfl))) ?_
  refine Hops.take 11 rfl (by kernel_rfl) (fun _ _ _ h => h) rfl rfl rfl F3 (fun w F => (yld_load1 on9 rfl (ev_t rfl) (fun _ => F.cell 1 rfl rfl))) ?_
  refine Hops.take 12 rfl (by kernel_rfl) (fun _ _ _ h => h) rfl rfl rfl F3 (fun w F => (yld_field fi31_2 rfl (ev_t rfl))) ?_
  refine Hops.take 13 rfl (by kernel_rfl) (fun _ _ _ h => h) rfl rfl rfl F3 (fun w F => (yld_load1 on9 rfl (ev_t rfl) (fun _ => F.cell 0 rfl rfl))) ?_
  refine Hops.take 15 rfl (by kernel_rfl) (fun _ _ _ h => h) rfl rfl rfl F3 (fun w F => (yld_field fi31_3 rfl (ev_t rfl))) ?_
  refine Hops.take 16 rfl (by kernel_rfl) (fun _ _ _ h => h) rfl rfl rfl F3 (fun w F => (yld_load1 on22 rfl (ev_t rfl) (fun _ => F.cell 1 rfl rfl))) ?_
  refine Hops.take 17 rfl (by kernel_rfl) (fun _ _ _ h => h) rfl rfl rfl F3 (fun w F => (yld_field fi31_3 rfl (ev_t rfl))) ?_
  refine Hops.take 18 rfl (by kernel_rfl) (fun _ _ _ h => h) rfl rfl rfl F3 (fun w F => (yld_load1 on22 rfl (ev_t rfl) (fun _ => F.cell 0 rfl rfl))) ?_
  refine Hops.take 20 rfl (by kernel_rfl) (fun _ _ _ h => h) rfl rfl rfl F3 (fun w F => (yld_field fi31_4 rfl (ev_t rfl))) ?_
  refine Hops.take 21 rfl (by kernel_rfl) (fun _ _ _ h => h) rfl rfl rfl F3 (fun w F => (yld_load1 on29 rfl (ev_t rfl) (fun _ => F.cell 1 rfl rfl))) ?_
  refine Hops.take 22 rfl (by kernel_rfl) (fun _ _ _ h => h) rfl rfl rfl F3 (fun w F => (yld_field fi31_4 rfl (ev_t rfl))) ?_
  refine Hops.take 23 rfl (by kernel_rfl) (fun _ _ _ h => h) rfl rfl rfl F3 (fun w F => (yld_load1 on29 rfl (ev_t rfl) (fun _ => F.cell 0 rfl rfl))) ?_
  refine Hops.one 4 rfl (by kernel_rfl) (One.call rfl rfl rfl (ent_f rfl (evl2 (ev_t rfl) (ev_t rfl)) (enters en95)) (cmpI_ct _ _ _) (fun e w3 hw3 => ?_))
  obtain ⟨rfl, C3⟩ := hw3
  have F4 := F3.call C3
  refine ⟨_, rfl, ?_⟩
  refine ⟨F4, ?_⟩
  refine Hops.one 9 rfl (by kernel_rfl) (One.call rfl rfl rfl (ent_f rfl (evl2 (ev_t rfl) (ev_t rfl)) (enters en95)) (cmpI_ct _ _ _) (fun e w4 hw4 => ?_))
  obtain ⟨rfl, C4⟩ := hw4
  have F5 := F4.call C4
  refine ⟨_, rfl, ?_⟩
  refine ⟨F5, ?_⟩
  refine Hops.one 14 rfl (by kernel_rfl) (One.call rfl rfl rfl (ent_f rfl (evl2 (ev_t rfl) (ev_t rfl)) (enters en96)) (cmpS_ct _ _ _) (fun e w5 hw5 => ?_))
  obtain ⟨rfl, C5⟩ := hw5
  have F6 := F5.call C5
  refine ⟨_, rfl, ?_⟩
  refine ⟨F6, ?_⟩
  refine Hops.one 19 rfl (by kernel_rfl) (One.call rfl rfl rfl (ent_f rfl (evl2 (ev_t rfl) (ev_t rfl)) (enters en97)) (slCompare_ct _ _ _ _ _ (h3.chg F6.chg) (h3'.chg F6.chg)) (fun e w6 hw6 => ?_))
  obtain ⟨rfl, C6⟩ := hw6
  have F7 := F6.call C6
  refine ⟨_, rfl, ?_⟩
  refine ⟨F7, ?_⟩
  refine Hops.one 24 rfl (by kernel_rfl) (One.call rfl rfl rfl (ent_f rfl (evl3 (ev_t rfl) (ev_t rfl) ev_f) (enters en98)) (compareFunc_of _ _ H _ _ _ (h4.chg F7.chg) (h4'.chg F7.chg)) (fun e w7 hw7 => ?_))
  obtain ⟨rfl, C7⟩ := hw7
  have F8 := F7.call C7
  refine ⟨_, rfl, ?_⟩
  refine ⟨F8, ?_⟩
  refine Hops.one 25 rfl (by kernel_rfl) (One.buildSlice (cells := [.int .i64 (cmpI k k'), .int .i64 (cmpI n n'), .int .i64 (cmpS s s'), .int .i64 (listCmp cmpS ks ks'), .int .i64 (listCmp Tr.ord l l')]) F8 sl128 zero3 rfl rfl rfl rfl (evp5 (ev_t rfl) (ev_t rfl) (ev_t rfl) (ev_t rfl) (ev_t rfl)) rfl rfl (by kernel_rfl) ?_)
  intro b3 w8 hb3 F9
  refine ⟨F9.drop1, ?_⟩
  refine Hops.one 26 rfl (by kernel_rfl) (One.call rfl rfl rfl (ent_f rfl (evl1 (ev_t rfl)) (enters en94)) (or_ct [cmpI k k', cmpI n n', cmpS s s', listCmp cmpS ks ks', listCmp Tr.ord l l'] _ _ ((blk_rep (enc := iCells) (sz := 1) (fun _ => rfl) (F9.get 0 rfl) (by simp) (by simp)).weak fun _ _ => trivial)) (fun e w9 hw9 => ?_))
  obtain ⟨rfl, C9⟩ := hw9
  have F10 := F9.call C9
  refine ⟨_, rfl, ?_⟩
  refine ⟨F10.drop1, ?_⟩
  refine Hops.one 27 rfl (by kernel_rfl) (One.val rfl rfl rfl (yld_assign rfl (ev_t rfl)) ?_)
  refine ⟨F10.drop1, ?_⟩
  refine Hops.nil (by kernel_rfl) fun a hS => ?_
  refine hK2 _ _ ?_ a hS
  refine Cod.ret fun a hS => ?_
  try simp only [Exit.then, Exit.inBlock]
  exact ret1 (t := 4) rfl hS rfl ⟨ret_i (by rw [Tr.ord_mk]), F10.chg⟩


theorem valOrd_ct (t : Tr) : OrdOk 38 t := Tr.ind (p := OrdOk 38) valOrd_of t

end Go.Proofs.Ytodbflfelimppaa.Eng
