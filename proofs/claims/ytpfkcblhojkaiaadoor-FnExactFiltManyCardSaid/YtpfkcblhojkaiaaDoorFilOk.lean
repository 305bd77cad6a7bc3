/- Walks of both FiltOk and FiltMany and what they call: they tell just whether a filter is well made and small enough, and how many parts it has. -/
import Derived.Test.YtpfkcblhojkaiaaDoorFil
import Derived.Test.YtpfkcblhojkaiaaDoorLai
import Derived.Test.YtpfkcblhojkaiaaDoorIns
import Derived.Test.YtpfkcblhojkaiaaDoorOk
import Derived.Test.YtpfkcblhojkaiaaDoorSame
namespace Go.Proofs.YtpfkcblhojkaiaaDoor.Eng
open Go.RowKit
set_option linter.unusedVariables false
set_option linter.unusedSimpArgs false
set_option maxHeartbeats 1000000


def kidsTab : List Int := [0, 0, 0, 0, 0, 0, 2, 2, 3, 2, 2, 2, 1, 0, 0, 0, 2, 1, 0, 0, 2, 1]
def kidsN (k : Int) : Int := if 1 ≤ k ∧ k ≤ 21 then kidsTab.getD k.toNat 0 else -1
def nilV : Tr := .mk 0 0 ⟨#[]⟩ [] []
noncomputable def okV (t : Tr) : Bool := decide (Form 6 t) && decide ((t.cnt : Int) ≤ 60)
def lookB (k : Int) (b : List Bool) : Bool := if k = 1 ∨ k = 3 ∨ k = 4 ∨ k = 5 ∨ k = 18 then true else if k = 6 ∨ k = 7 then b.getD 0 false && b.getD 1 false else if k = 8 then b.getD 1 false && b.getD 2 false else false
mutual
def Fl.looks : Fl → Bool | .mk k _ _ _ l => lookB k (Fl.looksL l)
def Fl.looksL : List Fl → List Bool | [] => [] | x :: l => x.looks :: Fl.looksL l
end
noncomputable def cleanB (k n : Int) (s : ByteArray) (tv : Tr) : Bool := ((k == 4 || n == 0) && ((k == 3 || k == 21) || decide (s = ⟨#[]⟩))) && (k == 2 || decide (tv = nilV))
structure NodeF (k n : Int) (s : ByteArray) (tv : Tr) (m : Nat) : Prop where
  kids : kidsN k = m
  clean : cleanB k n s tv = true
  n0 : -60 ≤ n
  n1 : n ≤ 59
  ok : okS s = true
  okv : okV tv = true
inductive FForm : Int → Fl → Prop
  | mk {d k n s tv l} (hd : 1 ≤ d) (hn : NodeF k n s tv l.length) (hl : ∀ x ∈ l, FForm (d - 1) x) (ht : k = 20 → ∀ x, l[0]? = some x → x.looks = true) : FForm d (.mk k n s tv l)
theorem FForm.iff {d k n s tv l} : FForm d (.mk k n s tv l) ↔ 1 ≤ d ∧ NodeF k n s tv l.length ∧ (∀ x ∈ l, FForm (d - 1) x) ∧ (k = 20 → ∀ x, l[0]? = some x → x.looks = true) :=
  ⟨fun h => by cases h with | mk hd hn hl ht => exact ⟨hd, hn, hl, ht⟩, fun ⟨a, b, c, d⟩ => .mk a b c d⟩
noncomputable instance (d : Int) (t : Fl) : Decidable (FForm d t) := Classical.propDecidable _
mutual
def Fl.cnt : Fl → Nat | .mk _ _ _ _ l => 1 + Fl.cnt1 l
def Fl.cnt1 : List Fl → Nat | [] => 0 | x :: l => x.cnt + Fl.cnt1 l
end
theorem Fl.cnt1_sum : ∀ l : List Fl, Fl.cnt1 l = sumN Fl.cnt l
  | [] => by simp [Fl.cnt1, sumN]
  | x :: l => by rw [Fl.cnt1, Fl.cnt1_sum l, sumN_cons]
theorem Fl.cnt_mk (k n : Int) (s : ByteArray) (v : Tr) (l : List Fl) : (Fl.mk k n s v l).cnt = 1 + sumN Fl.cnt l := by rw [Fl.cnt, Fl.cnt1_sum]
theorem Fl.cnt_wt (t : Fl) : t.cnt ≤ t.wt + 1 := Fl.ind (p := fun t => t.cnt ≤ t.wt + 1) (fun k n s v l H => by
  rw [Fl.cnt_mk, Fl.wt_mk]
  have := sumN_le H
  omega) t
theorem nineF {cs : List Value} (h : cs.length = 9) : ∃ a b c d e f g i j, cs = [a, b, c, d, e, f, g, i, j] := by
  match cs, h with
  | [a, b, c, d, e, f, g, i, j], _ => exact ⟨a, b, c, d, e, f, g, i, j, rfl⟩
theorem cells9F {w : World} {t : Fl} {a b c p q r u z d : Value} (h : RepF Any w t (.agg [a, b, c, p, q, r, u, z, d].toArray)) : [a, b, c, p, q, r, u, z, d].all (·.oneCell') = true := RepF.cells (x := ⟨a, b, c, ⟨p, q, r, u, z⟩, d⟩) h
theorem At.old9 {F w A m f} (h : At F w A 9 m f) : At (fun k => k < w.heap.size) w A 9 m f := fun hm => by
  obtain ⟨b, o, h1, h2, h3⟩ := h hm
  exact ⟨b, o, h1, range_old (h3 0 hm).2 (by have := (h3 0 hm).1; intro e; rw [e] at this; simp at this), h3⟩
theorem RepF.old {F w} {t : Fl} {v} (h : RepF F w t v) : RepF (fun k => k < w.heap.size) w t v := by
  induction h with
  | mk k n s v l y A c f hv hc hc' ha hr ih => exact .mk k n s v l y A c f hv.old hc hc' ha.old9 ih
theorem kids_no {k : Int} (h : ¬ (1 ≤ k ∧ k ≤ 21)) : kidsN k = -1 := if_neg h
theorem kids_in {k : Int} {m : Nat} (h : kidsN k = m) : 1 ≤ k ∧ k ≤ 21 := by
  rcases Classical.em (1 ≤ k ∧ k ≤ 21) with h' | h'
  · exact h'
  · rw [kids_no h'] at h; omega
theorem kids_two {k : Int} {m : Nat} (h : kidsN k = m) (hk : k = 6 ∨ k = 7) : m = 2 := by
  rcases hk with rfl | rfl
  · have e : kidsN 6 = 2 := by decide
    omega
  · have e : kidsN 7 = 2 := by decide
    omega
theorem kids_three {k : Int} {m : Nat} (h : kidsN k = m) (hk : k = 8) : m = 3 := by
  subst hk
  have e : kidsN 8 = 3 := by decide
  omega
theorem kids_turn {k : Int} {m : Nat} (h : kidsN k = m) (hk : k = 20) : m = 2 := by
  subst hk
  have e : kidsN 20 = 2 := by decide
  omega
theorem repN (w : World) : Rep Any w nilV (x5 0 0 ⟨#[]⟩ (.slice none 0 0) (.slice none 0 0)).val := Rep.close ⟨none, 0, rfl, Nat.le_refl _, by omega, fun h => absurd rfl h⟩ ⟨none, 0, fun _ => [], rfl, Nat.le_refl _, by omega, fun h => absurd h (by simp), fun i h => by simp at h⟩

set_option maxRecDepth 100000 in
theorem l4Kids_ct (k : Int) (w : World) : Calls Tryd.prog 79 #[.int .i64 k] w fun e w' => e = .returned (.int .i64 (kidsN k)) ∧ Chg No w w' := by
  refine enter Tryd.func79 rfl rfl rfl ?_
  have F0 := Fr.start w
  refine Cod.seq fun K1 hK1 => ?_
  refine Cod.region ?_
  refine Ops.step (One.val rfl rfl rfl (yld_assign rfl ev_c) ?_)
  refine Ops.nil fun a hS => ?_
  refine hK1 _ _ ?_ a hS
  refine Cod.seq fun K2 hK2 => ?_
  refine Cod.seq fun K3 hK3 => ?_
  refine Cod.region ?_
  refine Ops.step (One.val rfl rfl rfl (yld_move rfl (ev_t rfl)) ?_)
  refine Ops.nil fun a hS => ?_
  refine hK3 _ _ ?_ a hS
  refine Cod.block ?_
  refine Cod.seq fun K4 hK4 => ?_
  refine Cod.seq fun K5 hK5 => ?_
  refine Cod.region ?_
  refine Ops.step (One.val rfl rfl rfl (yld_eql rfl (ev_t rfl) ev_c) ?_)
  refine Ops.step (One.val rfl rfl rfl (yld_assign rfl (ev_t rfl)) ?_)
  refine Ops.nil fun a hS => ?_
  refine hK5 _ _ ?_ a hS
  refine Cod.cond rfl (fun hc4 => ?_) (fun hc4 => ?_)
  · skip
    obtain rfl : k = 1 := by simpa using hc4
    refine Cod.skip fun a hS => ?_
    refine hK4 _ _ ?_ a hS
    refine Cod.cond rfl (fun hc4_1 => ?_) (fun hc4_1 => ?_)
    · skip
      skip
      refine Cod.seq fun K6 hK6 => ?_
      refine Cod.region ?_
      refine Ops.step (One.val rfl rfl rfl (yld_assign rfl ev_c) ?_)
      refine Ops.nil fun a hS => ?_
      refine hK6 _ _ ?_ a hS
      refine Cod.ret fun a hS => ?_
      try simp only [Exit.then, Exit.inBlock]
      exact ret1 (t := 2) rfl hS rfl ⟨ret_i (by decide), F0.chg⟩
    · skip
      simp at hc4_1
  · skip
    have e1 : k ≠ 1 := by simpa using hc4
    refine Cod.seq fun K7 hK7 => ?_
    refine Cod.region ?_
    refine Ops.step (One.val rfl rfl rfl (yld_eql rfl (ev_t rfl) ev_c) ?_)
    refine Ops.step (One.val rfl rfl rfl (yld_assign rfl (ev_t rfl)) ?_)
    refine Ops.nil fun a hS => ?_
    refine hK7 _ _ ?_ a hS
    refine Cod.cond rfl (fun hc4 => ?_) (fun hc4 => ?_)
    · skip
      obtain rfl : k = 2 := by simpa using hc4
      refine Cod.skip fun a hS => ?_
      refine hK4 _ _ ?_ a hS
      refine Cod.cond rfl (fun hc4_1 => ?_) (fun hc4_1 => ?_)
      · skip
        skip
        refine Cod.seq fun K8 hK8 => ?_
        refine Cod.region ?_
        refine Ops.step (One.val rfl rfl rfl (yld_assign rfl ev_c) ?_)
        refine Ops.nil fun a hS => ?_
        refine hK8 _ _ ?_ a hS
        refine Cod.ret fun a hS => ?_
        try simp only [Exit.then, Exit.inBlock]
        exact ret1 (t := 2) rfl hS rfl ⟨ret_i (by decide), F0.chg⟩
      · skip
        simp at hc4_1
    · skip
      have e2 : k ≠ 2 := by simpa using hc4
      refine Cod.seq fun K9 hK9 => ?_
      refine Cod.region ?_
      refine Ops.step (One.val rfl rfl rfl (yld_eql rfl (ev_t rfl) ev_c) ?_)
      refine Ops.step (One.val rfl rfl rfl (yld_assign rfl (ev_t rfl)) ?_)
      refine Ops.nil fun a hS => ?_
      refine hK9 _ _ ?_ a hS
      refine Cod.cond rfl (fun hc4 => ?_) (fun hc4 => ?_)
      · skip
        obtain rfl : k = 3 := by simpa using hc4
        refine Cod.skip fun a hS => ?_
        refine hK4 _ _ ?_ a hS
        refine Cod.cond rfl (fun hc4_1 => ?_) (fun hc4_1 => ?_)
        · skip
          skip
          refine Cod.seq fun K10 hK10 => ?_
          refine Cod.region ?_
          refine Ops.step (One.val rfl rfl rfl (yld_assign rfl ev_c) ?_)
          refine Ops.nil fun a hS => ?_
          refine hK10 _ _ ?_ a hS
          refine Cod.ret fun a hS => ?_
          try simp only [Exit.then, Exit.inBlock]
          exact ret1 (t := 2) rfl hS rfl ⟨ret_i (by decide), F0.chg⟩
        · skip
          simp at hc4_1
      · skip
        have e3 : k ≠ 3 := by simpa using hc4
        refine Cod.seq fun K11 hK11 => ?_
        refine Cod.region ?_
        refine Ops.step (One.val rfl rfl rfl (yld_eql rfl (ev_t rfl) ev_c) ?_)
        refine Ops.step (One.val rfl rfl rfl (yld_assign rfl (ev_t rfl)) ?_)
        refine Ops.nil fun a hS => ?_
        refine hK11 _ _ ?_ a hS
        refine Cod.cond rfl (fun hc4 => ?_) (fun hc4 => ?_)
        · skip
          obtain rfl : k = 4 := by simpa using hc4
          refine Cod.skip fun a hS => ?_
          refine hK4 _ _ ?_ a hS
          refine Cod.cond rfl (fun hc4_1 => ?_) (fun hc4_1 => ?_)
          · skip
            skip
            refine Cod.seq fun K12 hK12 => ?_
            refine Cod.region ?_
            refine Ops.step (One.val rfl rfl rfl (yld_assign rfl ev_c) ?_)
            refine Ops.nil fun a hS => ?_
            refine hK12 _ _ ?_ a hS
            refine Cod.ret fun a hS => ?_
            try simp only [Exit.then, Exit.inBlock]
            exact ret1 (t := 2) rfl hS rfl ⟨ret_i (by decide), F0.chg⟩
          · skip
            simp at hc4_1
        · skip
          have e4 : k ≠ 4 := by simpa using hc4
          refine Cod.seq fun K13 hK13 => ?_
          refine Cod.region ?_
          refine Ops.step (One.val rfl rfl rfl (yld_eql rfl (ev_t rfl) ev_c) ?_)
          refine Ops.step (One.val rfl rfl rfl (yld_assign rfl (ev_t rfl)) ?_)
          refine Ops.nil fun a hS => ?_
          refine hK13 _ _ ?_ a hS
          refine Cod.cond rfl (fun hc4 => ?_) (fun hc4 => ?_)
          · skip
            obtain rfl : k = 5 := by simpa using hc4
            refine Cod.skip fun a hS => ?_
            refine hK4 _ _ ?_ a hS
            refine Cod.cond rfl (fun hc4_1 => ?_) (fun hc4_1 => ?_)
            · skip
              skip
              refine Cod.seq fun K14 hK14 => ?_
              refine Cod.region ?_
              refine Ops.step (One.val rfl rfl rfl (yld_assign rfl ev_c) ?_)
              refine Ops.nil fun a hS => ?_
              refine hK14 _ _ ?_ a hS
              refine Cod.ret fun a hS => ?_
              try simp only [Exit.then, Exit.inBlock]
              exact ret1 (t := 2) rfl hS rfl ⟨ret_i (by decide), F0.chg⟩
            · skip
              simp at hc4_1
          · skip
            have e5 : k ≠ 5 := by simpa using hc4
            refine Cod.seq fun K15 hK15 => ?_
            refine Cod.region ?_
            refine Ops.step (One.val rfl rfl rfl (yld_eql rfl (ev_t rfl) ev_c) ?_)
            refine Ops.step (One.val rfl rfl rfl (yld_assign rfl (ev_t rfl)) ?_)
            refine Ops.nil fun a hS => ?_
            refine hK15 _ _ ?_ a hS
            refine Cod.cond rfl (fun hc4 => ?_) (fun hc4 => ?_)
            · skip
              obtain rfl : k = 13 := by simpa using hc4
              refine Cod.skip fun a hS => ?_
              refine hK4 _ _ ?_ a hS
              refine Cod.cond rfl (fun hc4_1 => ?_) (fun hc4_1 => ?_)
              · skip
                skip
                refine Cod.seq fun K16 hK16 => ?_
                refine Cod.region ?_
                refine Ops.step (One.val rfl rfl rfl (yld_assign rfl ev_c) ?_)
                refine Ops.nil fun a hS => ?_
                refine hK16 _ _ ?_ a hS
                refine Cod.ret fun a hS => ?_
                try simp only [Exit.then, Exit.inBlock]
                exact ret1 (t := 2) rfl hS rfl ⟨ret_i (by decide), F0.chg⟩
              · skip
                simp at hc4_1
            · skip
              have e13 : k ≠ 13 := by simpa using hc4
              refine Cod.seq fun K17 hK17 => ?_
              refine Cod.region ?_
              refine Ops.step (One.val rfl rfl rfl (yld_eql rfl (ev_t rfl) ev_c) ?_)
              refine Ops.step (One.val rfl rfl rfl (yld_assign rfl (ev_t rfl)) ?_)
              refine Ops.nil fun a hS => ?_
              refine hK17 _ _ ?_ a hS
              refine Cod.cond rfl (fun hc4 => ?_) (fun hc4 => ?_)
              · skip
                obtain rfl : k = 14 := by simpa using hc4
                refine Cod.skip fun a hS => ?_
                refine hK4 _ _ ?_ a hS
                refine Cod.cond rfl (fun hc4_1 => ?_) (fun hc4_1 => ?_)
                · skip
                  skip
                  refine Cod.seq fun K18 hK18 => ?_
                  refine Cod.region ?_
                  refine Ops.step (One.val rfl rfl rfl (yld_assign rfl ev_c) ?_)
                  refine Ops.nil fun a hS => ?_
                  refine hK18 _ _ ?_ a hS
                  refine Cod.ret fun a hS => ?_
                  try simp only [Exit.then, Exit.inBlock]
                  exact ret1 (t := 2) rfl hS rfl ⟨ret_i (by decide), F0.chg⟩
                · skip
                  simp at hc4_1
              · skip
                have e14 : k ≠ 14 := by simpa using hc4
                refine Cod.seq fun K19 hK19 => ?_
                refine Cod.region ?_
                refine Ops.step (One.val rfl rfl rfl (yld_eql rfl (ev_t rfl) ev_c) ?_)
                refine Ops.step (One.val rfl rfl rfl (yld_assign rfl (ev_t rfl)) ?_)
                refine Ops.nil fun a hS => ?_
                refine hK19 _ _ ?_ a hS
                refine Cod.cond rfl (fun hc4 => ?_) (fun hc4 => ?_)
                · skip
                  obtain rfl : k = 15 := by simpa using hc4
                  refine Cod.skip fun a hS => ?_
                  refine hK4 _ _ ?_ a hS
                  refine Cod.cond rfl (fun hc4_1 => ?_) (fun hc4_1 => ?_)
                  · skip
                    skip
                    refine Cod.seq fun K20 hK20 => ?_
                    refine Cod.region ?_
                    refine Ops.step (One.val rfl rfl rfl (yld_assign rfl ev_c) ?_)
                    refine Ops.nil fun a hS => ?_
                    refine hK20 _ _ ?_ a hS
                    refine Cod.ret fun a hS => ?_
                    try simp only [Exit.then, Exit.inBlock]
                    exact ret1 (t := 2) rfl hS rfl ⟨ret_i (by decide), F0.chg⟩
                  · skip
                    simp at hc4_1
                · skip
                  have e15 : k ≠ 15 := by simpa using hc4
                  refine Cod.seq fun K21 hK21 => ?_
                  refine Cod.region ?_
                  refine Ops.step (One.val rfl rfl rfl (yld_eql rfl (ev_t rfl) ev_c) ?_)
                  refine Ops.step (One.val rfl rfl rfl (yld_assign rfl (ev_t rfl)) ?_)
                  refine Ops.nil fun a hS => ?_
                  refine hK21 _ _ ?_ a hS
                  refine Cod.cond rfl (fun hc4 => ?_) (fun hc4 => ?_)
                  · skip
                    obtain rfl : k = 18 := by simpa using hc4
                    refine Cod.skip fun a hS => ?_
                    refine hK4 _ _ ?_ a hS
                    refine Cod.cond rfl (fun hc4_1 => ?_) (fun hc4_1 => ?_)
                    · skip
                      skip
                      refine Cod.seq fun K22 hK22 => ?_
                      refine Cod.region ?_
                      refine Ops.step (One.val rfl rfl rfl (yld_assign rfl ev_c) ?_)
                      refine Ops.nil fun a hS => ?_
                      refine hK22 _ _ ?_ a hS
                      refine Cod.ret fun a hS => ?_
                      try simp only [Exit.then, Exit.inBlock]
                      exact ret1 (t := 2) rfl hS rfl ⟨ret_i (by decide), F0.chg⟩
                    · skip
                      simp at hc4_1
                  · skip
                    have e18 : k ≠ 18 := by simpa using hc4
                    refine Cod.region ?_
                    refine Ops.step (One.val rfl rfl rfl (yld_eql rfl (ev_t rfl) ev_c) ?_)
                    refine Ops.step (One.val rfl rfl rfl (yld_assign rfl (ev_t rfl)) ?_)
                    refine Ops.nil fun a hS => ?_
                    refine hK4 _ _ ?_ a hS
                    refine Cod.cond rfl (fun hc4 => ?_) (fun hc4 => ?_)
                    · skip
                      obtain rfl : k = 19 := by simpa using hc4
                      refine Cod.seq fun K23 hK23 => ?_
                      refine Cod.region ?_
                      refine Ops.step (One.val rfl rfl rfl (yld_assign rfl ev_c) ?_)
                      refine Ops.nil fun a hS => ?_
                      refine hK23 _ _ ?_ a hS
                      refine Cod.ret fun a hS => ?_
                      try simp only [Exit.then, Exit.inBlock]
                      exact ret1 (t := 2) rfl hS rfl ⟨ret_i (by decide), F0.chg⟩
                    · skip
                      have e19 : k ≠ 19 := by simpa using hc4
                      refine Cod.seq fun K24 hK24 => ?_
                      refine Cod.seq fun K25 hK25 => ?_
                      refine Cod.region ?_
                      refine Ops.step (One.val rfl rfl rfl (yld_eql rfl (ev_t rfl) ev_c) ?_)
                      refine Ops.step (One.val rfl rfl rfl (yld_assign rfl (ev_t rfl)) ?_)
                      refine Ops.nil fun a hS => ?_
                      refine hK25 _ _ ?_ a hS
                      refine Cod.cond rfl (fun hc15 => ?_) (fun hc15 => ?_)
                      · skip
                        obtain rfl : k = 12 := by simpa using hc15
                        refine Cod.skip fun a hS => ?_
                        refine hK24 _ _ ?_ a hS
                        refine Cod.cond rfl (fun hc15_1 => ?_) (fun hc15_1 => ?_)
                        · skip
                          skip
                          refine Cod.seq fun K26 hK26 => ?_
                          refine Cod.region ?_
                          refine Ops.step (One.val rfl rfl rfl (yld_assign rfl ev_c) ?_)
                          refine Ops.nil fun a hS => ?_
                          refine hK26 _ _ ?_ a hS
                          refine Cod.ret fun a hS => ?_
                          try simp only [Exit.then, Exit.inBlock]
                          exact ret1 (t := 2) rfl hS rfl ⟨ret_i (by decide), F0.chg⟩
                        · skip
                          simp at hc15_1
                      · skip
                        have e12 : k ≠ 12 := by simpa using hc15
                        refine Cod.seq fun K27 hK27 => ?_
                        refine Cod.region ?_
                        refine Ops.step (One.val rfl rfl rfl (yld_eql rfl (ev_t rfl) ev_c) ?_)
                        refine Ops.step (One.val rfl rfl rfl (yld_assign rfl (ev_t rfl)) ?_)
                        refine Ops.nil fun a hS => ?_
                        refine hK27 _ _ ?_ a hS
                        refine Cod.cond rfl (fun hc15 => ?_) (fun hc15 => ?_)
                        · skip
                          obtain rfl : k = 17 := by simpa using hc15
                          refine Cod.skip fun a hS => ?_
                          refine hK24 _ _ ?_ a hS
                          refine Cod.cond rfl (fun hc15_1 => ?_) (fun hc15_1 => ?_)
                          · skip
                            skip
                            refine Cod.seq fun K28 hK28 => ?_
                            refine Cod.region ?_
                            refine Ops.step (One.val rfl rfl rfl (yld_assign rfl ev_c) ?_)
                            refine Ops.nil fun a hS => ?_
                            refine hK28 _ _ ?_ a hS
                            refine Cod.ret fun a hS => ?_
                            try simp only [Exit.then, Exit.inBlock]
                            exact ret1 (t := 2) rfl hS rfl ⟨ret_i (by decide), F0.chg⟩
                          · skip
                            simp at hc15_1
                        · skip
                          have e17 : k ≠ 17 := by simpa using hc15
                          refine Cod.region ?_
                          refine Ops.step (One.val rfl rfl rfl (yld_eql rfl (ev_t rfl) ev_c) ?_)
                          refine Ops.step (One.val rfl rfl rfl (yld_assign rfl (ev_t rfl)) ?_)
                          refine Ops.nil fun a hS => ?_
                          refine hK24 _ _ ?_ a hS
                          refine Cod.cond rfl (fun hc15 => ?_) (fun hc15 => ?_)
                          · skip
                            obtain rfl : k = 21 := by simpa using hc15
                            refine Cod.seq fun K29 hK29 => ?_
                            refine Cod.region ?_
                            refine Ops.step (One.val rfl rfl rfl (yld_assign rfl ev_c) ?_)
                            refine Ops.nil fun a hS => ?_
                            refine hK29 _ _ ?_ a hS
                            refine Cod.ret fun a hS => ?_
                            try simp only [Exit.then, Exit.inBlock]
                            exact ret1 (t := 2) rfl hS rfl ⟨ret_i (by decide), F0.chg⟩
                          · skip
                            have e21 : k ≠ 21 := by simpa using hc15
                            refine Cod.seq fun K30 hK30 => ?_
                            refine Cod.seq fun K31 hK31 => ?_
                            refine Cod.region ?_
                            refine Ops.step (One.val rfl rfl rfl (yld_eql rfl (ev_t rfl) ev_c) ?_)
                            refine Ops.step (One.val rfl rfl rfl (yld_assign rfl (ev_t rfl)) ?_)
                            refine Ops.nil fun a hS => ?_
                            refine hK31 _ _ ?_ a hS
                            refine Cod.cond rfl (fun hc19 => ?_) (fun hc19 => ?_)
                            · skip
                              obtain rfl : k = 6 := by simpa using hc19
                              refine Cod.skip fun a hS => ?_
                              refine hK30 _ _ ?_ a hS
                              refine Cod.cond rfl (fun hc19_1 => ?_) (fun hc19_1 => ?_)
                              · skip
                                skip
                                refine Cod.seq fun K32 hK32 => ?_
                                refine Cod.region ?_
                                refine Ops.step (One.val rfl rfl rfl (yld_assign rfl ev_c) ?_)
                                refine Ops.nil fun a hS => ?_
                                refine hK32 _ _ ?_ a hS
                                refine Cod.ret fun a hS => ?_
                                try simp only [Exit.then, Exit.inBlock]
                                exact ret1 (t := 2) rfl hS rfl ⟨ret_i (by decide), F0.chg⟩
                              · skip
                                simp at hc19_1
                            · skip
                              have e6 : k ≠ 6 := by simpa using hc19
                              refine Cod.seq fun K33 hK33 => ?_
                              refine Cod.region ?_
                              refine Ops.step (One.val rfl rfl rfl (yld_eql rfl (ev_t rfl) ev_c) ?_)
                              refine Ops.step (One.val rfl rfl rfl (yld_assign rfl (ev_t rfl)) ?_)
                              refine Ops.nil fun a hS => ?_
                              refine hK33 _ _ ?_ a hS
                              refine Cod.cond rfl (fun hc19 => ?_) (fun hc19 => ?_)
                              · skip
                                obtain rfl : k = 7 := by simpa using hc19
                                refine Cod.skip fun a hS => ?_
                                refine hK30 _ _ ?_ a hS
                                refine Cod.cond rfl (fun hc19_1 => ?_) (fun hc19_1 => ?_)
                                · skip
                                  skip
                                  refine Cod.seq fun K34 hK34 => ?_
                                  refine Cod.region ?_
                                  refine Ops.step (One.val rfl rfl rfl (yld_assign rfl ev_c) ?_)
                                  refine Ops.nil fun a hS => ?_
                                  refine hK34 _ _ ?_ a hS
                                  refine Cod.ret fun a hS => ?_
                                  try simp only [Exit.then, Exit.inBlock]
                                  exact ret1 (t := 2) rfl hS rfl ⟨ret_i (by decide), F0.chg⟩
                                · skip
                                  simp at hc19_1
                              · skip
                                have e7 : k ≠ 7 := by simpa using hc19
                                refine Cod.seq fun K35 hK35 => ?_
                                refine Cod.region ?_
                                refine Ops.step (One.val rfl rfl rfl (yld_eql rfl (ev_t rfl) ev_c) ?_)
                                refine Ops.step (One.val rfl rfl rfl (yld_assign rfl (ev_t rfl)) ?_)
                                refine Ops.nil fun a hS => ?_
                                refine hK35 _ _ ?_ a hS
                                refine Cod.cond rfl (fun hc19 => ?_) (fun hc19 => ?_)
                                · skip
                                  obtain rfl : k = 9 := by simpa using hc19
                                  refine Cod.skip fun a hS => ?_
                                  refine hK30 _ _ ?_ a hS
                                  refine Cod.cond rfl (fun hc19_1 => ?_) (fun hc19_1 => ?_)
                                  · skip
                                    skip
                                    refine Cod.seq fun K36 hK36 => ?_
                                    refine Cod.region ?_
                                    refine Ops.step (One.val rfl rfl rfl (yld_assign rfl ev_c) ?_)
                                    refine Ops.nil fun a hS => ?_
                                    refine hK36 _ _ ?_ a hS
                                    refine Cod.ret fun a hS => ?_
                                    try simp only [Exit.then, Exit.inBlock]
                                    exact ret1 (t := 2) rfl hS rfl ⟨ret_i (by decide), F0.chg⟩
                                  · skip
                                    simp at hc19_1
                                · skip
                                  have e9 : k ≠ 9 := by simpa using hc19
                                  refine Cod.seq fun K37 hK37 => ?_
                                  refine Cod.region ?_
                                  refine Ops.step (One.val rfl rfl rfl (yld_eql rfl (ev_t rfl) ev_c) ?_)
                                  refine Ops.step (One.val rfl rfl rfl (yld_assign rfl (ev_t rfl)) ?_)
                                  refine Ops.nil fun a hS => ?_
                                  refine hK37 _ _ ?_ a hS
                                  refine Cod.cond rfl (fun hc19 => ?_) (fun hc19 => ?_)
                                  · skip
                                    obtain rfl : k = 10 := by simpa using hc19
                                    refine Cod.skip fun a hS => ?_
                                    refine hK30 _ _ ?_ a hS
                                    refine Cod.cond rfl (fun hc19_1 => ?_) (fun hc19_1 => ?_)
                                    · skip
                                      skip
                                      refine Cod.seq fun K38 hK38 => ?_
                                      refine Cod.region ?_
                                      refine Ops.step (One.val rfl rfl rfl (yld_assign rfl ev_c) ?_)
                                      refine Ops.nil fun a hS => ?_
                                      refine hK38 _ _ ?_ a hS
                                      refine Cod.ret fun a hS => ?_
                                      try simp only [Exit.then, Exit.inBlock]
                                      exact ret1 (t := 2) rfl hS rfl ⟨ret_i (by decide), F0.chg⟩
                                    · skip
                                      simp at hc19_1
                                  · skip
                                    have e10 : k ≠ 10 := by simpa using hc19
                                    refine Cod.seq fun K39 hK39 => ?_
                                    refine Cod.region ?_
                                    refine Ops.step (One.val rfl rfl rfl (yld_eql rfl (ev_t rfl) ev_c) ?_)
                                    refine Ops.step (One.val rfl rfl rfl (yld_assign rfl (ev_t rfl)) ?_)
                                    refine Ops.nil fun a hS => ?_
                                    refine hK39 _ _ ?_ a hS
                                    refine Cod.cond rfl (fun hc19 => ?_) (fun hc19 => ?_)
                                    · skip
                                      obtain rfl : k = 11 := by simpa using hc19
                                      refine Cod.skip fun a hS => ?_
                                      refine hK30 _ _ ?_ a hS
                                      refine Cod.cond rfl (fun hc19_1 => ?_) (fun hc19_1 => ?_)
                                      · skip
                                        skip
                                        refine Cod.seq fun K40 hK40 => ?_
                                        refine Cod.region ?_
                                        refine Ops.step (One.val rfl rfl rfl (yld_assign rfl ev_c) ?_)
                                        refine Ops.nil fun a hS => ?_
                                        refine hK40 _ _ ?_ a hS
                                        refine Cod.ret fun a hS => ?_
                                        try simp only [Exit.then, Exit.inBlock]
                                        exact ret1 (t := 2) rfl hS rfl ⟨ret_i (by decide), F0.chg⟩
                                      · skip
                                        simp at hc19_1
                                    · skip
                                      have e11 : k ≠ 11 := by simpa using hc19
                                      refine Cod.seq fun K41 hK41 => ?_
                                      refine Cod.region ?_
                                      refine Ops.step (One.val rfl rfl rfl (yld_eql rfl (ev_t rfl) ev_c) ?_)
                                      refine Ops.step (One.val rfl rfl rfl (yld_assign rfl (ev_t rfl)) ?_)
                                      refine Ops.nil fun a hS => ?_
                                      refine hK41 _ _ ?_ a hS
                                      refine Cod.cond rfl (fun hc19 => ?_) (fun hc19 => ?_)
                                      · skip
                                        obtain rfl : k = 16 := by simpa using hc19
                                        refine Cod.skip fun a hS => ?_
                                        refine hK30 _ _ ?_ a hS
                                        refine Cod.cond rfl (fun hc19_1 => ?_) (fun hc19_1 => ?_)
                                        · skip
                                          skip
                                          refine Cod.seq fun K42 hK42 => ?_
                                          refine Cod.region ?_
                                          refine Ops.step (One.val rfl rfl rfl (yld_assign rfl ev_c) ?_)
                                          refine Ops.nil fun a hS => ?_
                                          refine hK42 _ _ ?_ a hS
                                          refine Cod.ret fun a hS => ?_
                                          try simp only [Exit.then, Exit.inBlock]
                                          exact ret1 (t := 2) rfl hS rfl ⟨ret_i (by decide), F0.chg⟩
                                        · skip
                                          simp at hc19_1
                                      · skip
                                        have e16 : k ≠ 16 := by simpa using hc19
                                        refine Cod.region ?_
                                        refine Ops.step (One.val rfl rfl rfl (yld_eql rfl (ev_t rfl) ev_c) ?_)
                                        refine Ops.step (One.val rfl rfl rfl (yld_assign rfl (ev_t rfl)) ?_)
                                        refine Ops.nil fun a hS => ?_
                                        refine hK30 _ _ ?_ a hS
                                        refine Cod.cond rfl (fun hc19 => ?_) (fun hc19 => ?_)
                                        · skip
                                          obtain rfl : k = 20 := by simpa using hc19
                                          refine Cod.seq fun K43 hK43 => ?_
                                          refine Cod.region ?_
                                          refine Ops.step (One.val rfl rfl rfl (yld_assign rfl ev_c) ?_)
                                          refine Ops.nil fun a hS => ?_
                                          refine hK43 _ _ ?_ a hS
                                          refine Cod.ret fun a hS => ?_
                                          try simp only [Exit.then, Exit.inBlock]
                                          exact ret1 (t := 2) rfl hS rfl ⟨ret_i (by decide), F0.chg⟩
                                        · skip
                                          have e20 : k ≠ 20 := by simpa using hc19
                                          refine Cod.seq fun K44 hK44 => ?_
                                          refine Cod.region ?_
                                          refine Ops.step (One.val rfl rfl rfl (yld_eql rfl (ev_t rfl) ev_c) ?_)
                                          refine Ops.step (One.val rfl rfl rfl (yld_assign rfl (ev_t rfl)) ?_)
                                          refine Ops.nil fun a hS => ?_
                                          refine hK44 _ _ ?_ a hS
                                          refine Cod.cond rfl (fun hc27 => ?_) (fun hc27 => ?_)
                                          · skip
                                            obtain rfl : k = 8 := by simpa using hc27
                                            refine Cod.seq fun K45 hK45 => ?_
                                            refine Cod.region ?_
                                            refine Ops.step (One.val rfl rfl rfl (yld_assign rfl ev_c) ?_)
                                            refine Ops.nil fun a hS => ?_
                                            refine hK45 _ _ ?_ a hS
                                            refine Cod.ret fun a hS => ?_
                                            try simp only [Exit.then, Exit.inBlock]
                                            exact ret1 (t := 2) rfl hS rfl ⟨ret_i (by decide), F0.chg⟩
                                          · skip
                                            have e8 : k ≠ 8 := by simpa using hc27
                                            refine Cod.skip fun a hS => ?_
                                            refine hK2 _ _ ?_ a hS
                                            refine Cod.seq fun K46 hK46 => ?_
                                            refine Cod.region ?_
                                            refine Ops.step (One.val rfl rfl rfl (yld_assign rfl ev_c) ?_)
                                            refine Ops.nil fun a hS => ?_
                                            refine hK46 _ _ ?_ a hS
                                            refine Cod.ret fun a hS => ?_
                                            try simp only [Exit.then, Exit.inBlock]
                                            exact ret1 (t := 2) rfl hS rfl ⟨ret_i (by rw [kids_no (by omega)]), F0.chg⟩


/-- What looks says of one filter that is well made. -/
def LookOk (f : FuncId) (t : Fl) : Prop := ∀ (d : Int) (v : Value) (w : World), RepF Any w t v → FForm d t →
    Calls Tryd.prog f #[v] w fun e w' => e = .returned (.bool t.looks) ∧ Chg No w w'
theorem look_eq (k n : Int) (s : ByteArray) (v : Tr) (l : List Fl) : (Fl.mk k n s v l).looks = lookB k (Fl.looksL l) := by rw [Fl.looks]
theorem two_of {α : Type} {l : List α} (h : l.length = 2) : ∃ a b, l = [a, b] := by
  match l, h with
  | [a, b], _ => exact ⟨a, b, rfl⟩
theorem three_of {α : Type} {l : List α} (h : l.length = 3) : ∃ a b c, l = [a, b, c] := by
  match l, h with
  | [a, b, c], _ => exact ⟨a, b, c, rfl⟩
theorem look2 {k : Int} (h : k = 6 ∨ k = 7) (a b : Fl) : lookB k (Fl.looksL [a, b]) = (a.looks && b.looks) := by
  unfold lookB
  rw [if_neg (by omega), if_pos h]
  simp [Fl.looksL]
theorem look3 {k : Int} (h : k = 8) (a b c : Fl) : lookB k (Fl.looksL [a, b, c]) = (b.looks && c.looks) := by
  unfold lookB
  rw [if_neg (by omega), if_neg (by omega), if_pos h]
  simp [Fl.looksL]
theorem look1 {k : Int} (h : k = 1 ∨ k = 3 ∨ k = 4 ∨ k = 5 ∨ k = 18) (b : List Bool) : lookB k b = true := by unfold lookB; rw [if_pos h]
theorem look0 {k : Int} (h1 : ¬ (k = 1 ∨ k = 3 ∨ k = 4 ∨ k = 5 ∨ k = 18)) (h2 : ¬ (k = 6 ∨ k = 7)) (h3 : k ≠ 8) (b : List Bool) : lookB k b = false := by unfold lookB; rw [if_neg h1, if_neg h2, if_neg h3]

set_option maxRecDepth 100000 in
theorem way_of (k n : Int) (s : ByteArray) (tv : Tr) (l : List Fl) (H : ∀ t ∈ l, LookOk 82 t) : LookOk 82 (.mk k n s tv l) := by
  intro d v w hr hform
  obtain ⟨y, v4, rfl, hv, h4⟩ := hr.open
  obtain ⟨A4, c4, rfl, hn4⟩ := h4.open
  obtain ⟨hd, hnode, hfl, -⟩ := FForm.iff.1 hform
  have hkids := hnode.kids
  refine enter Tryd.func82 rfl rfl rfl ?_
  have F0 := Fr.start w
  refine Cod.seq fun K1 hK1 => ?_
  refine Cod.region ?_
  refine Ops.step (One.box F0 rfl rfl rfl rfl (ev_t rfl) ?_)
  intro b1 w1 hb1 F1
  change Fr _ _ [blk _ _ [_, _, _, _, _, _, _, _, _]] _ at F1
  refine Ops.step (One.val rfl rfl rfl (yld_assign rfl ev_c) ?_)
  refine Ops.nil fun a hS => ?_
  refine hK1 _ _ ?_ a hS
  refine Cod.seq fun K2 hK2 => ?_
  refine Cod.seq fun K3 hK3 => ?_
  refine Cod.region ?_
  refine Ops.step (One.val rfl rfl rfl (yld_field fi36_0 rfl (ev_t rfl)) ?_)
  refine Ops.step (One.val rfl rfl rfl (yld_load1 on3 rfl (ev_t rfl) (fun _ => F1.cell 0 rfl rfl)) ?_)
  refine Ops.nil fun a hS => ?_
  refine hK3 _ _ ?_ a hS
  refine Cod.block ?_
  refine Cod.seq fun K4 hK4 => ?_
  refine Cod.seq fun K5 hK5 => ?_
  refine Cod.region ?_
  refine Ops.step (One.val rfl rfl rfl (yld_eql rfl (ev_t rfl) ev_c) ?_)
  refine Ops.step (One.val rfl rfl rfl (yld_assign rfl (ev_t rfl)) ?_)
  refine Ops.nil fun a hS => ?_
  refine hK5 _ _ ?_ a hS
  refine Cod.cond rfl (fun hc5 => ?_) (fun hc5 => ?_)
  · skip
    obtain hkk : k = 1 := by simpa using hc5
    refine Cod.skip fun a hS => ?_
    refine hK4 _ _ ?_ a hS
    refine Cod.cond rfl (fun hc5_1 => ?_) (fun hc5_1 => ?_)
    · skip
      skip
      refine Cod.seq fun K6 hK6 => ?_
      refine Cod.region ?_
      refine Ops.step (One.val rfl rfl rfl (yld_assign rfl ev_c) ?_)
      refine Ops.nil fun a hS => ?_
      refine hK6 _ _ ?_ a hS
      refine Cod.ret fun a hS => ?_
      try simp only [Exit.then, Exit.inBlock]
      exact ret1 (t := 2) rfl hS rfl ⟨ret_b (by rw [look_eq, look1 (by omega)]), F1.chg⟩
    · skip
      rw [hc5] at hc5_1; cases hc5_1
  · skip
    have e1 : k ≠ 1 := by simpa using hc5
    refine Cod.seq fun K7 hK7 => ?_
    refine Cod.region ?_
    refine Ops.step (One.val rfl rfl rfl (yld_eql rfl (ev_t rfl) ev_c) ?_)
    refine Ops.step (One.val rfl rfl rfl (yld_assign rfl (ev_t rfl)) ?_)
    refine Ops.nil fun a hS => ?_
    refine hK7 _ _ ?_ a hS
    refine Cod.cond rfl (fun hc5 => ?_) (fun hc5 => ?_)
    · skip
      obtain hkk : k = 3 := by simpa using hc5
      refine Cod.skip fun a hS => ?_
      refine hK4 _ _ ?_ a hS
      refine Cod.cond rfl (fun hc5_1 => ?_) (fun hc5_1 => ?_)
      · skip
        skip
        refine Cod.seq fun K8 hK8 => ?_
        refine Cod.region ?_
        refine Ops.step (One.val rfl rfl rfl (yld_assign rfl ev_c) ?_)
        refine Ops.nil fun a hS => ?_
        refine hK8 _ _ ?_ a hS
        refine Cod.ret fun a hS => ?_
        try simp only [Exit.then, Exit.inBlock]
        exact ret1 (t := 2) rfl hS rfl ⟨ret_b (by rw [look_eq, look1 (by omega)]), F1.chg⟩
      · skip
        rw [hc5] at hc5_1; cases hc5_1
    · skip
      have e3 : k ≠ 3 := by simpa using hc5
      refine Cod.seq fun K9 hK9 => ?_
      refine Cod.region ?_
      refine Ops.step (One.val rfl rfl rfl (yld_eql rfl (ev_t rfl) ev_c) ?_)
      refine Ops.step (One.val rfl rfl rfl (yld_assign rfl (ev_t rfl)) ?_)
      refine Ops.nil fun a hS => ?_
      refine hK9 _ _ ?_ a hS
      refine Cod.cond rfl (fun hc5 => ?_) (fun hc5 => ?_)
      · skip
        obtain hkk : k = 4 := by simpa using hc5
        refine Cod.skip fun a hS => ?_
        refine hK4 _ _ ?_ a hS
        refine Cod.cond rfl (fun hc5_1 => ?_) (fun hc5_1 => ?_)
        · skip
          skip
          refine Cod.seq fun K10 hK10 => ?_
          refine Cod.region ?_
          refine Ops.step (One.val rfl rfl rfl (yld_assign rfl ev_c) ?_)
          refine Ops.nil fun a hS => ?_
          refine hK10 _ _ ?_ a hS
          refine Cod.ret fun a hS => ?_
          try simp only [Exit.then, Exit.inBlock]
          exact ret1 (t := 2) rfl hS rfl ⟨ret_b (by rw [look_eq, look1 (by omega)]), F1.chg⟩
        · skip
          rw [hc5] at hc5_1; cases hc5_1
      · skip
        have e4 : k ≠ 4 := by simpa using hc5
        refine Cod.seq fun K11 hK11 => ?_
        refine Cod.region ?_
        refine Ops.step (One.val rfl rfl rfl (yld_eql rfl (ev_t rfl) ev_c) ?_)
        refine Ops.step (One.val rfl rfl rfl (yld_assign rfl (ev_t rfl)) ?_)
        refine Ops.nil fun a hS => ?_
        refine hK11 _ _ ?_ a hS
        refine Cod.cond rfl (fun hc5 => ?_) (fun hc5 => ?_)
        · skip
          obtain hkk : k = 5 := by simpa using hc5
          refine Cod.skip fun a hS => ?_
          refine hK4 _ _ ?_ a hS
          refine Cod.cond rfl (fun hc5_1 => ?_) (fun hc5_1 => ?_)
          · skip
            skip
            refine Cod.seq fun K12 hK12 => ?_
            refine Cod.region ?_
            refine Ops.step (One.val rfl rfl rfl (yld_assign rfl ev_c) ?_)
            refine Ops.nil fun a hS => ?_
            refine hK12 _ _ ?_ a hS
            refine Cod.ret fun a hS => ?_
            try simp only [Exit.then, Exit.inBlock]
            exact ret1 (t := 2) rfl hS rfl ⟨ret_b (by rw [look_eq, look1 (by omega)]), F1.chg⟩
          · skip
            rw [hc5] at hc5_1; cases hc5_1
        · skip
          have e5 : k ≠ 5 := by simpa using hc5
          refine Cod.region ?_
          refine Ops.step (One.val rfl rfl rfl (yld_eql rfl (ev_t rfl) ev_c) ?_)
          refine Ops.step (One.val rfl rfl rfl (yld_assign rfl (ev_t rfl)) ?_)
          refine Ops.nil fun a hS => ?_
          refine hK4 _ _ ?_ a hS
          refine Cod.cond rfl (fun hc5 => ?_) (fun hc5 => ?_)
          · skip
            obtain hkk : k = 18 := by simpa using hc5
            refine Cod.seq fun K13 hK13 => ?_
            refine Cod.region ?_
            refine Ops.step (One.val rfl rfl rfl (yld_assign rfl ev_c) ?_)
            refine Ops.nil fun a hS => ?_
            refine hK13 _ _ ?_ a hS
            refine Cod.ret fun a hS => ?_
            try simp only [Exit.then, Exit.inBlock]
            exact ret1 (t := 2) rfl hS rfl ⟨ret_b (by rw [look_eq, look1 (by omega)]), F1.chg⟩
          · skip
            have e18 : k ≠ 18 := by simpa using hc5
            refine Cod.seq fun K14 hK14 => ?_
            refine Cod.seq fun K15 hK15 => ?_
            refine Cod.region ?_
            refine Ops.step (One.val rfl rfl rfl (yld_eql rfl (ev_t rfl) ev_c) ?_)
            refine Ops.step (One.val rfl rfl rfl (yld_assign rfl (ev_t rfl)) ?_)
            refine Ops.nil fun a hS => ?_
            refine hK15 _ _ ?_ a hS
            refine Cod.cond rfl (fun hc11 => ?_) (fun hc11 => ?_)
            · skip
              have hkk : k = 6 ∨ k = 7 := .inl (by simpa using hc11)
              obtain ⟨x0, x1, rfl⟩ := two_of (kids_two hkids hkk)
              obtain ⟨b0, o0, cs0, rfl, -, hlc0, hr0, ht0⟩ := h4.at 0 (by simp)
              obtain ⟨b01, o01, cs1, e01, -, hlc1, hr1, ht1⟩ := h4.at 1 (by simp)
              obtain ⟨rfl, rfl⟩ : b0 = b01 ∧ o0 = o01 := by simpa using e01
              refine Cod.skip fun a hS => ?_
              refine hK14 _ _ ?_ a hS
              refine Cod.cond rfl (fun hc11_1 => ?_) (fun hc11_1 => ?_)
              · skip
                skip
                refine Cod.seq fun K16 hK16 => ?_
                refine Cod.region ?_
                refine Ops.step (One.val rfl rfl rfl (yld_field fi36_4 rfl (ev_t rfl)) ?_)
                refine Ops.step (One.val rfl rfl rfl (yld_load1 on34 rfl (ev_t rfl) (fun _ => F1.cell 0 rfl rfl)) ?_)
                refine Ops.step (One.val rfl rfl rfl (yld_indexN (i := 0) sl34 rfl (ev_t rfl) ev_c (fun _ => by simp)) ?_)
                refine Ops.step (One.val rfl rfl rfl (yld_loadN ag36 rfl (ev_t rfl) (fun _ => rng hr0 F1.chg) hlc0) ?_)
                refine Ops.step (One.call rfl rfl rfl (ent_f rfl (evl1 (ev_t rfl)) (enters en82)) (H _ (by simp) _ _ _ (ht0.chg F1.chg) (hfl _ (by simp))) (fun e w2 hw2 => ?_))
                obtain ⟨rfl, C2⟩ := hw2
                have F2 := F1.call C2
                refine ⟨_, rfl, ?_⟩
                refine Ops.step (One.val rfl rfl rfl (yld_move rfl (ev_t rfl)) ?_)
                refine Ops.step (One.val (gd_some rfl rfl) rfl rfl (yld_field fi36_4 rfl (ev_t rfl)) ?_)
                refine Ops.step (One.val (gd_some rfl rfl) rfl rfl (yld_load1 on34 rfl (ev_g rfl) (fun _ => F2.cell 0 rfl rfl)) ?_)
                refine Ops.step (One.val (gd_some rfl rfl) rfl rfl (yld_indexN (i := 1) sl34 rfl (ev_g rfl) ev_c (fun _ => by simp)) ?_)
                refine Ops.step (One.val (gd_some rfl rfl) rfl rfl (yld_loadN ag36 rfl (ev_g rfl) (fun _ => rng hr1 F2.chg) hlc1) ?_)
                refine Ops.step (One.gcall (R := Chg No w2) (gd_some rfl rfl) rfl rfl (ent_f rfl (evl1 (ev_g rfl)) (enters en82)) (Chg.refl _ _) (fun hg => H _ (by simp) _ _ _ (ht1.chg F2.chg) (hfl _ (by simp))) ?_)
                intro w3 C3
                have F3 := F2.call C3
                refine Ops.step (One.val rfl rfl rfl (yld_and rfl (ev_t rfl) (ev_g rfl)) ?_)
                refine Ops.step (One.val rfl rfl rfl (yld_assign rfl (ev_t rfl)) ?_)
                refine Ops.nil fun a hS => ?_
                refine hK16 _ _ ?_ a hS
                refine Cod.ret fun a hS => ?_
                try simp only [Exit.then, Exit.inBlock]
                exact ret1 (t := 2) rfl hS rfl ⟨ret_b (by rw [look_eq, look2 hkk]; simp), F3.chg⟩
              · skip
                rw [hc11] at hc11_1; cases hc11_1
            · skip
              have e6 : k ≠ 6 := by simpa using hc11
              refine Cod.region ?_
              refine Ops.step (One.val rfl rfl rfl (yld_eql rfl (ev_t rfl) ev_c) ?_)
              refine Ops.step (One.val rfl rfl rfl (yld_assign rfl (ev_t rfl)) ?_)
              refine Ops.nil fun a hS => ?_
              refine hK14 _ _ ?_ a hS
              refine Cod.cond rfl (fun hc11 => ?_) (fun hc11 => ?_)
              · skip
                have hkk : k = 6 ∨ k = 7 := .inr (by simpa using hc11)
                obtain ⟨x0, x1, rfl⟩ := two_of (kids_two hkids hkk)
                obtain ⟨b0, o0, cs0, rfl, -, hlc0, hr0, ht0⟩ := h4.at 0 (by simp)
                obtain ⟨b01, o01, cs1, e01, -, hlc1, hr1, ht1⟩ := h4.at 1 (by simp)
                obtain ⟨rfl, rfl⟩ : b0 = b01 ∧ o0 = o01 := by simpa using e01
                refine Cod.seq fun K17 hK17 => ?_
                refine Cod.region ?_
                refine Ops.step (One.val rfl rfl rfl (yld_field fi36_4 rfl (ev_t rfl)) ?_)
                refine Ops.step (One.val rfl rfl rfl (yld_load1 on34 rfl (ev_t rfl) (fun _ => F1.cell 0 rfl rfl)) ?_)
                refine Ops.step (One.val rfl rfl rfl (yld_indexN (i := 0) sl34 rfl (ev_t rfl) ev_c (fun _ => by simp)) ?_)
                refine Ops.step (One.val rfl rfl rfl (yld_loadN ag36 rfl (ev_t rfl) (fun _ => rng hr0 F1.chg) hlc0) ?_)
                refine Ops.step (One.call rfl rfl rfl (ent_f rfl (evl1 (ev_t rfl)) (enters en82)) (H _ (by simp) _ _ _ (ht0.chg F1.chg) (hfl _ (by simp))) (fun e w4 hw4 => ?_))
                obtain ⟨rfl, C4⟩ := hw4
                have F4 := F1.call C4
                refine ⟨_, rfl, ?_⟩
                refine Ops.step (One.val rfl rfl rfl (yld_move rfl (ev_t rfl)) ?_)
                refine Ops.step (One.val (gd_some rfl rfl) rfl rfl (yld_field fi36_4 rfl (ev_t rfl)) ?_)
                refine Ops.step (One.val (gd_some rfl rfl) rfl rfl (yld_load1 on34 rfl (ev_g rfl) (fun _ => F4.cell 0 rfl rfl)) ?_)
                refine Ops.step (One.val (gd_some rfl rfl) rfl rfl (yld_indexN (i := 1) sl34 rfl (ev_g rfl) ev_c (fun _ => by simp)) ?_)
                refine Ops.step (One.val (gd_some rfl rfl) rfl rfl (yld_loadN ag36 rfl (ev_g rfl) (fun _ => rng hr1 F4.chg) hlc1) ?_)
                refine Ops.step (One.gcall (R := Chg No w4) (gd_some rfl rfl) rfl rfl (ent_f rfl (evl1 (ev_g rfl)) (enters en82)) (Chg.refl _ _) (fun hg => H _ (by simp) _ _ _ (ht1.chg F4.chg) (hfl _ (by simp))) ?_)
                intro w5 C5
                have F5 := F4.call C5
                refine Ops.step (One.val rfl rfl rfl (yld_and rfl (ev_t rfl) (ev_g rfl)) ?_)
                refine Ops.step (One.val rfl rfl rfl (yld_assign rfl (ev_t rfl)) ?_)
                refine Ops.nil fun a hS => ?_
                refine hK17 _ _ ?_ a hS
                refine Cod.ret fun a hS => ?_
                try simp only [Exit.then, Exit.inBlock]
                exact ret1 (t := 2) rfl hS rfl ⟨ret_b (by rw [look_eq, look2 hkk]; simp), F5.chg⟩
              · skip
                have e7 : k ≠ 7 := by simpa using hc11
                refine Cod.seq fun K18 hK18 => ?_
                refine Cod.region ?_
                refine Ops.step (One.val rfl rfl rfl (yld_eql rfl (ev_t rfl) ev_c) ?_)
                refine Ops.step (One.val rfl rfl rfl (yld_assign rfl (ev_t rfl)) ?_)
                refine Ops.nil fun a hS => ?_
                refine hK18 _ _ ?_ a hS
                refine Cod.cond rfl (fun hc26 => ?_) (fun hc26 => ?_)
                · skip
                  have hkk : k = 8 := by simpa using hc26
                  obtain ⟨x0, x1, x2, rfl⟩ := three_of (kids_three hkids hkk)
                  obtain ⟨b0, o0, cs0, rfl, -, hlc0, hr0, ht0⟩ := h4.at 1 (by simp)
                  obtain ⟨b01, o01, cs1, e01, -, hlc1, hr1, ht1⟩ := h4.at 2 (by simp)
                  obtain ⟨rfl, rfl⟩ : b0 = b01 ∧ o0 = o01 := by simpa using e01
                  refine Cod.seq fun K19 hK19 => ?_
                  refine Cod.region ?_
                  refine Ops.step (One.val rfl rfl rfl (yld_field fi36_4 rfl (ev_t rfl)) ?_)
                  refine Ops.step (One.val rfl rfl rfl (yld_load1 on34 rfl (ev_t rfl) (fun _ => F1.cell 0 rfl rfl)) ?_)
                  refine Ops.step (One.val rfl rfl rfl (yld_indexN (i := 1) sl34 rfl (ev_t rfl) ev_c (fun _ => by simp)) ?_)
                  refine Ops.step (One.val rfl rfl rfl (yld_loadN ag36 rfl (ev_t rfl) (fun _ => rng hr0 F1.chg) hlc0) ?_)
                  refine Ops.step (One.call rfl rfl rfl (ent_f rfl (evl1 (ev_t rfl)) (enters en82)) (H _ (by simp) _ _ _ (ht0.chg F1.chg) (hfl _ (by simp))) (fun e w6 hw6 => ?_))
                  obtain ⟨rfl, C6⟩ := hw6
                  have F6 := F1.call C6
                  refine ⟨_, rfl, ?_⟩
                  refine Ops.step (One.val rfl rfl rfl (yld_move rfl (ev_t rfl)) ?_)
                  refine Ops.step (One.val (gd_some rfl rfl) rfl rfl (yld_field fi36_4 rfl (ev_t rfl)) ?_)
                  refine Ops.step (One.val (gd_some rfl rfl) rfl rfl (yld_load1 on34 rfl (ev_g rfl) (fun _ => F6.cell 0 rfl rfl)) ?_)
                  refine Ops.step (One.val (gd_some rfl rfl) rfl rfl (yld_indexN (i := 2) sl34 rfl (ev_g rfl) ev_c (fun _ => by simp)) ?_)
                  refine Ops.step (One.val (gd_some rfl rfl) rfl rfl (yld_loadN ag36 rfl (ev_g rfl) (fun _ => rng hr1 F6.chg) hlc1) ?_)
                  refine Ops.step (One.gcall (R := Chg No w6) (gd_some rfl rfl) rfl rfl (ent_f rfl (evl1 (ev_g rfl)) (enters en82)) (Chg.refl _ _) (fun hg => H _ (by simp) _ _ _ (ht1.chg F6.chg) (hfl _ (by simp))) ?_)
                  intro w7 C7
                  have F7 := F6.call C7
                  refine Ops.step (One.val rfl rfl rfl (yld_and rfl (ev_t rfl) (ev_g rfl)) ?_)
                  refine Ops.step (One.val rfl rfl rfl (yld_assign rfl (ev_t rfl)) ?_)
                  refine Ops.nil fun a hS => ?_
                  refine hK19 _ _ ?_ a hS
                  refine Cod.ret fun a hS => ?_
                  try simp only [Exit.then, Exit.inBlock]
                  exact ret1 (t := 2) rfl hS rfl ⟨ret_b (by rw [look_eq, look3 hkk]; simp), F7.chg⟩
                · skip
                  have e8 : k ≠ 8 := by simpa using hc26
                  refine Cod.skip fun a hS => ?_
                  refine hK2 _ _ ?_ a hS
                  refine Cod.seq fun K20 hK20 => ?_
                  refine Cod.region ?_
                  refine Ops.step (One.val rfl rfl rfl (yld_assign rfl ev_c) ?_)
                  refine Ops.nil fun a hS => ?_
                  refine hK20 _ _ ?_ a hS
                  refine Cod.ret fun a hS => ?_
                  try simp only [Exit.then, Exit.inBlock]
                  exact ret1 (t := 2) rfl hS rfl ⟨ret_b (by rw [look_eq, look0 (by omega) (by omega) (by omega)]), F1.chg⟩


theorem way_ct (t : Fl) : LookOk 82 t := Fl.ind (p := LookOk 82) way_of t

set_option maxRecDepth 100000 in
theorem looks_of (k n : Int) (s : ByteArray) (tv : Tr) (l : List Fl) (H : ∀ t ∈ l, LookOk 84 t) : LookOk 84 (.mk k n s tv l) := by
  intro d v w hr hform
  obtain ⟨y, v4, rfl, hv, h4⟩ := hr.open
  obtain ⟨A4, c4, rfl, hn4⟩ := h4.open
  obtain ⟨hd, hnode, hfl, -⟩ := FForm.iff.1 hform
  have hkids := hnode.kids
  refine enter Tryd.func84 rfl rfl rfl ?_
  have F0 := Fr.start w
  refine Cod.seq fun K1 hK1 => ?_
  refine Cod.region ?_
  refine Ops.step (One.box F0 rfl rfl rfl rfl (ev_t rfl) ?_)
  intro b1 w1 hb1 F1
  change Fr _ _ [blk _ _ [_, _, _, _, _, _, _, _, _]] _ at F1
  refine Ops.step (One.val rfl rfl rfl (yld_assign rfl ev_c) ?_)
  refine Ops.nil fun a hS => ?_
  refine hK1 _ _ ?_ a hS
  refine Cod.seq fun K2 hK2 => ?_
  refine Cod.seq fun K3 hK3 => ?_
  refine Cod.region ?_
  refine Ops.step (One.val rfl rfl rfl (yld_field fi36_0 rfl (ev_t rfl)) ?_)
  refine Ops.step (One.val rfl rfl rfl (yld_load1 on3 rfl (ev_t rfl) (fun _ => F1.cell 0 rfl rfl)) ?_)
  refine Ops.nil fun a hS => ?_
  refine hK3 _ _ ?_ a hS
  refine Cod.block ?_
  refine Cod.seq fun K4 hK4 => ?_
  refine Cod.seq fun K5 hK5 => ?_
  refine Cod.region ?_
  refine Ops.step (One.val rfl rfl rfl (yld_eql rfl (ev_t rfl) ev_c) ?_)
  refine Ops.step (One.val rfl rfl rfl (yld_assign rfl (ev_t rfl)) ?_)
  refine Ops.nil fun a hS => ?_
  refine hK5 _ _ ?_ a hS
  refine Cod.cond rfl (fun hc5 => ?_) (fun hc5 => ?_)
  · skip
    obtain hkk : k = 1 := by simpa using hc5
    refine Cod.skip fun a hS => ?_
    refine hK4 _ _ ?_ a hS
    refine Cod.cond rfl (fun hc5_1 => ?_) (fun hc5_1 => ?_)
    · skip
      skip
      refine Cod.seq fun K6 hK6 => ?_
      refine Cod.region ?_
      refine Ops.step (One.val rfl rfl rfl (yld_assign rfl ev_c) ?_)
      refine Ops.nil fun a hS => ?_
      refine hK6 _ _ ?_ a hS
      refine Cod.ret fun a hS => ?_
      try simp only [Exit.then, Exit.inBlock]
      exact ret1 (t := 2) rfl hS rfl ⟨ret_b (by rw [look_eq, look1 (by omega)]), F1.chg⟩
    · skip
      rw [hc5] at hc5_1; cases hc5_1
  · skip
    have e1 : k ≠ 1 := by simpa using hc5
    refine Cod.seq fun K7 hK7 => ?_
    refine Cod.region ?_
    refine Ops.step (One.val rfl rfl rfl (yld_eql rfl (ev_t rfl) ev_c) ?_)
    refine Ops.step (One.val rfl rfl rfl (yld_assign rfl (ev_t rfl)) ?_)
    refine Ops.nil fun a hS => ?_
    refine hK7 _ _ ?_ a hS
    refine Cod.cond rfl (fun hc5 => ?_) (fun hc5 => ?_)
    · skip
      obtain hkk : k = 3 := by simpa using hc5
      refine Cod.skip fun a hS => ?_
      refine hK4 _ _ ?_ a hS
      refine Cod.cond rfl (fun hc5_1 => ?_) (fun hc5_1 => ?_)
      · skip
        skip
        refine Cod.seq fun K8 hK8 => ?_
        refine Cod.region ?_
        refine Ops.step (One.val rfl rfl rfl (yld_assign rfl ev_c) ?_)
        refine Ops.nil fun a hS => ?_
        refine hK8 _ _ ?_ a hS
        refine Cod.ret fun a hS => ?_
        try simp only [Exit.then, Exit.inBlock]
        exact ret1 (t := 2) rfl hS rfl ⟨ret_b (by rw [look_eq, look1 (by omega)]), F1.chg⟩
      · skip
        rw [hc5] at hc5_1; cases hc5_1
    · skip
      have e3 : k ≠ 3 := by simpa using hc5
      refine Cod.seq fun K9 hK9 => ?_
      refine Cod.region ?_
      refine Ops.step (One.val rfl rfl rfl (yld_eql rfl (ev_t rfl) ev_c) ?_)
      refine Ops.step (One.val rfl rfl rfl (yld_assign rfl (ev_t rfl)) ?_)
      refine Ops.nil fun a hS => ?_
      refine hK9 _ _ ?_ a hS
      refine Cod.cond rfl (fun hc5 => ?_) (fun hc5 => ?_)
      · skip
        obtain hkk : k = 4 := by simpa using hc5
        refine Cod.skip fun a hS => ?_
        refine hK4 _ _ ?_ a hS
        refine Cod.cond rfl (fun hc5_1 => ?_) (fun hc5_1 => ?_)
        · skip
          skip
          refine Cod.seq fun K10 hK10 => ?_
          refine Cod.region ?_
          refine Ops.step (One.val rfl rfl rfl (yld_assign rfl ev_c) ?_)
          refine Ops.nil fun a hS => ?_
          refine hK10 _ _ ?_ a hS
          refine Cod.ret fun a hS => ?_
          try simp only [Exit.then, Exit.inBlock]
          exact ret1 (t := 2) rfl hS rfl ⟨ret_b (by rw [look_eq, look1 (by omega)]), F1.chg⟩
        · skip
          rw [hc5] at hc5_1; cases hc5_1
      · skip
        have e4 : k ≠ 4 := by simpa using hc5
        refine Cod.seq fun K11 hK11 => ?_
        refine Cod.region ?_
        refine Ops.step (One.val rfl rfl rfl (yld_eql rfl (ev_t rfl) ev_c) ?_)
        refine Ops.step (One.val rfl rfl rfl (yld_assign rfl (ev_t rfl)) ?_)
        refine Ops.nil fun a hS => ?_
        refine hK11 _ _ ?_ a hS
        refine Cod.cond rfl (fun hc5 => ?_) (fun hc5 => ?_)
        · skip
          obtain hkk : k = 5 := by simpa using hc5
          refine Cod.skip fun a hS => ?_
          refine hK4 _ _ ?_ a hS
          refine Cod.cond rfl (fun hc5_1 => ?_) (fun hc5_1 => ?_)
          · skip
            skip
            refine Cod.seq fun K12 hK12 => ?_
            refine Cod.region ?_
            refine Ops.step (One.val rfl rfl rfl (yld_assign rfl ev_c) ?_)
            refine Ops.nil fun a hS => ?_
            refine hK12 _ _ ?_ a hS
            refine Cod.ret fun a hS => ?_
            try simp only [Exit.then, Exit.inBlock]
            exact ret1 (t := 2) rfl hS rfl ⟨ret_b (by rw [look_eq, look1 (by omega)]), F1.chg⟩
          · skip
            rw [hc5] at hc5_1; cases hc5_1
        · skip
          have e5 : k ≠ 5 := by simpa using hc5
          refine Cod.region ?_
          refine Ops.step (One.val rfl rfl rfl (yld_eql rfl (ev_t rfl) ev_c) ?_)
          refine Ops.step (One.val rfl rfl rfl (yld_assign rfl (ev_t rfl)) ?_)
          refine Ops.nil fun a hS => ?_
          refine hK4 _ _ ?_ a hS
          refine Cod.cond rfl (fun hc5 => ?_) (fun hc5 => ?_)
          · skip
            obtain hkk : k = 18 := by simpa using hc5
            refine Cod.seq fun K13 hK13 => ?_
            refine Cod.region ?_
            refine Ops.step (One.val rfl rfl rfl (yld_assign rfl ev_c) ?_)
            refine Ops.nil fun a hS => ?_
            refine hK13 _ _ ?_ a hS
            refine Cod.ret fun a hS => ?_
            try simp only [Exit.then, Exit.inBlock]
            exact ret1 (t := 2) rfl hS rfl ⟨ret_b (by rw [look_eq, look1 (by omega)]), F1.chg⟩
          · skip
            have e18 : k ≠ 18 := by simpa using hc5
            refine Cod.seq fun K14 hK14 => ?_
            refine Cod.seq fun K15 hK15 => ?_
            refine Cod.region ?_
            refine Ops.step (One.val rfl rfl rfl (yld_eql rfl (ev_t rfl) ev_c) ?_)
            refine Ops.step (One.val rfl rfl rfl (yld_assign rfl (ev_t rfl)) ?_)
            refine Ops.nil fun a hS => ?_
            refine hK15 _ _ ?_ a hS
            refine Cod.cond rfl (fun hc11 => ?_) (fun hc11 => ?_)
            · skip
              have hkk : k = 6 ∨ k = 7 := .inl (by simpa using hc11)
              obtain ⟨x0, x1, rfl⟩ := two_of (kids_two hkids hkk)
              obtain ⟨b0, o0, cs0, rfl, -, hlc0, hr0, ht0⟩ := h4.at 0 (by simp)
              obtain ⟨b01, o01, cs1, e01, -, hlc1, hr1, ht1⟩ := h4.at 1 (by simp)
              obtain ⟨rfl, rfl⟩ : b0 = b01 ∧ o0 = o01 := by simpa using e01
              refine Cod.skip fun a hS => ?_
              refine hK14 _ _ ?_ a hS
              refine Cod.cond rfl (fun hc11_1 => ?_) (fun hc11_1 => ?_)
              · skip
                skip
                refine Cod.seq fun K16 hK16 => ?_
                refine Cod.region ?_
                refine Ops.step (One.val rfl rfl rfl (yld_field fi36_4 rfl (ev_t rfl)) ?_)
                refine Ops.step (One.val rfl rfl rfl (yld_load1 on34 rfl (ev_t rfl) (fun _ => F1.cell 0 rfl rfl)) ?_)
                refine Ops.step (One.val rfl rfl rfl (yld_indexN (i := 0) sl34 rfl (ev_t rfl) ev_c (fun _ => by simp)) ?_)
                refine Ops.step (One.val rfl rfl rfl (yld_loadN ag36 rfl (ev_t rfl) (fun _ => rng hr0 F1.chg) hlc0) ?_)
                refine Ops.step (One.call rfl rfl rfl (ent_f rfl (evl1 (ev_t rfl)) (enters en84)) (H _ (by simp) _ _ _ (ht0.chg F1.chg) (hfl _ (by simp))) (fun e w2 hw2 => ?_))
                obtain ⟨rfl, C2⟩ := hw2
                have F2 := F1.call C2
                refine ⟨_, rfl, ?_⟩
                refine Ops.step (One.val rfl rfl rfl (yld_move rfl (ev_t rfl)) ?_)
                refine Ops.step (One.val (gd_some rfl rfl) rfl rfl (yld_field fi36_4 rfl (ev_t rfl)) ?_)
                refine Ops.step (One.val (gd_some rfl rfl) rfl rfl (yld_load1 on34 rfl (ev_g rfl) (fun _ => F2.cell 0 rfl rfl)) ?_)
                refine Ops.step (One.val (gd_some rfl rfl) rfl rfl (yld_indexN (i := 1) sl34 rfl (ev_g rfl) ev_c (fun _ => by simp)) ?_)
                refine Ops.step (One.val (gd_some rfl rfl) rfl rfl (yld_loadN ag36 rfl (ev_g rfl) (fun _ => rng hr1 F2.chg) hlc1) ?_)
                refine Ops.step (One.gcall (R := Chg No w2) (gd_some rfl rfl) rfl rfl (ent_f rfl (evl1 (ev_g rfl)) (enters en84)) (Chg.refl _ _) (fun hg => H _ (by simp) _ _ _ (ht1.chg F2.chg) (hfl _ (by simp))) ?_)
                intro w3 C3
                have F3 := F2.call C3
                refine Ops.step (One.val rfl rfl rfl (yld_and rfl (ev_t rfl) (ev_g rfl)) ?_)
                refine Ops.step (One.val rfl rfl rfl (yld_assign rfl (ev_t rfl)) ?_)
                refine Ops.nil fun a hS => ?_
                refine hK16 _ _ ?_ a hS
                refine Cod.ret fun a hS => ?_
                try simp only [Exit.then, Exit.inBlock]
                exact ret1 (t := 2) rfl hS rfl ⟨ret_b (by rw [look_eq, look2 hkk]; simp), F3.chg⟩
              · skip
                rw [hc11] at hc11_1; cases hc11_1
            · skip
              have e6 : k ≠ 6 := by simpa using hc11
              refine Cod.region ?_
              refine Ops.step (One.val rfl rfl rfl (yld_eql rfl (ev_t rfl) ev_c) ?_)
              refine Ops.step (One.val rfl rfl rfl (yld_assign rfl (ev_t rfl)) ?_)
              refine Ops.nil fun a hS => ?_
              refine hK14 _ _ ?_ a hS
              refine Cod.cond rfl (fun hc11 => ?_) (fun hc11 => ?_)
              · skip
                have hkk : k = 6 ∨ k = 7 := .inr (by simpa using hc11)
                obtain ⟨x0, x1, rfl⟩ := two_of (kids_two hkids hkk)
                obtain ⟨b0, o0, cs0, rfl, -, hlc0, hr0, ht0⟩ := h4.at 0 (by simp)
                obtain ⟨b01, o01, cs1, e01, -, hlc1, hr1, ht1⟩ := h4.at 1 (by simp)
                obtain ⟨rfl, rfl⟩ : b0 = b01 ∧ o0 = o01 := by simpa using e01
                refine Cod.seq fun K17 hK17 => ?_
                refine Cod.region ?_
                refine Ops.step (One.val rfl rfl rfl (yld_field fi36_4 rfl (ev_t rfl)) ?_)
                refine Ops.step (One.val rfl rfl rfl (yld_load1 on34 rfl (ev_t rfl) (fun _ => F1.cell 0 rfl rfl)) ?_)
                refine Ops.step (One.val rfl rfl rfl (yld_indexN (i := 0) sl34 rfl (ev_t rfl) ev_c (fun _ => by simp)) ?_)
                refine Ops.step (One.val rfl rfl rfl (yld_loadN ag36 rfl (ev_t rfl) (fun _ => rng hr0 F1.chg) hlc0) ?_)
                refine Ops.step (One.call rfl rfl rfl (ent_f rfl (evl1 (ev_t rfl)) (enters en84)) (H _ (by simp) _ _ _ (ht0.chg F1.chg) (hfl _ (by simp))) (fun e w4 hw4 => ?_))
                obtain ⟨rfl, C4⟩ := hw4
                have F4 := F1.call C4
                refine ⟨_, rfl, ?_⟩
                refine Ops.step (One.val rfl rfl rfl (yld_move rfl (ev_t rfl)) ?_)
                refine Ops.step (One.val (gd_some rfl rfl) rfl rfl (yld_field fi36_4 rfl (ev_t rfl)) ?_)
                refine Ops.step (One.val (gd_some rfl rfl) rfl rfl (yld_load1 on34 rfl (ev_g rfl) (fun _ => F4.cell 0 rfl rfl)) ?_)
                refine Ops.step (One.val (gd_some rfl rfl) rfl rfl (yld_indexN (i := 1) sl34 rfl (ev_g rfl) ev_c (fun _ => by simp)) ?_)
                refine Ops.step (One.val (gd_some rfl rfl) rfl rfl (yld_loadN ag36 rfl (ev_g rfl) (fun _ => rng hr1 F4.chg) hlc1) ?_)
                refine Ops.step (One.gcall (R := Chg No w4) (gd_some rfl rfl) rfl rfl (ent_f rfl (evl1 (ev_g rfl)) (enters en84)) (Chg.refl _ _) (fun hg => H _ (by simp) _ _ _ (ht1.chg F4.chg) (hfl _ (by simp))) ?_)
                intro w5 C5
                have F5 := F4.call C5
                refine Ops.step (One.val rfl rfl rfl (yld_and rfl (ev_t rfl) (ev_g rfl)) ?_)
                refine Ops.step (One.val rfl rfl rfl (yld_assign rfl (ev_t rfl)) ?_)
                refine Ops.nil fun a hS => ?_
                refine hK17 _ _ ?_ a hS
                refine Cod.ret fun a hS => ?_
                try simp only [Exit.then, Exit.inBlock]
                exact ret1 (t := 2) rfl hS rfl ⟨ret_b (by rw [look_eq, look2 hkk]; simp), F5.chg⟩
              · skip
                have e7 : k ≠ 7 := by simpa using hc11
                refine Cod.seq fun K18 hK18 => ?_
                refine Cod.region ?_
                refine Ops.step (One.val rfl rfl rfl (yld_eql rfl (ev_t rfl) ev_c) ?_)
                refine Ops.step (One.val rfl rfl rfl (yld_assign rfl (ev_t rfl)) ?_)
                refine Ops.nil fun a hS => ?_
                refine hK18 _ _ ?_ a hS
                refine Cod.cond rfl (fun hc26 => ?_) (fun hc26 => ?_)
                · skip
                  have hkk : k = 8 := by simpa using hc26
                  obtain ⟨x0, x1, x2, rfl⟩ := three_of (kids_three hkids hkk)
                  obtain ⟨b0, o0, cs0, rfl, -, hlc0, hr0, ht0⟩ := h4.at 1 (by simp)
                  obtain ⟨b01, o01, cs1, e01, -, hlc1, hr1, ht1⟩ := h4.at 2 (by simp)
                  obtain ⟨rfl, rfl⟩ : b0 = b01 ∧ o0 = o01 := by simpa using e01
                  refine Cod.seq fun K19 hK19 => ?_
                  refine Cod.region ?_
                  refine Ops.step (One.val rfl rfl rfl (yld_field fi36_4 rfl (ev_t rfl)) ?_)
                  refine Ops.step (One.val rfl rfl rfl (yld_load1 on34 rfl (ev_t rfl) (fun _ => F1.cell 0 rfl rfl)) ?_)
                  refine Ops.step (One.val rfl rfl rfl (yld_indexN (i := 1) sl34 rfl (ev_t rfl) ev_c (fun _ => by simp)) ?_)
                  refine Ops.step (One.val rfl rfl rfl (yld_loadN ag36 rfl (ev_t rfl) (fun _ => rng hr0 F1.chg) hlc0) ?_)
                  refine Ops.step (One.call rfl rfl rfl (ent_f rfl (evl1 (ev_t rfl)) (enters en84)) (H _ (by simp) _ _ _ (ht0.chg F1.chg) (hfl _ (by simp))) (fun e w6 hw6 => ?_))
                  obtain ⟨rfl, C6⟩ := hw6
                  have F6 := F1.call C6
                  refine ⟨_, rfl, ?_⟩
                  refine Ops.step (One.val rfl rfl rfl (yld_move rfl (ev_t rfl)) ?_)
                  refine Ops.step (One.val (gd_some rfl rfl) rfl rfl (yld_field fi36_4 rfl (ev_t rfl)) ?_)
                  refine Ops.step (One.val (gd_some rfl rfl) rfl rfl (yld_load1 on34 rfl (ev_g rfl) (fun _ => F6.cell 0 rfl rfl)) ?_)
                  refine Ops.step (One.val (gd_some rfl rfl) rfl rfl (yld_indexN (i := 2) sl34 rfl (ev_g rfl) ev_c (fun _ => by simp)) ?_)
                  refine Ops.step (One.val (gd_some rfl rfl) rfl rfl (yld_loadN ag36 rfl (ev_g rfl) (fun _ => rng hr1 F6.chg) hlc1) ?_)
                  refine Ops.step (One.gcall (R := Chg No w6) (gd_some rfl rfl) rfl rfl (ent_f rfl (evl1 (ev_g rfl)) (enters en84)) (Chg.refl _ _) (fun hg => H _ (by simp) _ _ _ (ht1.chg F6.chg) (hfl _ (by simp))) ?_)
                  intro w7 C7
                  have F7 := F6.call C7
                  refine Ops.step (One.val rfl rfl rfl (yld_and rfl (ev_t rfl) (ev_g rfl)) ?_)
                  refine Ops.step (One.val rfl rfl rfl (yld_assign rfl (ev_t rfl)) ?_)
                  refine Ops.nil fun a hS => ?_
                  refine hK19 _ _ ?_ a hS
                  refine Cod.ret fun a hS => ?_
                  try simp only [Exit.then, Exit.inBlock]
                  exact ret1 (t := 2) rfl hS rfl ⟨ret_b (by rw [look_eq, look3 hkk]; simp), F7.chg⟩
                · skip
                  have e8 : k ≠ 8 := by simpa using hc26
                  refine Cod.skip fun a hS => ?_
                  refine hK2 _ _ ?_ a hS
                  refine Cod.seq fun K20 hK20 => ?_
                  refine Cod.region ?_
                  refine Ops.step (One.val rfl rfl rfl (yld_assign rfl ev_c) ?_)
                  refine Ops.nil fun a hS => ?_
                  refine hK20 _ _ ?_ a hS
                  refine Cod.ret fun a hS => ?_
                  try simp only [Exit.then, Exit.inBlock]
                  exact ret1 (t := 2) rfl hS rfl ⟨ret_b (by rw [look_eq, look0 (by omega) (by omega) (by omega)]), F1.chg⟩


theorem looks_ct (t : Fl) : LookOk 84 t := Fl.ind (p := LookOk 84) looks_of t

set_option maxRecDepth 100000 in
theorem none_ct (t : Tr) (v : Value) (w : World) (hr : Rep Any w t v) : Calls Tryd.prog 83 #[v] w fun e w' => e = .returned (.bool (decide (t = nilV))) ∧ Chg No w w' := by
  obtain ⟨v3, v4, ev, -, -⟩ := hr.form
  subst ev
  refine enter Tryd.func83 rfl rfl rfl ?_
  have F0 := Fr.start w
  refine Cod.seq fun K1 hK1 => ?_
  refine Cod.region ?_
  refine Ops.step (One.box F0 rfl rfl rfl rfl (ev_t rfl) ?_)
  intro b1 w1 hb1 F1
  change Fr _ _ [blk _ _ [_, _, _, _, _]] _ at F1
  refine Ops.step (One.val rfl rfl rfl (yld_assign rfl ev_c) ?_)
  refine Ops.nil fun a hS => ?_
  refine hK1 _ _ ?_ a hS
  refine Cod.seq fun K2 hK2 => ?_
  refine Cod.region ?_
  refine Ops.step (One.val rfl rfl rfl (yld_loadN ag33 rfl (ev_t rfl) (fun _ => F1.range (m := 5) (cs' := [_, _, _, _, _]) 0 rfl rfl) rfl) ?_)
  refine Ops.step (One.val rfl rfl rfl (yld_build (cells := [.int .i64 0, .int .i64 0, .string ⟨#[]⟩, .slice none 0 0, .slice none 0 0]) rfl (evp0) (by kernel_rfl)) ?_)
  refine Ops.step (One.call rfl rfl rfl (ent_f rfl (evl2 (ev_t rfl) (ev_t rfl)) (enters en39)) (valSame_ct t nilV _ _ _ (hr.chg F1.chg) (repN _)) (fun e w2 hw2 => ?_))
  obtain ⟨rfl, C2⟩ := hw2
  have F2 := F1.call C2
  refine ⟨_, rfl, ?_⟩
  refine Ops.step (One.val rfl rfl rfl (yld_assign rfl (ev_t rfl)) ?_)
  refine Ops.nil fun a hS => ?_
  refine hK2 _ _ ?_ a hS
  refine Cod.ret fun a hS => ?_
  try simp only [Exit.then, Exit.inBlock]
  exact ret1 (t := 2) rfl hS rfl ⟨rfl, F2.chg⟩

set_option maxRecDepth 100000 in
theorem l4Clean_ct (k n : Int) (s : ByteArray) (tv : Tr) (l : List Fl) (v : Value) (w : World) (hr : RepF Any w (.mk k n s tv l) v) : Calls Tryd.prog 80 #[v] w fun e w' => e = .returned (.bool (cleanB k n s tv)) ∧ Chg No w w' := by
  obtain ⟨y, v4, rfl, hv, h4⟩ := hr.open
  refine enter Tryd.func80 rfl rfl rfl ?_
  have F0 := Fr.start w
  refine Cod.seq fun K1 hK1 => ?_
  refine Cod.region ?_
  refine Ops.step (One.box F0 rfl rfl rfl rfl (ev_t rfl) ?_)
  intro b1 w1 hb1 F1
  change Fr _ _ [blk _ _ [_, _, _, _, _, _, _, _, _]] _ at F1
  refine Ops.step (One.val rfl rfl rfl (yld_assign rfl ev_c) ?_)
  refine Ops.nil fun a hS => ?_
  refine hK1 _ _ ?_ a hS
  refine Cod.seq fun K2 hK2 => ?_
  refine Cod.region ?_
  refine Ops.step (One.val rfl rfl rfl (yld_field fi36_0 rfl (ev_t rfl)) ?_)
  refine Ops.step (One.val rfl rfl rfl (yld_load1 on3 rfl (ev_t rfl) (fun _ => F1.cell 0 rfl rfl)) ?_)
  refine Ops.step (One.val rfl rfl rfl (yld_eql rfl (ev_t rfl) ev_c) ?_)
  refine Ops.step (One.val rfl rfl rfl (yld_move rfl (ev_t rfl)) ?_)
  refine Ops.step (One.val (gd_some rfl rfl) rfl rfl (yld_field fi36_0 rfl (ev_t rfl)) ?_)
  refine Ops.step (One.val (gd_some rfl rfl) rfl rfl (yld_load1 on3 rfl (ev_g rfl) (fun _ => F1.cell 0 rfl rfl)) ?_)
  refine Ops.step (One.val (gd_some rfl rfl) rfl rfl (yld_eql rfl (ev_g rfl) ev_c) ?_)
  refine Ops.step (One.val rfl rfl rfl (yld_or rfl (ev_t rfl) (ev_g rfl)) ?_)
  refine Ops.step (One.val rfl rfl rfl (yld_assign rfl (ev_t rfl)) ?_)
  refine Ops.nil fun a hS => ?_
  refine hK2 _ _ ?_ a hS
  refine Cod.seq fun K3 hK3 => ?_
  refine Cod.region ?_
  refine Ops.step (One.val rfl rfl rfl (yld_field fi36_0 rfl (ev_t rfl)) ?_)
  refine Ops.step (One.val rfl rfl rfl (yld_load1 on3 rfl (ev_t rfl) (fun _ => F1.cell 0 rfl rfl)) ?_)
  refine Ops.step (One.val rfl rfl rfl (yld_eql rfl (ev_t rfl) ev_c) ?_)
  refine Ops.step (One.val rfl rfl rfl (yld_move rfl (ev_t rfl)) ?_)
  refine Ops.step (One.val (gd_some rfl rfl) rfl rfl (yld_field fi36_1 rfl (ev_t rfl)) ?_)
  refine Ops.step (One.val (gd_some rfl rfl) rfl rfl (yld_load1 on3 rfl (ev_g rfl) (fun _ => F1.cell 0 rfl rfl)) ?_)
  refine Ops.step (One.val (gd_some rfl rfl) rfl rfl (yld_eql rfl (ev_g rfl) ev_c) ?_)
  refine Ops.step (One.val rfl rfl rfl (yld_or rfl (ev_t rfl) (ev_g rfl)) ?_)
  refine Ops.step (One.val rfl rfl rfl (yld_move rfl (ev_t rfl)) ?_)
  refine Ops.step (One.val (gd_some rfl rfl) rfl rfl (yld_move rfl (ev_t rfl)) ?_)
  refine Ops.step (One.val (gd_some rfl rfl) rfl rfl (yld_move rfl (ev_g rfl)) ?_)
  refine Ops.step (One.val (gd_some rfl rfl) rfl rfl (yld_field fi36_2 rfl (ev_t rfl)) ?_)
  refine Ops.step (One.val (gd_some rfl rfl) rfl rfl (yld_load1 on9 rfl (ev_g rfl) (fun _ => F1.cell 0 rfl rfl)) ?_)
  refine Ops.step (One.val (gd_some rfl rfl) rfl rfl (yld_seql rfl (ev_g rfl) ev_c) ?_)
  refine Ops.step (One.val (gd_some rfl rfl) rfl rfl (yld_or rfl (ev_g rfl) (ev_g rfl)) ?_)
  refine Ops.step (One.val rfl rfl rfl (yld_and rfl (ev_t rfl) (ev_g rfl)) ?_)
  refine Ops.step (One.val rfl rfl rfl (yld_move rfl (ev_t rfl)) ?_)
  refine Ops.step (One.val (gd_some rfl rfl) rfl rfl (yld_field fi36_0 rfl (ev_t rfl)) ?_)
  refine Ops.step (One.val (gd_some rfl rfl) rfl rfl (yld_load1 on3 rfl (ev_g rfl) (fun _ => F1.cell 0 rfl rfl)) ?_)
  refine Ops.step (One.val (gd_some rfl rfl) rfl rfl (yld_eql rfl (ev_g rfl) ev_c) ?_)
  refine Ops.step (One.val (gd_some rfl rfl) rfl rfl (yld_move rfl (ev_g rfl)) ?_)
  refine Ops.step (One.val (gd_some rfl rfl) rfl rfl (yld_field fi36_3 rfl (ev_t rfl)) ?_)
  refine Ops.step (One.val (gd_some rfl rfl) rfl rfl (yld_loadN ag33 rfl (ev_g rfl) (fun _ => F1.range (m := 5) (cs' := [_, _, _, _, _]) 0 rfl rfl) rfl) ?_)
  refine Ops.step (One.val (gd_some rfl rfl) rfl rfl (yld_build (cells := [.int .i64 0, .int .i64 0, .string ⟨#[]⟩, .slice none 0 0, .slice none 0 0]) rfl (evp0) (by kernel_rfl)) ?_)
  refine Ops.step (One.gcall (R := Chg No w1) (gd_some rfl rfl) rfl rfl (ent_f rfl (evl2 (ev_g rfl) (ev_g rfl)) (enters en101)) (Chg.refl _ _) (fun hg => specSame_ct tv nilV _ _ _ (hv.chg F1.chg) (repN _)) ?_)
  intro w2 C2
  have F2 := F1.call C2
  refine Ops.step (One.val (gd_some rfl rfl) rfl rfl (yld_or rfl (ev_g rfl) (ev_g rfl)) ?_)
  refine Ops.step (One.val rfl rfl rfl (yld_and rfl (ev_t rfl) (ev_g rfl)) ?_)
  refine Ops.step (One.val rfl rfl rfl (yld_assign rfl (ev_t rfl)) ?_)
  refine Ops.nil fun a hS => ?_
  refine hK3 _ _ ?_ a hS
  refine Cod.ret fun a hS => ?_
  try simp only [Exit.then, Exit.inBlock]
  exact ret1 (t := 2) rfl hS rfl ⟨ret_b (by rw [Bool.eq_iff_iff]; simp [cleanB]), F2.chg⟩


/-- What l4Form says of one filter. -/
def FFormOk (t : Fl) : Prop := ∀ (d : Int) (v : Value) (w : World), RepF Any w t v → t.Fit → t.wt ≤ 1048576 → 0 ≤ d → d ≤ 100 →
    Calls Tryd.prog 41 #[v, .int .i64 d] w fun e w' => e = .returned (.bool (decide (FForm d t))) ∧ Chg No w w'
theorem RepFL.pick {F : Nat → Prop} {w : World} {l : List Fl} {A : Option Addr} {m c : Nat} (h : RepFL F w l (.slice A m c)) (i : Nat) : ∃ (b o : Nat) (cs : List Value) (x : Fl), cs.length = 9 ∧ (i < l.length → A = some ⟨b, o, none⟩ ∧ w.rangeAt b (o + i * 9) cs ∧ F b ∧ l[i]? = some x ∧ RepF F w x (.agg cs.toArray)) := by
  by_cases hi : i < l.length
  · obtain ⟨b, o, cs, e, hF, h1, h2, h3⟩ := h.at i hi
    exact ⟨b, o, cs, l[i], h1, fun _ => ⟨e, h2, hF, List.getElem?_eq_getElem hi, h3⟩⟩
  · exact ⟨0, 0, enc9 z9, .mk 0 0 ⟨#[]⟩ nilV [], rfl, fun h => absurd h hi⟩
theorem turn1 {k : Int} {m : Nat} (h : kidsN k = m) (hg : gof true (k != 20) false = true) : 0 < m := by
  simp [gof] at hg
  have := kids_turn h hg
  omega
theorem form_end {k n : Int} {s : ByteArray} {tv : Tr} {l : List Fl} {d : Int} {x0 : Fl} (hd : 1 ≤ d) (hn : NodeF k n s tv l.length) (hl : ∀ x ∈ l, FForm (d - 1) x) (hx : 0 < l.length → l[0]? = some x0) : ((k != 20) || x0.looks) = decide (FForm d (.mk k n s tv l)) := by
  rw [Bool.eq_iff_iff, decide_eq_true_iff, FForm.iff]
  constructor
  · intro h
    refine ⟨hd, hn, hl, fun h20 x e => ?_⟩
    have h2 := kids_turn hn.kids h20
    rw [hx (by omega)] at e
    obtain rfl := Option.some.inj e
    simpa [h20] using h
  · rintro ⟨-, -, -, h4⟩
    by_cases h20 : k = 20
    · have h2 := kids_turn hn.kids h20
      rw [h4 h20 x0 (hx (by omega))]
      simp
    · simp [h20]
theorem node_no {k n : Int} {s : ByteArray} {tv : Tr} {m : Nat} {d : Int} : ((((((decide (d < 1) || (kidsN k != (m : Int))) || !cleanB k n s tv) || !okS s) || decide (n < -60)) || decide (n ≥ 60)) || !okV tv) = false ↔ 1 ≤ d ∧ NodeF k n s tv m := by
  constructor
  · intro h
    simp at h
    obtain ⟨⟨⟨⟨⟨⟨h1, h2⟩, h3⟩, h4⟩, h5⟩, h6⟩, h7⟩ := h
    exact ⟨by omega, h2, h3, by omega, by omega, h4, h7⟩
  · rintro ⟨h, h1, h2, h3, h4, h5, h6⟩
    simp [h1, h2, h5, h6]
    omega

set_option maxRecDepth 100000 in
theorem l4Form_of (k n : Int) (s : ByteArray) (tv : Tr) (l : List Fl) (H : ∀ t ∈ l, FFormOk t) : FFormOk (.mk k n s tv l) := by
  intro d v w hr hf hw hd0 hd1
  obtain ⟨y, v4, rfl, hv, h4⟩ := hr.open
  obtain ⟨A4, c4, rfl, hn4⟩ := h4.open
  cases hf with
  | mk hs hfv hkl =>
  rw [Fl.wt_mk] at hw
  refine enter Tryd.func41 rfl rfl rfl ?_
  have F0 := Fr.start w
  refine Cod.seq fun K1 hK1 => ?_
  refine Cod.region ?_
  refine Ops.step (One.box F0 rfl rfl rfl rfl (ev_t rfl) ?_)
  intro b1 w1 hb1 F1
  change Fr _ _ [blk _ _ [_, _, _, _, _, _, _, _, _]] _ at F1
  refine Ops.step (One.val rfl rfl rfl (yld_assign rfl ev_c) ?_)
  refine Ops.nil fun a hS => ?_
  refine hK1 _ _ ?_ a hS
  refine Cod.seq fun K2 hK2 => ?_
  refine Cod.seq fun K3 hK3 => ?_
  have F2 := F1.drew
  refine Cod.draw (C_of F2) (by kernel_rfl) ?_
  refine Hops.take 0 rfl (by kernel_rfl) (fun _ _ _ h => h) rfl rfl rfl F2 (fun w F => (yld_move rfl (ev_t rfl))) ?_
  refine Hops.take 1 rfl (by kernel_rfl) (fun _ _ _ h => h) rfl rfl rfl F2 (fun w F => (yld_lss rfl (ev_t rfl) ev_c)) ?_
  refine Hops.take 2 rfl (by kernel_rfl) (fun _ _ _ h => h) rfl rfl rfl F2 (fun w F => (yld_move rfl (ev_t rfl))) ?_
  refine Hops.take 3 rfl (by kernel_rfl) (fun _ _ _ h => h) (gd_some rfl rfl) rfl rfl F2 (fun w F => (yld_field fi36_0 rfl (ev_t rfl))) ?_
  refine Hops.take 4 rfl (by kernel_rfl) (fun _ _ _ h => h) (gd_some rfl rfl) rfl rfl F2 (fun w F => (yld_load1 on3 rfl (ev_g rfl) (fun _ => F.cell 0 rfl rfl))) ?_
  refine Hops.take 6 rfl (by kernel_rfl) (fun _ _ _ h => h) (gd_some rfl rfl) rfl rfl F2 (fun w F => (yld_field fi36_4 rfl (ev_t rfl))) ?_
  refine Hops.take 7 rfl (by kernel_rfl) (fun _ _ _ h => h) (gd_some rfl rfl) rfl rfl F2 (fun w F => (yld_load1 on34 rfl (ev_g rfl) (fun _ => F.cell 0 rfl rfl))) ?_
  refine Hops.take 8 rfl (by kernel_rfl) (fun _ _ _ h => h) (gd_some rfl rfl) rfl rfl F2 (fun w F => (yld_len sl34 rfl (ev_g rfl))) ?_
  refine Hops.one 5 rfl (by kernel_rfl) (One.gcall (R := Chg No w1.drew) (gd_some rfl rfl) rfl rfl (ent_f rfl (evl1 (ev_g rfl)) (enters en79)) (Chg.refl _ _) (fun hg => l4Kids_ct k _) ?_)
  intro w2 C2
  have F3 := F2.call C2
  refine ⟨F3, ?_⟩
  refine Hops.take 9 rfl (by kernel_rfl) (fun _ _ _ h => h) (gd_some rfl rfl) rfl rfl F3 (fun w F => (yld_neq rfl (ev_g rfl) (ev_g rfl))) ?_
  refine Hops.take 10 rfl (by kernel_rfl) (fun _ _ _ h => h) rfl rfl rfl F3 (fun w F => (yld_or rfl (ev_t rfl) (ev_g rfl))) ?_
  refine Hops.take 11 rfl (by kernel_rfl) (fun _ _ _ h => h) rfl rfl rfl F3 (fun w F => (yld_move rfl (ev_t rfl))) ?_
  refine Hops.take 12 rfl (by kernel_rfl) (fun _ _ _ h => h) (gd_some rfl rfl) rfl rfl F3 (fun w F => (yld_loadN ag36 rfl (ev_t rfl) (fun _ => F.range (m := 9) (cs' := [_, _, _, _, _, _, _, _, _]) 0 rfl rfl) rfl)) ?_
  refine Hops.one 13 rfl (by kernel_rfl) (One.gcall (R := Chg No w2) (gd_some rfl rfl) rfl rfl (ent_f rfl (evl1 (ev_g rfl)) (enters en80)) (Chg.refl _ _) (fun hg => l4Clean_ct k n s tv l _ _ (hr.chg F3.chg)) ?_)
  intro w3 C3
  have F4 := F3.call C3
  refine ⟨F4, ?_⟩
  refine Hops.take 14 rfl (by kernel_rfl) (fun _ _ _ h => h) (gd_some rfl rfl) rfl rfl F4 (fun w F => (yld_not rfl (ev_g rfl))) ?_
  refine Hops.take 15 rfl (by kernel_rfl) (fun _ _ _ h => h) rfl rfl rfl F4 (fun w F => (yld_or rfl (ev_t rfl) (ev_g rfl))) ?_
  refine Hops.take 16 rfl (by kernel_rfl) (fun _ _ _ h => h) rfl rfl rfl F4 (fun w F => (yld_move rfl (ev_t rfl))) ?_
  refine Hops.take 17 rfl (by kernel_rfl) (fun _ _ _ h => h) (gd_some rfl rfl) rfl rfl F4 (fun w F => (yld_field fi36_2 rfl (ev_t rfl))) ?_
  refine Hops.take 18 rfl (by kernel_rfl) (fun _ _ _ h => h) (gd_some rfl rfl) rfl rfl F4 (fun w F => (yld_load1 on9 rfl (ev_g rfl) (fun _ => F.cell 0 rfl rfl))) ?_
  refine Hops.one 19 rfl (by kernel_rfl) (One.gcall (R := Chg No w3) (gd_some rfl rfl) rfl rfl (ent_f rfl (evl1 (ev_g rfl)) (enters en81)) (Chg.refl _ _) (fun hg => l1Str_ct s _ hs) ?_)
  intro w4 C4
  have F5 := F4.call C4
  refine ⟨F5, ?_⟩
  refine Hops.take 20 rfl (by kernel_rfl) (fun _ _ _ h => h) (gd_some rfl rfl) rfl rfl F5 (fun w F => (yld_not rfl (ev_g rfl))) ?_
  refine Hops.take 21 rfl (by kernel_rfl) (fun _ _ _ h => h) rfl rfl rfl F5 (fun w F => (yld_or rfl (ev_t rfl) (ev_g rfl))) ?_
  refine Hops.take 22 rfl (by kernel_rfl) (fun _ _ _ h => h) rfl rfl rfl F5 (fun w F => (yld_move rfl (ev_t rfl))) ?_
  refine Hops.take 23 rfl (by kernel_rfl) (fun _ _ _ h => h) (gd_some rfl rfl) rfl rfl F5 (fun w F => (yld_field fi36_1 rfl (ev_t rfl))) ?_
  refine Hops.take 24 rfl (by kernel_rfl) (fun _ _ _ h => h) (gd_some rfl rfl) rfl rfl F5 (fun w F => (yld_load1 on3 rfl (ev_g rfl) (fun _ => F.cell 0 rfl rfl))) ?_
  refine Hops.take 25 rfl (by kernel_rfl) (fun _ _ _ h => h) (gd_some rfl rfl) rfl rfl F5 (fun w F => (yld_lss rfl (ev_g rfl) ev_c)) ?_
  refine Hops.take 26 rfl (by kernel_rfl) (fun _ _ _ h => h) rfl rfl rfl F5 (fun w F => (yld_or rfl (ev_t rfl) (ev_g rfl))) ?_
  refine Hops.take 27 rfl (by kernel_rfl) (fun _ _ _ h => h) rfl rfl rfl F5 (fun w F => (yld_move rfl (ev_t rfl))) ?_
  refine Hops.take 28 rfl (by kernel_rfl) (fun _ _ _ h => h) (gd_some rfl rfl) rfl rfl F5 (fun w F => (yld_field fi36_1 rfl (ev_t rfl))) ?_
  refine Hops.take 29 rfl (by kernel_rfl) (fun _ _ _ h => h) (gd_some rfl rfl) rfl rfl F5 (fun w F => (yld_load1 on3 rfl (ev_g rfl) (fun _ => F.cell 0 rfl rfl))) ?_
  refine Hops.take 30 rfl (by kernel_rfl) (fun _ _ _ h => h) (gd_some rfl rfl) rfl rfl F5 (fun w F => (yld_geq rfl (ev_g rfl) ev_c)) ?_
  refine Hops.take 31 rfl (by kernel_rfl) (fun _ _ _ h => h) rfl rfl rfl F5 (fun w F => (yld_or rfl (ev_t rfl) (ev_g rfl))) ?_
  refine Hops.take 32 rfl (by kernel_rfl) (fun _ _ _ h => h) rfl rfl rfl F5 (fun w F => (yld_move rfl (ev_t rfl))) ?_
  refine Hops.take 33 rfl (by kernel_rfl) (fun _ _ _ h => h) (gd_some rfl rfl) rfl rfl F5 (fun w F => (yld_field fi36_3 rfl (ev_t rfl))) ?_
  refine Hops.take 34 rfl (by kernel_rfl) (fun _ _ _ h => h) (gd_some rfl rfl) rfl rfl F5 (fun w F => (yld_loadN ag33 rfl (ev_g rfl) (fun _ => F.range (m := 5) (cs' := [_, _, _, _, _]) 0 rfl rfl) rfl)) ?_
  refine Hops.one 35 rfl (by kernel_rfl) (One.gcall (R := Chg No w4) (gd_some rfl rfl) rfl rfl (ent_f rfl (evl1 (ev_g rfl)) (enters en37)) (Chg.refl _ _) (fun hg => specOk_ct tv _ _ (hv.chg F5.chg) hfv (by omega)) ?_)
  intro w5 C5
  have F6 := F5.call C5
  refine ⟨F6, ?_⟩
  refine Hops.take 36 rfl (by kernel_rfl) (fun _ _ _ h => h) (gd_some rfl rfl) rfl rfl F6 (fun w F => (yld_not rfl (ev_g rfl))) ?_
  refine Hops.take 37 rfl (by kernel_rfl) (fun _ _ _ h => h) rfl rfl rfl F6 (fun w F => (yld_or rfl (ev_t rfl) (ev_g rfl))) ?_
  refine Hops.nil (by kernel_rfl) fun a hS => ?_
  refine hK3 _ _ ?_ a hS
  refine Cod.cond rfl (fun hc43 => ?_) (fun hc43 => ?_)
  · skip
    have hne : ¬ FForm d (.mk k n s tv l) := fun h => by
      obtain ⟨h1, hp, -, -⟩ := FForm.iff.1 h
      have := node_no.2 ⟨h1, hp⟩
      unfold okV at this
      rw [this] at hc43
      cases hc43
    refine Cod.seq fun K4 hK4 => ?_
    refine Cod.region ?_
    refine Ops.step (One.val rfl rfl rfl (yld_assign rfl ev_c) ?_)
    refine Ops.nil fun a hS => ?_
    refine hK4 _ _ ?_ a hS
    refine Cod.ret fun a hS => ?_
    try simp only [Exit.then, Exit.inBlock]
    exact ret1 (t := 4) rfl hS rfl ⟨by rw [decide_eq_false hne], F6.chg⟩
  · skip
    obtain ⟨hd, hnode⟩ := node_no.1 hc43
    obtain ⟨b0, o0, cs0, x0, hlc0, hfst⟩ := h4.pick 0
    refine Cod.skip fun a hS => ?_
    refine hK2 _ _ ?_ a hS
    refine Cod.seq fun K5 hK5 => ?_
    refine Cod.seq fun K6 hK6 => ?_
    refine Cod.region ?_
    refine Ops.step (One.val rfl rfl rfl (yld_assign rfl ev_c) ?_)
    refine Ops.nil fun a hS => ?_
    refine hK6 _ _ ?_ a hS
    refine Cod.block ?_
    refine Cod.loop (fun i : Nat => [(1, true, .int .i64 d), (2, true, .pointer (some ⟨b1, 0, none⟩)), (5, true, .int .i64 (i : Int))]) (fun i w' => i ≤ l.length ∧ (∀ j (h : j < l.length), j < i → FForm (d - 1) l[j]) ∧ Fr No w [blk b1 36 [.int .i64 k, .int .i64 n, .string s, y.a, y.b, y.c, y.d, y.e, .slice A4 l.length c4]] w') (fun i => l.length - i) 0 ⟨rfl, rfl, rfl, trivial⟩ ⟨Nat.zero_le _, fun j _ h => by omega, F6⟩ ?_
    intro i w6 hW K7 hK7
    obtain ⟨hi, hall, F7⟩ := hW
    refine Cod.seq fun K8 hK8 => ?_
    refine Cod.seq fun K9 hK9 => ?_
    refine Cod.region ?_
    refine Ops.step (One.val rfl rfl rfl (yld_move rfl (ev_t rfl)) ?_)
    refine Ops.step (One.val rfl rfl rfl (yld_field fi36_4 rfl (ev_t rfl)) ?_)
    refine Ops.step (One.val rfl rfl rfl (yld_load1 on34 rfl (ev_t rfl) (fun _ => F7.cell 0 rfl rfl)) ?_)
    refine Ops.step (One.val rfl rfl rfl (yld_len sl34 rfl (ev_t rfl)) ?_)
    refine Ops.step (One.val rfl rfl rfl (yld_lss rfl (ev_t rfl) (ev_t rfl)) ?_)
    refine Ops.nil fun a hS => ?_
    refine hK9 _ _ ?_ a hS
    refine Cod.cond rfl (fun hc48 => ?_) (fun hc48 => ?_)
    · skip
      have hi : i < l.length := by simpa using hc48
      obtain ⟨b, o, cs, rfl, -, hlc, hr, ht⟩ := h4.at i hi
      have hwi := sumN_mem Fl.wt (List.getElem_mem hi)
      refine Cod.skip fun a hS => ?_
      refine hK8 _ _ ?_ a hS
      refine Cod.seq fun K10 hK10 => ?_
      refine Cod.block ?_
      refine Cod.seq fun K11 hK11 => ?_
      refine Cod.region ?_
      refine Ops.step (One.val rfl rfl rfl (yld_field fi36_4 rfl (ev_t rfl)) ?_)
      refine Ops.step (One.val rfl rfl rfl (yld_load1 on34 rfl (ev_t rfl) (fun _ => F7.cell 0 rfl rfl)) ?_)
      refine Ops.step (One.val rfl rfl rfl (yld_move rfl (ev_t rfl)) ?_)
      refine Ops.step (One.val rfl rfl rfl (yld_indexN sl34 rfl (ev_t rfl) (ev_t rfl) (fun _ => by omega)) ?_)
      refine Ops.step (One.val rfl rfl rfl (yld_loadN ag36 rfl (ev_t rfl) (fun _ => rng hr F7.chg) hlc) ?_)
      refine Ops.step (One.val rfl rfl rfl (yld_move rfl (ev_t rfl)) ?_)
      refine Ops.step (One.val rfl rfl rfl (yld_sub rfl (ev_t rfl) ev_c (fun _ => by omega)) ?_)
      refine Ops.step (One.call rfl rfl rfl (ent_f rfl (evl2 (ev_t rfl) (ev_t rfl)) (enters en41)) (H _ (List.getElem_mem hi) _ _ _ (ht.chg F7.chg) (hkl _ (List.getElem_mem hi)) (by omega) (by omega) (by omega)) (fun e w7 hw7 => ?_))
      obtain ⟨rfl, C7⟩ := hw7
      have F8 := F7.call C7
      refine ⟨_, rfl, ?_⟩
      refine Ops.step (One.val rfl rfl rfl (yld_not rfl (ev_t rfl)) ?_)
      refine Ops.nil fun a hS => ?_
      refine hK11 _ _ ?_ a hS
      refine Cod.cond rfl (fun hc59 => ?_) (fun hc59 => ?_)
      · skip
        have hne : ¬ FForm d (.mk k n s tv l) := fun h => by
          have := (FForm.iff.1 h).2.2.1 _ (List.getElem_mem hi)
          simp [this] at hc59
        refine Cod.seq fun K12 hK12 => ?_
        refine Cod.region ?_
        refine Ops.step (One.val rfl rfl rfl (yld_assign rfl ev_c) ?_)
        refine Ops.nil fun a hS => ?_
        refine hK12 _ _ ?_ a hS
        refine Cod.ret fun a hS => ?_
        try simp only [Exit.then, Exit.inBlock]
        exact ret1 (t := 4) rfl hS rfl ⟨by rw [decide_eq_false hne], F8.chg⟩
      · skip
        have hgood : FForm (d - 1) l[i] := by simpa using hc59
        refine Cod.skip fun a hS => ?_
        refine hK10 _ _ ?_ a hS
        refine Cod.region ?_
        refine Ops.step (One.val rfl rfl rfl (yld_move rfl (ev_t rfl)) ?_)
        refine Ops.step (One.val rfl rfl rfl (yld_inc rfl (ev_t rfl) (fun _ => by omega)) ?_)
        refine Ops.step (One.val rfl rfl rfl (yld_assign rfl (ev_t rfl)) ?_)
        refine Ops.nil fun a hS => ?_
        exact hK7 (i + 1) _ a (hS.sub ⟨rfl, rfl, rfl, trivial⟩) ⟨by omega, fun j h1 hji => if h : j = i then (by subst h; exact hgood) else hall j h1 (by omega), F8⟩ (by omega)
    · skip
      have hkids : ∀ x ∈ l, FForm (d - 1) x := fun x hx => by
        obtain ⟨j, hj, rfl⟩ := List.getElem_of_mem hx
        exact hall j hj (by simp at hc48; omega)
      refine Cod.exit fun a hS => ?_
      simp only [Exit.then, Exit.inBlock, ↓reduceIte]
      refine hK5 _ _ ?_ a hS
      refine Cod.seq fun K13 hK13 => ?_
      refine Cod.region ?_
      refine Ops.step (One.val rfl rfl rfl (yld_field fi36_0 rfl (ev_t rfl)) ?_)
      refine Ops.step (One.val rfl rfl rfl (yld_load1 on3 rfl (ev_t rfl) (fun _ => F7.cell 0 rfl rfl)) ?_)
      refine Ops.step (One.val rfl rfl rfl (yld_neq rfl (ev_t rfl) ev_c) ?_)
      refine Ops.step (One.val rfl rfl rfl (yld_move rfl (ev_t rfl)) ?_)
      refine Ops.step (One.val (gd_some rfl rfl) rfl rfl (yld_field fi36_4 rfl (ev_t rfl)) ?_)
      refine Ops.step (One.val (gd_some rfl rfl) rfl rfl (yld_load1 on34 rfl (ev_g rfl) (fun _ => F7.cell 0 rfl rfl)) ?_)
      refine Ops.step (One.val (gd_some rfl rfl) rfl rfl (yld_indexG (b := b0) (q := o0) (i := 0) sl34 rfl (ev_g rfl) ev_c (fun hg => (hfst (turn1 hnode.kids hg)).1) (fun hg => turn1 hnode.kids hg)) ?_)
      refine Ops.step (One.val (gd_some rfl rfl) rfl rfl (yld_loadN ag36 rfl (ev_g rfl) (fun hg => rng (hfst (turn1 hnode.kids hg)).2.1 F7.chg) hlc0) ?_)
      refine Ops.step (One.gcall (R := Chg No w6) (gd_some rfl rfl) rfl rfl (ent_f rfl (evl1 (ev_g rfl)) (enters en82)) (Chg.refl _ _) (fun hg => way_ct x0 _ _ _ ((hfst (turn1 hnode.kids hg)).2.2.2.2.chg F7.chg) (hkids x0 (List.mem_of_getElem? (hfst (turn1 hnode.kids hg)).2.2.2.1))) ?_)
      intro w8 C8
      have F9 := F7.call C8
      refine Ops.step (One.val rfl rfl rfl (yld_or rfl (ev_t rfl) (ev_g rfl)) ?_)
      refine Ops.step (One.val rfl rfl rfl (yld_assign rfl (ev_t rfl)) ?_)
      refine Ops.nil fun a hS => ?_
      refine hK13 _ _ ?_ a hS
      refine Cod.ret fun a hS => ?_
      try simp only [Exit.then, Exit.inBlock]
      exact ret1 (t := 4) rfl hS rfl ⟨ret_b (form_end hd hnode hkids fun h => (hfst h).2.2.2.1), F9.chg⟩


theorem l4Form_ct (t : Fl) : FFormOk t := Fl.ind (p := FFormOk) l4Form_of t
noncomputable def okF (t : Fl) : Bool := decide (FForm 7 t) && decide ((t.cnt : Int) ≤ 16)
noncomputable def manyF (t : Fl) : Int := if okF t = true then t.cnt else 0
/-- What l4Many says of one filter that is well made. -/
def FManyOk (t : Fl) : Prop := ∀ (d : Int) (v : Value) (w : World), RepF Any w t v → FForm d t → d ≤ 100 → t.wt ≤ 1048576 →
    Calls Tryd.prog 42 #[v, .int .i64 d] w fun e w' => e = .returned (.int .i64 (t.cnt : Int)) ∧ Chg No w w'
def FCntOk (t : Fl) : Prop := ∀ (v : Value) (w : World), RepF Any w t v → t.wt ≤ 1048576 →
    Calls Tryd.prog 46 #[v] w fun e w' => e = .returned (.int .i64 (t.cnt : Int)) ∧ Chg No w w'

set_option maxRecDepth 100000 in
theorem l4Many_of (k n : Int) (s : ByteArray) (tv : Tr) (l : List Fl) (H : ∀ t ∈ l, FManyOk t) : FManyOk (.mk k n s tv l) := by
  intro d v w hr hf hd1 hw
  obtain ⟨y, v4, rfl, hv, h4⟩ := hr.open
  obtain ⟨A4, c4, rfl, hn4⟩ := h4.open
  obtain ⟨hd, -, hfl, -⟩ := FForm.iff.1 hf
  have hcw := Fl.cnt_wt (.mk k n s tv l)
  have hcm := Fl.cnt_mk k n s tv l
  rw [Fl.wt_mk] at hw
  have hcs : sumN Fl.cnt l ≤ l.length + sumN Fl.wt l := sumN_le fun x _ => x.cnt_wt
  refine enter Tryd.func42 rfl rfl rfl ?_
  have F0 := Fr.start w
  refine Cod.seq fun K1 hK1 => ?_
  refine Cod.region ?_
  refine Ops.step (One.box F0 rfl rfl rfl rfl (ev_t rfl) ?_)
  intro b1 w1 hb1 F1
  change Fr _ _ [blk _ _ [_, _, _, _, _, _, _, _, _]] _ at F1
  refine Ops.step (One.val rfl rfl rfl (yld_assign rfl ev_c) ?_)
  refine Ops.nil fun a hS => ?_
  refine hK1 _ _ ?_ a hS
  refine Cod.seq fun K2 hK2 => ?_
  refine Cod.region ?_
  refine Ops.step (One.val rfl rfl rfl (yld_assign rfl ev_c) ?_)
  refine Ops.nil fun a hS => ?_
  refine hK2 _ _ ?_ a hS
  refine Cod.seq fun K3 hK3 => ?_
  refine Cod.seq fun K4 hK4 => ?_
  refine Cod.region ?_
  refine Ops.step (One.val rfl rfl rfl (yld_assign rfl ev_c) ?_)
  refine Ops.nil fun a hS => ?_
  refine hK4 _ _ ?_ a hS
  refine Cod.block ?_
  refine Cod.loop (fun i : Nat => [(1, true, .int .i64 d), (2, true, .pointer (some ⟨b1, 0, none⟩)), (5, true, .int .i64 (1 + sumN Fl.cnt (l.take i) : Nat)), (6, true, .int .i64 (i : Int))]) (fun i w' => i ≤ l.length ∧ Fr No w [blk b1 36 [.int .i64 k, .int .i64 n, .string s, y.a, y.b, y.c, y.d, y.e, .slice A4 l.length c4]] w') (fun i => l.length - i) 0 ⟨rfl, rfl, rfl, rfl, trivial⟩ ⟨Nat.zero_le _, F1⟩ ?_
  intro i w2 hW K5 hK5
  obtain ⟨hi, F2⟩ := hW
  refine Cod.seq fun K6 hK6 => ?_
  refine Cod.seq fun K7 hK7 => ?_
  refine Cod.region ?_
  refine Ops.step (One.val rfl rfl rfl (yld_move rfl (ev_t rfl)) ?_)
  refine Ops.step (One.val rfl rfl rfl (yld_field fi36_4 rfl (ev_t rfl)) ?_)
  refine Ops.step (One.val rfl rfl rfl (yld_load1 on34 rfl (ev_t rfl) (fun _ => F2.cell 0 rfl rfl)) ?_)
  refine Ops.step (One.val rfl rfl rfl (yld_len sl34 rfl (ev_t rfl)) ?_)
  refine Ops.step (One.val rfl rfl rfl (yld_lss rfl (ev_t rfl) (ev_t rfl)) ?_)
  refine Ops.step (One.val rfl rfl rfl (yld_move rfl (ev_t rfl)) ?_)
  refine Ops.step (One.val (gd_some rfl rfl) rfl rfl (yld_move rfl (ev_t rfl)) ?_)
  refine Ops.step (One.val (gd_some rfl rfl) rfl rfl (yld_gtr rfl (ev_g rfl) ev_c) ?_)
  refine Ops.step (One.val rfl rfl rfl (yld_and rfl (ev_t rfl) (ev_g rfl)) ?_)
  refine Ops.nil fun a hS => ?_
  refine hK7 _ _ ?_ a hS
  refine Cod.cond rfl (fun hc15 => ?_) (fun hc15 => ?_)
  · skip
    have hi : i < l.length := by simp at hc15; omega
    obtain ⟨b, o, cs, rfl, -, hlc, hr, ht⟩ := h4.at i hi
    have hst := sumN_take Fl.cnt l i hi
    have hsl := sumN_take_le Fl.cnt l (i + 1)
    have hwi := sumN_mem Fl.wt (List.getElem_mem hi)
    refine Cod.skip fun a hS => ?_
    refine hK6 _ _ ?_ a hS
    refine Cod.seq fun K8 hK8 => ?_
    refine Cod.block ?_
    refine Cod.region ?_
    refine Ops.step (One.val rfl rfl rfl (yld_move rfl (ev_t rfl)) ?_)
    refine Ops.step (One.val rfl rfl rfl (yld_field fi36_4 rfl (ev_t rfl)) ?_)
    refine Ops.step (One.val rfl rfl rfl (yld_load1 on34 rfl (ev_t rfl) (fun _ => F2.cell 0 rfl rfl)) ?_)
    refine Ops.step (One.val rfl rfl rfl (yld_move rfl (ev_t rfl)) ?_)
    refine Ops.step (One.val rfl rfl rfl (yld_indexN sl34 rfl (ev_t rfl) (ev_t rfl) (fun _ => by omega)) ?_)
    refine Ops.step (One.val rfl rfl rfl (yld_loadN ag36 rfl (ev_t rfl) (fun _ => rng hr F2.chg) hlc) ?_)
    refine Ops.step (One.val rfl rfl rfl (yld_move rfl (ev_t rfl)) ?_)
    refine Ops.step (One.val rfl rfl rfl (yld_sub rfl (ev_t rfl) ev_c (fun _ => by omega)) ?_)
    refine Ops.step (One.call rfl rfl rfl (ent_f rfl (evl2 (ev_t rfl) (ev_t rfl)) (enters en42)) (H _ (List.getElem_mem hi) _ _ _ (ht.chg F2.chg) (hfl _ (List.getElem_mem hi)) (by omega) (by omega)) (fun e w3 hw3 => ?_))
    obtain ⟨rfl, C3⟩ := hw3
    have F3 := F2.call C3
    refine ⟨_, rfl, ?_⟩
    refine Ops.step (One.val rfl rfl rfl (yld_add rfl (ev_t rfl) (ev_t rfl) (fun _ => by omega)) ?_)
    refine Ops.step (One.val rfl rfl rfl (yld_assign rfl (ev_t rfl)) ?_)
    refine Ops.nil fun a hS => ?_
    refine hK8 _ _ ?_ a hS
    refine Cod.region ?_
    refine Ops.step (One.val rfl rfl rfl (yld_move rfl (ev_t rfl)) ?_)
    refine Ops.step (One.val rfl rfl rfl (yld_inc rfl (ev_t rfl) (fun _ => by omega)) ?_)
    refine Ops.step (One.val rfl rfl rfl (yld_assign rfl (ev_t rfl)) ?_)
    refine Ops.nil fun a hS => ?_
    rw [show ((1 + sumN Fl.cnt (l.take i) : Nat) : Int) + (Fl.cnt l[i] : Int) = ((1 + sumN Fl.cnt (l.take (i + 1)) : Nat) : Int) by omega] at hS
    exact hK5 (i + 1) _ a (hS.sub ⟨rfl, rfl, rfl, rfl, trivial⟩) ⟨by omega, F3⟩ (by omega)
  · skip
    have hend : i = l.length := by simp at hc15; omega
    subst hend
    rw [List.take_length]
    refine Cod.exit fun a hS => ?_
    simp only [Exit.then, Exit.inBlock, ↓reduceIte]
    refine hK3 _ _ ?_ a hS
    refine Cod.seq fun K9 hK9 => ?_
    refine Cod.region ?_
    refine Ops.step (One.val rfl rfl rfl (yld_move rfl (ev_t rfl)) ?_)
    refine Ops.step (One.val rfl rfl rfl (yld_assign rfl (ev_t rfl)) ?_)
    refine Ops.nil fun a hS => ?_
    refine hK9 _ _ ?_ a hS
    refine Cod.ret fun a hS => ?_
    try simp only [Exit.then, Exit.inBlock]
    exact ret1 (t := 4) rfl hS rfl ⟨ret_i (by rw [hcm]), F2.chg⟩

set_option maxRecDepth 100000 in
theorem fmany_of (k n : Int) (s : ByteArray) (tv : Tr) (l : List Fl) (H : ∀ t ∈ l, FCntOk t) : FCntOk (.mk k n s tv l) := by
  intro v w hr hw
  obtain ⟨y, v4, rfl, hv, h4⟩ := hr.open
  obtain ⟨A4, c4, rfl, hn4⟩ := h4.open
  have hcw := Fl.cnt_wt (.mk k n s tv l)
  have hcm := Fl.cnt_mk k n s tv l
  rw [Fl.wt_mk] at hw
  have hcs : sumN Fl.cnt l ≤ l.length + sumN Fl.wt l := sumN_le fun x _ => x.cnt_wt
  refine enter Tryd.func46 rfl rfl rfl ?_
  have F0 := Fr.start w
  refine Cod.seq fun K1 hK1 => ?_
  refine Cod.region ?_
  refine Ops.step (One.box F0 rfl rfl rfl rfl (ev_t rfl) ?_)
  intro b1 w1 hb1 F1
  change Fr _ _ [blk _ _ [_, _, _, _, _, _, _, _, _]] _ at F1
  refine Ops.step (One.val rfl rfl rfl (yld_assign rfl ev_c) ?_)
  refine Ops.nil fun a hS => ?_
  refine hK1 _ _ ?_ a hS
  refine Cod.seq fun K2 hK2 => ?_
  refine Cod.region ?_
  refine Ops.step (One.val rfl rfl rfl (yld_assign rfl ev_c) ?_)
  refine Ops.nil fun a hS => ?_
  refine hK2 _ _ ?_ a hS
  refine Cod.seq fun K3 hK3 => ?_
  refine Cod.seq fun K4 hK4 => ?_
  refine Cod.region ?_
  refine Ops.step (One.val rfl rfl rfl (yld_field fi36_4 rfl (ev_t rfl)) ?_)
  refine Ops.step (One.val rfl rfl rfl (yld_load1 on34 rfl (ev_t rfl) (fun _ => F1.cell 0 rfl rfl)) ?_)
  refine Ops.step (One.val rfl rfl rfl (yld_len sl34 rfl (ev_t rfl)) ?_)
  refine Ops.step (One.val rfl rfl rfl (yld_move rfl ev_c) ?_)
  refine Ops.nil fun a hS => ?_
  refine hK4 _ _ ?_ a hS
  refine Cod.block ?_
  refine Cod.loop (fun i : Nat => [(3, true, .int .i64 (1 + sumN Fl.cnt (l.take i) : Nat)), (7, true, .slice A4 l.length c4), (8, true, .int .i64 (l.length : Int)), (9, true, .int .i64 (i : Int))]) (fun i w' => i ≤ l.length ∧ Fr No w [blk b1 36 [.int .i64 k, .int .i64 n, .string s, y.a, y.b, y.c, y.d, y.e, .slice A4 l.length c4]] w') (fun i => l.length - i) 0 ⟨rfl, rfl, rfl, rfl, trivial⟩ ⟨Nat.zero_le _, F1⟩ ?_
  intro i w2 hW K5 hK5
  obtain ⟨hi, F2⟩ := hW
  refine Cod.seq fun K6 hK6 => ?_
  refine Cod.region ?_
  refine Ops.step (One.val rfl rfl rfl (yld_lss rfl (ev_t rfl) (ev_t rfl)) ?_)
  refine Ops.nil fun a hS => ?_
  refine hK6 _ _ ?_ a hS
  refine Cod.seq fun K7 hK7 => ?_
  refine Cod.cond rfl (fun hc10 => ?_) (fun hc10 => ?_)
  · skip
    have hi : i < l.length := by simp at hc10; omega
    obtain ⟨b, o, cs, rfl, -, hlc, hr, ht⟩ := h4.at i hi
    obtain ⟨y1, y2, y3, y4, y5, y6, y7, y8, y9, rfl⟩ := nineF hlc
    have hst := sumN_take Fl.cnt l i hi
    have hsl := sumN_take_le Fl.cnt l (i + 1)
    have hwi := sumN_mem Fl.wt (List.getElem_mem hi)
    refine Cod.skip fun a hS => ?_
    refine hK7 _ _ ?_ a hS
    refine Cod.seq fun K8 hK8 => ?_
    refine Cod.block ?_
    refine Cod.seq fun K9 hK9 => ?_
    refine Cod.region ?_
    refine Ops.step (One.val rfl rfl rfl (yld_indexN sl34 rfl (ev_t rfl) (ev_t rfl) (fun _ => by omega)) ?_)
    refine Ops.step (One.val rfl rfl rfl (yld_loadN ag36 rfl (ev_t rfl) (fun _ => rng hr F2.chg) rfl) ?_)
    refine Ops.step (One.alloc F2 zero36 rfl rfl rfl rfl ?_)
    intro b2 w3 hb2 F3
    change Fr _ _ [blk _ _ [_, _, _, _, _, _, _, _, _], blk _ _ [_, _, _, _, _, _, _, _, _]] _ at F3
    refine Ops.step (One.storeN (vs := [_, _, _, _, _, _, _, _, _]) F3 0 rfl sz36 rfl rfl rfl (ev_t rfl) (ev_t rfl) rfl rfl (cells9F ht) ?_)
    intro w4 F4
    change Fr _ _ [blk _ _ [_, _, _, _, _, _, _, _, _], blk _ _ [_, _, _, _, _, _, _, _, _]] _ at F4
    refine Ops.nil fun a hS => ?_
    refine hK9 _ _ ?_ a hS
    refine Cod.region ?_
    refine Ops.step (One.val rfl rfl rfl (yld_move rfl (ev_t rfl)) ?_)
    refine Ops.step (One.val rfl rfl rfl (yld_loadN ag36 rfl (ev_t rfl) (fun _ => F4.range (m := 9) (cs' := [_, _, _, _, _, _, _, _, _]) 0 rfl rfl) rfl) ?_)
    refine Ops.step (One.call rfl rfl rfl (ent_f rfl (evl1 (ev_t rfl)) (enters en46)) (H _ (List.getElem_mem hi) _ _ (ht.chg F4.chg) (by omega)) (fun e w5 hw5 => ?_))
    obtain ⟨rfl, C5⟩ := hw5
    have F5 := F4.call C5
    refine ⟨_, rfl, ?_⟩
    refine Ops.step (One.val rfl rfl rfl (yld_add rfl (ev_t rfl) (ev_t rfl) (fun _ => by omega)) ?_)
    refine Ops.step (One.val rfl rfl rfl (yld_assign rfl (ev_t rfl)) ?_)
    refine Ops.nil fun a hS => ?_
    refine hK8 _ _ ?_ a hS
    refine Cod.region ?_
    refine Ops.step (One.val rfl rfl rfl (yld_inc rfl (ev_t rfl) (fun _ => by omega)) ?_)
    refine Ops.step (One.val rfl rfl rfl (yld_move rfl (ev_t rfl)) ?_)
    refine Ops.nil fun a hS => ?_
    rw [show ((1 + sumN Fl.cnt (l.take i) : Nat) : Int) + (Fl.cnt l[i] : Int) = ((1 + sumN Fl.cnt (l.take (i + 1)) : Nat) : Int) by omega] at hS
    exact hK5 (i + 1) _ a (hS.sub ⟨rfl, rfl, rfl, rfl, trivial⟩) ⟨by omega, F5.drop1⟩ (by omega)
  · skip
    have hend : i = l.length := by simp at hc10; omega
    subst hend
    rw [List.take_length]
    refine Cod.exit fun a hS => ?_
    simp only [Exit.then, Exit.inBlock, ↓reduceIte]
    refine hK3 _ _ ?_ a hS
    refine Cod.seq fun K10 hK10 => ?_
    refine Cod.region ?_
    refine Ops.step (One.val rfl rfl rfl (yld_move rfl (ev_t rfl)) ?_)
    refine Ops.step (One.val rfl rfl rfl (yld_assign rfl (ev_t rfl)) ?_)
    refine Ops.nil fun a hS => ?_
    refine hK10 _ _ ?_ a hS
    refine Cod.ret fun a hS => ?_
    try simp only [Exit.then, Exit.inBlock]
    exact ret1 (t := 2) rfl hS rfl ⟨ret_i (by rw [hcm]), F2.chg⟩


theorem l4Many_ct (t : Fl) : FManyOk t := Fl.ind (p := FManyOk) l4Many_of t
theorem fmany_ct (t : Fl) : FCntOk t := Fl.ind (p := FCntOk) fmany_of t

set_option maxRecDepth 100000 in
theorem specFiltOk_ct (t : Fl) (v : Value) (w : World) (hr : RepF Any w t v) (hf : t.Fit) (hw : t.wt ≤ 1048576) :
    Calls Tryd.prog 11 #[v] w fun e w' => e = .returned (.bool (okF t)) ∧ Chg No w w' := by
  obtain ⟨k, n, s, tv, l⟩ := t
  obtain ⟨y, v4, rfl, hv, h4⟩ := hr.open
  refine enter Tryd.func11 rfl rfl rfl ?_
  have F0 := Fr.start w
  refine Cod.seq fun K1 hK1 => ?_
  refine Cod.region ?_
  refine Ops.step (One.box F0 rfl rfl rfl rfl (ev_t rfl) ?_)
  intro b1 w1 hb1 F1
  change Fr _ _ [blk _ _ [_, _, _, _, _, _, _, _, _]] _ at F1
  refine Ops.step (One.val rfl rfl rfl (yld_assign rfl ev_c) ?_)
  refine Ops.nil fun a hS => ?_
  refine hK1 _ _ ?_ a hS
  refine Cod.seq fun K2 hK2 => ?_
  refine Cod.region ?_
  refine Ops.step (One.val rfl rfl rfl (yld_loadN ag36 rfl (ev_t rfl) (fun _ => F1.range (m := 9) (cs' := [_, _, _, _, _, _, _, _, _]) 0 rfl rfl) rfl) ?_)
  refine Ops.step (One.call rfl rfl rfl (ent_f rfl (evl2 (ev_t rfl) ev_c) (enters en41)) (l4Form_ct _ _ _ _ (hr.chg F1.chg) hf hw (by omega) (by omega)) (fun e w2 hw2 => ?_))
  obtain ⟨rfl, C2⟩ := hw2
  have F2 := F1.call C2
  refine ⟨_, rfl, ?_⟩
  refine Ops.step (One.val rfl rfl rfl (yld_move rfl (ev_t rfl)) ?_)
  refine Ops.step (One.val (gd_some rfl rfl) rfl rfl (yld_loadN ag36 rfl (ev_t rfl) (fun _ => F2.range (m := 9) (cs' := [_, _, _, _, _, _, _, _, _]) 0 rfl rfl) rfl) ?_)
  refine Ops.step (One.gcall (R := Chg No w2) (gd_some rfl rfl) rfl rfl (ent_f rfl (evl2 (ev_g rfl) ev_c) (enters en42)) (Chg.refl _ _) (fun hg => l4Many_ct _ _ _ _ (hr.chg F2.chg) (by simpa [gof] using hg) (by omega) hw) ?_)
  intro w3 C3
  have F3 := F2.call C3
  refine Ops.step (One.val (gd_some rfl rfl) rfl rfl (yld_leq rfl (ev_g rfl) ev_c) ?_)
  refine Ops.step (One.val rfl rfl rfl (yld_and rfl (ev_t rfl) (ev_g rfl)) ?_)
  refine Ops.step (One.val rfl rfl rfl (yld_assign rfl (ev_t rfl)) ?_)
  refine Ops.nil fun a hS => ?_
  refine hK2 _ _ ?_ a hS
  refine Cod.ret fun a hS => ?_
  try simp only [Exit.then, Exit.inBlock]
  exact ret1 (t := 2) rfl hS rfl ⟨rfl, F3.chg⟩

set_option maxRecDepth 100000 in
theorem specFiltMany_ct (t : Fl) (v : Value) (w : World) (hr : RepF Any w t v) (hf : t.Fit) (hw : t.wt ≤ 1048576) :
    Calls Tryd.prog 15 #[v] w fun e w' => e = .returned (.int .i64 (manyF t)) ∧ Chg No w w' := by
  obtain ⟨k, n, s, tv, l⟩ := t
  obtain ⟨y, v4, rfl, hv, h4⟩ := hr.open
  refine enter Tryd.func15 rfl rfl rfl ?_
  have F0 := Fr.start w
  refine Cod.seq fun K1 hK1 => ?_
  refine Cod.region ?_
  refine Ops.step (One.box F0 rfl rfl rfl rfl (ev_t rfl) ?_)
  intro b1 w1 hb1 F1
  change Fr _ _ [blk _ _ [_, _, _, _, _, _, _, _, _]] _ at F1
  refine Ops.step (One.val rfl rfl rfl (yld_assign rfl ev_c) ?_)
  refine Ops.nil fun a hS => ?_
  refine hK1 _ _ ?_ a hS
  refine Cod.seq fun K2 hK2 => ?_
  refine Cod.seq fun K3 hK3 => ?_
  refine Cod.region ?_
  refine Ops.step (One.val rfl rfl rfl (yld_loadN ag36 rfl (ev_t rfl) (fun _ => F1.range (m := 9) (cs' := [_, _, _, _, _, _, _, _, _]) 0 rfl rfl) rfl) ?_)
  refine Ops.step (One.call rfl rfl rfl (ent_f rfl (evl1 (ev_t rfl)) (enters en11)) (specFiltOk_ct _ _ _ (hr.chg F1.chg) hf hw) (fun e w2 hw2 => ?_))
  obtain ⟨rfl, C2⟩ := hw2
  have F2 := F1.call C2
  refine ⟨_, rfl, ?_⟩
  refine Ops.step (One.val rfl rfl rfl (yld_not rfl (ev_t rfl)) ?_)
  refine Ops.nil fun a hS => ?_
  refine hK3 _ _ ?_ a hS
  refine Cod.cond rfl (fun hc5 => ?_) (fun hc5 => ?_)
  · skip
    have hm : manyF (.mk k n s tv l) = 0 := if_neg (fun h => by rw [h] at hc5; cases hc5)
    refine Cod.seq fun K4 hK4 => ?_
    refine Cod.region ?_
    refine Ops.step (One.val rfl rfl rfl (yld_assign rfl ev_c) ?_)
    refine Ops.nil fun a hS => ?_
    refine hK4 _ _ ?_ a hS
    refine Cod.ret fun a hS => ?_
    try simp only [Exit.then, Exit.inBlock]
    exact ret1 (t := 2) rfl hS rfl ⟨by rw [hm], F2.chg⟩
  · skip
    have hm : manyF (.mk k n s tv l) = (Fl.mk k n s tv l).cnt := if_pos (by simpa using hc5)
    have hfm : FForm 7 (.mk k n s tv l) := by simp [okF] at hc5; exact hc5.1
    refine Cod.skip fun a hS => ?_
    refine hK2 _ _ ?_ a hS
    refine Cod.seq fun K5 hK5 => ?_
    refine Cod.region ?_
    refine Ops.step (One.val rfl rfl rfl (yld_loadN ag36 rfl (ev_t rfl) (fun _ => F2.range (m := 9) (cs' := [_, _, _, _, _, _, _, _, _]) 0 rfl rfl) rfl) ?_)
    refine Ops.step (One.call rfl rfl rfl (ent_f rfl (evl2 (ev_t rfl) ev_c) (enters en42)) (l4Many_ct _ _ _ _ (hr.chg F2.chg) hfm (by omega) hw) (fun e w3 hw3 => ?_))
    obtain ⟨rfl, C3⟩ := hw3
    have F3 := F2.call C3
    refine ⟨_, rfl, ?_⟩
    refine Ops.step (One.val rfl rfl rfl (yld_assign rfl (ev_t rfl)) ?_)
    refine Ops.nil fun a hS => ?_
    refine hK5 _ _ ?_ a hS
    refine Cod.ret fun a hS => ?_
    try simp only [Exit.then, Exit.inBlock]
    exact ret1 (t := 2) rfl hS rfl ⟨by rw [hm], F3.chg⟩


theorem c39_iff {left deep k : Int} {m : Nat} : ((((decide (left - 1 < 0)) || decide (deep > 7)) || !(decide (1 ≤ k) && decide (k ≤ 21))) || ((m : Int) != kidsTab.getD k.toNat 0)) = false ↔ 1 ≤ left ∧ deep ≤ 7 ∧ kidsN k = m := by
  unfold kidsN
  by_cases h : 1 ≤ k ∧ k ≤ 21
  · rw [if_pos h]
    simp [h.1, h.2]
    constructor
    · rintro ⟨⟨h1, h2⟩, h3⟩
      exact ⟨by omega, h2, h3.symm⟩
    · rintro ⟨h1, h2, h3⟩
      exact ⟨⟨by omega, h2⟩, h3.symm⟩
  · rw [if_neg h]
    simp
    omega
theorem clean_not {k n : Int} {s : ByteArray} {tv : Tr} : ((((k != 4) && (n != 0)) || ((!((k == 3) || (k == 21))) && !decide (s = ⟨#[]⟩))) || ((k != 2) && !decide (tv = nilV))) = !cleanB k n s tv := by
  unfold cleanB
  simp only [bne]
  generalize (k == 4) = a
  generalize (n == 0) = b
  generalize (k == 3) = c
  generalize (k == 21) = d
  generalize decide (s = ⟨#[]⟩) = e
  generalize (k == 2) = f
  generalize decide (tv = nilV) = g
  cases a <;> cases b <;> cases c <;> cases d <;> cases e <;> cases f <;> cases g <;> rfl
theorem looks_any (t : Fl) : LookOk 84 t := looks_ct t
/-- What (Filt).ok says of one filter: the count that is left lies in a block of its own. -/
def FImplOk (t : Fl) : Prop := ∀ (deep left : Int) (v : Value) (w : World) (b : Nat) (ty : TypeId), RepF (fun k => k ≠ b) w t v → (blk b ty [.int .i64 left]).is w → FK 0 kidsTab (fun k => k ≠ b) w → t.Fit → 0 ≤ deep → deep ≤ 8 → 0 ≤ left → left ≤ 1000 →
    Calls Tryd.prog 44 #[v, .int .i64 deep, .pointer (some ⟨b, 0, none⟩)] w fun e w' => ∃ (ok : Bool) (lf : Int), e = .returned (.bool ok) ∧ Chg (· = b) w w' ∧ (blk b ty [.int .i64 lf]).is w' ∧ (ok = true ↔ FForm (8 - deep) t ∧ (t.cnt : Int) ≤ left) ∧ (ok = true → lf = left - t.cnt)

set_option maxRecDepth 100000 in
theorem fimplOk_of (k n : Int) (s : ByteArray) (tv : Tr) (l : List Fl) (H : ∀ t ∈ l, FImplOk t) : FImplOk (.mk k n s tv l) := by
  intro deep left v w bb tyb hr hbb hK hf hd0 hd1 hl0 hl1
  obtain ⟨y, v4, rfl, hv, h4⟩ := hr.open
  obtain ⟨A4, c4, rfl, hn4⟩ := h4.open
  obtain ⟨kb, ko, kc, hkc, h0k, hkr⟩ := id hK
  have hkl22 : kidsTab.length = 22 := rfl
  have hcm := Fl.cnt_mk k n s tv l
  cases hf with
  | mk hs hfv hkl =>
  refine enter Tryd.func44 rfl rfl rfl ?_
  have F0 := Fr.borrow hbb
  refine Cod.seq fun K1 hK1 => ?_
  refine Cod.region ?_
  refine Ops.step (One.box F0 rfl rfl rfl rfl (ev_t rfl) ?_)
  intro b1 w1 hb1 F1
  change Fr _ _ [blk _ _ [_, _, _, _, _, _, _, _, _], blk _ _ [_]] _ at F1
  refine Ops.step (One.val rfl rfl rfl (yld_assign rfl ev_c) ?_)
  refine Ops.nil fun a hS => ?_
  refine hK1 _ _ ?_ a hS
  refine Cod.seq fun K2 hK2 => ?_
  refine Cod.region ?_
  refine Ops.step (One.val rfl rfl rfl (yld_move rfl (ev_t rfl)) ?_)
  refine Ops.step (One.val rfl rfl rfl (yld_nilCheck rfl (ev_t rfl)) ?_)
  refine Ops.step (One.val rfl rfl rfl (yld_load1 on3 rfl (ev_t rfl) (fun _ => F1.cell 1 rfl rfl)) ?_)
  refine Ops.step (One.val rfl rfl rfl (yld_sub rfl (ev_t rfl) ev_c (fun _ => by omega)) ?_)
  refine Ops.step (One.val rfl rfl rfl (yld_nilCheck rfl (ev_t rfl)) ?_)
  refine Ops.step (One.store1 F1 1 rfl sz3 rfl rfl rfl (ev_t rfl) rfl (ev_t rfl) rfl ?_)
  intro w2 F2
  change Fr _ _ [blk _ _ [_, _, _, _, _, _, _, _, _], blk _ _ [_]] _ at F2
  refine Ops.nil fun a hS => ?_
  refine hK2 _ _ ?_ a hS
  refine Cod.seq fun K3 hK3 => ?_
  refine Cod.seq fun K4 hK4 => ?_
  have F3 := F2.drew
  refine Cod.draw (C_of F3) (by kernel_rfl) ?_
  refine Hops.take 0 rfl (by kernel_rfl) (fun _ _ _ h => h) rfl rfl rfl F3 (fun w F => (yld_move rfl (ev_t rfl))) ?_
  refine Hops.take 1 rfl (by kernel_rfl) (fun _ _ _ h => h) rfl rfl rfl F3 (fun w F => (yld_nilCheck rfl (ev_t rfl))) ?_
  refine Hops.take 2 rfl (by kernel_rfl) (fun _ _ _ h => h) rfl rfl rfl F3 (fun w F => (yld_load1 on3 rfl (ev_t rfl) (fun _ => F.cell 1 rfl rfl))) ?_
  refine Hops.take 3 rfl (by kernel_rfl) (fun _ _ _ h => h) rfl rfl rfl F3 (fun w F => (yld_lss rfl (ev_t rfl) ev_c)) ?_
  refine Hops.take 4 rfl (by kernel_rfl) (fun _ _ _ h => h) rfl rfl rfl F3 (fun w F => (yld_move rfl (ev_t rfl))) ?_
  refine Hops.take 5 rfl (by kernel_rfl) (fun _ _ _ h => h) (gd_some rfl rfl) rfl rfl F3 (fun w F => (yld_move rfl (ev_t rfl))) ?_
  refine Hops.take 6 rfl (by kernel_rfl) (fun _ _ _ h => h) (gd_some rfl rfl) rfl rfl F3 (fun w F => (yld_gtr rfl (ev_g rfl) ev_c)) ?_
  refine Hops.take 7 rfl (by kernel_rfl) (fun _ _ _ h => h) rfl rfl rfl F3 (fun w F => (yld_or rfl (ev_t rfl) (ev_g rfl))) ?_
  refine Hops.take 8 rfl (by kernel_rfl) (fun _ _ _ h => h) rfl rfl rfl F3 (fun w F => (yld_move rfl (ev_t rfl))) ?_
  refine Hops.take 9 rfl (by kernel_rfl) (fun _ _ _ h => h) (gd_some rfl rfl) rfl rfl F3 (fun w F => (yld_field fi36_0 rfl (ev_t rfl))) ?_
  refine Hops.take 10 rfl (by kernel_rfl) (fun _ _ _ h => h) (gd_some rfl rfl) rfl rfl F3 (fun w F => (yld_load1 on3 rfl (ev_g rfl) (fun _ => F.cell 0 rfl rfl))) ?_
  refine Hops.one 11 rfl (by kernel_rfl) (One.gcall (R := Chg No w2.drew) (gd_some rfl rfl) rfl rfl (ent_f rfl (evl3 (ev_g rfl) ev_c ev_c) (enters en70)) (Chg.refl _ _) (fun hg => within_ct k 1 21 _) ?_)
  intro w3 C3
  have F4 := F3.call C3
  refine ⟨F4, ?_⟩
  refine Hops.take 12 rfl (by kernel_rfl) (fun _ _ _ h => h) (gd_some rfl rfl) rfl rfl F4 (fun w F => (yld_not rfl (ev_g rfl))) ?_
  refine Hops.take 13 rfl (by kernel_rfl) (fun _ _ _ h => h) rfl rfl rfl F4 (fun w F => (yld_or rfl (ev_t rfl) (ev_g rfl))) ?_
  refine Hops.take 14 rfl (by kernel_rfl) (fun _ _ _ h => h) rfl rfl rfl F4 (fun w F => (yld_move rfl (ev_t rfl))) ?_
  refine Hops.take 15 rfl (by kernel_rfl) (fun _ _ _ h => h) (gd_some rfl rfl) rfl rfl F4 (fun w F => (yld_field fi36_4 rfl (ev_t rfl))) ?_
  refine Hops.take 16 rfl (by kernel_rfl) (fun _ _ _ h => h) (gd_some rfl rfl) rfl rfl F4 (fun w F => (yld_load1 on34 rfl (ev_g rfl) (fun _ => F.cell 0 rfl rfl))) ?_
  refine Hops.take 17 rfl (by kernel_rfl) (fun _ _ _ h => h) (gd_some rfl rfl) rfl rfl F4 (fun w F => (yld_len sl34 rfl (ev_g rfl))) ?_
  refine Hops.take 18 rfl (by kernel_rfl) (fun _ _ _ h => h) (gd_some rfl rfl) rfl rfl F4 (fun w F => (yld_load1 on108 rfl ev_G (fun _ => F.chg.cell hkc h0k))) ?_
  refine Hops.take 19 rfl (by kernel_rfl) (fun _ _ _ h => h) (gd_some rfl rfl) rfl rfl F4 (fun w F => (yld_field fi36_0 rfl (ev_t rfl))) ?_
  refine Hops.take 20 rfl (by kernel_rfl) (fun _ _ _ h => h) (gd_some rfl rfl) rfl rfl F4 (fun w F => (yld_load1 on3 rfl (ev_g rfl) (fun _ => F.cell 0 rfl rfl))) ?_
  refine Hops.take 21 rfl (by kernel_rfl) (fun _ _ _ h => h) (gd_some rfl rfl) rfl rfl F4 (fun w F => (yld_index sl108 rfl (ev_g rfl) (ev_g rfl) (fun hg => by simp [gof] at hg; omega))) ?_
  refine Hops.take 22 rfl (by kernel_rfl) (fun _ _ _ h => h) (gd_some rfl rfl) rfl rfl F4 (fun w F => (yld_load1 on3 rfl (ev_g rfl) (fun hg => RepE.icell (hkr.keep fun k hk hF => F.chg.block k hk hF) k (by simp [gof] at hg; omega) (by simp [gof] at hg; omega)))) ?_
  refine Hops.take 23 rfl (by kernel_rfl) (fun _ _ _ h => h) (gd_some rfl rfl) rfl rfl F4 (fun w F => (yld_neq rfl (ev_g rfl) (ev_g rfl))) ?_
  refine Hops.take 24 rfl (by kernel_rfl) (fun _ _ _ h => h) rfl rfl rfl F4 (fun w F => (yld_or rfl (ev_t rfl) (ev_g rfl))) ?_
  refine Hops.nil (by kernel_rfl) fun a hS => ?_
  refine hK4 _ _ ?_ a hS
  refine Cod.cond rfl (fun hc39 => ?_) (fun hc39 => ?_)
  · skip
    have hne : ¬ (FForm (8 - deep) (.mk k n s tv l) ∧ ((Fl.mk k n s tv l).cnt : Int) ≤ left) := fun ⟨h1, h2⟩ => by
      obtain ⟨h3, h4, -⟩ := FForm.iff.1 h1
      rw [c39_iff.2 ⟨by omega, by omega, h4.kids⟩] at hc39
      cases hc39
    refine Cod.seq fun K5 hK5 => ?_
    refine Cod.region ?_
    refine Ops.step (One.val rfl rfl rfl (yld_assign rfl ev_c) ?_)
    refine Ops.nil fun a hS => ?_
    refine hK5 _ _ ?_ a hS
    refine Cod.ret fun a hS => ?_
    try simp only [Exit.then, Exit.inBlock]
    exact ret1 (t := 6) rfl hS rfl ⟨_, _, rfl, F4.chg, F4.get 1 rfl, ok_no hne, fun h => by cases h⟩
  · skip
    obtain ⟨hlf, hdp, hkids⟩ := c39_iff.1 hc39
    refine Cod.skip fun a hS => ?_
    refine hK3 _ _ ?_ a hS
    refine Cod.seq fun K6 hK6 => ?_
    refine Cod.region ?_
    refine Ops.step (One.val rfl rfl rfl (yld_field fi36_0 rfl (ev_t rfl)) ?_)
    refine Ops.step (One.val rfl rfl rfl (yld_load1 on3 rfl (ev_t rfl) (fun _ => F4.cell 0 rfl rfl)) ?_)
    refine Ops.step (One.val rfl rfl rfl (yld_eql rfl (ev_t rfl) ev_c) ?_)
    refine Ops.step (One.val rfl rfl rfl (yld_move rfl (ev_t rfl)) ?_)
    refine Ops.step (One.val (gd_some rfl rfl) rfl rfl (yld_field fi36_0 rfl (ev_t rfl)) ?_)
    refine Ops.step (One.val (gd_some rfl rfl) rfl rfl (yld_load1 on3 rfl (ev_g rfl) (fun _ => F4.cell 0 rfl rfl)) ?_)
    refine Ops.step (One.val (gd_some rfl rfl) rfl rfl (yld_eql rfl (ev_g rfl) ev_c) ?_)
    refine Ops.step (One.val rfl rfl rfl (yld_or rfl (ev_t rfl) (ev_g rfl)) ?_)
    refine Ops.step (One.val rfl rfl rfl (yld_assign rfl (ev_t rfl)) ?_)
    refine Ops.nil fun a hS => ?_
    refine hK6 _ _ ?_ a hS
    refine Cod.seq fun K7 hK7 => ?_
    refine Cod.seq fun K8 hK8 => ?_
    refine Cod.region ?_
    refine Ops.step (One.val rfl rfl rfl (yld_field fi36_0 rfl (ev_t rfl)) ?_)
    refine Ops.step (One.val rfl rfl rfl (yld_load1 on3 rfl (ev_t rfl) (fun _ => F4.cell 0 rfl rfl)) ?_)
    refine Ops.step (One.val rfl rfl rfl (yld_neq rfl (ev_t rfl) ev_c) ?_)
    refine Ops.step (One.val rfl rfl rfl (yld_move rfl (ev_t rfl)) ?_)
    refine Ops.step (One.val (gd_some rfl rfl) rfl rfl (yld_field fi36_1 rfl (ev_t rfl)) ?_)
    refine Ops.step (One.val (gd_some rfl rfl) rfl rfl (yld_load1 on3 rfl (ev_g rfl) (fun _ => F4.cell 0 rfl rfl)) ?_)
    refine Ops.step (One.val (gd_some rfl rfl) rfl rfl (yld_neq rfl (ev_g rfl) ev_c) ?_)
    refine Ops.step (One.val rfl rfl rfl (yld_and rfl (ev_t rfl) (ev_g rfl)) ?_)
    refine Ops.step (One.val rfl rfl rfl (yld_move rfl (ev_t rfl)) ?_)
    refine Ops.step (One.val (gd_some rfl rfl) rfl rfl (yld_move rfl (ev_t rfl)) ?_)
    refine Ops.step (One.val (gd_some rfl rfl) rfl rfl (yld_not rfl (ev_g rfl)) ?_)
    refine Ops.step (One.val (gd_some rfl rfl) rfl rfl (yld_move rfl (ev_g rfl)) ?_)
    refine Ops.step (One.val (gd_some rfl rfl) rfl rfl (yld_field fi36_2 rfl (ev_t rfl)) ?_)
    refine Ops.step (One.val (gd_some rfl rfl) rfl rfl (yld_load1 on9 rfl (ev_g rfl) (fun _ => F4.cell 0 rfl rfl)) ?_)
    refine Ops.step (One.val (gd_some rfl rfl) rfl rfl (yld_sneq rfl (ev_g rfl) ev_c) ?_)
    refine Ops.step (One.val (gd_some rfl rfl) rfl rfl (yld_and rfl (ev_g rfl) (ev_g rfl)) ?_)
    refine Ops.step (One.val rfl rfl rfl (yld_or rfl (ev_t rfl) (ev_g rfl)) ?_)
    refine Ops.step (One.val rfl rfl rfl (yld_move rfl (ev_t rfl)) ?_)
    refine Ops.step (One.val (gd_some rfl rfl) rfl rfl (yld_field fi36_0 rfl (ev_t rfl)) ?_)
    refine Ops.step (One.val (gd_some rfl rfl) rfl rfl (yld_load1 on3 rfl (ev_g rfl) (fun _ => F4.cell 0 rfl rfl)) ?_)
    refine Ops.step (One.val (gd_some rfl rfl) rfl rfl (yld_neq rfl (ev_g rfl) ev_c) ?_)
    refine Ops.step (One.val (gd_some rfl rfl) rfl rfl (yld_move rfl (ev_g rfl)) ?_)
    refine Ops.step (One.val (gd_some rfl rfl) rfl rfl (yld_field fi36_3 rfl (ev_t rfl)) ?_)
    refine Ops.step (One.val (gd_some rfl rfl) rfl rfl (yld_loadN ag33 rfl (ev_g rfl) (fun _ => F4.range (m := 5) (cs' := [_, _, _, _, _]) 0 rfl rfl) rfl) ?_)
    refine Ops.step (One.gcall (R := Chg No w3) (gd_some rfl rfl) rfl rfl (ent_f rfl (evl1 (ev_g rfl)) (enters en83)) (Chg.refl _ _) (fun hg => none_ct tv _ _ ((hv.keep fun k hk hF => F4.chg.block k hk hF).weak fun _ _ => trivial)) ?_)
    intro w4 C4
    have F5 := F4.call C4
    refine Ops.step (One.val (gd_some rfl rfl) rfl rfl (yld_not rfl (ev_g rfl)) ?_)
    refine Ops.step (One.val (gd_some rfl rfl) rfl rfl (yld_and rfl (ev_g rfl) (ev_g rfl)) ?_)
    refine Ops.step (One.val rfl rfl rfl (yld_or rfl (ev_t rfl) (ev_g rfl)) ?_)
    refine Ops.nil fun a hS => ?_
    refine hK8 _ _ ?_ a hS
    refine Cod.cond rfl (fun hc75 => ?_) (fun hc75 => ?_)
    · skip
      have hne : ¬ (FForm (8 - deep) (.mk k n s tv l) ∧ ((Fl.mk k n s tv l).cnt : Int) ≤ left) := fun ⟨h1, h2⟩ => by
        obtain ⟨h3, h4, -⟩ := FForm.iff.1 h1
        rw [clean_not, h4.clean] at hc75
        cases hc75
      refine Cod.seq fun K9 hK9 => ?_
      refine Cod.region ?_
      refine Ops.step (One.val rfl rfl rfl (yld_assign rfl ev_c) ?_)
      refine Ops.nil fun a hS => ?_
      refine hK9 _ _ ?_ a hS
      refine Cod.ret fun a hS => ?_
      try simp only [Exit.then, Exit.inBlock]
      exact ret1 (t := 6) rfl hS rfl ⟨_, _, rfl, F5.chg, F5.get 1 rfl, ok_no hne, fun h => by cases h⟩
    · skip
      have hclean : cleanB k n s tv = true := by rw [clean_not] at hc75; simpa using hc75
      refine Cod.skip fun a hS => ?_
      refine hK7 _ _ ?_ a hS
      refine Cod.seq fun K10 hK10 => ?_
      refine Cod.seq fun K11 hK11 => ?_
      refine Cod.region ?_
      refine Ops.step (One.val rfl rfl rfl (yld_field fi36_1 rfl (ev_t rfl)) ?_)
      refine Ops.step (One.val rfl rfl rfl (yld_load1 on3 rfl (ev_t rfl) (fun _ => F5.cell 0 rfl rfl)) ?_)
      refine Ops.step (One.call rfl rfl rfl (ent_f rfl (evl3 (ev_t rfl) ev_c ev_c) (enters en70)) (within_ct n (-60) 59 _) (fun e w5 hw5 => ?_))
      obtain ⟨rfl, C5⟩ := hw5
      have F6 := F5.call C5
      refine ⟨_, rfl, ?_⟩
      refine Ops.step (One.val rfl rfl rfl (yld_not rfl (ev_t rfl)) ?_)
      refine Ops.step (One.val rfl rfl rfl (yld_move rfl (ev_t rfl)) ?_)
      refine Ops.step (One.val (gd_some rfl rfl) rfl rfl (yld_field fi36_2 rfl (ev_t rfl)) ?_)
      refine Ops.step (One.val (gd_some rfl rfl) rfl rfl (yld_load1 on9 rfl (ev_g rfl) (fun _ => F6.cell 0 rfl rfl)) ?_)
      refine Ops.step (One.gcall (R := Chg No w5) (gd_some rfl rfl) rfl rfl (ent_f rfl (evl1 (ev_g rfl)) (enters en69)) (Chg.refl _ _) (fun hg => textOk_ct s _ hs) ?_)
      intro w6 C6
      have F7 := F6.call C6
      refine Ops.step (One.val (gd_some rfl rfl) rfl rfl (yld_not rfl (ev_g rfl)) ?_)
      refine Ops.step (One.val rfl rfl rfl (yld_or rfl (ev_t rfl) (ev_g rfl)) ?_)
      refine Ops.step (One.val rfl rfl rfl (yld_move rfl (ev_t rfl)) ?_)
      refine Ops.step (One.val (gd_some rfl rfl) rfl rfl (yld_field fi36_3 rfl (ev_t rfl)) ?_)
      refine Ops.step (One.val (gd_some rfl rfl) rfl rfl (yld_loadN ag33 rfl (ev_g rfl) (fun _ => F7.range (m := 5) (cs' := [_, _, _, _, _]) 0 rfl rfl) rfl) ?_)
      refine Ops.step (One.gcall (R := Chg No w6) (gd_some rfl rfl) rfl rfl (ent_f rfl (evl1 (ev_g rfl)) (enters en36)) (Chg.refl _ _) (fun hg => valOk_ct tv _ _ ((hv.keep fun k hk hF => F7.chg.block k hk hF).weak fun _ _ => trivial) hfv) ?_)
      intro w7 C7
      have F8 := F7.call C7
      refine Ops.step (One.val (gd_some rfl rfl) rfl rfl (yld_not rfl (ev_g rfl)) ?_)
      refine Ops.step (One.val rfl rfl rfl (yld_or rfl (ev_t rfl) (ev_g rfl)) ?_)
      refine Ops.nil fun a hS => ?_
      refine hK11 _ _ ?_ a hS
      refine Cod.cond rfl (fun hc91 => ?_) (fun hc91 => ?_)
      · skip
        have hne : ¬ (FForm (8 - deep) (.mk k n s tv l) ∧ ((Fl.mk k n s tv l).cnt : Int) ≤ left) := fun ⟨h1, h2⟩ => by
          obtain ⟨h3, h4, -⟩ := FForm.iff.1 h1
          have q1 := h4.n0
          have q2 := h4.n1
          have q3 := h4.ok
          have q4 := h4.okv
          unfold okV at q4
          simp [q1, q2, q3, q4] at hc91
        refine Cod.seq fun K12 hK12 => ?_
        refine Cod.region ?_
        refine Ops.step (One.val rfl rfl rfl (yld_assign rfl ev_c) ?_)
        refine Ops.nil fun a hS => ?_
        refine hK12 _ _ ?_ a hS
        refine Cod.ret fun a hS => ?_
        try simp only [Exit.then, Exit.inBlock]
        exact ret1 (t := 6) rfl hS rfl ⟨_, _, rfl, F8.chg, F8.get 1 rfl, ok_no hne, fun h => by cases h⟩
      · skip
        have hnode : NodeF k n s tv l.length := by
          simp at hc91
          obtain ⟨⟨⟨q1, q2⟩, q3⟩, q4⟩ := hc91
          exact ⟨hkids, hclean, q1, q2, q3, by unfold okV; simp [q4]⟩
        obtain ⟨b0, o0, cs0, x0, hlc0, hfst⟩ := h4.pick 0
        refine Cod.skip fun a hS => ?_
        refine hK10 _ _ ?_ a hS
        refine Cod.seq fun K13 hK13 => ?_
        refine Cod.seq fun K14 hK14 => ?_
        refine Cod.region ?_
        refine Ops.step (One.val rfl rfl rfl (yld_field fi36_4 rfl (ev_t rfl)) ?_)
        refine Ops.step (One.val rfl rfl rfl (yld_load1 on34 rfl (ev_t rfl) (fun _ => F8.cell 0 rfl rfl)) ?_)
        refine Ops.step (One.val rfl rfl rfl (yld_len sl34 rfl (ev_t rfl)) ?_)
        refine Ops.step (One.val rfl rfl rfl (yld_move rfl ev_c) ?_)
        refine Ops.nil fun a hS => ?_
        refine hK14 _ _ ?_ a hS
        refine Cod.block ?_
        refine Cod.loop (fun i : Nat => [(1, true, .int .i64 deep), (2, true, .pointer (some ⟨bb, 0, none⟩)), (3, true, .pointer (some ⟨b1, 0, none⟩)), (93, true, .slice A4 l.length c4), (94, true, .int .i64 (l.length : Int)), (95, true, .int .i64 (i : Int))]) (fun i w' => i ≤ l.length ∧ (∀ j (h : j < l.length), j < i → FForm (7 - deep) l[j]) ∧ ((1 + sumN Fl.cnt (l.take i) : Nat) : Int) ≤ left ∧ Fr (· = bb) w [blk b1 36 [.int .i64 k, .int .i64 n, .string s, y.a, y.b, y.c, y.d, y.e, .slice A4 l.length c4], blk bb tyb [.int .i64 (left - (1 + sumN Fl.cnt (l.take i) : Nat))]] w') (fun i => l.length - i) 0 ⟨rfl, rfl, rfl, rfl, rfl, rfl, trivial⟩ ⟨Nat.zero_le _, fun j _ h => by omega, by simp [sumN]; omega, by simpa [sumN] using F8⟩ ?_
        intro i w8 hW K15 hK15
        obtain ⟨hi, hall, hle, F9⟩ := hW
        refine Cod.seq fun K16 hK16 => ?_
        refine Cod.region ?_
        refine Ops.step (One.val rfl rfl rfl (yld_lss rfl (ev_t rfl) (ev_t rfl)) ?_)
        refine Ops.nil fun a hS => ?_
        refine hK16 _ _ ?_ a hS
        refine Cod.seq fun K17 hK17 => ?_
        refine Cod.cond rfl (fun hc96 => ?_) (fun hc96 => ?_)
        · skip
          have hi : i < l.length := by simpa using hc96
          obtain ⟨b, o, cs, rfl, hF, hlc, hr, ht⟩ := h4.at i hi
          obtain ⟨y1, y2, y3, y4, y5, y6, y7, y8, y9, rfl⟩ := nineF hlc
          have hst := sumN_take Fl.cnt l i hi
          have hsl := sumN_take_le Fl.cnt l (i + 1)
          refine Cod.skip fun a hS => ?_
          refine hK17 _ _ ?_ a hS
          refine Cod.seq fun K18 hK18 => ?_
          refine Cod.block ?_
          refine Cod.seq fun K19 hK19 => ?_
          refine Cod.region ?_
          refine Ops.step (One.val rfl rfl rfl (yld_indexN sl34 rfl (ev_t rfl) (ev_t rfl) (fun _ => by omega)) ?_)
          refine Ops.step (One.val rfl rfl rfl (yld_loadN ag36 rfl (ev_t rfl) (fun _ => rng_chg hr F9.chg hF) rfl) ?_)
          refine Ops.step (One.alloc F9 zero36 rfl rfl rfl rfl ?_)
          intro b2 w9 hb2 F10
          change Fr _ _ [blk _ _ [_, _, _, _, _, _, _, _, _], blk _ _ [_, _, _, _, _, _, _, _, _], blk _ _ [_]] _ at F10
          refine Ops.step (One.storeN (vs := [_, _, _, _, _, _, _, _, _]) F10 0 rfl sz36 rfl rfl rfl (ev_t rfl) (ev_t rfl) rfl rfl (cells9F (ht.weak fun _ _ => trivial)) ?_)
          intro w10 F11
          change Fr _ _ [blk _ _ [_, _, _, _, _, _, _, _, _], blk _ _ [_, _, _, _, _, _, _, _, _], blk _ _ [_]] _ at F11
          refine Ops.nil fun a hS => ?_
          refine hK19 _ _ ?_ a hS
          refine Cod.seq fun K20 hK20 => ?_
          refine Cod.region ?_
          refine Ops.step (One.val rfl rfl rfl (yld_loadN ag36 rfl (ev_t rfl) (fun _ => F11.range (m := 9) (cs' := [_, _, _, _, _, _, _, _, _]) 0 rfl rfl) rfl) ?_)
          refine Ops.step (One.val rfl rfl rfl (yld_move rfl (ev_t rfl)) ?_)
          refine Ops.step (One.val rfl rfl rfl (yld_add rfl (ev_t rfl) ev_c (fun _ => by omega)) ?_)
          refine Ops.step (One.val rfl rfl rfl (yld_move rfl (ev_t rfl)) ?_)
          refine Ops.step (One.call rfl rfl rfl (ent_f rfl (evl3 (ev_t rfl) (ev_t rfl) (ev_t rfl)) (enters en44)) (H _ (List.getElem_mem hi) (deep + 1) (left - ((1 + sumN Fl.cnt (l.take i) : Nat) : Int)) _ _ bb tyb (ht.keep fun k hk hF => F11.chg.block k hk hF) (F11.get 2 rfl) (hK.keepX F11.chg fun _ h => h) (hkl _ (List.getElem_mem hi)) (by omega) (by omega) (by omega) (by omega)) (fun e w11 hw11 => ?_))
          obtain ⟨okc, lf, rfl, C11, hbc, hok, hlf2⟩ := hw11
          have F12 := F11.upd 2 rfl C11 (fun _ hk => Or.inl hk) (blk bb tyb [.int .i64 lf]) hbc (fun _ hk => Or.inl hk)
          change Fr _ _ [_, _, _] _ at F12
          rw [show 8 - (deep + 1) = 7 - deep by omega] at hok
          refine ⟨_, rfl, ?_⟩
          refine Ops.step (One.val rfl rfl rfl (yld_not rfl (ev_t rfl)) ?_)
          refine Ops.nil fun a hS => ?_
          refine hK20 _ _ ?_ a hS
          refine Cod.cond rfl (fun hc104 => ?_) (fun hc104 => ?_)
          · skip
            have hne : ¬ (FForm (8 - deep) (.mk k n s tv l) ∧ ((Fl.mk k n s tv l).cnt : Int) ≤ left) := fun ⟨h1, h2⟩ => by
              have h3 := (FForm.iff.1 h1).2.2.1 _ (List.getElem_mem hi)
              rw [show 8 - deep - 1 = 7 - deep by omega] at h3
              rw [hcm] at h2
              have := hok.2 ⟨h3, by omega⟩
              simp [this] at hc104
            refine Cod.seq fun K21 hK21 => ?_
            refine Cod.region ?_
            refine Ops.step (One.val rfl rfl rfl (yld_assign rfl ev_c) ?_)
            refine Ops.nil fun a hS => ?_
            refine hK21 _ _ ?_ a hS
            refine Cod.ret fun a hS => ?_
            try simp only [Exit.then, Exit.inBlock]
            exact ret1 (t := 6) rfl hS rfl ⟨_, _, rfl, F12.chg, F12.get 2 rfl, ok_no hne, fun h => by cases h⟩
          · skip
            have hokc : okc = true := by simpa using hc104
            have hgood := hok.1 hokc
            have hlf3 := hlf2 hokc
            subst hlf3
            refine Cod.skip fun a hS => ?_
            refine hK18 _ _ ?_ a hS
            refine Cod.region ?_
            refine Ops.step (One.val rfl rfl rfl (yld_inc rfl (ev_t rfl) (fun _ => by omega)) ?_)
            refine Ops.step (One.val rfl rfl rfl (yld_move rfl (ev_t rfl)) ?_)
            refine Ops.nil fun a hS => ?_
            have hF : Fr (· = bb) w [blk b1 36 [.int .i64 k, .int .i64 n, .string s, y.a, y.b, y.c, y.d, y.e, .slice (some ⟨b, o, none⟩) l.length c4], blk bb tyb [.int .i64 (left - (1 + sumN Fl.cnt (l.take (i + 1)) : Nat))]] w11 := by
              have := F12.drop1
              rw [show left - ((1 + sumN Fl.cnt (l.take i) : Nat) : Int) - (l[i].cnt : Int) = left - ((1 + sumN Fl.cnt (l.take (i + 1)) : Nat) : Int) by omega] at this
              exact this
            exact hK15 (i + 1) _ a (hS.sub ⟨rfl, rfl, rfl, rfl, rfl, rfl, trivial⟩) ⟨by omega, fun j h1 hji => if h : j = i then (by subst h; exact hgood.1) else hall j h1 (by omega), by omega, hF⟩ (by omega)
        · skip
          obtain rfl : i = l.length := by simp at hc96; omega
          rw [List.take_length] at F9 hle
          have hkk : ∀ x ∈ l, FForm (8 - deep - 1) x := fun x hx => by
            obtain ⟨j, hj, rfl⟩ := List.getElem_of_mem hx
            rw [show 8 - deep - 1 = 7 - deep by omega]
            exact hall j hj hj
          refine Cod.exit fun a hS => ?_
          simp only [Exit.then, Exit.inBlock, ↓reduceIte]
          refine hK13 _ _ ?_ a hS
          refine Cod.seq fun K22 hK22 => ?_
          refine Cod.region ?_
          refine Ops.step (One.val rfl rfl rfl (yld_field fi36_0 rfl (ev_t rfl)) ?_)
          refine Ops.step (One.val rfl rfl rfl (yld_load1 on3 rfl (ev_t rfl) (fun _ => F9.cell 0 rfl rfl)) ?_)
          refine Ops.step (One.val rfl rfl rfl (yld_neq rfl (ev_t rfl) ev_c) ?_)
          refine Ops.step (One.val rfl rfl rfl (yld_move rfl (ev_t rfl)) ?_)
          refine Ops.step (One.val (gd_some rfl rfl) rfl rfl (yld_field fi36_4 rfl (ev_t rfl)) ?_)
          refine Ops.step (One.val (gd_some rfl rfl) rfl rfl (yld_load1 on34 rfl (ev_g rfl) (fun _ => F9.cell 0 rfl rfl)) ?_)
          refine Ops.step (One.val (gd_some rfl rfl) rfl rfl (yld_indexG (b := b0) (q := o0) (i := 0) sl34 rfl (ev_g rfl) ev_c (fun hg => (hfst (turn1 hkids hg)).1) (fun hg => turn1 hkids hg)) ?_)
          refine Ops.step (One.val (gd_some rfl rfl) rfl rfl (yld_loadN ag36 rfl (ev_g rfl) (fun hg => rng_chg (hfst (turn1 hkids hg)).2.1 F9.chg (hfst (turn1 hkids hg)).2.2.1) hlc0) ?_)
          refine Ops.step (One.gcall (R := Chg No w8) (gd_some rfl rfl) rfl rfl (ent_f rfl (evl1 (ev_g rfl)) (enters en84)) (Chg.refl _ _) (fun hg => looks_ct x0 _ _ _ (((hfst (turn1 hkids hg)).2.2.2.2.keep fun k hk hF => F9.chg.block k hk hF).weak fun _ _ => trivial) (hkk x0 (List.mem_of_getElem? (hfst (turn1 hkids hg)).2.2.2.1))) ?_)
          intro w12 C12
          have F13 := F9.call C12
          refine Ops.step (One.val rfl rfl rfl (yld_or rfl (ev_t rfl) (ev_g rfl)) ?_)
          refine Ops.step (One.val rfl rfl rfl (yld_assign rfl (ev_t rfl)) ?_)
          refine Ops.nil fun a hS => ?_
          refine hK22 _ _ ?_ a hS
          refine Cod.ret fun a hS => ?_
          try simp only [Exit.then, Exit.inBlock]
          exact ret1 (t := 6) rfl hS rfl ⟨_, _, rfl, F13.chg, F13.get 1 rfl, by rw [form_end (d := 8 - deep) (by omega) hnode hkk fun h => (hfst h).2.2.2.1]; simp; intro _; rw [hcm]; omega, fun _ => by rw [hcm]⟩


theorem fimplOk_ct (t : Fl) : FImplOk t := Fl.ind (p := FImplOk) fimplOk_of t

set_option maxRecDepth 100000 in
theorem filtOk_ct (t : Fl) (v : Value) (w : World) (hr : RepF Any w t v) (hK : FK 0 kidsTab Any w) (hf : t.Fit) :
    Calls Tryd.prog 13 #[v] w fun e w' => e = .returned (.bool (okF t)) ∧ Chg No w w' := by
  obtain ⟨k, n, s, tv, l⟩ := t
  obtain ⟨y, v4, rfl, hv, h4⟩ := hr.open
  refine enter Tryd.func13 rfl rfl rfl ?_
  have F0 := Fr.start w
  refine Cod.seq fun K1 hK1 => ?_
  refine Cod.region ?_
  refine Ops.step (One.box F0 rfl rfl rfl rfl (ev_t rfl) ?_)
  intro b1 w1 hb1 F1
  change Fr _ _ [blk _ _ [_, _, _, _, _, _, _, _, _]] _ at F1
  refine Ops.step (One.val rfl rfl rfl (yld_assign rfl ev_c) ?_)
  refine Ops.nil fun a hS => ?_
  refine hK1 _ _ ?_ a hS
  refine Cod.seq fun K2 hK2 => ?_
  refine Cod.region ?_
  refine Ops.step (One.alloc F1 zero3 rfl rfl rfl rfl ?_)
  intro b2 w2 hb2 F2
  change Fr _ _ [blk _ _ [_], blk _ _ [_, _, _, _, _, _, _, _, _]] _ at F2
  refine Ops.step (One.store1 F2 0 rfl sz3 rfl rfl rfl (ev_t rfl) rfl ev_c rfl ?_)
  intro w3 F3
  change Fr _ _ [blk _ _ [_], blk _ _ [_, _, _, _, _, _, _, _, _]] _ at F3
  refine Ops.nil fun a hS => ?_
  refine hK2 _ _ ?_ a hS
  refine Cod.seq fun K3 hK3 => ?_
  refine Cod.region ?_
  refine Ops.step (One.val rfl rfl rfl (yld_loadN ag36 rfl (ev_t rfl) (fun _ => F3.range (m := 9) (cs' := [_, _, _, _, _, _, _, _, _]) 1 rfl rfl) rfl) ?_)
  have hbv : w.heap.size ≤ b2 := (F3.dom _ (List.mem_cons_self ..) b2 rfl).resolve_left id
  refine Ops.step (One.call rfl rfl rfl (ent_f rfl (evl3 (ev_t rfl) ev_c (ev_t rfl)) (enters en44)) (fimplOk_ct _ 1 16 _ _ _ _ ((hr.old.chg F3.chg).weak fun k hk e => by rw [e] at hk; omega) (F3.get 0 rfl) (((hK.old (by decide)).chg F3.chg).weak fun k hk e => by rw [e] at hk; omega) hf (by omega) (by omega) (by omega) (by omega)) (fun e w4 hw4 => ?_))
  obtain ⟨okc, lf, rfl, C4, hbc, hok, hlf⟩ := hw4
  have F4 := F3.upd 0 rfl C4 (fun _ hk => Or.inl hk) (blk b2 3 [.int .i64 lf]) hbc (fun _ hk => Or.inl hk)
  refine ⟨_, rfl, ?_⟩
  refine Ops.step (One.val rfl rfl rfl (yld_assign rfl (ev_t rfl)) ?_)
  refine Ops.nil fun a hS => ?_
  refine hK3 _ _ ?_ a hS
  refine Cod.ret fun a hS => ?_
  try simp only [Exit.then, Exit.inBlock]
  exact ret1 (t := 2) rfl hS rfl ⟨ret_b (by rw [Bool.eq_iff_iff, hok]; simp [okF]), F4.chg⟩

set_option maxRecDepth 100000 in
theorem filtMany_ct (t : Fl) (v : Value) (w : World) (hr : RepF Any w t v) (hK : FK 0 kidsTab Any w) (hf : t.Fit) (hw : t.wt ≤ 1048576) :
    Calls Tryd.prog 16 #[v] w fun e w' => e = .returned (.int .i64 (manyF t)) ∧ Chg No w w' := by
  obtain ⟨k, n, s, tv, l⟩ := t
  obtain ⟨y, v4, rfl, hv, h4⟩ := hr.open
  refine enter Tryd.func16 rfl rfl rfl ?_
  have F0 := Fr.start w
  refine Cod.seq fun K1 hK1 => ?_
  refine Cod.region ?_
  refine Ops.step (One.box F0 rfl rfl rfl rfl (ev_t rfl) ?_)
  intro b1 w1 hb1 F1
  change Fr _ _ [blk _ _ [_, _, _, _, _, _, _, _, _]] _ at F1
  refine Ops.step (One.val rfl rfl rfl (yld_assign rfl ev_c) ?_)
  refine Ops.nil fun a hS => ?_
  refine hK1 _ _ ?_ a hS
  refine Cod.seq fun K2 hK2 => ?_
  refine Cod.seq fun K3 hK3 => ?_
  refine Cod.region ?_
  refine Ops.step (One.val rfl rfl rfl (yld_loadN ag36 rfl (ev_t rfl) (fun _ => F1.range (m := 9) (cs' := [_, _, _, _, _, _, _, _, _]) 0 rfl rfl) rfl) ?_)
  refine Ops.step (One.call rfl rfl rfl (ent_f rfl (evl1 (ev_t rfl)) (enters en13)) (filtOk_ct _ _ _ (hr.chg F1.chg) (hK.chg F1.chg) hf) (fun e w2 hw2 => ?_))
  obtain ⟨rfl, C2⟩ := hw2
  have F2 := F1.call C2
  refine ⟨_, rfl, ?_⟩
  refine Ops.step (One.val rfl rfl rfl (yld_not rfl (ev_t rfl)) ?_)
  refine Ops.nil fun a hS => ?_
  refine hK3 _ _ ?_ a hS
  refine Cod.cond rfl (fun hc5 => ?_) (fun hc5 => ?_)
  · skip
    have hm : manyF (.mk k n s tv l) = 0 := if_neg (fun h => by rw [h] at hc5; cases hc5)
    refine Cod.seq fun K4 hK4 => ?_
    refine Cod.region ?_
    refine Ops.step (One.val rfl rfl rfl (yld_assign rfl ev_c) ?_)
    refine Ops.nil fun a hS => ?_
    refine hK4 _ _ ?_ a hS
    refine Cod.ret fun a hS => ?_
    try simp only [Exit.then, Exit.inBlock]
    exact ret1 (t := 2) rfl hS rfl ⟨by rw [hm], F2.chg⟩
  · skip
    have hm : manyF (.mk k n s tv l) = (Fl.mk k n s tv l).cnt := if_pos (by simpa using hc5)
    refine Cod.skip fun a hS => ?_
    refine hK2 _ _ ?_ a hS
    refine Cod.seq fun K5 hK5 => ?_
    refine Cod.region ?_
    refine Ops.step (One.val rfl rfl rfl (yld_loadN ag36 rfl (ev_t rfl) (fun _ => F2.range (m := 9) (cs' := [_, _, _, _, _, _, _, _, _]) 0 rfl rfl) rfl) ?_)
    refine Ops.step (One.call rfl rfl rfl (ent_f rfl (evl1 (ev_t rfl)) (enters en46)) (fmany_ct _ _ _ (hr.chg F2.chg) hw) (fun e w3 hw3 => ?_))
    obtain ⟨rfl, C3⟩ := hw3
    have F3 := F2.call C3
    refine ⟨_, rfl, ?_⟩
    refine Ops.step (One.val rfl rfl rfl (yld_assign rfl (ev_t rfl)) ?_)
    refine Ops.nil fun a hS => ?_
    refine hK5 _ _ ?_ a hS
    refine Cod.ret fun a hS => ?_
    try simp only [Exit.then, Exit.inBlock]
    exact ret1 (t := 2) rfl hS rfl ⟨by rw [hm], F3.chg⟩

end Go.Proofs.YtpfkcblhojkaiaaDoor.Eng
