/- Walks of both RowCut: a piece of a row or of a text. -/
import Derived.Test.YtpfkcblhojkaiaaDoorAt
import Derived.Test.YtpfkcblhojkaiaaDoorSlc
import Derived.Test.YtpfkcblhojkaiaaDoorOrd0
namespace Go.Proofs.YtpfkcblhojkaiaaDoor.Eng
open Go.RowKit
set_option linter.unusedVariables false
set_option linter.unusedSimpArgs false
set_option maxHeartbeats 1000000


theorem Tr.Fit.str {t : Tr} (h : t.Fit) : t.str.size ≤ 9223372036854775807 := by
  cases h with
  | mk hs hks hl => exact hs
theorem RepL.cap {F w} {l : List Tr} {A n c} (h : RepL F w l (.slice A n c)) : l.length ≤ c := by
  obtain ⟨A', c', f, e, h2, -⟩ := h
  obtain ⟨rfl, rfl, rfl⟩ : A = A' ∧ n = l.length ∧ c = c' := by simpa using e
  exact h2
def edgeZ (a : Int) (n : Nat) : Int := if a < 0 then (if a + n < 0 then 0 else a + n) else (if (n : Int) < a then n else a)
theorem edgeZ_le (a : Int) (n : Nat) : 0 ≤ edgeZ a n ∧ edgeZ a n ≤ n := by
  unfold edgeZ
  repeat' split
  all_goals omega
theorem edgeN (a : Int) (n : Nat) : ∃ i : Nat, edgeZ a n = (i : Int) := ⟨(edgeZ a n).toNat, by have := (edgeZ_le a n).1; omega⟩
theorem maxN (i j : Nat) : (if (i : Int) < (j : Int) then (j : Int) else (i : Int)) = ((max i j : Nat) : Int) := by split <;> omega
theorem maxN' (i j : Nat) : (if (j : Int) < (i : Int) then (i : Int) else (j : Int)) = ((max i j : Nat) : Int) := by split <;> omega
def cutL (t : Tr) (f g : Int) : List Tr := (t.list.drop (edgeZ f t.list.length).toNat).take (max (edgeZ f t.list.length).toNat (edgeZ g t.list.length).toNat - (edgeZ f t.list.length).toNat)
def cutS (t : Tr) (f g : Int) : ByteArray := t.str.extract (edgeZ f t.str.size).toNat (max (edgeZ f t.str.size).toNat (edgeZ g t.str.size).toNat)
noncomputable def cutR (t : Tr) (f g : Int) : Option Tr := if okT t = true then (if t.kind = 4 then some (strT' (cutS t f g)) else if t.kind = 5 then toldR true (.mk 5 0 ⟨#[]⟩ [] (cutL t f g)) else none) else none
theorem okT_nolist {t : Tr} (h : okT t = true) (hk : t.kind < 5) : t.list = [] := by
  obtain ⟨k, n, s, ks, l⟩ := t
  exact (Form.iff.1 (okT_node h).1).2.1.z5 hk
theorem okT_nostr {t : Tr} (h : okT t = true) (hk : t.kind ≠ 4) : t.str = ⟨#[]⟩ := by
  obtain ⟨k, n, s, ks, l⟩ := t
  exact (Form.iff.1 (okT_node h).1).2.1.z4 hk
theorem okT_str {t : Tr} (h : okT t = true) : okS t.str = true := by
  obtain ⟨k, n, s, ks, l⟩ := t
  exact (Form.iff.1 (okT_node h).1).2.1.ok
theorem okT_text {s : ByteArray} (h : okS s = true) : okT (strT' s) = true := by
  unfold okT
  simp only [Bool.and_eq_true, decide_eq_true_eq]
  exact ⟨.mk (by omega) (leafP (fun _ => rfl) (fun h => absurd rfl h) (fun _ => rfl) (fun _ => rfl) (by omega) (by omega) (by omega) h) (by simp), by unfold strT'; rw [Tr.cnt_mk]; show ((1 + 0 : Nat) : Int) ≤ 60; omega⟩
theorem cutL_mem {t x : Tr} {f g : Int} (h : x ∈ cutL t f g) : x ∈ t.list := List.mem_of_mem_drop (List.mem_of_mem_take h)
theorem cutL_fit {t : Tr} (hf : t.Fit) (f g : Int) : (Tr.mk 5 0 ⟨#[]⟩ [] (cutL t f g)).Fit := .mk (Nat.zero_le _) (by simp) fun x hx => hf.list x (cutL_mem hx)
theorem sumN_drop_le {α : Type} (f : α → Nat) : ∀ (p : List α) (i : Nat), sumN f (p.drop i) ≤ sumN f p
  | [], i => by simp
  | x :: p, 0 => by simp
  | x :: p, i + 1 => by
    have := sumN_drop_le f p i
    rw [List.drop_succ_cons, sumN_cons]
    omega
theorem cutL_wt (t : Tr) (f g : Int) (hw : t.wt ≤ 1048576) : (Tr.mk 5 0 ⟨#[]⟩ [] (cutL t f g)).wt ≤ 1048576 := by
  have h1 := t.wt_list
  have h2 : sumN Tr.wt (cutL t f g) ≤ sumN Tr.wt t.list := Nat.le_trans (sumN_take_le _ _ _) (sumN_drop_le _ _ _)
  have h3 : (cutL t f g).length ≤ t.list.length := by unfold cutL; simp; omega
  rw [Tr.wt_mk]
  show 0 + (0 + 0) + _ ≤ _
  omega
theorem cutR_mkn (t : Tr) (f g : Int) (hw : t.wt ≤ 1048576) : ((cutR t f g).getD zeroT).keys.length + sumN Tr.mkn ((cutR t f g).getD zeroT).list ≤ 3 * 1048576 + 3 := by
  unfold cutR
  split
  · split
    · show 0 + 0 ≤ _
      omega
    · split
      · unfold toldR
        split
        · exact wt_mkn _ _ (cutL_wt t f g hw)
        · show 0 + 0 ≤ _
          omega
      · show 0 + 0 ≤ _
        omega
  · show 0 + 0 ≤ _
    omega

end Go.Proofs.YtpfkcblhojkaiaaDoor.Eng
