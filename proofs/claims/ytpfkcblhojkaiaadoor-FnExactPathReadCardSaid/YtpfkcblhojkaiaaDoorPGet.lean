/- Walks of both PathGet: a part of a tree, step by step. -/
import Derived.Test.YtpfkcblhojkaiaaDoorGet
import Derived.Test.YtpfkcblhojkaiaaDoorPath0
namespace Go.Proofs.YtpfkcblhojkaiaaDoor.Eng
open Go.RowKit
set_option linter.unusedVariables false
set_option linter.unusedSimpArgs false
set_option maxHeartbeats 1000000


def stepT (t : Tr) (s : Stp) : Option Tr := if s.m = true then getT t s.key else atT t s.pl
def pathT : List Stp → Tr → Option Tr
  | [], c => some c
  | s :: p, c => match stepT c s with
    | none => none
    | some x => pathT p x
noncomputable def pathR (t : Tr) (p : List Stp) : Option Tr := if (okT t && pathOk p) = true then pathT p t else none
theorem stp_range {s : Stp} (h : s.ok = true) : -9223372036854775808 ≤ s.pl ∧ s.pl ≤ 9223372036854775807 := by
  unfold Stp.ok at h
  split at h <;> simp at h <;> omega
theorem pathOk_at {p : List Stp} (h : pathOk p = true) (i : Nat) (hi : i < p.length) : p[i].ok = true := by
  unfold pathOk at h
  simp only [Bool.and_eq_true, List.all_eq_true] at h
  exact h.1 _ (List.getElem_mem hi)
theorem step_in {t x : Tr} {s : Stp} (h : stepT t s = some x) : x = zeroT ∨ x ∈ t.list := by
  unfold stepT at h
  split at h
  · exact getT_in h
  · exact atT_in h
theorem step_ok {t x : Tr} {s : Stp} (hok : okT t = true) (h : stepT t s = some x) : okT x = true := by
  rcases step_in h with rfl | hx
  · exact okT_zeroT
  · exact okT_child hok hx
theorem step_bd {t x : Tr} {s : Stp} (hf : t.Fit) (hok : okT t = true) (h : stepT t s = some x) : x.Fit ∧ x.wt ≤ t.wt := by
  obtain ⟨h1, h2, -⟩ := getD_bounds (r := stepT t s) (fun y hy => step_in hy) hf hok
  rw [h] at h1 h2
  exact ⟨h1, h2⟩
theorem path_bd {t : Tr} (hf : t.Fit) (hok : okT t = true) (p : List Stp) : ((pathT p t).getD zeroT).Fit ∧ ((pathT p t).getD zeroT).wt ≤ t.wt := by
  induction p generalizing t with
  | nil => exact ⟨hf, Nat.le_refl _⟩
  | cons s p ih =>
    rw [pathT]
    cases h : stepT t s with
    | none =>
      refine ⟨.mk (Nat.zero_le _) (by simp) (by simp), ?_⟩
      show zeroT.wt ≤ _
      have : zeroT.wt = 0 := by unfold zeroT; rw [Tr.wt_mk]; rfl
      omega
    | some x =>
      obtain ⟨h1, h2⟩ := step_bd hf hok h
      obtain ⟨h3, h4⟩ := ih h1 (step_ok hok h)
      exact ⟨h3, by show ((pathT p x).getD zeroT).wt ≤ _; omega⟩
theorem pathR_mkn {t : Tr} (hf : t.Fit) (p : List Stp) : ((pathR t p).getD zeroT).keys.length + sumN Tr.mkn ((pathR t p).getD zeroT).list ≤ 3 * t.wt + 3 := by
  unfold pathR
  split
  · rename_i h
    have hok : okT t = true := by cases h1 : okT t <;> simp [h1] at h ⊢
    exact wt_mkn _ _ (path_bd hf hok p).2
  · show 0 + 0 ≤ _
    omega

end Go.Proofs.YtpfkcblhojkaiaaDoor.Eng
