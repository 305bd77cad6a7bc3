/- Walks of both PartSet: a part of a row is set, the row grows to it. -/
import Derived.Test.YtpfkcblhojkaiaaDoorPairs
import Derived.Test.YtpfkcblhojkaiaaDoorClS
namespace Go.Proofs.YtpfkcblhojkaiaaDoor.Eng
open Go.RowKit
set_option linter.unusedVariables false
set_option linter.unusedSimpArgs false
set_option maxHeartbeats 1000000


def setZ (t : Tr) (g : Int) : Nat := (if g < 0 then g + t.list.length else g).toNat
def setL (l : List Tr) (i : Nat) (x : Tr) : List Tr := (l ++ List.replicate (i + 1 - l.length) zeroT).set i x
noncomputable def setB (t x : Tr) (g : Int) : Bool := okT t && okT x && (decide (t.kind = 0) || decide (t.kind = 5)) && decide (g < 60) && decide (-(t.list.length : Int) ≤ g)
def setT (t x : Tr) (g : Int) : Tr := .mk 5 0 ⟨#[]⟩ [] (setL t.list (setZ t g) x)
noncomputable def setR (t x : Tr) (g : Int) : Option Tr := if setB t x g = true then toldR true (setT t x g) else none
theorem setB_facts {t x : Tr} {g : Int} (h : setB t x g = true) : okT t = true ∧ okT x = true ∧ (t.kind = 0 ∨ t.kind = 5) ∧ g < 60 ∧ -(t.list.length : Int) ≤ g := by
  unfold setB at h
  simp only [Bool.and_eq_true, Bool.or_eq_true, decide_eq_true_eq] at h
  obtain ⟨⟨⟨⟨h1, h2⟩, h3⟩, h4⟩, h5⟩ := h
  exact ⟨h1, h2, h3, h4, h5⟩
theorem setL_mem {l : List Tr} {i : Nat} {x y : Tr} (h : y ∈ setL l i x) : y ∈ l ∨ y = zeroT ∨ y = x := by
  unfold setL at h
  rcases List.mem_or_eq_of_mem_set h with h | h
  · rcases List.mem_append.1 h with h | h
    · exact .inl h
    · exact .inr (.inl (List.eq_of_mem_replicate h))
  · exact .inr (.inr h)
theorem setT_bd {t x : Tr} {g : Int} (hf : t.Fit) (hfx : x.Fit) (h : setB t x g = true) : (setT t x g).Fit ∧ (setT t x g).wt ≤ 1048576 := by
  obtain ⟨h1, h2, h3, h4, h5⟩ := setB_facts h
  have hl := okT_len60 h1
  have hlen : (setL t.list (setZ t g) x).length ≤ 60 := by
    unfold setL setZ
    simp
    split <;> omega
  refine ⟨.mk (Nat.zero_le _) (by simp) fun y hy => ?_, ?_⟩
  · rcases setL_mem hy with hy | rfl | rfl
    · exact hf.list y hy
    · exact .mk (Nat.zero_le _) (by simp) (by simp)
    · exact hfx
  · have hb := sumNb (f := Tr.wt) (b := 1560) (l := setL t.list (setZ t g) x) fun y hy => by
      rcases setL_mem hy with hy | rfl | rfl
      · exact okT_wt (okT_child h1 hy)
      · exact okT_wt okT_zeroT
      · exact okT_wt h2
    unfold setT
    rw [Tr.wt_mk]
    show 0 + (0 + 0) + _ ≤ _
    omega
theorem setR_mkn {t x : Tr} {g : Int} (hf : t.Fit) (hfx : x.Fit) : ((setR t x g).getD zeroT).keys.length + sumN Tr.mkn ((setR t x g).getD zeroT).list ≤ 3 * 1048576 + 3 := by
  unfold setR
  split
  · rename_i h
    have h1 := (setT_bd hf hfx h).2
    unfold toldR
    split
    · exact wt_mkn _ _ h1
    · show 0 + 0 ≤ _
      omega
  · show 0 + 0 ≤ _
    omega

end Go.Proofs.YtpfkcblhojkaiaaDoor.Eng
