/- Walks of both RowFlat: a row whose elements that are rows are opened once. -/
import Derived.Test.YtpfkcblhojkaiaaDoorCom
namespace Go.Proofs.YtpfkcblhojkaiaaDoor.Eng
open Go.RowKit
set_option linter.unusedVariables false
set_option linter.unusedSimpArgs false
set_option maxHeartbeats 1000000


def flatL (l : List Tr) : List Tr := l.flatMap fun x => if x.kind = 5 then x.list else [x]
noncomputable def flatR (t : Tr) : Option Tr := if rowT t = true then toldR true (.mk 5 0 ⟨#[]⟩ [] (flatL t.list)) else none
theorem flat_wt : ∀ l : List Tr, (flatL l).length + sumN Tr.wt (flatL l) ≤ l.length + sumN Tr.wt l
  | [] => by simp [flatL, sumN]
  | x :: l => by
    have h1 := flat_wt l
    have h2 := x.wt_list
    unfold flatL at h1 ⊢
    rw [List.flatMap_cons, List.length_append, sumN_append, sumN_cons, List.length_cons]
    split
    · omega
    · simp [sumN] at h1 ⊢; omega
theorem flat_fit {l : List Tr} (h : ∀ x ∈ l, x.Fit) : ∀ x ∈ flatL l, x.Fit := fun x hx => by
  unfold flatL at hx
  obtain ⟨y, hy, hxy⟩ := List.mem_flatMap.1 hx
  split at hxy
  · exact (h y hy).list x hxy
  · obtain rfl := List.mem_singleton.1 hxy; exact h x hy
theorem flat_step (l : List Tr) (i : Nat) (h : i < l.length) : flatL (l.take (i + 1)) = flatL (l.take i) ++ (if l[i].kind = 5 then l[i].list else [l[i]]) := by
  unfold flatL
  rw [List.take_succ_eq_append_getElem h, List.flatMap_append]
  simp
theorem flat_le (l : List Tr) (i : Nat) : (flatL (l.take i)).length ≤ l.length + sumN Tr.wt l := by
  have h1 := flat_wt (l.take i)
  have h2 := sumN_take_le Tr.wt l i
  have h3 : (l.take i).length ≤ l.length := by simp; omega
  omega
theorem flatR_mkn (t : Tr) : ((flatR t).getD zeroT).keys.length + sumN Tr.mkn ((flatR t).getD zeroT).list ≤ 3 * t.wt + 3 := by
  unfold flatR
  split
  · have h1 := told_mkn (.mk 5 0 ⟨#[]⟩ [] (flatL t.list))
    have h2 := flat_wt t.list
    have h3 := t.wt_list
    rw [Tr.wt_mk] at h1
    have h4 : sumN ByteArray.size [] = 0 := rfl
    have h5 : (⟨#[]⟩ : ByteArray).size = 0 := rfl
    simp only [List.length_nil] at h1
    omega
  · show 0 + 0 ≤ _
    omega

end Go.Proofs.YtpfkcblhojkaiaaDoor.Eng
