/- Walks of both PartAt and PartGet: a part of a tree, by its place or by its key. -/
import Derived.Test.YtpfkcblhojkaiaaDoorCom
namespace Go.Proofs.YtpfkcblhojkaiaaDoor.Eng
open Go.RowKit
set_option linter.unusedVariables false
set_option linter.unusedSimpArgs false
set_option maxHeartbeats 1000000


def Looks (w0 w : World) (r : Option Tr) (e : Ending) (w' : World) : Prop := ∃ x : V5, e = .returned (.tuple #[x.val, .bool r.isSome]) ∧ Chg No w w' ∧ Rep Any w0 (r.getD zeroT) x.val
def placeZ (at_ n : Int) : Int := if at_ < -n ∨ n ≤ at_ then -1 else if at_ < 0 then at_ + n else at_
def atT (t : Tr) (a : Int) : Option Tr := if t.kind = 0 then some zeroT else if t.kind ≠ 5 then none else if h : 0 ≤ placeZ a t.list.length ∧ (placeZ a t.list.length).toNat < t.list.length then some t.list[(placeZ a t.list.length).toNat] else some zeroT
theorem placeZ_lt (a : Int) (n : Nat) (h : 0 ≤ placeZ a n) : (placeZ a n).toNat < n := by
  unfold placeZ at h ⊢
  repeat' split at h
  · omega
  · rename_i h1 h2; rw [if_neg h1, if_pos h2]; omega
  · rename_i h1 h2; rw [if_neg h1, if_neg h2]; omega
theorem atT_ok {t x : Tr} {a : Int} (h : okT t = true) (hx : atT t a = some x) : okT x = true := by
  unfold atT at hx
  repeat' split at hx
  · obtain rfl := Option.some.inj hx; exact okT_zeroT
  · cases hx
  · obtain rfl := Option.some.inj hx; exact okT_child h (List.getElem_mem _)
  · obtain rfl := Option.some.inj hx; exact okT_zeroT
theorem getD_bounds {t : Tr} {r : Option Tr} (h : ∀ x, r = some x → x = zeroT ∨ x ∈ t.list) (hf : t.Fit) (hok : okT t = true) : (r.getD zeroT).Fit ∧ (r.getD zeroT).wt ≤ t.wt ∧ toldR r.isSome (r.getD zeroT) = r := by
  have hz : zeroT.Fit := .mk (Nat.zero_le _) (by simp) (by simp)
  have hzw : zeroT.wt = 0 := by unfold zeroT; rw [Tr.wt_mk]; rfl
  cases hr : r with
  | none => exact ⟨hz, by show zeroT.wt ≤ _; omega, rfl⟩
  | some x =>
    rcases h x hr with rfl | hx
    · exact ⟨hz, by show zeroT.wt ≤ _; omega, by show (if (true && okT zeroT) = true then some zeroT else none) = some zeroT; rw [okT_zeroT]; rfl⟩
    · refine ⟨hf.list x hx, ?_, ?_⟩
      · have h1 := sumN_mem Tr.wt hx
        have h2 := t.wt_list
        show x.wt ≤ _
        omega
      · show (if (true && okT x) = true then some x else none) = some x
        rw [okT_child hok hx]
        rfl
theorem atT_in {t x : Tr} {a : Int} (hx : atT t a = some x) : x = zeroT ∨ x ∈ t.list := by
  unfold atT at hx
  repeat' split at hx
  · exact .inl (Option.some.inj hx).symm
  · cases hx
  · obtain rfl := Option.some.inj hx; exact .inr (List.getElem_mem _)
  · exact .inl (Option.some.inj hx).symm
noncomputable def partAtR (t : Tr) (a : Int) : Option Tr := if okT t = true then atT t a else none
theorem part_mkn {t : Tr} {r : Option Tr} (hf : t.Fit) (h : okT t = true → ∀ x, r = some x → x = zeroT ∨ x ∈ t.list) : (((if okT t = true then r else none).getD zeroT).keys.length + sumN Tr.mkn ((if okT t = true then r else none).getD zeroT).list ≤ 3 * t.wt + 3) := by
  split
  · rename_i hok
    exact wt_mkn _ _ (getD_bounds (h hok) hf hok).2.1
  · show 0 + 0 ≤ _
    omega

end Go.Proofs.YtpfkcblhojkaiaaDoor.Eng
