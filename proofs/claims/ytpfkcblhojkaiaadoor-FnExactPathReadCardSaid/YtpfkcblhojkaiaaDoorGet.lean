/- Walks of both PartGet: a part of a tree, by its key. -/
import Derived.Test.YtpfkcblhojkaiaaDoorAt
namespace Go.Proofs.YtpfkcblhojkaiaaDoor.Eng
open Go.RowKit
set_option linter.unusedVariables false
set_option linter.unusedSimpArgs false
set_option maxHeartbeats 1000000


def keyZ (ks : List ByteArray) (key : ByteArray) : Int := if ks.findIdx (fun x => decide (x = key)) < ks.length then ((ks.findIdx (fun x => decide (x = key)) : Nat) : Int) else -1
theorem keyZ_at {ks : List ByteArray} {key : ByteArray} (i : Nat) (hi : i < ks.length) (h : ks[i] = key) (hall : ∀ j (hj : j < ks.length), j < i → ks[j] ≠ key) : keyZ ks key = (i : Int) := by
  have : ks.findIdx (fun x => decide (x = key)) = i := (List.findIdx_eq hi).2 ⟨by simpa using h, fun j hj => by simpa using hall j (by omega) hj⟩
  unfold keyZ
  rw [this, if_pos hi]
theorem keyZ_no {ks : List ByteArray} {key : ByteArray} (hall : ∀ j (hj : j < ks.length), ks[j] ≠ key) : keyZ ks key = -1 := by
  unfold keyZ
  rw [if_neg]
  intro h
  have := List.findIdx_getElem (w := h)
  exact hall _ h (by simpa using this)
theorem keyZ_lt {ks : List ByteArray} {key : ByteArray} (h : 0 ≤ keyZ ks key) : (keyZ ks key).toNat < ks.length := by
  unfold keyZ at h ⊢
  split at h
  · rename_i h1; rw [if_pos h1]; simpa using h1
  · omega
def getT (t : Tr) (key : ByteArray) : Option Tr := if t.kind = 0 then some zeroT else if t.kind ≠ 6 then none else if h : 0 ≤ keyZ t.keys key ∧ (keyZ t.keys key).toNat < t.list.length then some t.list[(keyZ t.keys key).toNat] else some zeroT
theorem getT_in {t x : Tr} {key : ByteArray} (hx : getT t key = some x) : x = zeroT ∨ x ∈ t.list := by
  unfold getT at hx
  repeat' split at hx
  · exact .inl (Option.some.inj hx).symm
  · cases hx
  · obtain rfl := Option.some.inj hx; exact .inr (List.getElem_mem _)
  · exact .inl (Option.some.inj hx).symm
noncomputable def partGetR (t : Tr) (key : ByteArray) : Option Tr := if (okT t && okS key) = true then getT t key else none
theorem partGet_mkn {t : Tr} {key : ByteArray} (hf : t.Fit) : ((partGetR t key).getD zeroT).keys.length + sumN Tr.mkn ((partGetR t key).getD zeroT).list ≤ 3 * t.wt + 3 := by
  unfold partGetR
  split
  · rename_i hok
    have hok' : okT t = true := by
      cases h : okT t <;> simp [h] at hok ⊢
    exact wt_mkn _ _ (getD_bounds (fun x hx => getT_in hx) hf hok').2.1
  · show 0 + 0 ≤ _
    omega

end Go.Proofs.YtpfkcblhojkaiaaDoor.Eng
