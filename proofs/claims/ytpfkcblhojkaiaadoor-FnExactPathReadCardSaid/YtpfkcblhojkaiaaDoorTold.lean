/- Walks of what gives a tree and a word of whether it is one: num, str, row, told, l2Told, heldVal. -/
import Derived.Test.YtpfkcblhojkaiaaDoorHeld
import Derived.Test.YtpfkcblhojkaiaaDoorIsRow
import Derived.Test.YtpfkcblhojkaiaaDoorNeg
namespace Go.Proofs.YtpfkcblhojkaiaaDoor.Eng
open Go.RowKit
set_option linter.unusedVariables false
set_option linter.unusedSimpArgs false
set_option maxHeartbeats 1000000


/-- No tree. -/
def zeroT : Tr := .mk 0 0 ⟨#[]⟩ [] []
def numT (n : Int) : Tr := .mk 3 n ⟨#[]⟩ [] []
def strT' (s : ByteArray) : Tr := .mk 4 0 s [] []
theorem sep_leaf (w : World) (k n : Int) (s : ByteArray) : Sep w No (.mk k n s [] []) (x5 k n s (.slice none 0 0) (.slice none 0 0)).val :=
  Sep.close (F4 := No) (World.ownsRow_nil w 0 9 1) ⟨[], No, rfl, World.ownsRow_nil w 0 33 5, Kd.nil w [], fun b hb => by simp [Value.ownBlock] at hb, fun b hb => hb, fun b hb => hb.elim⟩ (fun b hb => by simp [Value.ownBlock] at hb) (fun b hb => hb) (fun b hb => hb.elim)
/-- What a function gives that gives a tree and a word. -/
def Gives (w : World) (r : Option Tr) (e : Ending) (w' : World) : Prop := ∃ (x : V5) (F : Nat → Prop), e = .returned (.tuple #[x.val, .bool r.isSome]) ∧ Chg No w w' ∧ Sep w' F (r.getD zeroT) x.val ∧ ∀ k, F k → w.heap.size ≤ k
noncomputable def toldR (ok : Bool) (t : Tr) : Option Tr := if (ok && okT t) = true then some t else none

end Go.Proofs.YtpfkcblhojkaiaaDoor.Eng
