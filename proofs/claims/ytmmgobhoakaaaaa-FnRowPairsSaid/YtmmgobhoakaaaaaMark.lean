/- Walks of what the laws do to see that nothing is shared: marks are laid in a tree that a call owns, and looked for. -/
import Derived.Test.YtmmgobhoakaaaaaKid
import Derived.Test.YtmmgobhoakaaaaaCopy
namespace Go.Proofs.Ytmmgobhoakaaaaa.Eng
open Go.RowKit
set_option linter.unusedVariables false
set_option linter.unusedSimpArgs false
set_option maxHeartbeats 1000000


def addN (k : Int) : Nat → Int
  | 0 => k
  | n + 1 => k + ((n + 1 : Nat) : Int)
theorem addN_eq (k : Int) (n : Nat) : addN k n = k + (n : Int) := by
  cases n with
  | zero => simp [addN]
  | succ n => rfl


theorem SepL.form {w F l v} (h : SepL w F l v) : ∃ A c, v = .slice A l.length c := by
  obtain ⟨xs, Fk, h1, h2, -⟩ := h
  obtain ⟨A, m, c, rfl⟩ := own_form (e := 26) (sz := 5) h2
  have := own_len (e := 26) (sz := 5) h2 rfl
  subst this
  exact ⟨A, c, rfl⟩



end Go.Proofs.Ytmmgobhoakaaaaa.Eng
