/-
  NARROWER THAN 'FOR EVERY INPUT', by the rows' own cells (each row's printed sentence says how): FnExactPathAll: loops · FnExactEditOk: loops.
  DERIVED. THE GIVEN ROWS OF THIS SEAT. 7 by the template 'for every input the law returns true; each argument reads behind the call as it read before'; 0 by the template 'total and deterministic' (their statements: YtodbflfelimppaaTotals.lean).
  GIVEN WITH THE SEED: the statements are not yours to turn. If you find one false, say at which input.
  Laid BY PROGRAM, IN A SANDBOX (cutbox-rows.mjs): the forced cells as the released guide's own fill.sh prints them over the translation 0a21d1dddbd0b518… (all of the seat's roots in one cut). By AI agents, Wed Nov 11 2026. No macro, syntax, notation, axiom, sorry.
-/
import Derived.Test.YtodbflfelimppaaChecked
import GoSem.Claim
import GoSem.ClaimJoined
import GoSem.ClaimMapViews
import Derived.JoinedTies
import Derived.KernelRfl
namespace Go.Proofs.Ytodbflfelimppaa
/- THE CELL 'sum', in the pinned program and in every row, IS THE sha256 OF THE DUMP (.gsa) THAT YtodbflfelimppaaProg.lean LOADS. Nothing in Lean hashes anything: it is a label: what it is worth is what the hold of that sum in a sandbox is worth. -/
noncomputable def Try.pinned : Pinned := { name := "ytodbflfelimppaa", sum := "0a21d1dddbd0b518d8ed9017878d5e1b2e89cb64509df09bcec68b0e9be3dcb1", checked := Try.checked }
namespace Rows
def none {H : Type} : Left H := { results := [], args := [] }

/-- 'laws.FnExactPathAll': WHATEVER THE INPUT: true; the input reads as it did. -/
def fnExactPathAllSpec : ChangeSpec := { name := "fnExactPathAll", fn := fun _ => fun
  | [d] => { results := [.lit (.bool true)], args := [d] }
  | _ => none }
def fnExactPathAllRow : OpenClaim := { program := "ytodbflfelimppaa", sum := "0a21d1dddbd0b518d8ed9017878d5e1b2e89cb64509df09bcec68b0e9be3dcb1", func := "loop.example/cribble/laws.FnExactPathAll", spec := "fnExactPathAll", recurses := true, loops := true, apart := false }
def FnExactPathAllSaid : Prop := fnExactPathAllRow.holds Try.pinned (OpenSpec.ofChange fnExactPathAllSpec)

/-- ITS FALSE NEIGHBOUR: 'it returns false'. Refute it at one input. -/
def fnExactPathAllWrong : ChangeSpec := { name := "fnExactPathAll", fn := fun _ => fun
  | [d] => { results := [.lit (.bool false)], args := [d] }
  | _ => none }
def FnExactPathAllWrongFalsely : Prop := fnExactPathAllRow.holds Try.pinned (OpenSpec.ofChange fnExactPathAllWrong)

/-- 'laws.FnExactEditOk': WHATEVER THE INPUT: true; the input reads as it did. -/
def fnExactEditOkSpec : ChangeSpec := { name := "fnExactEditOk", fn := fun _ => fun
  | [d] => { results := [.lit (.bool true)], args := [d] }
  | _ => none }
def fnExactEditOkRow : OpenClaim := { program := "ytodbflfelimppaa", sum := "0a21d1dddbd0b518d8ed9017878d5e1b2e89cb64509df09bcec68b0e9be3dcb1", func := "loop.example/cribble/laws.FnExactEditOk", spec := "fnExactEditOk", unfollowed := true, recurses := true, loops := true, apart := false }
def FnExactEditOkSaid : Prop := fnExactEditOkRow.holds Try.pinned (OpenSpec.ofChange fnExactEditOkSpec)

/-- ITS FALSE NEIGHBOUR: 'it returns false'. Refute it at one input. -/
def fnExactEditOkWrong : ChangeSpec := { name := "fnExactEditOk", fn := fun _ => fun
  | [d] => { results := [.lit (.bool false)], args := [d] }
  | _ => none }
def FnExactEditOkWrongFalsely : Prop := fnExactEditOkRow.holds Try.pinned (OpenSpec.ofChange fnExactEditOkWrong)

/-- 'laws.FnPathOne': WHATEVER THE INPUT: true; the input reads as it did. -/
def fnPathOneSpec : ChangeSpec := { name := "fnPathOne", fn := fun _ => fun
  | [d] => { results := [.lit (.bool true)], args := [d] }
  | _ => none }
def fnPathOneRow : OpenClaim := { program := "ytodbflfelimppaa", sum := "0a21d1dddbd0b518d8ed9017878d5e1b2e89cb64509df09bcec68b0e9be3dcb1", func := "loop.example/cribble/laws.FnPathOne", spec := "fnPathOne", unfollowed := true, recurses := true, apart := false }
def FnPathOneSaid : Prop := fnPathOneRow.holds Try.pinned (OpenSpec.ofChange fnPathOneSpec)

/-- ITS FALSE NEIGHBOUR: 'it returns false'. Refute it at one input. -/
def fnPathOneWrong : ChangeSpec := { name := "fnPathOne", fn := fun _ => fun
  | [d] => { results := [.lit (.bool false)], args := [d] }
  | _ => none }
def FnPathOneWrongFalsely : Prop := fnPathOneRow.holds Try.pinned (OpenSpec.ofChange fnPathOneWrong)

/-- 'laws.FnRowHas': WHATEVER THE INPUT: true; the input reads as it did. -/
def fnRowHasSpec : ChangeSpec := { name := "fnRowHas", fn := fun _ => fun
  | [d] => { results := [.lit (.bool true)], args := [d] }
  | _ => none }
def fnRowHasRow : OpenClaim := { program := "ytodbflfelimppaa", sum := "0a21d1dddbd0b518d8ed9017878d5e1b2e89cb64509df09bcec68b0e9be3dcb1", func := "loop.example/cribble/laws.FnRowHas", spec := "fnRowHas", unfollowed := true, recurses := true, apart := false }
def FnRowHasSaid : Prop := fnRowHasRow.holds Try.pinned (OpenSpec.ofChange fnRowHasSpec)

/-- ITS FALSE NEIGHBOUR: 'it returns false'. Refute it at one input. -/
def fnRowHasWrong : ChangeSpec := { name := "fnRowHas", fn := fun _ => fun
  | [d] => { results := [.lit (.bool false)], args := [d] }
  | _ => none }
def FnRowHasWrongFalsely : Prop := fnRowHasRow.holds Try.pinned (OpenSpec.ofChange fnRowHasWrong)

/-- 'laws.FnRowSort': WHATEVER THE INPUT: true; the input reads as it did. -/
def fnRowSortSpec : ChangeSpec := { name := "fnRowSort", fn := fun _ => fun
  | [d] => { results := [.lit (.bool true)], args := [d] }
  | _ => none }
def fnRowSortRow : OpenClaim := { program := "ytodbflfelimppaa", sum := "0a21d1dddbd0b518d8ed9017878d5e1b2e89cb64509df09bcec68b0e9be3dcb1", func := "loop.example/cribble/laws.FnRowSort", spec := "fnRowSort", unfollowed := true, recurses := true, apart := false }
def FnRowSortSaid : Prop := fnRowSortRow.holds Try.pinned (OpenSpec.ofChange fnRowSortSpec)

/-- ITS FALSE NEIGHBOUR: 'it returns false'. Refute it at one input. -/
def fnRowSortWrong : ChangeSpec := { name := "fnRowSort", fn := fun _ => fun
  | [d] => { results := [.lit (.bool false)], args := [d] }
  | _ => none }
def FnRowSortWrongFalsely : Prop := fnRowSortRow.holds Try.pinned (OpenSpec.ofChange fnRowSortWrong)

/-- 'laws.FnPartAdd': WHATEVER THE INPUT: true; the input reads as it did. -/
def fnPartAddSpec : ChangeSpec := { name := "fnPartAdd", fn := fun _ => fun
  | [d1, d2] => { results := [.lit (.bool true)], args := [d1, d2] }
  | _ => none }
def fnPartAddRow : OpenClaim := { program := "ytodbflfelimppaa", sum := "0a21d1dddbd0b518d8ed9017878d5e1b2e89cb64509df09bcec68b0e9be3dcb1", func := "loop.example/cribble/laws.FnPartAdd", spec := "fnPartAdd", inPlace := ["slices.overlaps[string]", "slices.overlaps[loop.example/cribble/impl.Val]"], unfollowed := true, recurses := true, apart := false }
def FnPartAddSaid : Prop := fnPartAddRow.holds Try.pinned (OpenSpec.ofChange fnPartAddSpec)

/-- ITS FALSE NEIGHBOUR: 'it returns false'. Refute it at one input. -/
def fnPartAddWrong : ChangeSpec := { name := "fnPartAdd", fn := fun _ => fun
  | [d1, d2] => { results := [.lit (.bool false)], args := [d1, d2] }
  | _ => none }
def FnPartAddWrongFalsely : Prop := fnPartAddRow.holds Try.pinned (OpenSpec.ofChange fnPartAddWrong)

/-- 'laws.FnPathTwo': WHATEVER THE INPUT: true; the input reads as it did. -/
def fnPathTwoSpec : ChangeSpec := { name := "fnPathTwo", fn := fun _ => fun
  | [d1, d2] => { results := [.lit (.bool true)], args := [d1, d2] }
  | _ => none }
def fnPathTwoRow : OpenClaim := { program := "ytodbflfelimppaa", sum := "0a21d1dddbd0b518d8ed9017878d5e1b2e89cb64509df09bcec68b0e9be3dcb1", func := "loop.example/cribble/laws.FnPathTwo", spec := "fnPathTwo", inPlace := ["slices.overlaps[string]", "slices.overlaps[loop.example/cribble/impl.Val]"], unfollowed := true, recurses := true, apart := false }
def FnPathTwoSaid : Prop := fnPathTwoRow.holds Try.pinned (OpenSpec.ofChange fnPathTwoSpec)

/-- ITS FALSE NEIGHBOUR: 'it returns false'. Refute it at one input. -/
def fnPathTwoWrong : ChangeSpec := { name := "fnPathTwo", fn := fun _ => fun
  | [d1, d2] => { results := [.lit (.bool false)], args := [d1, d2] }
  | _ => none }
def FnPathTwoWrongFalsely : Prop := fnPathTwoRow.holds Try.pinned (OpenSpec.ofChange fnPathTwoWrong)

/- THE SECOND FORM. 'bulk': how many values and letters a reading holds, each counted each time it is reached (what is shared counts as often as it is met; a slice's spare places count too). A statement '..UptoSaid' is the law's where the arguments, and the package variables that the reading takes, are together of bulk at most 1048576: NARROWER than '..Said'. Prove '..Said' where nothing that the law and all that it calls make is longer than what came in: it says more and counts as full. Else prove '..UptoSaid'. A law counts once. -/
mutual
def uptoBulk {H : Type} : DataW H → Nat
  | .lit (.string bytes) => bytes.length + 1
  | .lit _ => 1
  | .nil => 1
  | .ptr d => uptoBulk d + 1
  | .slice elems spare => uptoBulkAll elems + uptoBulkAll spare + 1
  | .agg parts => uptoBulkAll parts + 1
  | .iface _ d => uptoBulk d + 1
  | .map entries => uptoBulkEntries entries + 1
  | .held _ => 1
def uptoBulkAll {H : Type} : List (DataW H) → Nat
  | [] => 0
  | d :: r => uptoBulk d + uptoBulkAll r
def uptoBulkEntries {H : Type} : List (Lit × DataW H) → Nat
  | [] => 0
  | x :: r => uptoBulkEntry x + uptoBulkEntries r
def uptoBulkEntry {H : Type} : Lit × DataW H → Nat
  | (.string bytes, d) => bytes.length + uptoBulk d + 1
  | (_, d) => uptoBulk d + 1
 end
def uptoSmall : (H : Type) → List (DataW H) → Bool := fun _ ds => decide (uptoBulkAll ds ≤ 1048576)
def OpenSpec.upto (s : _root_.Go.ChangeSpec) : _root_.Go.OpenSpec := { _root_.Go.OpenSpec.ofChange s with cond := some uptoSmall }

/-- 'laws.FnExactPathAll', WHERE WHAT IT READS IS OF BULK AT MOST 1048576: true; the input reads as it did. -/
def fnExactPathAllUptoRow : OpenClaim := { program := "ytodbflfelimppaa", sum := "0a21d1dddbd0b518d8ed9017878d5e1b2e89cb64509df09bcec68b0e9be3dcb1", func := "loop.example/cribble/laws.FnExactPathAll", spec := "fnExactPathAll", recurses := true, loops := true, apart := false, narrowed := true }
def FnExactPathAllUptoSaid : Prop := fnExactPathAllUptoRow.holds Try.pinned (OpenSpec.upto fnExactPathAllSpec)

/-- 'laws.FnExactEditOk', WHERE WHAT IT READS IS OF BULK AT MOST 1048576: true; the input reads as it did. -/
def fnExactEditOkUptoRow : OpenClaim := { program := "ytodbflfelimppaa", sum := "0a21d1dddbd0b518d8ed9017878d5e1b2e89cb64509df09bcec68b0e9be3dcb1", func := "loop.example/cribble/laws.FnExactEditOk", spec := "fnExactEditOk", unfollowed := true, recurses := true, loops := true, apart := false, narrowed := true }
def FnExactEditOkUptoSaid : Prop := fnExactEditOkUptoRow.holds Try.pinned (OpenSpec.upto fnExactEditOkSpec)

/-- 'laws.FnPathOne', WHERE WHAT IT READS IS OF BULK AT MOST 1048576: true; the input reads as it did. -/
def fnPathOneUptoRow : OpenClaim := { program := "ytodbflfelimppaa", sum := "0a21d1dddbd0b518d8ed9017878d5e1b2e89cb64509df09bcec68b0e9be3dcb1", func := "loop.example/cribble/laws.FnPathOne", spec := "fnPathOne", unfollowed := true, recurses := true, apart := false, narrowed := true }
def FnPathOneUptoSaid : Prop := fnPathOneUptoRow.holds Try.pinned (OpenSpec.upto fnPathOneSpec)

/-- 'laws.FnRowHas', WHERE WHAT IT READS IS OF BULK AT MOST 1048576: true; the input reads as it did. -/
def fnRowHasUptoRow : OpenClaim := { program := "ytodbflfelimppaa", sum := "0a21d1dddbd0b518d8ed9017878d5e1b2e89cb64509df09bcec68b0e9be3dcb1", func := "loop.example/cribble/laws.FnRowHas", spec := "fnRowHas", unfollowed := true, recurses := true, apart := false, narrowed := true }
def FnRowHasUptoSaid : Prop := fnRowHasUptoRow.holds Try.pinned (OpenSpec.upto fnRowHasSpec)

/-- 'laws.FnRowSort', WHERE WHAT IT READS IS OF BULK AT MOST 1048576: true; the input reads as it did. -/
def fnRowSortUptoRow : OpenClaim := { program := "ytodbflfelimppaa", sum := "0a21d1dddbd0b518d8ed9017878d5e1b2e89cb64509df09bcec68b0e9be3dcb1", func := "loop.example/cribble/laws.FnRowSort", spec := "fnRowSort", unfollowed := true, recurses := true, apart := false, narrowed := true }
def FnRowSortUptoSaid : Prop := fnRowSortUptoRow.holds Try.pinned (OpenSpec.upto fnRowSortSpec)

/-- 'laws.FnPartAdd', WHERE WHAT IT READS IS OF BULK AT MOST 1048576: true; the input reads as it did. -/
def fnPartAddUptoRow : OpenClaim := { program := "ytodbflfelimppaa", sum := "0a21d1dddbd0b518d8ed9017878d5e1b2e89cb64509df09bcec68b0e9be3dcb1", func := "loop.example/cribble/laws.FnPartAdd", spec := "fnPartAdd", inPlace := ["slices.overlaps[string]", "slices.overlaps[loop.example/cribble/impl.Val]"], unfollowed := true, recurses := true, apart := false, narrowed := true }
def FnPartAddUptoSaid : Prop := fnPartAddUptoRow.holds Try.pinned (OpenSpec.upto fnPartAddSpec)

/-- 'laws.FnPathTwo', WHERE WHAT IT READS IS OF BULK AT MOST 1048576: true; the input reads as it did. -/
def fnPathTwoUptoRow : OpenClaim := { program := "ytodbflfelimppaa", sum := "0a21d1dddbd0b518d8ed9017878d5e1b2e89cb64509df09bcec68b0e9be3dcb1", func := "loop.example/cribble/laws.FnPathTwo", spec := "fnPathTwo", inPlace := ["slices.overlaps[string]", "slices.overlaps[loop.example/cribble/impl.Val]"], unfollowed := true, recurses := true, apart := false, narrowed := true }
def FnPathTwoUptoSaid : Prop := fnPathTwoUptoRow.holds Try.pinned (OpenSpec.upto fnPathTwoSpec)

end Rows
end Go.Proofs.Ytodbflfelimppaa
