/-
  No cell of these rows narrows 'for every input' (looked for: loops, veiled, ifaces, maps, wideKeys, modest, calm, conditions, laid).
  DERIVED. THE GIVEN ROWS OF THIS SEAT. 9 by the template 'for every input the law returns true; each argument reads behind the call as it read before'; 0 by the template 'total and deterministic' (their statements: YtphchpbfhcniaaaTotals.lean).
  GIVEN WITH THE SEED: the statements are not yours to turn. If you find one false, say at which input.
  Laid BY PROGRAM, IN A SANDBOX (cutbox-rows.mjs): the forced cells as the released guide's own fill.sh prints them over the translation 3a32eff5171e69e5… (all of the seat's roots in one cut). By AI agents, Wed Nov 11 2026. No macro, syntax, notation, axiom, sorry.
-/
import Derived.Test.YtphchpbfhcniaaaChecked
import GoSem.Claim
import GoSem.ClaimJoined
import GoSem.ClaimMapViews
import Derived.JoinedTies
import Derived.KernelRfl
namespace Go.Proofs.Ytphchpbfhcniaaa
/- THE CELL 'sum', in the pinned program and in every row, IS THE sha256 OF THE DUMP (.gsa) THAT YtphchpbfhcniaaaProg.lean LOADS. Nothing in Lean hashes anything: it is a label: what it is worth is what the hold of that sum in a sandbox is worth. -/
noncomputable def Try.pinned : Pinned := { name := "ytphchpbfhcniaaa", sum := "3a32eff5171e69e56a967b4c96fdd4c9fe298b9827f7c3d9199fc3a8d1d409ac", checked := Try.checked }
namespace Rows
def none {H : Type} : Left H := { results := [], args := [] }

/-- 'laws.FnValMany': WHATEVER THE INPUT: true; the input reads as it did. -/
def fnValManySpec : ChangeSpec := { name := "fnValMany", fn := fun _ => fun
  | [d] => { results := [.lit (.bool true)], args := [d] }
  | _ => none }
def fnValManyRow : OpenClaim := { program := "ytphchpbfhcniaaa", sum := "3a32eff5171e69e56a967b4c96fdd4c9fe298b9827f7c3d9199fc3a8d1d409ac", func := "loop.example/cribble/laws.FnValMany", spec := "fnValMany", recurses := true, apart := false }
def FnValManySaid : Prop := fnValManyRow.holds Try.pinned (OpenSpec.ofChange fnValManySpec)

/-- ITS FALSE NEIGHBOUR: 'it returns false'. Refute it at one input. -/
def fnValManyWrong : ChangeSpec := { name := "fnValMany", fn := fun _ => fun
  | [d] => { results := [.lit (.bool false)], args := [d] }
  | _ => none }
def FnValManyWrongFalsely : Prop := fnValManyRow.holds Try.pinned (OpenSpec.ofChange fnValManyWrong)

/-- 'laws.FnRowFlat': WHATEVER THE INPUT: true; the input reads as it did. -/
def fnRowFlatSpec : ChangeSpec := { name := "fnRowFlat", fn := fun _ => fun
  | [d] => { results := [.lit (.bool true)], args := [d] }
  | _ => none }
def fnRowFlatRow : OpenClaim := { program := "ytphchpbfhcniaaa", sum := "3a32eff5171e69e56a967b4c96fdd4c9fe298b9827f7c3d9199fc3a8d1d409ac", func := "loop.example/cribble/laws.FnRowFlat", spec := "fnRowFlat", unfollowed := true, recurses := true, apart := false }
def FnRowFlatSaid : Prop := fnRowFlatRow.holds Try.pinned (OpenSpec.ofChange fnRowFlatSpec)

/-- ITS FALSE NEIGHBOUR: 'it returns false'. Refute it at one input. -/
def fnRowFlatWrong : ChangeSpec := { name := "fnRowFlat", fn := fun _ => fun
  | [d] => { results := [.lit (.bool false)], args := [d] }
  | _ => none }
def FnRowFlatWrongFalsely : Prop := fnRowFlatRow.holds Try.pinned (OpenSpec.ofChange fnRowFlatWrong)

/-- 'laws.FnPartAt': WHATEVER THE INPUT: true; the input reads as it did. -/
def fnPartAtSpec : ChangeSpec := { name := "fnPartAt", fn := fun _ => fun
  | [d] => { results := [.lit (.bool true)], args := [d] }
  | _ => none }
def fnPartAtRow : OpenClaim := { program := "ytphchpbfhcniaaa", sum := "3a32eff5171e69e56a967b4c96fdd4c9fe298b9827f7c3d9199fc3a8d1d409ac", func := "loop.example/cribble/laws.FnPartAt", spec := "fnPartAt", unfollowed := true, recurses := true, apart := false }
def FnPartAtSaid : Prop := fnPartAtRow.holds Try.pinned (OpenSpec.ofChange fnPartAtSpec)

/-- ITS FALSE NEIGHBOUR: 'it returns false'. Refute it at one input. -/
def fnPartAtWrong : ChangeSpec := { name := "fnPartAt", fn := fun _ => fun
  | [d] => { results := [.lit (.bool false)], args := [d] }
  | _ => none }
def FnPartAtWrongFalsely : Prop := fnPartAtRow.holds Try.pinned (OpenSpec.ofChange fnPartAtWrong)

/-- 'laws.FnValRow': WHATEVER THE INPUT: true; the input reads as it did. -/
def fnValRowSpec : ChangeSpec := { name := "fnValRow", fn := fun _ => fun
  | [d1, d2] => { results := [.lit (.bool true)], args := [d1, d2] }
  | _ => none }
def fnValRowRow : OpenClaim := { program := "ytphchpbfhcniaaa", sum := "3a32eff5171e69e56a967b4c96fdd4c9fe298b9827f7c3d9199fc3a8d1d409ac", func := "loop.example/cribble/laws.FnValRow", spec := "fnValRow", unfollowed := true, recurses := true, apart := false }
def FnValRowSaid : Prop := fnValRowRow.holds Try.pinned (OpenSpec.ofChange fnValRowSpec)

/-- ITS FALSE NEIGHBOUR: 'it returns false'. Refute it at one input. -/
def fnValRowWrong : ChangeSpec := { name := "fnValRow", fn := fun _ => fun
  | [d1, d2] => { results := [.lit (.bool false)], args := [d1, d2] }
  | _ => none }
def FnValRowWrongFalsely : Prop := fnValRowRow.holds Try.pinned (OpenSpec.ofChange fnValRowWrong)

/-- 'laws.FnRowPiece': WHATEVER THE INPUT: true; the input reads as it did. -/
def fnRowPieceSpec : ChangeSpec := { name := "fnRowPiece", fn := fun _ => fun
  | [d1, d2] => { results := [.lit (.bool true)], args := [d1, d2] }
  | _ => none }
def fnRowPieceRow : OpenClaim := { program := "ytphchpbfhcniaaa", sum := "3a32eff5171e69e56a967b4c96fdd4c9fe298b9827f7c3d9199fc3a8d1d409ac", func := "loop.example/cribble/laws.FnRowPiece", spec := "fnRowPiece", unfollowed := true, recurses := true, apart := false }
def FnRowPieceSaid : Prop := fnRowPieceRow.holds Try.pinned (OpenSpec.ofChange fnRowPieceSpec)

/-- ITS FALSE NEIGHBOUR: 'it returns false'. Refute it at one input. -/
def fnRowPieceWrong : ChangeSpec := { name := "fnRowPiece", fn := fun _ => fun
  | [d1, d2] => { results := [.lit (.bool false)], args := [d1, d2] }
  | _ => none }
def FnRowPieceWrongFalsely : Prop := fnRowPieceRow.holds Try.pinned (OpenSpec.ofChange fnRowPieceWrong)

/-- 'laws.FnValOrder': WHATEVER THE INPUT: true; the input reads as it did. -/
def fnValOrderSpec : ChangeSpec := { name := "fnValOrder", fn := fun _ => fun
  | [d1, d2] => { results := [.lit (.bool true)], args := [d1, d2] }
  | _ => none }
def fnValOrderRow : OpenClaim := { program := "ytphchpbfhcniaaa", sum := "3a32eff5171e69e56a967b4c96fdd4c9fe298b9827f7c3d9199fc3a8d1d409ac", func := "loop.example/cribble/laws.FnValOrder", spec := "fnValOrder", unfollowed := true, recurses := true, apart := false }
def FnValOrderSaid : Prop := fnValOrderRow.holds Try.pinned (OpenSpec.ofChange fnValOrderSpec)

/-- ITS FALSE NEIGHBOUR: 'it returns false'. Refute it at one input. -/
def fnValOrderWrong : ChangeSpec := { name := "fnValOrder", fn := fun _ => fun
  | [d1, d2] => { results := [.lit (.bool false)], args := [d1, d2] }
  | _ => none }
def FnValOrderWrongFalsely : Prop := fnValOrderRow.holds Try.pinned (OpenSpec.ofChange fnValOrderWrong)

/-- 'laws.FnPartGet': WHATEVER THE INPUT: true; the input reads as it did. -/
def fnPartGetSpec : ChangeSpec := { name := "fnPartGet", fn := fun _ => fun
  | [d] => { results := [.lit (.bool true)], args := [d] }
  | _ => none }
def fnPartGetRow : OpenClaim := { program := "ytphchpbfhcniaaa", sum := "3a32eff5171e69e56a967b4c96fdd4c9fe298b9827f7c3d9199fc3a8d1d409ac", func := "loop.example/cribble/laws.FnPartGet", spec := "fnPartGet", unfollowed := true, recurses := true, apart := false }
def FnPartGetSaid : Prop := fnPartGetRow.holds Try.pinned (OpenSpec.ofChange fnPartGetSpec)

/-- ITS FALSE NEIGHBOUR: 'it returns false'. Refute it at one input. -/
def fnPartGetWrong : ChangeSpec := { name := "fnPartGet", fn := fun _ => fun
  | [d] => { results := [.lit (.bool false)], args := [d] }
  | _ => none }
def FnPartGetWrongFalsely : Prop := fnPartGetRow.holds Try.pinned (OpenSpec.ofChange fnPartGetWrong)

/-- 'laws.FnPartEach': WHATEVER THE INPUT: true; the input reads as it did. -/
def fnPartEachSpec : ChangeSpec := { name := "fnPartEach", fn := fun _ => fun
  | [d] => { results := [.lit (.bool true)], args := [d] }
  | _ => none }
def fnPartEachRow : OpenClaim := { program := "ytphchpbfhcniaaa", sum := "3a32eff5171e69e56a967b4c96fdd4c9fe298b9827f7c3d9199fc3a8d1d409ac", func := "loop.example/cribble/laws.FnPartEach", spec := "fnPartEach", inPlace := ["slices.overlaps[string]", "slices.overlaps[loop.example/cribble/impl.Val]"], unfollowed := true, recurses := true, apart := false }
def FnPartEachSaid : Prop := fnPartEachRow.holds Try.pinned (OpenSpec.ofChange fnPartEachSpec)

/-- ITS FALSE NEIGHBOUR: 'it returns false'. Refute it at one input. -/
def fnPartEachWrong : ChangeSpec := { name := "fnPartEach", fn := fun _ => fun
  | [d] => { results := [.lit (.bool false)], args := [d] }
  | _ => none }
def FnPartEachWrongFalsely : Prop := fnPartEachRow.holds Try.pinned (OpenSpec.ofChange fnPartEachWrong)

/-- 'laws.FnPathOne': WHATEVER THE INPUT: true; the input reads as it did. -/
def fnPathOneSpec : ChangeSpec := { name := "fnPathOne", fn := fun _ => fun
  | [d] => { results := [.lit (.bool true)], args := [d] }
  | _ => none }
def fnPathOneRow : OpenClaim := { program := "ytphchpbfhcniaaa", sum := "3a32eff5171e69e56a967b4c96fdd4c9fe298b9827f7c3d9199fc3a8d1d409ac", func := "loop.example/cribble/laws.FnPathOne", spec := "fnPathOne", unfollowed := true, recurses := true, apart := false }
def FnPathOneSaid : Prop := fnPathOneRow.holds Try.pinned (OpenSpec.ofChange fnPathOneSpec)

/-- ITS FALSE NEIGHBOUR: 'it returns false'. Refute it at one input. -/
def fnPathOneWrong : ChangeSpec := { name := "fnPathOne", fn := fun _ => fun
  | [d] => { results := [.lit (.bool false)], args := [d] }
  | _ => none }
def FnPathOneWrongFalsely : Prop := fnPathOneRow.holds Try.pinned (OpenSpec.ofChange fnPathOneWrong)

/- THE SECOND FORM. 'bulk': how many values and letters a reading holds, each counted each time it is reached (what is shared counts as often as it is met; a slice's spare places count too). A statement '..UptoSaid' is the law's where the arguments, and the package variables that the reading takes, are together of bulk at most 1048576: NARROWER than '..Said'. Prove '..Said' where nothing that the law and all that it calls make is longer than what came in: it says more and counts as full. Else prove '..UptoSaid'. A law counts once. -/
mutual
def uptoBulk {H : Type} : DataW H → Nat
  | .lit (.string bytes) => bytes.length + 1
  | .lit _ => 1
  | .nil => 1
  | .ptr d => uptoBulk d + 1
  | .slice elems spare => uptoBulkAll elems + uptoBulkAll spare + 1
  | .agg parts => uptoBulkAll parts + 1
  | .iface _ d => uptoBulk d + 1
  | .map entries => uptoBulkEntries entries + 1
  | .held _ => 1
def uptoBulkAll {H : Type} : List (DataW H) → Nat
  | [] => 0
  | d :: r => uptoBulk d + uptoBulkAll r
def uptoBulkEntries {H : Type} : List (Lit × DataW H) → Nat
  | [] => 0
  | x :: r => uptoBulkEntry x + uptoBulkEntries r
def uptoBulkEntry {H : Type} : Lit × DataW H → Nat
  | (.string bytes, d) => bytes.length + uptoBulk d + 1
  | (_, d) => uptoBulk d + 1
 end
def uptoSmall : (H : Type) → List (DataW H) → Bool := fun _ ds => decide (uptoBulkAll ds ≤ 1048576)
def OpenSpec.upto (s : _root_.Go.ChangeSpec) : _root_.Go.OpenSpec := { _root_.Go.OpenSpec.ofChange s with cond := some uptoSmall }

/-- 'laws.FnValMany', WHERE WHAT IT READS IS OF BULK AT MOST 1048576: true; the input reads as it did. -/
def fnValManyUptoRow : OpenClaim := { program := "ytphchpbfhcniaaa", sum := "3a32eff5171e69e56a967b4c96fdd4c9fe298b9827f7c3d9199fc3a8d1d409ac", func := "loop.example/cribble/laws.FnValMany", spec := "fnValMany", recurses := true, apart := false, narrowed := true }
def FnValManyUptoSaid : Prop := fnValManyUptoRow.holds Try.pinned (OpenSpec.upto fnValManySpec)

/-- 'laws.FnRowFlat', WHERE WHAT IT READS IS OF BULK AT MOST 1048576: true; the input reads as it did. -/
def fnRowFlatUptoRow : OpenClaim := { program := "ytphchpbfhcniaaa", sum := "3a32eff5171e69e56a967b4c96fdd4c9fe298b9827f7c3d9199fc3a8d1d409ac", func := "loop.example/cribble/laws.FnRowFlat", spec := "fnRowFlat", unfollowed := true, recurses := true, apart := false, narrowed := true }
def FnRowFlatUptoSaid : Prop := fnRowFlatUptoRow.holds Try.pinned (OpenSpec.upto fnRowFlatSpec)

/-- 'laws.FnPartAt', WHERE WHAT IT READS IS OF BULK AT MOST 1048576: true; the input reads as it did. -/
def fnPartAtUptoRow : OpenClaim := { program := "ytphchpbfhcniaaa", sum := "3a32eff5171e69e56a967b4c96fdd4c9fe298b9827f7c3d9199fc3a8d1d409ac", func := "loop.example/cribble/laws.FnPartAt", spec := "fnPartAt", unfollowed := true, recurses := true, apart := false, narrowed := true }
def FnPartAtUptoSaid : Prop := fnPartAtUptoRow.holds Try.pinned (OpenSpec.upto fnPartAtSpec)

/-- 'laws.FnValRow', WHERE WHAT IT READS IS OF BULK AT MOST 1048576: true; the input reads as it did. -/
def fnValRowUptoRow : OpenClaim := { program := "ytphchpbfhcniaaa", sum := "3a32eff5171e69e56a967b4c96fdd4c9fe298b9827f7c3d9199fc3a8d1d409ac", func := "loop.example/cribble/laws.FnValRow", spec := "fnValRow", unfollowed := true, recurses := true, apart := false, narrowed := true }
def FnValRowUptoSaid : Prop := fnValRowUptoRow.holds Try.pinned (OpenSpec.upto fnValRowSpec)

/-- 'laws.FnRowPiece', WHERE WHAT IT READS IS OF BULK AT MOST 1048576: true; the input reads as it did. -/
def fnRowPieceUptoRow : OpenClaim := { program := "ytphchpbfhcniaaa", sum := "3a32eff5171e69e56a967b4c96fdd4c9fe298b9827f7c3d9199fc3a8d1d409ac", func := "loop.example/cribble/laws.FnRowPiece", spec := "fnRowPiece", unfollowed := true, recurses := true, apart := false, narrowed := true }
def FnRowPieceUptoSaid : Prop := fnRowPieceUptoRow.holds Try.pinned (OpenSpec.upto fnRowPieceSpec)

/-- 'laws.FnValOrder', WHERE WHAT IT READS IS OF BULK AT MOST 1048576: true; the input reads as it did. -/
def fnValOrderUptoRow : OpenClaim := { program := "ytphchpbfhcniaaa", sum := "3a32eff5171e69e56a967b4c96fdd4c9fe298b9827f7c3d9199fc3a8d1d409ac", func := "loop.example/cribble/laws.FnValOrder", spec := "fnValOrder", unfollowed := true, recurses := true, apart := false, narrowed := true }
def FnValOrderUptoSaid : Prop := fnValOrderUptoRow.holds Try.pinned (OpenSpec.upto fnValOrderSpec)

/-- 'laws.FnPartGet', WHERE WHAT IT READS IS OF BULK AT MOST 1048576: true; the input reads as it did. -/
def fnPartGetUptoRow : OpenClaim := { program := "ytphchpbfhcniaaa", sum := "3a32eff5171e69e56a967b4c96fdd4c9fe298b9827f7c3d9199fc3a8d1d409ac", func := "loop.example/cribble/laws.FnPartGet", spec := "fnPartGet", unfollowed := true, recurses := true, apart := false, narrowed := true }
def FnPartGetUptoSaid : Prop := fnPartGetUptoRow.holds Try.pinned (OpenSpec.upto fnPartGetSpec)

/-- 'laws.FnPartEach', WHERE WHAT IT READS IS OF BULK AT MOST 1048576: true; the input reads as it did. -/
def fnPartEachUptoRow : OpenClaim := { program := "ytphchpbfhcniaaa", sum := "3a32eff5171e69e56a967b4c96fdd4c9fe298b9827f7c3d9199fc3a8d1d409ac", func := "loop.example/cribble/laws.FnPartEach", spec := "fnPartEach", inPlace := ["slices.overlaps[string]", "slices.overlaps[loop.example/cribble/impl.Val]"], unfollowed := true, recurses := true, apart := false, narrowed := true }
def FnPartEachUptoSaid : Prop := fnPartEachUptoRow.holds Try.pinned (OpenSpec.upto fnPartEachSpec)

/-- 'laws.FnPathOne', WHERE WHAT IT READS IS OF BULK AT MOST 1048576: true; the input reads as it did. -/
def fnPathOneUptoRow : OpenClaim := { program := "ytphchpbfhcniaaa", sum := "3a32eff5171e69e56a967b4c96fdd4c9fe298b9827f7c3d9199fc3a8d1d409ac", func := "loop.example/cribble/laws.FnPathOne", spec := "fnPathOne", unfollowed := true, recurses := true, apart := false, narrowed := true }
def FnPathOneUptoSaid : Prop := fnPathOneUptoRow.holds Try.pinned (OpenSpec.upto fnPathOneSpec)

end Rows
end Go.Proofs.Ytphchpbfhcniaaa
