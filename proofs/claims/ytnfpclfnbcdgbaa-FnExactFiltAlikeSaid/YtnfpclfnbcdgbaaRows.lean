/-
  NARROWER THAN 'FOR EVERY INPUT', by the rows' own cells (each row's printed sentence says how): FnExactValSame: loops · FnExactValOk: loops · FnExactValMany: loops · FnExactValOrder: loops · FnExactFiltAlike: loops · FnExactRowHas: loops · FnExactPartEach: loops.
  DERIVED. THE GIVEN ROWS OF THIS SEAT. 12 by the template 'for every input the law returns true; each argument reads behind the call as it read before'; 0 by the template 'total and deterministic' (their statements: YtnfpclfnbcdgbaaTotals.lean).
  GIVEN WITH THE SEED: the statements are not yours to turn. If you find one false, say at which input.
  Laid BY PROGRAM, IN A SANDBOX (cutbox-rows.mjs): the forced cells as the released guide's own fill.sh prints them over the translation 3535dda81f6cb30a… (all of the seat's roots in one cut). By AI agents, Wed Nov 11 2026. No macro, syntax, notation, axiom, sorry.
-/
import Derived.Test.YtnfpclfnbcdgbaaChecked
import GoSem.Claim
import GoSem.ClaimJoined
import GoSem.ClaimMapViews
import Derived.JoinedTies
import Derived.KernelRfl
namespace Go.Proofs.Ytnfpclfnbcdgbaa
/- THE CELL 'sum', in the pinned program and in every row, IS THE sha256 OF THE DUMP (.gsa) THAT YtnfpclfnbcdgbaaProg.lean LOADS. Nothing in Lean hashes anything: it is a label: what it is worth is what the hold of that sum in a sandbox is worth. -/
noncomputable def Try.pinned : Pinned := { name := "ytnfpclfnbcdgbaa", sum := "3535dda81f6cb30a250f02fc79cd358694bfba613732b8a8b10534d12eede311", checked := Try.checked }
namespace Rows
def none {H : Type} : Left H := { results := [], args := [] }

/-- 'laws.FnExactConstants': WHATEVER THE INPUT: true; the input reads as it did. -/
def fnExactConstantsSpec : ChangeSpec := { name := "fnExactConstants", fn := fun _ => fun
  | [] => { results := [.lit (.bool true)], args := [] }
  | _ => none }
def fnExactConstantsRow : OpenClaim := { program := "ytnfpclfnbcdgbaa", sum := "3535dda81f6cb30a250f02fc79cd358694bfba613732b8a8b10534d12eede311", func := "loop.example/cribble/laws.FnExactConstants", spec := "fnExactConstants", apart := false }
def FnExactConstantsSaid : Prop := fnExactConstantsRow.holds Try.pinned (OpenSpec.ofChange fnExactConstantsSpec)

/-- ITS FALSE NEIGHBOUR: 'it returns false'. Refute it at one input. -/
def fnExactConstantsWrong : ChangeSpec := { name := "fnExactConstants", fn := fun _ => fun
  | [] => { results := [.lit (.bool false)], args := [] }
  | _ => none }
def FnExactConstantsWrongFalsely : Prop := fnExactConstantsRow.holds Try.pinned (OpenSpec.ofChange fnExactConstantsWrong)

/-- 'laws.FnExactPathOk': WHATEVER THE INPUT: true; the input reads as it did. -/
def fnExactPathOkSpec : ChangeSpec := { name := "fnExactPathOk", fn := fun _ => fun
  | [d] => { results := [.lit (.bool true)], args := [d] }
  | _ => none }
def fnExactPathOkRow : OpenClaim := { program := "ytnfpclfnbcdgbaa", sum := "3535dda81f6cb30a250f02fc79cd358694bfba613732b8a8b10534d12eede311", func := "loop.example/cribble/laws.FnExactPathOk", spec := "fnExactPathOk", apart := false }
def FnExactPathOkSaid : Prop := fnExactPathOkRow.holds Try.pinned (OpenSpec.ofChange fnExactPathOkSpec)

/-- ITS FALSE NEIGHBOUR: 'it returns false'. Refute it at one input. -/
def fnExactPathOkWrong : ChangeSpec := { name := "fnExactPathOk", fn := fun _ => fun
  | [d] => { results := [.lit (.bool false)], args := [d] }
  | _ => none }
def FnExactPathOkWrongFalsely : Prop := fnExactPathOkRow.holds Try.pinned (OpenSpec.ofChange fnExactPathOkWrong)

/-- 'laws.FnExactValSame': WHATEVER THE INPUT: true; the input reads as it did. -/
def fnExactValSameSpec : ChangeSpec := { name := "fnExactValSame", fn := fun _ => fun
  | [d1, d2] => { results := [.lit (.bool true)], args := [d1, d2] }
  | _ => none }
def fnExactValSameRow : OpenClaim := { program := "ytnfpclfnbcdgbaa", sum := "3535dda81f6cb30a250f02fc79cd358694bfba613732b8a8b10534d12eede311", func := "loop.example/cribble/laws.FnExactValSame", spec := "fnExactValSame", unfollowed := true, recurses := true, loops := true, apart := false }
def FnExactValSameSaid : Prop := fnExactValSameRow.holds Try.pinned (OpenSpec.ofChange fnExactValSameSpec)

/-- ITS FALSE NEIGHBOUR: 'it returns false'. Refute it at one input. -/
def fnExactValSameWrong : ChangeSpec := { name := "fnExactValSame", fn := fun _ => fun
  | [d1, d2] => { results := [.lit (.bool false)], args := [d1, d2] }
  | _ => none }
def FnExactValSameWrongFalsely : Prop := fnExactValSameRow.holds Try.pinned (OpenSpec.ofChange fnExactValSameWrong)

/-- 'laws.FnExactValOk': WHATEVER THE INPUT: true; the input reads as it did. -/
def fnExactValOkSpec : ChangeSpec := { name := "fnExactValOk", fn := fun _ => fun
  | [d] => { results := [.lit (.bool true)], args := [d] }
  | _ => none }
def fnExactValOkRow : OpenClaim := { program := "ytnfpclfnbcdgbaa", sum := "3535dda81f6cb30a250f02fc79cd358694bfba613732b8a8b10534d12eede311", func := "loop.example/cribble/laws.FnExactValOk", spec := "fnExactValOk", recurses := true, loops := true, apart := false }
def FnExactValOkSaid : Prop := fnExactValOkRow.holds Try.pinned (OpenSpec.ofChange fnExactValOkSpec)

/-- ITS FALSE NEIGHBOUR: 'it returns false'. Refute it at one input. -/
def fnExactValOkWrong : ChangeSpec := { name := "fnExactValOk", fn := fun _ => fun
  | [d] => { results := [.lit (.bool false)], args := [d] }
  | _ => none }
def FnExactValOkWrongFalsely : Prop := fnExactValOkRow.holds Try.pinned (OpenSpec.ofChange fnExactValOkWrong)

/-- 'laws.FnValMany': WHATEVER THE INPUT: true; the input reads as it did. -/
def fnValManySpec : ChangeSpec := { name := "fnValMany", fn := fun _ => fun
  | [d] => { results := [.lit (.bool true)], args := [d] }
  | _ => none }
def fnValManyRow : OpenClaim := { program := "ytnfpclfnbcdgbaa", sum := "3535dda81f6cb30a250f02fc79cd358694bfba613732b8a8b10534d12eede311", func := "loop.example/cribble/laws.FnValMany", spec := "fnValMany", recurses := true, apart := false }
def FnValManySaid : Prop := fnValManyRow.holds Try.pinned (OpenSpec.ofChange fnValManySpec)

/-- ITS FALSE NEIGHBOUR: 'it returns false'. Refute it at one input. -/
def fnValManyWrong : ChangeSpec := { name := "fnValMany", fn := fun _ => fun
  | [d] => { results := [.lit (.bool false)], args := [d] }
  | _ => none }
def FnValManyWrongFalsely : Prop := fnValManyRow.holds Try.pinned (OpenSpec.ofChange fnValManyWrong)

/-- 'laws.FnRowHas': WHATEVER THE INPUT: true; the input reads as it did. -/
def fnRowHasSpec : ChangeSpec := { name := "fnRowHas", fn := fun _ => fun
  | [d] => { results := [.lit (.bool true)], args := [d] }
  | _ => none }
def fnRowHasRow : OpenClaim := { program := "ytnfpclfnbcdgbaa", sum := "3535dda81f6cb30a250f02fc79cd358694bfba613732b8a8b10534d12eede311", func := "loop.example/cribble/laws.FnRowHas", spec := "fnRowHas", unfollowed := true, recurses := true, apart := false }
def FnRowHasSaid : Prop := fnRowHasRow.holds Try.pinned (OpenSpec.ofChange fnRowHasSpec)

/-- ITS FALSE NEIGHBOUR: 'it returns false'. Refute it at one input. -/
def fnRowHasWrong : ChangeSpec := { name := "fnRowHas", fn := fun _ => fun
  | [d] => { results := [.lit (.bool false)], args := [d] }
  | _ => none }
def FnRowHasWrongFalsely : Prop := fnRowHasRow.holds Try.pinned (OpenSpec.ofChange fnRowHasWrong)

/-- 'laws.FnExactValMany': WHATEVER THE INPUT: true; the input reads as it did. -/
def fnExactValManySpec : ChangeSpec := { name := "fnExactValMany", fn := fun _ => fun
  | [d] => { results := [.lit (.bool true)], args := [d] }
  | _ => none }
def fnExactValManyRow : OpenClaim := { program := "ytnfpclfnbcdgbaa", sum := "3535dda81f6cb30a250f02fc79cd358694bfba613732b8a8b10534d12eede311", func := "loop.example/cribble/laws.FnExactValMany", spec := "fnExactValMany", recurses := true, loops := true, apart := false }
def FnExactValManySaid : Prop := fnExactValManyRow.holds Try.pinned (OpenSpec.ofChange fnExactValManySpec)

/-- ITS FALSE NEIGHBOUR: 'it returns false'. Refute it at one input. -/
def fnExactValManyWrong : ChangeSpec := { name := "fnExactValMany", fn := fun _ => fun
  | [d] => { results := [.lit (.bool false)], args := [d] }
  | _ => none }
def FnExactValManyWrongFalsely : Prop := fnExactValManyRow.holds Try.pinned (OpenSpec.ofChange fnExactValManyWrong)

/-- 'laws.FnExactValOrder': WHATEVER THE INPUT: true; the input reads as it did. -/
def fnExactValOrderSpec : ChangeSpec := { name := "fnExactValOrder", fn := fun _ => fun
  | [d1, d2] => { results := [.lit (.bool true)], args := [d1, d2] }
  | _ => none }
def fnExactValOrderRow : OpenClaim := { program := "ytnfpclfnbcdgbaa", sum := "3535dda81f6cb30a250f02fc79cd358694bfba613732b8a8b10534d12eede311", func := "loop.example/cribble/laws.FnExactValOrder", spec := "fnExactValOrder", unfollowed := true, recurses := true, loops := true, apart := false }
def FnExactValOrderSaid : Prop := fnExactValOrderRow.holds Try.pinned (OpenSpec.ofChange fnExactValOrderSpec)

/-- ITS FALSE NEIGHBOUR: 'it returns false'. Refute it at one input. -/
def fnExactValOrderWrong : ChangeSpec := { name := "fnExactValOrder", fn := fun _ => fun
  | [d1, d2] => { results := [.lit (.bool false)], args := [d1, d2] }
  | _ => none }
def FnExactValOrderWrongFalsely : Prop := fnExactValOrderRow.holds Try.pinned (OpenSpec.ofChange fnExactValOrderWrong)

/-- 'laws.FnExactFiltAlike': WHATEVER THE INPUT: true; the input reads as it did. -/
def fnExactFiltAlikeSpec : ChangeSpec := { name := "fnExactFiltAlike", fn := fun _ => fun
  | [d1, d2] => { results := [.lit (.bool true)], args := [d1, d2] }
  | _ => none }
def fnExactFiltAlikeRow : OpenClaim := { program := "ytnfpclfnbcdgbaa", sum := "3535dda81f6cb30a250f02fc79cd358694bfba613732b8a8b10534d12eede311", func := "loop.example/cribble/laws.FnExactFiltAlike", spec := "fnExactFiltAlike", unfollowed := true, recurses := true, loops := true, apart := false }
def FnExactFiltAlikeSaid : Prop := fnExactFiltAlikeRow.holds Try.pinned (OpenSpec.ofChange fnExactFiltAlikeSpec)

/-- ITS FALSE NEIGHBOUR: 'it returns false'. Refute it at one input. -/
def fnExactFiltAlikeWrong : ChangeSpec := { name := "fnExactFiltAlike", fn := fun _ => fun
  | [d1, d2] => { results := [.lit (.bool false)], args := [d1, d2] }
  | _ => none }
def FnExactFiltAlikeWrongFalsely : Prop := fnExactFiltAlikeRow.holds Try.pinned (OpenSpec.ofChange fnExactFiltAlikeWrong)

/-- 'laws.FnExactRowHas': WHATEVER THE INPUT: true; the input reads as it did. -/
def fnExactRowHasSpec : ChangeSpec := { name := "fnExactRowHas", fn := fun _ => fun
  | [d1, d2] => { results := [.lit (.bool true)], args := [d1, d2] }
  | _ => none }
def fnExactRowHasRow : OpenClaim := { program := "ytnfpclfnbcdgbaa", sum := "3535dda81f6cb30a250f02fc79cd358694bfba613732b8a8b10534d12eede311", func := "loop.example/cribble/laws.FnExactRowHas", spec := "fnExactRowHas", unfollowed := true, recurses := true, loops := true, apart := false }
def FnExactRowHasSaid : Prop := fnExactRowHasRow.holds Try.pinned (OpenSpec.ofChange fnExactRowHasSpec)

/-- ITS FALSE NEIGHBOUR: 'it returns false'. Refute it at one input. -/
def fnExactRowHasWrong : ChangeSpec := { name := "fnExactRowHas", fn := fun _ => fun
  | [d1, d2] => { results := [.lit (.bool false)], args := [d1, d2] }
  | _ => none }
def FnExactRowHasWrongFalsely : Prop := fnExactRowHasRow.holds Try.pinned (OpenSpec.ofChange fnExactRowHasWrong)

/-- 'laws.FnRowFlat': WHATEVER THE INPUT: true; the input reads as it did. -/
def fnRowFlatSpec : ChangeSpec := { name := "fnRowFlat", fn := fun _ => fun
  | [d] => { results := [.lit (.bool true)], args := [d] }
  | _ => none }
def fnRowFlatRow : OpenClaim := { program := "ytnfpclfnbcdgbaa", sum := "3535dda81f6cb30a250f02fc79cd358694bfba613732b8a8b10534d12eede311", func := "loop.example/cribble/laws.FnRowFlat", spec := "fnRowFlat", unfollowed := true, recurses := true, apart := false }
def FnRowFlatSaid : Prop := fnRowFlatRow.holds Try.pinned (OpenSpec.ofChange fnRowFlatSpec)

/-- ITS FALSE NEIGHBOUR: 'it returns false'. Refute it at one input. -/
def fnRowFlatWrong : ChangeSpec := { name := "fnRowFlat", fn := fun _ => fun
  | [d] => { results := [.lit (.bool false)], args := [d] }
  | _ => none }
def FnRowFlatWrongFalsely : Prop := fnRowFlatRow.holds Try.pinned (OpenSpec.ofChange fnRowFlatWrong)

/-- 'laws.FnExactPartEach': WHATEVER THE INPUT: true; the input reads as it did. -/
def fnExactPartEachSpec : ChangeSpec := { name := "fnExactPartEach", fn := fun _ => fun
  | [d] => { results := [.lit (.bool true)], args := [d] }
  | _ => none }
def fnExactPartEachRow : OpenClaim := { program := "ytnfpclfnbcdgbaa", sum := "3535dda81f6cb30a250f02fc79cd358694bfba613732b8a8b10534d12eede311", func := "loop.example/cribble/laws.FnExactPartEach", spec := "fnExactPartEach", recurses := true, loops := true, apart := false }
def FnExactPartEachSaid : Prop := fnExactPartEachRow.holds Try.pinned (OpenSpec.ofChange fnExactPartEachSpec)

/-- ITS FALSE NEIGHBOUR: 'it returns false'. Refute it at one input. -/
def fnExactPartEachWrong : ChangeSpec := { name := "fnExactPartEach", fn := fun _ => fun
  | [d] => { results := [.lit (.bool false)], args := [d] }
  | _ => none }
def FnExactPartEachWrongFalsely : Prop := fnExactPartEachRow.holds Try.pinned (OpenSpec.ofChange fnExactPartEachWrong)

/- THE SECOND FORM. 'bulk': how many values and letters a reading holds, each counted each time it is reached (what is shared counts as often as it is met; a slice's spare places count too). A statement '..UptoSaid' is the law's where the arguments, and the package variables that the reading takes, are together of bulk at most 1048576: NARROWER than '..Said'. Prove '..Said' where nothing that the law and all that it calls make is longer than what came in: it says more and counts as full. Else prove '..UptoSaid'. A law counts once. -/
mutual
def uptoBulk {H : Type} : DataW H → Nat
  | .lit (.string bytes) => bytes.length + 1
  | .lit _ => 1
  | .nil => 1
  | .ptr d => uptoBulk d + 1
  | .slice elems spare => uptoBulkAll elems + uptoBulkAll spare + 1
  | .agg parts => uptoBulkAll parts + 1
  | .iface _ d => uptoBulk d + 1
  | .map entries => uptoBulkEntries entries + 1
  | .held _ => 1
def uptoBulkAll {H : Type} : List (DataW H) → Nat
  | [] => 0
  | d :: r => uptoBulk d + uptoBulkAll r
def uptoBulkEntries {H : Type} : List (Lit × DataW H) → Nat
  | [] => 0
  | x :: r => uptoBulkEntry x + uptoBulkEntries r
def uptoBulkEntry {H : Type} : Lit × DataW H → Nat
  | (.string bytes, d) => bytes.length + uptoBulk d + 1
  | (_, d) => uptoBulk d + 1
 end
def uptoSmall : (H : Type) → List (DataW H) → Bool := fun _ ds => decide (uptoBulkAll ds ≤ 1048576)
def OpenSpec.upto (s : _root_.Go.ChangeSpec) : _root_.Go.OpenSpec := { _root_.Go.OpenSpec.ofChange s with cond := some uptoSmall }

/-- 'laws.FnExactConstants', WHERE WHAT IT READS IS OF BULK AT MOST 1048576: true; the input reads as it did. -/
def fnExactConstantsUptoRow : OpenClaim := { program := "ytnfpclfnbcdgbaa", sum := "3535dda81f6cb30a250f02fc79cd358694bfba613732b8a8b10534d12eede311", func := "loop.example/cribble/laws.FnExactConstants", spec := "fnExactConstants", apart := false, narrowed := true }
def FnExactConstantsUptoSaid : Prop := fnExactConstantsUptoRow.holds Try.pinned (OpenSpec.upto fnExactConstantsSpec)

/-- 'laws.FnExactPathOk', WHERE WHAT IT READS IS OF BULK AT MOST 1048576: true; the input reads as it did. -/
def fnExactPathOkUptoRow : OpenClaim := { program := "ytnfpclfnbcdgbaa", sum := "3535dda81f6cb30a250f02fc79cd358694bfba613732b8a8b10534d12eede311", func := "loop.example/cribble/laws.FnExactPathOk", spec := "fnExactPathOk", apart := false, narrowed := true }
def FnExactPathOkUptoSaid : Prop := fnExactPathOkUptoRow.holds Try.pinned (OpenSpec.upto fnExactPathOkSpec)

/-- 'laws.FnExactValSame', WHERE WHAT IT READS IS OF BULK AT MOST 1048576: true; the input reads as it did. -/
def fnExactValSameUptoRow : OpenClaim := { program := "ytnfpclfnbcdgbaa", sum := "3535dda81f6cb30a250f02fc79cd358694bfba613732b8a8b10534d12eede311", func := "loop.example/cribble/laws.FnExactValSame", spec := "fnExactValSame", unfollowed := true, recurses := true, loops := true, apart := false, narrowed := true }
def FnExactValSameUptoSaid : Prop := fnExactValSameUptoRow.holds Try.pinned (OpenSpec.upto fnExactValSameSpec)

/-- 'laws.FnExactValOk', WHERE WHAT IT READS IS OF BULK AT MOST 1048576: true; the input reads as it did. -/
def fnExactValOkUptoRow : OpenClaim := { program := "ytnfpclfnbcdgbaa", sum := "3535dda81f6cb30a250f02fc79cd358694bfba613732b8a8b10534d12eede311", func := "loop.example/cribble/laws.FnExactValOk", spec := "fnExactValOk", recurses := true, loops := true, apart := false, narrowed := true }
def FnExactValOkUptoSaid : Prop := fnExactValOkUptoRow.holds Try.pinned (OpenSpec.upto fnExactValOkSpec)

/-- 'laws.FnValMany', WHERE WHAT IT READS IS OF BULK AT MOST 1048576: true; the input reads as it did. -/
def fnValManyUptoRow : OpenClaim := { program := "ytnfpclfnbcdgbaa", sum := "3535dda81f6cb30a250f02fc79cd358694bfba613732b8a8b10534d12eede311", func := "loop.example/cribble/laws.FnValMany", spec := "fnValMany", recurses := true, apart := false, narrowed := true }
def FnValManyUptoSaid : Prop := fnValManyUptoRow.holds Try.pinned (OpenSpec.upto fnValManySpec)

/-- 'laws.FnRowHas', WHERE WHAT IT READS IS OF BULK AT MOST 1048576: true; the input reads as it did. -/
def fnRowHasUptoRow : OpenClaim := { program := "ytnfpclfnbcdgbaa", sum := "3535dda81f6cb30a250f02fc79cd358694bfba613732b8a8b10534d12eede311", func := "loop.example/cribble/laws.FnRowHas", spec := "fnRowHas", unfollowed := true, recurses := true, apart := false, narrowed := true }
def FnRowHasUptoSaid : Prop := fnRowHasUptoRow.holds Try.pinned (OpenSpec.upto fnRowHasSpec)

/-- 'laws.FnExactValMany', WHERE WHAT IT READS IS OF BULK AT MOST 1048576: true; the input reads as it did. -/
def fnExactValManyUptoRow : OpenClaim := { program := "ytnfpclfnbcdgbaa", sum := "3535dda81f6cb30a250f02fc79cd358694bfba613732b8a8b10534d12eede311", func := "loop.example/cribble/laws.FnExactValMany", spec := "fnExactValMany", recurses := true, loops := true, apart := false, narrowed := true }
def FnExactValManyUptoSaid : Prop := fnExactValManyUptoRow.holds Try.pinned (OpenSpec.upto fnExactValManySpec)

/-- 'laws.FnExactValOrder', WHERE WHAT IT READS IS OF BULK AT MOST 1048576: true; the input reads as it did. -/
def fnExactValOrderUptoRow : OpenClaim := { program := "ytnfpclfnbcdgbaa", sum := "3535dda81f6cb30a250f02fc79cd358694bfba613732b8a8b10534d12eede311", func := "loop.example/cribble/laws.FnExactValOrder", spec := "fnExactValOrder", unfollowed := true, recurses := true, loops := true, apart := false, narrowed := true }
def FnExactValOrderUptoSaid : Prop := fnExactValOrderUptoRow.holds Try.pinned (OpenSpec.upto fnExactValOrderSpec)

/-- 'laws.FnExactFiltAlike', WHERE WHAT IT READS IS OF BULK AT MOST 1048576: true; the input reads as it did. -/
def fnExactFiltAlikeUptoRow : OpenClaim := { program := "ytnfpclfnbcdgbaa", sum := "3535dda81f6cb30a250f02fc79cd358694bfba613732b8a8b10534d12eede311", func := "loop.example/cribble/laws.FnExactFiltAlike", spec := "fnExactFiltAlike", unfollowed := true, recurses := true, loops := true, apart := false, narrowed := true }
def FnExactFiltAlikeUptoSaid : Prop := fnExactFiltAlikeUptoRow.holds Try.pinned (OpenSpec.upto fnExactFiltAlikeSpec)

/-- 'laws.FnExactRowHas', WHERE WHAT IT READS IS OF BULK AT MOST 1048576: true; the input reads as it did. -/
def fnExactRowHasUptoRow : OpenClaim := { program := "ytnfpclfnbcdgbaa", sum := "3535dda81f6cb30a250f02fc79cd358694bfba613732b8a8b10534d12eede311", func := "loop.example/cribble/laws.FnExactRowHas", spec := "fnExactRowHas", unfollowed := true, recurses := true, loops := true, apart := false, narrowed := true }
def FnExactRowHasUptoSaid : Prop := fnExactRowHasUptoRow.holds Try.pinned (OpenSpec.upto fnExactRowHasSpec)

/-- 'laws.FnRowFlat', WHERE WHAT IT READS IS OF BULK AT MOST 1048576: true; the input reads as it did. -/
def fnRowFlatUptoRow : OpenClaim := { program := "ytnfpclfnbcdgbaa", sum := "3535dda81f6cb30a250f02fc79cd358694bfba613732b8a8b10534d12eede311", func := "loop.example/cribble/laws.FnRowFlat", spec := "fnRowFlat", unfollowed := true, recurses := true, apart := false, narrowed := true }
def FnRowFlatUptoSaid : Prop := fnRowFlatUptoRow.holds Try.pinned (OpenSpec.upto fnRowFlatSpec)

/-- 'laws.FnExactPartEach', WHERE WHAT IT READS IS OF BULK AT MOST 1048576: true; the input reads as it did. -/
def fnExactPartEachUptoRow : OpenClaim := { program := "ytnfpclfnbcdgbaa", sum := "3535dda81f6cb30a250f02fc79cd358694bfba613732b8a8b10534d12eede311", func := "loop.example/cribble/laws.FnExactPartEach", spec := "fnExactPartEach", recurses := true, loops := true, apart := false, narrowed := true }
def FnExactPartEachUptoSaid : Prop := fnExactPartEachUptoRow.holds Try.pinned (OpenSpec.upto fnExactPartEachSpec)

end Rows
end Go.Proofs.Ytnfpclfnbcdgbaa
