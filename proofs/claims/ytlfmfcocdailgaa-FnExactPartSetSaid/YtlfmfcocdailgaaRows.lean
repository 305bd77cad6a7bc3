/-
  NARROWER THAN 'FOR EVERY INPUT', by the rows' own cells (each row's printed sentence says how): FnExactPartLen: loops · FnExactPartKeys: loops · FnExactPartSet: loops · FnExactPartGet: loops · FnExactPartAt: loops · FnExactPartPut: loops · FnExactRowPairs: loops · FnExactRowFlat: loops · FnExactRowBack: loops · FnExactRowCut: loops · FnExactRowKeys: loops · FnExactPathGet: loops.
  DERIVED. THE GIVEN ROWS OF THIS SEAT. 12 by the template 'for every input the law returns true; each argument reads behind the call as it read before'; 0 by the template 'total and deterministic' (their statements: YtlfmfcocdailgaaTotals.lean).
  GIVEN WITH THE SEED: the statements are not yours to turn. If you find one false, say at which input.
  Laid BY PROGRAM, IN A SANDBOX (cutbox-rows.mjs): the forced cells as the released guide's own fill.sh prints them over the translation 709dbedf54c67d7b… (all of the seat's roots in one cut). By AI agents, Wed Nov 11 2026. No macro, syntax, notation, axiom, sorry.
-/
import Derived.Test.YtlfmfcocdailgaaChecked
import GoSem.Claim
import GoSem.ClaimJoined
import GoSem.ClaimMapViews
import Derived.JoinedTies
import Derived.KernelRfl
namespace Go.Proofs.Ytlfmfcocdailgaa
/- THE CELL 'sum', in the pinned program and in every row, IS THE sha256 OF THE DUMP (.gsa) THAT YtlfmfcocdailgaaProg.lean LOADS. Nothing in Lean hashes anything: it is a label: what it is worth is what the hold of that sum in a sandbox is worth. -/
noncomputable def Try.pinned : Pinned := { name := "ytlfmfcocdailgaa", sum := "709dbedf54c67d7b198ca66ffdcee63c0a21b9cac6aa8bd8c8767b65648b5861", checked := Try.checked }
namespace Rows
def none {H : Type} : Left H := { results := [], args := [] }

/-- 'laws.FnExactPartLen': WHATEVER THE INPUT: true; the input reads as it did. -/
def fnExactPartLenSpec : ChangeSpec := { name := "fnExactPartLen", fn := fun _ => fun
  | [d] => { results := [.lit (.bool true)], args := [d] }
  | _ => none }
def fnExactPartLenRow : OpenClaim := { program := "ytlfmfcocdailgaa", sum := "709dbedf54c67d7b198ca66ffdcee63c0a21b9cac6aa8bd8c8767b65648b5861", func := "loop.example/cribble/laws.FnExactPartLen", spec := "fnExactPartLen", recurses := true, loops := true, apart := false }
def FnExactPartLenSaid : Prop := fnExactPartLenRow.holds Try.pinned (OpenSpec.ofChange fnExactPartLenSpec)

/-- ITS FALSE NEIGHBOUR: 'it returns false'. Refute it at one input. -/
def fnExactPartLenWrong : ChangeSpec := { name := "fnExactPartLen", fn := fun _ => fun
  | [d] => { results := [.lit (.bool false)], args := [d] }
  | _ => none }
def FnExactPartLenWrongFalsely : Prop := fnExactPartLenRow.holds Try.pinned (OpenSpec.ofChange fnExactPartLenWrong)

/-- 'laws.FnExactPartKeys': WHATEVER THE INPUT: true; the input reads as it did. -/
def fnExactPartKeysSpec : ChangeSpec := { name := "fnExactPartKeys", fn := fun _ => fun
  | [d] => { results := [.lit (.bool true)], args := [d] }
  | _ => none }
def fnExactPartKeysRow : OpenClaim := { program := "ytlfmfcocdailgaa", sum := "709dbedf54c67d7b198ca66ffdcee63c0a21b9cac6aa8bd8c8767b65648b5861", func := "loop.example/cribble/laws.FnExactPartKeys", spec := "fnExactPartKeys", recurses := true, loops := true, apart := false }
def FnExactPartKeysSaid : Prop := fnExactPartKeysRow.holds Try.pinned (OpenSpec.ofChange fnExactPartKeysSpec)

/-- ITS FALSE NEIGHBOUR: 'it returns false'. Refute it at one input. -/
def fnExactPartKeysWrong : ChangeSpec := { name := "fnExactPartKeys", fn := fun _ => fun
  | [d] => { results := [.lit (.bool false)], args := [d] }
  | _ => none }
def FnExactPartKeysWrongFalsely : Prop := fnExactPartKeysRow.holds Try.pinned (OpenSpec.ofChange fnExactPartKeysWrong)

/-- 'laws.FnExactPartSet': WHATEVER THE INPUT: true; the input reads as it did. -/
def fnExactPartSetSpec : ChangeSpec := { name := "fnExactPartSet", fn := fun _ => fun
  | [d1, d2, d3] => { results := [.lit (.bool true)], args := [d1, d2, d3] }
  | _ => none }
def fnExactPartSetRow : OpenClaim := { program := "ytlfmfcocdailgaa", sum := "709dbedf54c67d7b198ca66ffdcee63c0a21b9cac6aa8bd8c8767b65648b5861", func := "loop.example/cribble/laws.FnExactPartSet", spec := "fnExactPartSet", recurses := true, loops := true, apart := false }
def FnExactPartSetSaid : Prop := fnExactPartSetRow.holds Try.pinned (OpenSpec.ofChange fnExactPartSetSpec)

/-- ITS FALSE NEIGHBOUR: 'it returns false'. Refute it at one input. -/
def fnExactPartSetWrong : ChangeSpec := { name := "fnExactPartSet", fn := fun _ => fun
  | [d1, d2, d3] => { results := [.lit (.bool false)], args := [d1, d2, d3] }
  | _ => none }
def FnExactPartSetWrongFalsely : Prop := fnExactPartSetRow.holds Try.pinned (OpenSpec.ofChange fnExactPartSetWrong)

/-- 'laws.FnExactPartGet': WHATEVER THE INPUT: true; the input reads as it did. -/
def fnExactPartGetSpec : ChangeSpec := { name := "fnExactPartGet", fn := fun _ => fun
  | [d1, d2] => { results := [.lit (.bool true)], args := [d1, d2] }
  | _ => none }
def fnExactPartGetRow : OpenClaim := { program := "ytlfmfcocdailgaa", sum := "709dbedf54c67d7b198ca66ffdcee63c0a21b9cac6aa8bd8c8767b65648b5861", func := "loop.example/cribble/laws.FnExactPartGet", spec := "fnExactPartGet", recurses := true, loops := true, apart := false }
def FnExactPartGetSaid : Prop := fnExactPartGetRow.holds Try.pinned (OpenSpec.ofChange fnExactPartGetSpec)

/-- ITS FALSE NEIGHBOUR: 'it returns false'. Refute it at one input. -/
def fnExactPartGetWrong : ChangeSpec := { name := "fnExactPartGet", fn := fun _ => fun
  | [d1, d2] => { results := [.lit (.bool false)], args := [d1, d2] }
  | _ => none }
def FnExactPartGetWrongFalsely : Prop := fnExactPartGetRow.holds Try.pinned (OpenSpec.ofChange fnExactPartGetWrong)

/-- 'laws.FnExactPartAt': WHATEVER THE INPUT: true; the input reads as it did. -/
def fnExactPartAtSpec : ChangeSpec := { name := "fnExactPartAt", fn := fun _ => fun
  | [d1, d2] => { results := [.lit (.bool true)], args := [d1, d2] }
  | _ => none }
def fnExactPartAtRow : OpenClaim := { program := "ytlfmfcocdailgaa", sum := "709dbedf54c67d7b198ca66ffdcee63c0a21b9cac6aa8bd8c8767b65648b5861", func := "loop.example/cribble/laws.FnExactPartAt", spec := "fnExactPartAt", recurses := true, loops := true, apart := false }
def FnExactPartAtSaid : Prop := fnExactPartAtRow.holds Try.pinned (OpenSpec.ofChange fnExactPartAtSpec)

/-- ITS FALSE NEIGHBOUR: 'it returns false'. Refute it at one input. -/
def fnExactPartAtWrong : ChangeSpec := { name := "fnExactPartAt", fn := fun _ => fun
  | [d1, d2] => { results := [.lit (.bool false)], args := [d1, d2] }
  | _ => none }
def FnExactPartAtWrongFalsely : Prop := fnExactPartAtRow.holds Try.pinned (OpenSpec.ofChange fnExactPartAtWrong)

/-- 'laws.FnExactPartPut': WHATEVER THE INPUT: true; the input reads as it did. -/
def fnExactPartPutSpec : ChangeSpec := { name := "fnExactPartPut", fn := fun _ => fun
  | [d1, d2, d3] => { results := [.lit (.bool true)], args := [d1, d2, d3] }
  | _ => none }
def fnExactPartPutRow : OpenClaim := { program := "ytlfmfcocdailgaa", sum := "709dbedf54c67d7b198ca66ffdcee63c0a21b9cac6aa8bd8c8767b65648b5861", func := "loop.example/cribble/laws.FnExactPartPut", spec := "fnExactPartPut", inPlace := ["slices.overlaps[string]", "slices.overlaps[loop.example/cribble/impl.Val]"], recurses := true, loops := true, apart := false }
def FnExactPartPutSaid : Prop := fnExactPartPutRow.holds Try.pinned (OpenSpec.ofChange fnExactPartPutSpec)

/-- ITS FALSE NEIGHBOUR: 'it returns false'. Refute it at one input. -/
def fnExactPartPutWrong : ChangeSpec := { name := "fnExactPartPut", fn := fun _ => fun
  | [d1, d2, d3] => { results := [.lit (.bool false)], args := [d1, d2, d3] }
  | _ => none }
def FnExactPartPutWrongFalsely : Prop := fnExactPartPutRow.holds Try.pinned (OpenSpec.ofChange fnExactPartPutWrong)

/-- 'laws.FnExactRowPairs': WHATEVER THE INPUT: true; the input reads as it did. -/
def fnExactRowPairsSpec : ChangeSpec := { name := "fnExactRowPairs", fn := fun _ => fun
  | [d] => { results := [.lit (.bool true)], args := [d] }
  | _ => none }
def fnExactRowPairsRow : OpenClaim := { program := "ytlfmfcocdailgaa", sum := "709dbedf54c67d7b198ca66ffdcee63c0a21b9cac6aa8bd8c8767b65648b5861", func := "loop.example/cribble/laws.FnExactRowPairs", spec := "fnExactRowPairs", recurses := true, loops := true, apart := false }
def FnExactRowPairsSaid : Prop := fnExactRowPairsRow.holds Try.pinned (OpenSpec.ofChange fnExactRowPairsSpec)

/-- ITS FALSE NEIGHBOUR: 'it returns false'. Refute it at one input. -/
def fnExactRowPairsWrong : ChangeSpec := { name := "fnExactRowPairs", fn := fun _ => fun
  | [d] => { results := [.lit (.bool false)], args := [d] }
  | _ => none }
def FnExactRowPairsWrongFalsely : Prop := fnExactRowPairsRow.holds Try.pinned (OpenSpec.ofChange fnExactRowPairsWrong)

/-- 'laws.FnExactRowFlat': WHATEVER THE INPUT: true; the input reads as it did. -/
def fnExactRowFlatSpec : ChangeSpec := { name := "fnExactRowFlat", fn := fun _ => fun
  | [d] => { results := [.lit (.bool true)], args := [d] }
  | _ => none }
def fnExactRowFlatRow : OpenClaim := { program := "ytlfmfcocdailgaa", sum := "709dbedf54c67d7b198ca66ffdcee63c0a21b9cac6aa8bd8c8767b65648b5861", func := "loop.example/cribble/laws.FnExactRowFlat", spec := "fnExactRowFlat", recurses := true, loops := true, apart := false }
def FnExactRowFlatSaid : Prop := fnExactRowFlatRow.holds Try.pinned (OpenSpec.ofChange fnExactRowFlatSpec)

/-- ITS FALSE NEIGHBOUR: 'it returns false'. Refute it at one input. -/
def fnExactRowFlatWrong : ChangeSpec := { name := "fnExactRowFlat", fn := fun _ => fun
  | [d] => { results := [.lit (.bool false)], args := [d] }
  | _ => none }
def FnExactRowFlatWrongFalsely : Prop := fnExactRowFlatRow.holds Try.pinned (OpenSpec.ofChange fnExactRowFlatWrong)

/-- 'laws.FnExactRowBack': WHATEVER THE INPUT: true; the input reads as it did. -/
def fnExactRowBackSpec : ChangeSpec := { name := "fnExactRowBack", fn := fun _ => fun
  | [d] => { results := [.lit (.bool true)], args := [d] }
  | _ => none }
def fnExactRowBackRow : OpenClaim := { program := "ytlfmfcocdailgaa", sum := "709dbedf54c67d7b198ca66ffdcee63c0a21b9cac6aa8bd8c8767b65648b5861", func := "loop.example/cribble/laws.FnExactRowBack", spec := "fnExactRowBack", recurses := true, loops := true, apart := false }
def FnExactRowBackSaid : Prop := fnExactRowBackRow.holds Try.pinned (OpenSpec.ofChange fnExactRowBackSpec)

/-- ITS FALSE NEIGHBOUR: 'it returns false'. Refute it at one input. -/
def fnExactRowBackWrong : ChangeSpec := { name := "fnExactRowBack", fn := fun _ => fun
  | [d] => { results := [.lit (.bool false)], args := [d] }
  | _ => none }
def FnExactRowBackWrongFalsely : Prop := fnExactRowBackRow.holds Try.pinned (OpenSpec.ofChange fnExactRowBackWrong)

/-- 'laws.FnExactRowCut': WHATEVER THE INPUT: true; the input reads as it did. -/
def fnExactRowCutSpec : ChangeSpec := { name := "fnExactRowCut", fn := fun _ => fun
  | [d1, d2, d3] => { results := [.lit (.bool true)], args := [d1, d2, d3] }
  | _ => none }
def fnExactRowCutRow : OpenClaim := { program := "ytlfmfcocdailgaa", sum := "709dbedf54c67d7b198ca66ffdcee63c0a21b9cac6aa8bd8c8767b65648b5861", func := "loop.example/cribble/laws.FnExactRowCut", spec := "fnExactRowCut", unfollowed := true, recurses := true, loops := true, apart := false }
def FnExactRowCutSaid : Prop := fnExactRowCutRow.holds Try.pinned (OpenSpec.ofChange fnExactRowCutSpec)

/-- ITS FALSE NEIGHBOUR: 'it returns false'. Refute it at one input. -/
def fnExactRowCutWrong : ChangeSpec := { name := "fnExactRowCut", fn := fun _ => fun
  | [d1, d2, d3] => { results := [.lit (.bool false)], args := [d1, d2, d3] }
  | _ => none }
def FnExactRowCutWrongFalsely : Prop := fnExactRowCutRow.holds Try.pinned (OpenSpec.ofChange fnExactRowCutWrong)

/-- 'laws.FnExactRowKeys': WHATEVER THE INPUT: true; the input reads as it did. -/
def fnExactRowKeysSpec : ChangeSpec := { name := "fnExactRowKeys", fn := fun _ => fun
  | [d] => { results := [.lit (.bool true)], args := [d] }
  | _ => none }
def fnExactRowKeysRow : OpenClaim := { program := "ytlfmfcocdailgaa", sum := "709dbedf54c67d7b198ca66ffdcee63c0a21b9cac6aa8bd8c8767b65648b5861", func := "loop.example/cribble/laws.FnExactRowKeys", spec := "fnExactRowKeys", inPlace := ["slices.overlaps[string]", "slices.overlaps[loop.example/cribble/impl.Val]"], recurses := true, loops := true, apart := false }
def FnExactRowKeysSaid : Prop := fnExactRowKeysRow.holds Try.pinned (OpenSpec.ofChange fnExactRowKeysSpec)

/-- ITS FALSE NEIGHBOUR: 'it returns false'. Refute it at one input. -/
def fnExactRowKeysWrong : ChangeSpec := { name := "fnExactRowKeys", fn := fun _ => fun
  | [d] => { results := [.lit (.bool false)], args := [d] }
  | _ => none }
def FnExactRowKeysWrongFalsely : Prop := fnExactRowKeysRow.holds Try.pinned (OpenSpec.ofChange fnExactRowKeysWrong)

/-- 'laws.FnExactPathGet': WHATEVER THE INPUT: true; the input reads as it did. -/
def fnExactPathGetSpec : ChangeSpec := { name := "fnExactPathGet", fn := fun _ => fun
  | [d1, d2] => { results := [.lit (.bool true)], args := [d1, d2] }
  | _ => none }
def fnExactPathGetRow : OpenClaim := { program := "ytlfmfcocdailgaa", sum := "709dbedf54c67d7b198ca66ffdcee63c0a21b9cac6aa8bd8c8767b65648b5861", func := "loop.example/cribble/laws.FnExactPathGet", spec := "fnExactPathGet", recurses := true, loops := true, apart := false }
def FnExactPathGetSaid : Prop := fnExactPathGetRow.holds Try.pinned (OpenSpec.ofChange fnExactPathGetSpec)

/-- ITS FALSE NEIGHBOUR: 'it returns false'. Refute it at one input. -/
def fnExactPathGetWrong : ChangeSpec := { name := "fnExactPathGet", fn := fun _ => fun
  | [d1, d2] => { results := [.lit (.bool false)], args := [d1, d2] }
  | _ => none }
def FnExactPathGetWrongFalsely : Prop := fnExactPathGetRow.holds Try.pinned (OpenSpec.ofChange fnExactPathGetWrong)

/- THE SECOND FORM. 'bulk': how many values and letters a reading holds, each counted each time it is reached (what is shared counts as often as it is met; a slice's spare places count too). A statement '..UptoSaid' is the law's where the arguments, and the package variables that the reading takes, are together of bulk at most 1048576: NARROWER than '..Said'. Prove '..Said' where nothing that the law and all that it calls make is longer than what came in: it says more and counts as full. Else prove '..UptoSaid'. A law counts once. -/
mutual
def uptoBulk {H : Type} : DataW H → Nat
  | .lit (.string bytes) => bytes.length + 1
  | .lit _ => 1
  | .nil => 1
  | .ptr d => uptoBulk d + 1
  | .slice elems spare => uptoBulkAll elems + uptoBulkAll spare + 1
  | .agg parts => uptoBulkAll parts + 1
  | .iface _ d => uptoBulk d + 1
  | .map entries => uptoBulkEntries entries + 1
  | .held _ => 1
def uptoBulkAll {H : Type} : List (DataW H) → Nat
  | [] => 0
  | d :: r => uptoBulk d + uptoBulkAll r
def uptoBulkEntries {H : Type} : List (Lit × DataW H) → Nat
  | [] => 0
  | x :: r => uptoBulkEntry x + uptoBulkEntries r
def uptoBulkEntry {H : Type} : Lit × DataW H → Nat
  | (.string bytes, d) => bytes.length + uptoBulk d + 1
  | (_, d) => uptoBulk d + 1
 end
def uptoSmall : (H : Type) → List (DataW H) → Bool := fun _ ds => decide (uptoBulkAll ds ≤ 1048576)
def OpenSpec.upto (s : _root_.Go.ChangeSpec) : _root_.Go.OpenSpec := { _root_.Go.OpenSpec.ofChange s with cond := some uptoSmall }

/-- 'laws.FnExactPartLen', WHERE WHAT IT READS IS OF BULK AT MOST 1048576: true; the input reads as it did. -/
def fnExactPartLenUptoRow : OpenClaim := { program := "ytlfmfcocdailgaa", sum := "709dbedf54c67d7b198ca66ffdcee63c0a21b9cac6aa8bd8c8767b65648b5861", func := "loop.example/cribble/laws.FnExactPartLen", spec := "fnExactPartLen", recurses := true, loops := true, apart := false, narrowed := true }
def FnExactPartLenUptoSaid : Prop := fnExactPartLenUptoRow.holds Try.pinned (OpenSpec.upto fnExactPartLenSpec)

/-- 'laws.FnExactPartKeys', WHERE WHAT IT READS IS OF BULK AT MOST 1048576: true; the input reads as it did. -/
def fnExactPartKeysUptoRow : OpenClaim := { program := "ytlfmfcocdailgaa", sum := "709dbedf54c67d7b198ca66ffdcee63c0a21b9cac6aa8bd8c8767b65648b5861", func := "loop.example/cribble/laws.FnExactPartKeys", spec := "fnExactPartKeys", recurses := true, loops := true, apart := false, narrowed := true }
def FnExactPartKeysUptoSaid : Prop := fnExactPartKeysUptoRow.holds Try.pinned (OpenSpec.upto fnExactPartKeysSpec)

/-- 'laws.FnExactPartSet', WHERE WHAT IT READS IS OF BULK AT MOST 1048576: true; the input reads as it did. -/
def fnExactPartSetUptoRow : OpenClaim := { program := "ytlfmfcocdailgaa", sum := "709dbedf54c67d7b198ca66ffdcee63c0a21b9cac6aa8bd8c8767b65648b5861", func := "loop.example/cribble/laws.FnExactPartSet", spec := "fnExactPartSet", recurses := true, loops := true, apart := false, narrowed := true }
def FnExactPartSetUptoSaid : Prop := fnExactPartSetUptoRow.holds Try.pinned (OpenSpec.upto fnExactPartSetSpec)

/-- 'laws.FnExactPartGet', WHERE WHAT IT READS IS OF BULK AT MOST 1048576: true; the input reads as it did. -/
def fnExactPartGetUptoRow : OpenClaim := { program := "ytlfmfcocdailgaa", sum := "709dbedf54c67d7b198ca66ffdcee63c0a21b9cac6aa8bd8c8767b65648b5861", func := "loop.example/cribble/laws.FnExactPartGet", spec := "fnExactPartGet", recurses := true, loops := true, apart := false, narrowed := true }
def FnExactPartGetUptoSaid : Prop := fnExactPartGetUptoRow.holds Try.pinned (OpenSpec.upto fnExactPartGetSpec)

/-- 'laws.FnExactPartAt', WHERE WHAT IT READS IS OF BULK AT MOST 1048576: true; the input reads as it did. -/
def fnExactPartAtUptoRow : OpenClaim := { program := "ytlfmfcocdailgaa", sum := "709dbedf54c67d7b198ca66ffdcee63c0a21b9cac6aa8bd8c8767b65648b5861", func := "loop.example/cribble/laws.FnExactPartAt", spec := "fnExactPartAt", recurses := true, loops := true, apart := false, narrowed := true }
def FnExactPartAtUptoSaid : Prop := fnExactPartAtUptoRow.holds Try.pinned (OpenSpec.upto fnExactPartAtSpec)

/-- 'laws.FnExactPartPut', WHERE WHAT IT READS IS OF BULK AT MOST 1048576: true; the input reads as it did. -/
def fnExactPartPutUptoRow : OpenClaim := { program := "ytlfmfcocdailgaa", sum := "709dbedf54c67d7b198ca66ffdcee63c0a21b9cac6aa8bd8c8767b65648b5861", func := "loop.example/cribble/laws.FnExactPartPut", spec := "fnExactPartPut", inPlace := ["slices.overlaps[string]", "slices.overlaps[loop.example/cribble/impl.Val]"], recurses := true, loops := true, apart := false, narrowed := true }
def FnExactPartPutUptoSaid : Prop := fnExactPartPutUptoRow.holds Try.pinned (OpenSpec.upto fnExactPartPutSpec)

/-- 'laws.FnExactRowPairs', WHERE WHAT IT READS IS OF BULK AT MOST 1048576: true; the input reads as it did. -/
def fnExactRowPairsUptoRow : OpenClaim := { program := "ytlfmfcocdailgaa", sum := "709dbedf54c67d7b198ca66ffdcee63c0a21b9cac6aa8bd8c8767b65648b5861", func := "loop.example/cribble/laws.FnExactRowPairs", spec := "fnExactRowPairs", recurses := true, loops := true, apart := false, narrowed := true }
def FnExactRowPairsUptoSaid : Prop := fnExactRowPairsUptoRow.holds Try.pinned (OpenSpec.upto fnExactRowPairsSpec)

/-- 'laws.FnExactRowFlat', WHERE WHAT IT READS IS OF BULK AT MOST 1048576: true; the input reads as it did. -/
def fnExactRowFlatUptoRow : OpenClaim := { program := "ytlfmfcocdailgaa", sum := "709dbedf54c67d7b198ca66ffdcee63c0a21b9cac6aa8bd8c8767b65648b5861", func := "loop.example/cribble/laws.FnExactRowFlat", spec := "fnExactRowFlat", recurses := true, loops := true, apart := false, narrowed := true }
def FnExactRowFlatUptoSaid : Prop := fnExactRowFlatUptoRow.holds Try.pinned (OpenSpec.upto fnExactRowFlatSpec)

/-- 'laws.FnExactRowBack', WHERE WHAT IT READS IS OF BULK AT MOST 1048576: true; the input reads as it did. -/
def fnExactRowBackUptoRow : OpenClaim := { program := "ytlfmfcocdailgaa", sum := "709dbedf54c67d7b198ca66ffdcee63c0a21b9cac6aa8bd8c8767b65648b5861", func := "loop.example/cribble/laws.FnExactRowBack", spec := "fnExactRowBack", recurses := true, loops := true, apart := false, narrowed := true }
def FnExactRowBackUptoSaid : Prop := fnExactRowBackUptoRow.holds Try.pinned (OpenSpec.upto fnExactRowBackSpec)

/-- 'laws.FnExactRowCut', WHERE WHAT IT READS IS OF BULK AT MOST 1048576: true; the input reads as it did. -/
def fnExactRowCutUptoRow : OpenClaim := { program := "ytlfmfcocdailgaa", sum := "709dbedf54c67d7b198ca66ffdcee63c0a21b9cac6aa8bd8c8767b65648b5861", func := "loop.example/cribble/laws.FnExactRowCut", spec := "fnExactRowCut", unfollowed := true, recurses := true, loops := true, apart := false, narrowed := true }
def FnExactRowCutUptoSaid : Prop := fnExactRowCutUptoRow.holds Try.pinned (OpenSpec.upto fnExactRowCutSpec)

/-- 'laws.FnExactRowKeys', WHERE WHAT IT READS IS OF BULK AT MOST 1048576: true; the input reads as it did. -/
def fnExactRowKeysUptoRow : OpenClaim := { program := "ytlfmfcocdailgaa", sum := "709dbedf54c67d7b198ca66ffdcee63c0a21b9cac6aa8bd8c8767b65648b5861", func := "loop.example/cribble/laws.FnExactRowKeys", spec := "fnExactRowKeys", inPlace := ["slices.overlaps[string]", "slices.overlaps[loop.example/cribble/impl.Val]"], recurses := true, loops := true, apart := false, narrowed := true }
def FnExactRowKeysUptoSaid : Prop := fnExactRowKeysUptoRow.holds Try.pinned (OpenSpec.upto fnExactRowKeysSpec)

/-- 'laws.FnExactPathGet', WHERE WHAT IT READS IS OF BULK AT MOST 1048576: true; the input reads as it did. -/
def fnExactPathGetUptoRow : OpenClaim := { program := "ytlfmfcocdailgaa", sum := "709dbedf54c67d7b198ca66ffdcee63c0a21b9cac6aa8bd8c8767b65648b5861", func := "loop.example/cribble/laws.FnExactPathGet", spec := "fnExactPathGet", recurses := true, loops := true, apart := false, narrowed := true }
def FnExactPathGetUptoSaid : Prop := fnExactPathGetUptoRow.holds Try.pinned (OpenSpec.upto fnExactPathGetSpec)

end Rows
end Go.Proofs.Ytlfmfcocdailgaa
