/-
  NARROWER THAN 'FOR EVERY INPUT', by the rows' own cells (each row's printed sentence says how): FnExactPathAll: loops · FnExactEditOk: loops · FnExactPartPut: loops · FnExactRowKeys: loops.
  DERIVED. THE GIVEN ROWS OF THIS SEAT. 4 by the template 'for every input the law returns true; each argument reads behind the call as it read before'; 0 by the template 'total and deterministic' (their statements: YteodgmpkpbmoeaaTotals.lean).
  GIVEN WITH THE SEED: the statements are not yours to turn. If you find one false, say at which input.
  Laid BY PROGRAM, IN A SANDBOX (cutbox-rows.mjs): the forced cells as the released guide's own fill.sh prints them over the translation 3d00120241ce82f3… (all of the seat's roots in one cut). By AI agents, Wed Nov 11 2026. No macro, syntax, notation, axiom, sorry.
-/
import Derived.Test.YteodgmpkpbmoeaaChecked
import GoSem.Claim
import GoSem.ClaimJoined
import GoSem.ClaimMapViews
import Derived.JoinedTies
import Derived.KernelRfl
namespace Go.Proofs.Yteodgmpkpbmoeaa
/- THE CELL 'sum', in the pinned program and in every row, IS THE sha256 OF THE DUMP (.gsa) THAT YteodgmpkpbmoeaaProg.lean LOADS. Nothing in Lean hashes anything: it is a label: what it is worth is what the hold of that sum in a sandbox is worth. -/
noncomputable def Try.pinned : Pinned := { name := "yteodgmpkpbmoeaa", sum := "3d00120241ce82f3df64e7ade1327a0d4e4b0668245bef6007059258bb1078f9", checked := Try.checked }
namespace Rows
def none {H : Type} : Left H := { results := [], args := [] }

/-- 'laws.FnExactPathAll': WHATEVER THE INPUT: true; the input reads as it did. -/
def fnExactPathAllSpec : ChangeSpec := { name := "fnExactPathAll", fn := fun _ => fun
  | [d] => { results := [.lit (.bool true)], args := [d] }
  | _ => none }
def fnExactPathAllRow : OpenClaim := { program := "yteodgmpkpbmoeaa", sum := "3d00120241ce82f3df64e7ade1327a0d4e4b0668245bef6007059258bb1078f9", func := "loop.example/cribble/laws.FnExactPathAll", spec := "fnExactPathAll", recurses := true, loops := true, apart := false }
def FnExactPathAllSaid : Prop := fnExactPathAllRow.holds Try.pinned (OpenSpec.ofChange fnExactPathAllSpec)

/-- ITS FALSE NEIGHBOUR: 'it returns false'. Refute it at one input. -/
def fnExactPathAllWrong : ChangeSpec := { name := "fnExactPathAll", fn := fun _ => fun
  | [d] => { results := [.lit (.bool false)], args := [d] }
  | _ => none }
def FnExactPathAllWrongFalsely : Prop := fnExactPathAllRow.holds Try.pinned (OpenSpec.ofChange fnExactPathAllWrong)

/-- 'laws.FnExactEditOk': WHATEVER THE INPUT: true; the input reads as it did. -/
def fnExactEditOkSpec : ChangeSpec := { name := "fnExactEditOk", fn := fun _ => fun
  | [d] => { results := [.lit (.bool true)], args := [d] }
  | _ => none }
def fnExactEditOkRow : OpenClaim := { program := "yteodgmpkpbmoeaa", sum := "3d00120241ce82f3df64e7ade1327a0d4e4b0668245bef6007059258bb1078f9", func := "loop.example/cribble/laws.FnExactEditOk", spec := "fnExactEditOk", unfollowed := true, recurses := true, loops := true, apart := false }
def FnExactEditOkSaid : Prop := fnExactEditOkRow.holds Try.pinned (OpenSpec.ofChange fnExactEditOkSpec)

/-- ITS FALSE NEIGHBOUR: 'it returns false'. Refute it at one input. -/
def fnExactEditOkWrong : ChangeSpec := { name := "fnExactEditOk", fn := fun _ => fun
  | [d] => { results := [.lit (.bool false)], args := [d] }
  | _ => none }
def FnExactEditOkWrongFalsely : Prop := fnExactEditOkRow.holds Try.pinned (OpenSpec.ofChange fnExactEditOkWrong)

/-- 'laws.FnExactPartPut': WHATEVER THE INPUT: true; the input reads as it did. -/
def fnExactPartPutSpec : ChangeSpec := { name := "fnExactPartPut", fn := fun _ => fun
  | [d1, d2, d3] => { results := [.lit (.bool true)], args := [d1, d2, d3] }
  | _ => none }
def fnExactPartPutRow : OpenClaim := { program := "yteodgmpkpbmoeaa", sum := "3d00120241ce82f3df64e7ade1327a0d4e4b0668245bef6007059258bb1078f9", func := "loop.example/cribble/laws.FnExactPartPut", spec := "fnExactPartPut", inPlace := ["slices.overlaps[string]", "slices.overlaps[loop.example/cribble/impl.Val]"], recurses := true, loops := true, apart := false }
def FnExactPartPutSaid : Prop := fnExactPartPutRow.holds Try.pinned (OpenSpec.ofChange fnExactPartPutSpec)

/-- ITS FALSE NEIGHBOUR: 'it returns false'. Refute it at one input. -/
def fnExactPartPutWrong : ChangeSpec := { name := "fnExactPartPut", fn := fun _ => fun
  | [d1, d2, d3] => { results := [.lit (.bool false)], args := [d1, d2, d3] }
  | _ => none }
def FnExactPartPutWrongFalsely : Prop := fnExactPartPutRow.holds Try.pinned (OpenSpec.ofChange fnExactPartPutWrong)

/-- 'laws.FnExactRowKeys': WHATEVER THE INPUT: true; the input reads as it did. -/
def fnExactRowKeysSpec : ChangeSpec := { name := "fnExactRowKeys", fn := fun _ => fun
  | [d] => { results := [.lit (.bool true)], args := [d] }
  | _ => none }
def fnExactRowKeysRow : OpenClaim := { program := "yteodgmpkpbmoeaa", sum := "3d00120241ce82f3df64e7ade1327a0d4e4b0668245bef6007059258bb1078f9", func := "loop.example/cribble/laws.FnExactRowKeys", spec := "fnExactRowKeys", inPlace := ["slices.overlaps[string]", "slices.overlaps[loop.example/cribble/impl.Val]"], recurses := true, loops := true, apart := false }
def FnExactRowKeysSaid : Prop := fnExactRowKeysRow.holds Try.pinned (OpenSpec.ofChange fnExactRowKeysSpec)

/-- ITS FALSE NEIGHBOUR: 'it returns false'. Refute it at one input. -/
def fnExactRowKeysWrong : ChangeSpec := { name := "fnExactRowKeys", fn := fun _ => fun
  | [d] => { results := [.lit (.bool false)], args := [d] }
  | _ => none }
def FnExactRowKeysWrongFalsely : Prop := fnExactRowKeysRow.holds Try.pinned (OpenSpec.ofChange fnExactRowKeysWrong)

/- THE SECOND FORM. 'bulk': how many values and letters a reading holds, each counted each time it is reached (what is shared counts as often as it is met; a slice's spare places count too). A statement '..UptoSaid' is the law's where the arguments, and the package variables that the reading takes, are together of bulk at most 1048576: NARROWER than '..Said'. Prove '..Said' where nothing that the law and all that it calls make is longer than what came in: it says more and counts as full. Else prove '..UptoSaid'. A law counts once. -/
mutual
def uptoBulk {H : Type} : DataW H → Nat
  | .lit (.string bytes) => bytes.length + 1
  | .lit _ => 1
  | .nil => 1
  | .ptr d => uptoBulk d + 1
  | .slice elems spare => uptoBulkAll elems + uptoBulkAll spare + 1
  | .agg parts => uptoBulkAll parts + 1
  | .iface _ d => uptoBulk d + 1
  | .map entries => uptoBulkEntries entries + 1
  | .held _ => 1
def uptoBulkAll {H : Type} : List (DataW H) → Nat
  | [] => 0
  | d :: r => uptoBulk d + uptoBulkAll r
def uptoBulkEntries {H : Type} : List (Lit × DataW H) → Nat
  | [] => 0
  | x :: r => uptoBulkEntry x + uptoBulkEntries r
def uptoBulkEntry {H : Type} : Lit × DataW H → Nat
  | (.string bytes, d) => bytes.length + uptoBulk d + 1
  | (_, d) => uptoBulk d + 1
 end
def uptoSmall : (H : Type) → List (DataW H) → Bool := fun _ ds => decide (uptoBulkAll ds ≤ 1048576)
def OpenSpec.upto (s : _root_.Go.ChangeSpec) : _root_.Go.OpenSpec := { _root_.Go.OpenSpec.ofChange s with cond := some uptoSmall }

/-- 'laws.FnExactPathAll', WHERE WHAT IT READS IS OF BULK AT MOST 1048576: true; the input reads as it did. -/
def fnExactPathAllUptoRow : OpenClaim := { program := "yteodgmpkpbmoeaa", sum := "3d00120241ce82f3df64e7ade1327a0d4e4b0668245bef6007059258bb1078f9", func := "loop.example/cribble/laws.FnExactPathAll", spec := "fnExactPathAll", recurses := true, loops := true, apart := false, narrowed := true }
def FnExactPathAllUptoSaid : Prop := fnExactPathAllUptoRow.holds Try.pinned (OpenSpec.upto fnExactPathAllSpec)

/-- 'laws.FnExactEditOk', WHERE WHAT IT READS IS OF BULK AT MOST 1048576: true; the input reads as it did. -/
def fnExactEditOkUptoRow : OpenClaim := { program := "yteodgmpkpbmoeaa", sum := "3d00120241ce82f3df64e7ade1327a0d4e4b0668245bef6007059258bb1078f9", func := "loop.example/cribble/laws.FnExactEditOk", spec := "fnExactEditOk", unfollowed := true, recurses := true, loops := true, apart := false, narrowed := true }
def FnExactEditOkUptoSaid : Prop := fnExactEditOkUptoRow.holds Try.pinned (OpenSpec.upto fnExactEditOkSpec)

/-- 'laws.FnExactPartPut', WHERE WHAT IT READS IS OF BULK AT MOST 1048576: true; the input reads as it did. -/
def fnExactPartPutUptoRow : OpenClaim := { program := "yteodgmpkpbmoeaa", sum := "3d00120241ce82f3df64e7ade1327a0d4e4b0668245bef6007059258bb1078f9", func := "loop.example/cribble/laws.FnExactPartPut", spec := "fnExactPartPut", inPlace := ["slices.overlaps[string]", "slices.overlaps[loop.example/cribble/impl.Val]"], recurses := true, loops := true, apart := false, narrowed := true }
def FnExactPartPutUptoSaid : Prop := fnExactPartPutUptoRow.holds Try.pinned (OpenSpec.upto fnExactPartPutSpec)

/-- 'laws.FnExactRowKeys', WHERE WHAT IT READS IS OF BULK AT MOST 1048576: true; the input reads as it did. -/
def fnExactRowKeysUptoRow : OpenClaim := { program := "yteodgmpkpbmoeaa", sum := "3d00120241ce82f3df64e7ade1327a0d4e4b0668245bef6007059258bb1078f9", func := "loop.example/cribble/laws.FnExactRowKeys", spec := "fnExactRowKeys", inPlace := ["slices.overlaps[string]", "slices.overlaps[loop.example/cribble/impl.Val]"], recurses := true, loops := true, apart := false, narrowed := true }
def FnExactRowKeysUptoSaid : Prop := fnExactRowKeysUptoRow.holds Try.pinned (OpenSpec.upto fnExactRowKeysSpec)

end Rows
end Go.Proofs.Yteodgmpkpbmoeaa
