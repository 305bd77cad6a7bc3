/-
  No cell of these rows narrows 'for every input' (looked for: loops, veiled, ifaces, maps, wideKeys, modest, calm, conditions, laid).
  DERIVED. THE GIVEN ROWS OF THIS SEAT. 11 by the template 'for every input the law returns true; each argument reads behind the call as it read before'; 0 by the template 'total and deterministic' (their statements: YtmmgobhoakaaaaaTotals.lean).
  GIVEN WITH THE SEED: the statements are not yours to turn. If you find one false, say at which input.
  Laid BY PROGRAM, IN A SANDBOX (cutbox-rows.mjs): the forced cells as the released guide's own fill.sh prints them over the translation 6ca2d7eb5d12fee8… (all of the seat's roots in one cut). By AI agents, Wed Nov 11 2026. No macro, syntax, notation, axiom, sorry.
-/
import Derived.Test.YtmmgobhoakaaaaaChecked
import GoSem.Claim
import GoSem.ClaimJoined
import GoSem.ClaimMapViews
import Derived.JoinedTies
import Derived.KernelRfl
namespace Go.Proofs.Ytmmgobhoakaaaaa
/- THE CELL 'sum', in the pinned program and in every row, IS THE sha256 OF THE DUMP (.gsa) THAT YtmmgobhoakaaaaaProg.lean LOADS. Nothing in Lean hashes anything: it is a label: what it is worth is what the hold of that sum in a sandbox is worth. -/
noncomputable def Try.pinned : Pinned := { name := "ytmmgobhoakaaaaa", sum := "6ca2d7eb5d12fee8ab31139a99c3cb84f7a517d9aa95e04447dbae2d052bbfd5", checked := Try.checked }
namespace Rows
def none {H : Type} : Left H := { results := [], args := [] }

/-- 'laws.FnRowHas': WHATEVER THE INPUT: true; the input reads as it did. -/
def fnRowHasSpec : ChangeSpec := { name := "fnRowHas", fn := fun _ => fun
  | [d] => { results := [.lit (.bool true)], args := [d] }
  | _ => none }
def fnRowHasRow : OpenClaim := { program := "ytmmgobhoakaaaaa", sum := "6ca2d7eb5d12fee8ab31139a99c3cb84f7a517d9aa95e04447dbae2d052bbfd5", func := "loop.example/cribble/laws.FnRowHas", spec := "fnRowHas", unfollowed := true, recurses := true, apart := false }
def FnRowHasSaid : Prop := fnRowHasRow.holds Try.pinned (OpenSpec.ofChange fnRowHasSpec)

/-- ITS FALSE NEIGHBOUR: 'it returns false'. Refute it at one input. -/
def fnRowHasWrong : ChangeSpec := { name := "fnRowHas", fn := fun _ => fun
  | [d] => { results := [.lit (.bool false)], args := [d] }
  | _ => none }
def FnRowHasWrongFalsely : Prop := fnRowHasRow.holds Try.pinned (OpenSpec.ofChange fnRowHasWrong)

/-- 'laws.FnRowSort': WHATEVER THE INPUT: true; the input reads as it did. -/
def fnRowSortSpec : ChangeSpec := { name := "fnRowSort", fn := fun _ => fun
  | [d] => { results := [.lit (.bool true)], args := [d] }
  | _ => none }
def fnRowSortRow : OpenClaim := { program := "ytmmgobhoakaaaaa", sum := "6ca2d7eb5d12fee8ab31139a99c3cb84f7a517d9aa95e04447dbae2d052bbfd5", func := "loop.example/cribble/laws.FnRowSort", spec := "fnRowSort", unfollowed := true, recurses := true, apart := false }
def FnRowSortSaid : Prop := fnRowSortRow.holds Try.pinned (OpenSpec.ofChange fnRowSortSpec)

/-- ITS FALSE NEIGHBOUR: 'it returns false'. Refute it at one input. -/
def fnRowSortWrong : ChangeSpec := { name := "fnRowSort", fn := fun _ => fun
  | [d] => { results := [.lit (.bool false)], args := [d] }
  | _ => none }
def FnRowSortWrongFalsely : Prop := fnRowSortRow.holds Try.pinned (OpenSpec.ofChange fnRowSortWrong)

/-- 'laws.FnPartTwo': WHATEVER THE INPUT: true; the input reads as it did. -/
def fnPartTwoSpec : ChangeSpec := { name := "fnPartTwo", fn := fun _ => fun
  | [d1, d2] => { results := [.lit (.bool true)], args := [d1, d2] }
  | _ => none }
def fnPartTwoRow : OpenClaim := { program := "ytmmgobhoakaaaaa", sum := "6ca2d7eb5d12fee8ab31139a99c3cb84f7a517d9aa95e04447dbae2d052bbfd5", func := "loop.example/cribble/laws.FnPartTwo", spec := "fnPartTwo", inPlace := ["slices.overlaps[string]", "slices.overlaps[loop.example/cribble/impl.Val]"], unfollowed := true, recurses := true, apart := false }
def FnPartTwoSaid : Prop := fnPartTwoRow.holds Try.pinned (OpenSpec.ofChange fnPartTwoSpec)

/-- ITS FALSE NEIGHBOUR: 'it returns false'. Refute it at one input. -/
def fnPartTwoWrong : ChangeSpec := { name := "fnPartTwo", fn := fun _ => fun
  | [d1, d2] => { results := [.lit (.bool false)], args := [d1, d2] }
  | _ => none }
def FnPartTwoWrongFalsely : Prop := fnPartTwoRow.holds Try.pinned (OpenSpec.ofChange fnPartTwoWrong)

/-- 'laws.FnRowKeysAdd': WHATEVER THE INPUT: true; the input reads as it did. -/
def fnRowKeysAddSpec : ChangeSpec := { name := "fnRowKeysAdd", fn := fun _ => fun
  | [d1, d2] => { results := [.lit (.bool true)], args := [d1, d2] }
  | _ => none }
def fnRowKeysAddRow : OpenClaim := { program := "ytmmgobhoakaaaaa", sum := "6ca2d7eb5d12fee8ab31139a99c3cb84f7a517d9aa95e04447dbae2d052bbfd5", func := "loop.example/cribble/laws.FnRowKeysAdd", spec := "fnRowKeysAdd", inPlace := ["slices.overlaps[string]", "slices.overlaps[loop.example/cribble/impl.Val]"], unfollowed := true, recurses := true, apart := false }
def FnRowKeysAddSaid : Prop := fnRowKeysAddRow.holds Try.pinned (OpenSpec.ofChange fnRowKeysAddSpec)

/-- ITS FALSE NEIGHBOUR: 'it returns false'. Refute it at one input. -/
def fnRowKeysAddWrong : ChangeSpec := { name := "fnRowKeysAdd", fn := fun _ => fun
  | [d1, d2] => { results := [.lit (.bool false)], args := [d1, d2] }
  | _ => none }
def FnRowKeysAddWrongFalsely : Prop := fnRowKeysAddRow.holds Try.pinned (OpenSpec.ofChange fnRowKeysAddWrong)

/-- 'laws.FnPartAdd': WHATEVER THE INPUT: true; the input reads as it did. -/
def fnPartAddSpec : ChangeSpec := { name := "fnPartAdd", fn := fun _ => fun
  | [d1, d2] => { results := [.lit (.bool true)], args := [d1, d2] }
  | _ => none }
def fnPartAddRow : OpenClaim := { program := "ytmmgobhoakaaaaa", sum := "6ca2d7eb5d12fee8ab31139a99c3cb84f7a517d9aa95e04447dbae2d052bbfd5", func := "loop.example/cribble/laws.FnPartAdd", spec := "fnPartAdd", inPlace := ["slices.overlaps[string]", "slices.overlaps[loop.example/cribble/impl.Val]"], unfollowed := true, recurses := true, apart := false }
def FnPartAddSaid : Prop := fnPartAddRow.holds Try.pinned (OpenSpec.ofChange fnPartAddSpec)

/-- ITS FALSE NEIGHBOUR: 'it returns false'. Refute it at one input. -/
def fnPartAddWrong : ChangeSpec := { name := "fnPartAdd", fn := fun _ => fun
  | [d1, d2] => { results := [.lit (.bool false)], args := [d1, d2] }
  | _ => none }
def FnPartAddWrongFalsely : Prop := fnPartAddRow.holds Try.pinned (OpenSpec.ofChange fnPartAddWrong)

/-- 'laws.FnRowPairs': WHATEVER THE INPUT: true; the input reads as it did. -/
def fnRowPairsSpec : ChangeSpec := { name := "fnRowPairs", fn := fun _ => fun
  | [d] => { results := [.lit (.bool true)], args := [d] }
  | _ => none }
def fnRowPairsRow : OpenClaim := { program := "ytmmgobhoakaaaaa", sum := "6ca2d7eb5d12fee8ab31139a99c3cb84f7a517d9aa95e04447dbae2d052bbfd5", func := "loop.example/cribble/laws.FnRowPairs", spec := "fnRowPairs", inPlace := ["slices.overlaps[string]", "slices.overlaps[loop.example/cribble/impl.Val]"], unfollowed := true, recurses := true, apart := false }
def FnRowPairsSaid : Prop := fnRowPairsRow.holds Try.pinned (OpenSpec.ofChange fnRowPairsSpec)

/-- ITS FALSE NEIGHBOUR: 'it returns false'. Refute it at one input. -/
def fnRowPairsWrong : ChangeSpec := { name := "fnRowPairs", fn := fun _ => fun
  | [d] => { results := [.lit (.bool false)], args := [d] }
  | _ => none }
def FnRowPairsWrongFalsely : Prop := fnRowPairsRow.holds Try.pinned (OpenSpec.ofChange fnRowPairsWrong)

/-- 'laws.FnPart': WHATEVER THE INPUT: true; the input reads as it did. -/
def fnPartSpec : ChangeSpec := { name := "fnPart", fn := fun _ => fun
  | [d] => { results := [.lit (.bool true)], args := [d] }
  | _ => none }
def fnPartRow : OpenClaim := { program := "ytmmgobhoakaaaaa", sum := "6ca2d7eb5d12fee8ab31139a99c3cb84f7a517d9aa95e04447dbae2d052bbfd5", func := "loop.example/cribble/laws.FnPart", spec := "fnPart", inPlace := ["slices.overlaps[string]", "slices.overlaps[loop.example/cribble/impl.Val]"], unfollowed := true, recurses := true, apart := false }
def FnPartSaid : Prop := fnPartRow.holds Try.pinned (OpenSpec.ofChange fnPartSpec)

/-- ITS FALSE NEIGHBOUR: 'it returns false'. Refute it at one input. -/
def fnPartWrong : ChangeSpec := { name := "fnPart", fn := fun _ => fun
  | [d] => { results := [.lit (.bool false)], args := [d] }
  | _ => none }
def FnPartWrongFalsely : Prop := fnPartRow.holds Try.pinned (OpenSpec.ofChange fnPartWrong)

/-- 'laws.FnPathTwo': WHATEVER THE INPUT: true; the input reads as it did. -/
def fnPathTwoSpec : ChangeSpec := { name := "fnPathTwo", fn := fun _ => fun
  | [d1, d2] => { results := [.lit (.bool true)], args := [d1, d2] }
  | _ => none }
def fnPathTwoRow : OpenClaim := { program := "ytmmgobhoakaaaaa", sum := "6ca2d7eb5d12fee8ab31139a99c3cb84f7a517d9aa95e04447dbae2d052bbfd5", func := "loop.example/cribble/laws.FnPathTwo", spec := "fnPathTwo", inPlace := ["slices.overlaps[string]", "slices.overlaps[loop.example/cribble/impl.Val]"], unfollowed := true, recurses := true, apart := false }
def FnPathTwoSaid : Prop := fnPathTwoRow.holds Try.pinned (OpenSpec.ofChange fnPathTwoSpec)

/-- ITS FALSE NEIGHBOUR: 'it returns false'. Refute it at one input. -/
def fnPathTwoWrong : ChangeSpec := { name := "fnPathTwo", fn := fun _ => fun
  | [d1, d2] => { results := [.lit (.bool false)], args := [d1, d2] }
  | _ => none }
def FnPathTwoWrongFalsely : Prop := fnPathTwoRow.holds Try.pinned (OpenSpec.ofChange fnPathTwoWrong)

/-- 'laws.FnRowCut': WHATEVER THE INPUT: true; the input reads as it did. -/
def fnRowCutSpec : ChangeSpec := { name := "fnRowCut", fn := fun _ => fun
  | [d] => { results := [.lit (.bool true)], args := [d] }
  | _ => none }
def fnRowCutRow : OpenClaim := { program := "ytmmgobhoakaaaaa", sum := "6ca2d7eb5d12fee8ab31139a99c3cb84f7a517d9aa95e04447dbae2d052bbfd5", func := "loop.example/cribble/laws.FnRowCut", spec := "fnRowCut", inPlace := ["slices.overlaps[string]", "slices.overlaps[loop.example/cribble/impl.Val]"], unfollowed := true, recurses := true, apart := false }
def FnRowCutSaid : Prop := fnRowCutRow.holds Try.pinned (OpenSpec.ofChange fnRowCutSpec)

/-- ITS FALSE NEIGHBOUR: 'it returns false'. Refute it at one input. -/
def fnRowCutWrong : ChangeSpec := { name := "fnRowCut", fn := fun _ => fun
  | [d] => { results := [.lit (.bool false)], args := [d] }
  | _ => none }
def FnRowCutWrongFalsely : Prop := fnRowCutRow.holds Try.pinned (OpenSpec.ofChange fnRowCutWrong)

/-- 'laws.FnPartNone': WHATEVER THE INPUT: true; the input reads as it did. -/
def fnPartNoneSpec : ChangeSpec := { name := "fnPartNone", fn := fun _ => fun
  | [d] => { results := [.lit (.bool true)], args := [d] }
  | _ => none }
def fnPartNoneRow : OpenClaim := { program := "ytmmgobhoakaaaaa", sum := "6ca2d7eb5d12fee8ab31139a99c3cb84f7a517d9aa95e04447dbae2d052bbfd5", func := "loop.example/cribble/laws.FnPartNone", spec := "fnPartNone", inPlace := ["slices.overlaps[string]", "slices.overlaps[loop.example/cribble/impl.Val]"], unfollowed := true, recurses := true, apart := false }
def FnPartNoneSaid : Prop := fnPartNoneRow.holds Try.pinned (OpenSpec.ofChange fnPartNoneSpec)

/-- ITS FALSE NEIGHBOUR: 'it returns false'. Refute it at one input. -/
def fnPartNoneWrong : ChangeSpec := { name := "fnPartNone", fn := fun _ => fun
  | [d] => { results := [.lit (.bool false)], args := [d] }
  | _ => none }
def FnPartNoneWrongFalsely : Prop := fnPartNoneRow.holds Try.pinned (OpenSpec.ofChange fnPartNoneWrong)

/-- 'laws.FnPartLen': WHATEVER THE INPUT: true; the input reads as it did. -/
def fnPartLenSpec : ChangeSpec := { name := "fnPartLen", fn := fun _ => fun
  | [d] => { results := [.lit (.bool true)], args := [d] }
  | _ => none }
def fnPartLenRow : OpenClaim := { program := "ytmmgobhoakaaaaa", sum := "6ca2d7eb5d12fee8ab31139a99c3cb84f7a517d9aa95e04447dbae2d052bbfd5", func := "loop.example/cribble/laws.FnPartLen", spec := "fnPartLen", inPlace := ["slices.overlaps[string]", "slices.overlaps[loop.example/cribble/impl.Val]"], unfollowed := true, recurses := true, apart := false }
def FnPartLenSaid : Prop := fnPartLenRow.holds Try.pinned (OpenSpec.ofChange fnPartLenSpec)

/-- ITS FALSE NEIGHBOUR: 'it returns false'. Refute it at one input. -/
def fnPartLenWrong : ChangeSpec := { name := "fnPartLen", fn := fun _ => fun
  | [d] => { results := [.lit (.bool false)], args := [d] }
  | _ => none }
def FnPartLenWrongFalsely : Prop := fnPartLenRow.holds Try.pinned (OpenSpec.ofChange fnPartLenWrong)

/- THE SECOND FORM. 'bulk': how many values and letters a reading holds, each counted each time it is reached (what is shared counts as often as it is met; a slice's spare places count too). A statement '..UptoSaid' is the law's where the arguments, and the package variables that the reading takes, are together of bulk at most 1048576: NARROWER than '..Said'. Prove '..Said' where nothing that the law and all that it calls make is longer than what came in: it says more and counts as full. Else prove '..UptoSaid'. A law counts once. -/
mutual
def uptoBulk {H : Type} : DataW H → Nat
  | .lit (.string bytes) => bytes.length + 1
  | .lit _ => 1
  | .nil => 1
  | .ptr d => uptoBulk d + 1
  | .slice elems spare => uptoBulkAll elems + uptoBulkAll spare + 1
  | .agg parts => uptoBulkAll parts + 1
  | .iface _ d => uptoBulk d + 1
  | .map entries => uptoBulkEntries entries + 1
  | .held _ => 1
def uptoBulkAll {H : Type} : List (DataW H) → Nat
  | [] => 0
  | d :: r => uptoBulk d + uptoBulkAll r
def uptoBulkEntries {H : Type} : List (Lit × DataW H) → Nat
  | [] => 0
  | x :: r => uptoBulkEntry x + uptoBulkEntries r
def uptoBulkEntry {H : Type} : Lit × DataW H → Nat
  | (.string bytes, d) => bytes.length + uptoBulk d + 1
  | (_, d) => uptoBulk d + 1
 end
def uptoSmall : (H : Type) → List (DataW H) → Bool := fun _ ds => decide (uptoBulkAll ds ≤ 1048576)
def OpenSpec.upto (s : _root_.Go.ChangeSpec) : _root_.Go.OpenSpec := { _root_.Go.OpenSpec.ofChange s with cond := some uptoSmall }

/-- 'laws.FnRowHas', WHERE WHAT IT READS IS OF BULK AT MOST 1048576: true; the input reads as it did. -/
def fnRowHasUptoRow : OpenClaim := { program := "ytmmgobhoakaaaaa", sum := "6ca2d7eb5d12fee8ab31139a99c3cb84f7a517d9aa95e04447dbae2d052bbfd5", func := "loop.example/cribble/laws.FnRowHas", spec := "fnRowHas", unfollowed := true, recurses := true, apart := false, narrowed := true }
def FnRowHasUptoSaid : Prop := fnRowHasUptoRow.holds Try.pinned (OpenSpec.upto fnRowHasSpec)

/-- 'laws.FnRowSort', WHERE WHAT IT READS IS OF BULK AT MOST 1048576: true; the input reads as it did. -/
def fnRowSortUptoRow : OpenClaim := { program := "ytmmgobhoakaaaaa", sum := "6ca2d7eb5d12fee8ab31139a99c3cb84f7a517d9aa95e04447dbae2d052bbfd5", func := "loop.example/cribble/laws.FnRowSort", spec := "fnRowSort", unfollowed := true, recurses := true, apart := false, narrowed := true }
def FnRowSortUptoSaid : Prop := fnRowSortUptoRow.holds Try.pinned (OpenSpec.upto fnRowSortSpec)

/-- 'laws.FnPartTwo', WHERE WHAT IT READS IS OF BULK AT MOST 1048576: true; the input reads as it did. -/
def fnPartTwoUptoRow : OpenClaim := { program := "ytmmgobhoakaaaaa", sum := "6ca2d7eb5d12fee8ab31139a99c3cb84f7a517d9aa95e04447dbae2d052bbfd5", func := "loop.example/cribble/laws.FnPartTwo", spec := "fnPartTwo", inPlace := ["slices.overlaps[string]", "slices.overlaps[loop.example/cribble/impl.Val]"], unfollowed := true, recurses := true, apart := false, narrowed := true }
def FnPartTwoUptoSaid : Prop := fnPartTwoUptoRow.holds Try.pinned (OpenSpec.upto fnPartTwoSpec)

/-- 'laws.FnRowKeysAdd', WHERE WHAT IT READS IS OF BULK AT MOST 1048576: true; the input reads as it did. -/
def fnRowKeysAddUptoRow : OpenClaim := { program := "ytmmgobhoakaaaaa", sum := "6ca2d7eb5d12fee8ab31139a99c3cb84f7a517d9aa95e04447dbae2d052bbfd5", func := "loop.example/cribble/laws.FnRowKeysAdd", spec := "fnRowKeysAdd", inPlace := ["slices.overlaps[string]", "slices.overlaps[loop.example/cribble/impl.Val]"], unfollowed := true, recurses := true, apart := false, narrowed := true }
def FnRowKeysAddUptoSaid : Prop := fnRowKeysAddUptoRow.holds Try.pinned (OpenSpec.upto fnRowKeysAddSpec)

/-- 'laws.FnPartAdd', WHERE WHAT IT READS IS OF BULK AT MOST 1048576: true; the input reads as it did. -/
def fnPartAddUptoRow : OpenClaim := { program := "ytmmgobhoakaaaaa", sum := "6ca2d7eb5d12fee8ab31139a99c3cb84f7a517d9aa95e04447dbae2d052bbfd5", func := "loop.example/cribble/laws.FnPartAdd", spec := "fnPartAdd", inPlace := ["slices.overlaps[string]", "slices.overlaps[loop.example/cribble/impl.Val]"], unfollowed := true, recurses := true, apart := false, narrowed := true }
def FnPartAddUptoSaid : Prop := fnPartAddUptoRow.holds Try.pinned (OpenSpec.upto fnPartAddSpec)

/-- 'laws.FnRowPairs', WHERE WHAT IT READS IS OF BULK AT MOST 1048576: true; the input reads as it did. -/
def fnRowPairsUptoRow : OpenClaim := { program := "ytmmgobhoakaaaaa", sum := "6ca2d7eb5d12fee8ab31139a99c3cb84f7a517d9aa95e04447dbae2d052bbfd5", func := "loop.example/cribble/laws.FnRowPairs", spec := "fnRowPairs", inPlace := ["slices.overlaps[string]", "slices.overlaps[loop.example/cribble/impl.Val]"], unfollowed := true, recurses := true, apart := false, narrowed := true }
def FnRowPairsUptoSaid : Prop := fnRowPairsUptoRow.holds Try.pinned (OpenSpec.upto fnRowPairsSpec)

/-- 'laws.FnPart', WHERE WHAT IT READS IS OF BULK AT MOST 1048576: true; the input reads as it did. -/
def fnPartUptoRow : OpenClaim := { program := "ytmmgobhoakaaaaa", sum := "6ca2d7eb5d12fee8ab31139a99c3cb84f7a517d9aa95e04447dbae2d052bbfd5", func := "loop.example/cribble/laws.FnPart", spec := "fnPart", inPlace := ["slices.overlaps[string]", "slices.overlaps[loop.example/cribble/impl.Val]"], unfollowed := true, recurses := true, apart := false, narrowed := true }
def FnPartUptoSaid : Prop := fnPartUptoRow.holds Try.pinned (OpenSpec.upto fnPartSpec)

/-- 'laws.FnPathTwo', WHERE WHAT IT READS IS OF BULK AT MOST 1048576: true; the input reads as it did. -/
def fnPathTwoUptoRow : OpenClaim := { program := "ytmmgobhoakaaaaa", sum := "6ca2d7eb5d12fee8ab31139a99c3cb84f7a517d9aa95e04447dbae2d052bbfd5", func := "loop.example/cribble/laws.FnPathTwo", spec := "fnPathTwo", inPlace := ["slices.overlaps[string]", "slices.overlaps[loop.example/cribble/impl.Val]"], unfollowed := true, recurses := true, apart := false, narrowed := true }
def FnPathTwoUptoSaid : Prop := fnPathTwoUptoRow.holds Try.pinned (OpenSpec.upto fnPathTwoSpec)

/-- 'laws.FnRowCut', WHERE WHAT IT READS IS OF BULK AT MOST 1048576: true; the input reads as it did. -/
def fnRowCutUptoRow : OpenClaim := { program := "ytmmgobhoakaaaaa", sum := "6ca2d7eb5d12fee8ab31139a99c3cb84f7a517d9aa95e04447dbae2d052bbfd5", func := "loop.example/cribble/laws.FnRowCut", spec := "fnRowCut", inPlace := ["slices.overlaps[string]", "slices.overlaps[loop.example/cribble/impl.Val]"], unfollowed := true, recurses := true, apart := false, narrowed := true }
def FnRowCutUptoSaid : Prop := fnRowCutUptoRow.holds Try.pinned (OpenSpec.upto fnRowCutSpec)

/-- 'laws.FnPartNone', WHERE WHAT IT READS IS OF BULK AT MOST 1048576: true; the input reads as it did. -/
def fnPartNoneUptoRow : OpenClaim := { program := "ytmmgobhoakaaaaa", sum := "6ca2d7eb5d12fee8ab31139a99c3cb84f7a517d9aa95e04447dbae2d052bbfd5", func := "loop.example/cribble/laws.FnPartNone", spec := "fnPartNone", inPlace := ["slices.overlaps[string]", "slices.overlaps[loop.example/cribble/impl.Val]"], unfollowed := true, recurses := true, apart := false, narrowed := true }
def FnPartNoneUptoSaid : Prop := fnPartNoneUptoRow.holds Try.pinned (OpenSpec.upto fnPartNoneSpec)

/-- 'laws.FnPartLen', WHERE WHAT IT READS IS OF BULK AT MOST 1048576: true; the input reads as it did. -/
def fnPartLenUptoRow : OpenClaim := { program := "ytmmgobhoakaaaaa", sum := "6ca2d7eb5d12fee8ab31139a99c3cb84f7a517d9aa95e04447dbae2d052bbfd5", func := "loop.example/cribble/laws.FnPartLen", spec := "fnPartLen", inPlace := ["slices.overlaps[string]", "slices.overlaps[loop.example/cribble/impl.Val]"], unfollowed := true, recurses := true, apart := false, narrowed := true }
def FnPartLenUptoSaid : Prop := fnPartLenUptoRow.holds Try.pinned (OpenSpec.upto fnPartLenSpec)

end Rows
end Go.Proofs.Ytmmgobhoakaaaaa
