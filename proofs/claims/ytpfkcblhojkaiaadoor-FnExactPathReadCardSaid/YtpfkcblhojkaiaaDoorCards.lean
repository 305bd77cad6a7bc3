/-
  DERIVED. GIVEN WITH THE SEED: THE CARDS: each row of YtpfkcblhojkaiaaDoorRows.lean that lists a variable, with what it lists TIED to the program's text (the seventh form; the later family's looks); each row that meets fmt, with fmt's text TOLD by the authors' own Lean function (tested against real Go, not proved from fmt's source: count such statements apart). THE CARD IS WHAT COUNTS. Prove the row's statement (the work); the ties are given (YtpfkcblhojkaiaaDoorTie.lean); close each card by the builder's one call (the guide's Derived/Test/ToyasCard.lean, 'card_holds'). Laid BY PROGRAM, IN A SANDBOX (cutbox-door.mjs). By AI agents, Wed Nov 11 2026. No macro, syntax, notation, axiom, sorry.
-/
import Derived.Test.YtpfkcblhojkaiaaDoorRows
import GoSem.ClaimSeven
namespace Go.Proofs.YtpfkcblhojkaiaaDoor
namespace Rows

/-- THE TIED CARD OF 'laws.FnExactFiltOk'. -/
def fnExactFiltOkCard : Claim7 := { stood := { row := fnExactFiltOkRow, standIns := [], harness := (true, "268f5d2513eeebe425927c9dc9135bbdd009be8dcd699a379ca5ed5d5dfdc605"), looks := true }, kinds := [], alts := [], laidByText := true, laidKinds := [.data], laidTests := true, laidLooks := .later }
def FnExactFiltOkCardSaid : Prop := Claim7.holds Tryd.pinned (.plain (OpenSpec.ofChange fnExactFiltOkSpec)) fnExactFiltOkCard

/-- THE TIED CARD OF 'laws.FnExactFiltMany'. -/
def fnExactFiltManyCard : Claim7 := { stood := { row := fnExactFiltManyRow, standIns := [], harness := (true, "268f5d2513eeebe425927c9dc9135bbdd009be8dcd699a379ca5ed5d5dfdc605"), looks := true }, kinds := [], alts := [], laidByText := true, laidKinds := [.data], laidTests := true, laidLooks := .later }
def FnExactFiltManyCardSaid : Prop := Claim7.holds Tryd.pinned (.plain (OpenSpec.ofChange fnExactFiltManySpec)) fnExactFiltManyCard

/-- THE TIED CARD OF 'laws.FnExactPathText'. -/
def fnExactPathTextCard : Claim7 := { stood := { row := fnExactPathTextRow, standIns := [], harness := (true, "268f5d2513eeebe425927c9dc9135bbdd009be8dcd699a379ca5ed5d5dfdc605"), looks := true }, kinds := [], alts := [], laidByText := true, laidKinds := [.data, .data, .data], laidTests := true, laidLooks := .later }
def FnExactPathTextCardSaid : Prop := Claim7.holds Tryd.pinned (.plain (OpenSpec.ofChange fnExactPathTextSpec)) fnExactPathTextCard

/-- THE TIED CARD OF 'laws.FnExactPathRead'. -/
def fnExactPathReadCard : Claim7 := { stood := { row := fnExactPathReadRow, standIns := [], harness := (true, "268f5d2513eeebe425927c9dc9135bbdd009be8dcd699a379ca5ed5d5dfdc605"), looks := true }, kinds := [], alts := [], laidByText := true, laidKinds := [.data, .data, .data, .sentinel, .sentinel], laidTests := true, laidLooks := .later }
def FnExactPathReadCardSaid : Prop := Claim7.holds Tryd.pinned (.plain (OpenSpec.ofChange fnExactPathReadSpec)) fnExactPathReadCard

/-- THE TIED CARD OF 'laws.FnExactValText'. -/
def fnExactValTextCard : Claim7 := { stood := { row := fnExactValTextRow, standIns := [], harness := (true, "268f5d2513eeebe425927c9dc9135bbdd009be8dcd699a379ca5ed5d5dfdc605"), looks := true }, kinds := [], alts := [], laidByText := true, laidKinds := [.data, .data, .data], laidTests := true, laidLooks := .later }
def FnExactValTextCardSaid : Prop := Claim7.holds Tryd.pinned (.plain (OpenSpec.ofChange fnExactValTextSpec)) fnExactValTextCard

/-- THE TIED CARD OF 'laws.FnPathBent'. -/
def fnPathBentCard : Claim7 := { stood := { row := fnPathBentRow, standIns := [], harness := (true, "268f5d2513eeebe425927c9dc9135bbdd009be8dcd699a379ca5ed5d5dfdc605"), looks := true }, kinds := [], alts := [], laidByText := true, laidKinds := [.data, .data, .data], laidTests := true, laidLooks := .later }
def FnPathBentCardSaid : Prop := Claim7.holds Tryd.pinned (.plain (OpenSpec.ofChange fnPathBentSpec)) fnPathBentCard

/-- THE TIED CARD OF 'laws.FnValBent'. -/
def fnValBentCard : Claim7 := { stood := { row := fnValBentRow, standIns := [], harness := (true, "268f5d2513eeebe425927c9dc9135bbdd009be8dcd699a379ca5ed5d5dfdc605"), looks := true }, kinds := [], alts := [], laidByText := true, laidKinds := [.data, .data, .data], laidTests := true, laidLooks := .later }
def FnValBentCardSaid : Prop := Claim7.holds Tryd.pinned (.plain (OpenSpec.ofChange fnValBentSpec)) fnValBentCard

/-- THE SECOND FORM's CARD OF 'laws.FnExactFiltOk'. -/
def fnExactFiltOkUptoCard : Claim7 := { stood := { row := fnExactFiltOkUptoRow, standIns := [], harness := (true, "268f5d2513eeebe425927c9dc9135bbdd009be8dcd699a379ca5ed5d5dfdc605"), looks := true }, kinds := [], alts := [], laidByText := true, laidKinds := [.data], laidTests := true, laidLooks := .later }
def FnExactFiltOkUptoCardSaid : Prop := Claim7.holds Tryd.pinned (.plain (OpenSpec.upto fnExactFiltOkSpec)) fnExactFiltOkUptoCard

/-- THE SECOND FORM's CARD OF 'laws.FnExactFiltMany'. -/
def fnExactFiltManyUptoCard : Claim7 := { stood := { row := fnExactFiltManyUptoRow, standIns := [], harness := (true, "268f5d2513eeebe425927c9dc9135bbdd009be8dcd699a379ca5ed5d5dfdc605"), looks := true }, kinds := [], alts := [], laidByText := true, laidKinds := [.data], laidTests := true, laidLooks := .later }
def FnExactFiltManyUptoCardSaid : Prop := Claim7.holds Tryd.pinned (.plain (OpenSpec.upto fnExactFiltManySpec)) fnExactFiltManyUptoCard

/-- THE SECOND FORM's CARD OF 'laws.FnExactPathText'. -/
def fnExactPathTextUptoCard : Claim7 := { stood := { row := fnExactPathTextUptoRow, standIns := [], harness := (true, "268f5d2513eeebe425927c9dc9135bbdd009be8dcd699a379ca5ed5d5dfdc605"), looks := true }, kinds := [], alts := [], laidByText := true, laidKinds := [.data, .data, .data], laidTests := true, laidLooks := .later }
def FnExactPathTextUptoCardSaid : Prop := Claim7.holds Tryd.pinned (.plain (OpenSpec.upto fnExactPathTextSpec)) fnExactPathTextUptoCard

/-- THE SECOND FORM's CARD OF 'laws.FnExactPathRead'. -/
def fnExactPathReadUptoCard : Claim7 := { stood := { row := fnExactPathReadUptoRow, standIns := [], harness := (true, "268f5d2513eeebe425927c9dc9135bbdd009be8dcd699a379ca5ed5d5dfdc605"), looks := true }, kinds := [], alts := [], laidByText := true, laidKinds := [.data, .data, .data, .sentinel, .sentinel], laidTests := true, laidLooks := .later }
def FnExactPathReadUptoCardSaid : Prop := Claim7.holds Tryd.pinned (.plain (OpenSpec.upto fnExactPathReadSpec)) fnExactPathReadUptoCard

/-- THE SECOND FORM's CARD OF 'laws.FnExactValText'. -/
def fnExactValTextUptoCard : Claim7 := { stood := { row := fnExactValTextUptoRow, standIns := [], harness := (true, "268f5d2513eeebe425927c9dc9135bbdd009be8dcd699a379ca5ed5d5dfdc605"), looks := true }, kinds := [], alts := [], laidByText := true, laidKinds := [.data, .data, .data], laidTests := true, laidLooks := .later }
def FnExactValTextUptoCardSaid : Prop := Claim7.holds Tryd.pinned (.plain (OpenSpec.upto fnExactValTextSpec)) fnExactValTextUptoCard

/-- THE SECOND FORM's CARD OF 'laws.FnPathBent'. -/
def fnPathBentUptoCard : Claim7 := { stood := { row := fnPathBentUptoRow, standIns := [], harness := (true, "268f5d2513eeebe425927c9dc9135bbdd009be8dcd699a379ca5ed5d5dfdc605"), looks := true }, kinds := [], alts := [], laidByText := true, laidKinds := [.data, .data, .data], laidTests := true, laidLooks := .later }
def FnPathBentUptoCardSaid : Prop := Claim7.holds Tryd.pinned (.plain (OpenSpec.upto fnPathBentSpec)) fnPathBentUptoCard

/-- THE SECOND FORM's CARD OF 'laws.FnValBent'. -/
def fnValBentUptoCard : Claim7 := { stood := { row := fnValBentUptoRow, standIns := [], harness := (true, "268f5d2513eeebe425927c9dc9135bbdd009be8dcd699a379ca5ed5d5dfdc605"), looks := true }, kinds := [], alts := [], laidByText := true, laidKinds := [.data, .data, .data], laidTests := true, laidLooks := .later }
def FnValBentUptoCardSaid : Prop := Claim7.holds Tryd.pinned (.plain (OpenSpec.upto fnValBentSpec)) fnValBentUptoCard
end Rows
end Go.Proofs.YtpfkcblhojkaiaaDoor
