/-
  DERIVED. GIVEN WITH THE SEED: THE CARDS: each row of YthhlkedkeefgnaaDoorRows.lean that lists a variable, with what it lists TIED to the program's text (the seventh form; the later family's looks); each row that meets fmt, with fmt's text TOLD by the authors' own Lean function (tested against real Go, not proved from fmt's source: count such statements apart). THE CARD IS WHAT COUNTS. Prove the row's statement (the work); the ties are given (YthhlkedkeefgnaaDoorTie.lean); close each card by the builder's one call (the guide's Derived/Test/ToyasCard.lean, 'card_holds'). Laid BY PROGRAM, IN A SANDBOX (cutbox-door.mjs). By AI agents, Wed Nov 11 2026. No macro, syntax, notation, axiom, sorry.
-/
import Derived.Test.YthhlkedkeefgnaaDoorRows
import GoSem.ClaimSeven
namespace Go.Proofs.YthhlkedkeefgnaaDoor
namespace Rows

/-- THE TIED CARD OF 'laws.FnValidTable'. -/
def fnValidTableCard : Claim7 := { stood := { row := fnValidTableRow, standIns := [], harness := (true, "a065e85b54b292a0100af3360e6f1f74f411f57c0d7759353687b27ebe78a805"), looks := false }, kinds := [], alts := [], laidByText := true, laidKinds := [.data, .data, .data], laidTests := true, laidLooks := .later }
def FnValidTableCardSaid : Prop := Claim7.holds Tryd.pinned (.plain (OpenSpec.ofChange fnValidTableSpec)) fnValidTableCard

/-- THE TIED CARD OF 'laws.FnOldRows'. -/
def fnOldRowsCard : Claim7 := { stood := { row := fnOldRowsRow, standIns := [], harness := (true, "a065e85b54b292a0100af3360e6f1f74f411f57c0d7759353687b27ebe78a805"), looks := false }, kinds := [], alts := [], laidByText := true, laidKinds := [.data, .data, .data], laidTests := true, laidLooks := .later }
def FnOldRowsCardSaid : Prop := Claim7.holds Tryd.pinned (.plain (OpenSpec.ofChange fnOldRowsSpec)) fnOldRowsCard

/-- THE TIED CARD OF 'laws.FnExactValidTable'. -/
def fnExactValidTableCard : Claim7 := { stood := { row := fnExactValidTableRow, standIns := [], harness := (true, "a065e85b54b292a0100af3360e6f1f74f411f57c0d7759353687b27ebe78a805"), looks := false }, kinds := [], alts := [], laidByText := true, laidKinds := [.data, .data, .data], laidTests := true, laidLooks := .later }
def FnExactValidTableCardSaid : Prop := Claim7.holds Tryd.pinned (.plain (OpenSpec.ofChange fnExactValidTableSpec)) fnExactValidTableCard

/-- THE TIED CARD OF 'laws.FnTableRows'. -/
def fnTableRowsCard : Claim7 := { stood := { row := fnTableRowsRow, standIns := [], harness := (true, "a065e85b54b292a0100af3360e6f1f74f411f57c0d7759353687b27ebe78a805"), looks := false }, kinds := [], alts := [], laidByText := true, laidKinds := [.data, .data, .data], laidTests := true, laidLooks := .later }
def FnTableRowsCardSaid : Prop := Claim7.holds Tryd.pinned (.plain (OpenSpec.ofChange fnTableRowsSpec)) fnTableRowsCard

/-- THE TIED CARD OF 'laws.FnExactOldRows'. -/
def fnExactOldRowsCard : Claim7 := { stood := { row := fnExactOldRowsRow, standIns := [], harness := (true, "a065e85b54b292a0100af3360e6f1f74f411f57c0d7759353687b27ebe78a805"), looks := false }, kinds := [], alts := [], laidByText := true, laidKinds := [.data, .data, .data], laidTests := true, laidLooks := .later }
def FnExactOldRowsCardSaid : Prop := Claim7.holds Tryd.pinned (.plain (OpenSpec.ofChange fnExactOldRowsSpec)) fnExactOldRowsCard

/-- THE TIED CARD OF 'laws.FnRewriteRowsSteps'. -/
def fnRewriteRowsStepsCard : Claim7 := { stood := { row := fnRewriteRowsStepsRow, standIns := [], harness := (true, "a065e85b54b292a0100af3360e6f1f74f411f57c0d7759353687b27ebe78a805"), looks := false }, kinds := [], alts := [], laidByText := true, laidKinds := [.data, .data, .data], laidTests := true, laidLooks := .later }
def FnRewriteRowsStepsCardSaid : Prop := Claim7.holds Tryd.pinned (.plain (OpenSpec.ofChange fnRewriteRowsStepsSpec)) fnRewriteRowsStepsCard

/-- THE TIED CARD OF 'laws.FnInsertRowRewrite'. -/
def fnInsertRowRewriteCard : Claim7 := { stood := { row := fnInsertRowRewriteRow, standIns := [], harness := (true, "a065e85b54b292a0100af3360e6f1f74f411f57c0d7759353687b27ebe78a805"), looks := false }, kinds := [], alts := [], laidByText := true, laidKinds := [.data, .data, .data], laidTests := true, laidLooks := .later }
def FnInsertRowRewriteCardSaid : Prop := Claim7.holds Tryd.pinned (.plain (OpenSpec.ofChange fnInsertRowRewriteSpec)) fnInsertRowRewriteCard

/-- THE TIED CARD OF 'laws.FnAlterTable'. -/
def fnAlterTableCard : Claim7 := { stood := { row := fnAlterTableRow, standIns := [], harness := (true, "a065e85b54b292a0100af3360e6f1f74f411f57c0d7759353687b27ebe78a805"), looks := false }, kinds := [], alts := [], laidByText := true, laidKinds := [.data, .data, .data], laidTests := true, laidLooks := .later }
def FnAlterTableCardSaid : Prop := Claim7.holds Tryd.pinned (.plain (OpenSpec.ofChange fnAlterTableSpec)) fnAlterTableCard

/-- THE TIED CARD OF 'laws.FnInsertRow'. -/
def fnInsertRowCard : Claim7 := { stood := { row := fnInsertRowRow, standIns := [], harness := (true, "a065e85b54b292a0100af3360e6f1f74f411f57c0d7759353687b27ebe78a805"), looks := false }, kinds := [], alts := [], laidByText := true, laidKinds := [.data, .data, .data], laidTests := true, laidLooks := .later }
def FnInsertRowCardSaid : Prop := Claim7.holds Tryd.pinned (.plain (OpenSpec.ofChange fnInsertRowSpec)) fnInsertRowCard

/-- THE TIED CARD OF 'laws.FnRewriteRows'. -/
def fnRewriteRowsCard : Claim7 := { stood := { row := fnRewriteRowsRow, standIns := [], harness := (true, "a065e85b54b292a0100af3360e6f1f74f411f57c0d7759353687b27ebe78a805"), looks := false }, kinds := [], alts := [], laidByText := true, laidKinds := [.data, .data, .data], laidTests := true, laidLooks := .later }
def FnRewriteRowsCardSaid : Prop := Claim7.holds Tryd.pinned (.plain (OpenSpec.ofChange fnRewriteRowsSpec)) fnRewriteRowsCard

/-- THE TIED CARD OF 'laws.FnExactAlterTable'. -/
def fnExactAlterTableCard : Claim7 := { stood := { row := fnExactAlterTableRow, standIns := [], harness := (true, "a065e85b54b292a0100af3360e6f1f74f411f57c0d7759353687b27ebe78a805"), looks := false }, kinds := [], alts := [], laidByText := true, laidKinds := [.data, .data, .data], laidTests := true, laidLooks := .later }
def FnExactAlterTableCardSaid : Prop := Claim7.holds Tryd.pinned (.plain (OpenSpec.ofChange fnExactAlterTableSpec)) fnExactAlterTableCard

/-- THE TIED CARD OF 'laws.FnExactInsertRow'. -/
def fnExactInsertRowCard : Claim7 := { stood := { row := fnExactInsertRowRow, standIns := [], harness := (true, "a065e85b54b292a0100af3360e6f1f74f411f57c0d7759353687b27ebe78a805"), looks := false }, kinds := [], alts := [], laidByText := true, laidKinds := [.data, .data, .data], laidTests := true, laidLooks := .later }
def FnExactInsertRowCardSaid : Prop := Claim7.holds Tryd.pinned (.plain (OpenSpec.ofChange fnExactInsertRowSpec)) fnExactInsertRowCard

/-- THE SECOND FORM's CARD OF 'laws.FnValidTable'. -/
def fnValidTableUptoCard : Claim7 := { stood := { row := fnValidTableUptoRow, standIns := [], harness := (true, "a065e85b54b292a0100af3360e6f1f74f411f57c0d7759353687b27ebe78a805"), looks := false }, kinds := [], alts := [], laidByText := true, laidKinds := [.data, .data, .data], laidTests := true, laidLooks := .later }
def FnValidTableUptoCardSaid : Prop := Claim7.holds Tryd.pinned (.plain (OpenSpec.upto fnValidTableSpec)) fnValidTableUptoCard

/-- THE SECOND FORM's CARD OF 'laws.FnOldRows'. -/
def fnOldRowsUptoCard : Claim7 := { stood := { row := fnOldRowsUptoRow, standIns := [], harness := (true, "a065e85b54b292a0100af3360e6f1f74f411f57c0d7759353687b27ebe78a805"), looks := false }, kinds := [], alts := [], laidByText := true, laidKinds := [.data, .data, .data], laidTests := true, laidLooks := .later }
def FnOldRowsUptoCardSaid : Prop := Claim7.holds Tryd.pinned (.plain (OpenSpec.upto fnOldRowsSpec)) fnOldRowsUptoCard

/-- THE SECOND FORM's CARD OF 'laws.FnExactValidTable'. -/
def fnExactValidTableUptoCard : Claim7 := { stood := { row := fnExactValidTableUptoRow, standIns := [], harness := (true, "a065e85b54b292a0100af3360e6f1f74f411f57c0d7759353687b27ebe78a805"), looks := false }, kinds := [], alts := [], laidByText := true, laidKinds := [.data, .data, .data], laidTests := true, laidLooks := .later }
def FnExactValidTableUptoCardSaid : Prop := Claim7.holds Tryd.pinned (.plain (OpenSpec.upto fnExactValidTableSpec)) fnExactValidTableUptoCard

/-- THE SECOND FORM's CARD OF 'laws.FnTableRows'. -/
def fnTableRowsUptoCard : Claim7 := { stood := { row := fnTableRowsUptoRow, standIns := [], harness := (true, "a065e85b54b292a0100af3360e6f1f74f411f57c0d7759353687b27ebe78a805"), looks := false }, kinds := [], alts := [], laidByText := true, laidKinds := [.data, .data, .data], laidTests := true, laidLooks := .later }
def FnTableRowsUptoCardSaid : Prop := Claim7.holds Tryd.pinned (.plain (OpenSpec.upto fnTableRowsSpec)) fnTableRowsUptoCard

/-- THE SECOND FORM's CARD OF 'laws.FnExactOldRows'. -/
def fnExactOldRowsUptoCard : Claim7 := { stood := { row := fnExactOldRowsUptoRow, standIns := [], harness := (true, "a065e85b54b292a0100af3360e6f1f74f411f57c0d7759353687b27ebe78a805"), looks := false }, kinds := [], alts := [], laidByText := true, laidKinds := [.data, .data, .data], laidTests := true, laidLooks := .later }
def FnExactOldRowsUptoCardSaid : Prop := Claim7.holds Tryd.pinned (.plain (OpenSpec.upto fnExactOldRowsSpec)) fnExactOldRowsUptoCard

/-- THE SECOND FORM's CARD OF 'laws.FnRewriteRowsSteps'. -/
def fnRewriteRowsStepsUptoCard : Claim7 := { stood := { row := fnRewriteRowsStepsUptoRow, standIns := [], harness := (true, "a065e85b54b292a0100af3360e6f1f74f411f57c0d7759353687b27ebe78a805"), looks := false }, kinds := [], alts := [], laidByText := true, laidKinds := [.data, .data, .data], laidTests := true, laidLooks := .later }
def FnRewriteRowsStepsUptoCardSaid : Prop := Claim7.holds Tryd.pinned (.plain (OpenSpec.upto fnRewriteRowsStepsSpec)) fnRewriteRowsStepsUptoCard

/-- THE SECOND FORM's CARD OF 'laws.FnInsertRowRewrite'. -/
def fnInsertRowRewriteUptoCard : Claim7 := { stood := { row := fnInsertRowRewriteUptoRow, standIns := [], harness := (true, "a065e85b54b292a0100af3360e6f1f74f411f57c0d7759353687b27ebe78a805"), looks := false }, kinds := [], alts := [], laidByText := true, laidKinds := [.data, .data, .data], laidTests := true, laidLooks := .later }
def FnInsertRowRewriteUptoCardSaid : Prop := Claim7.holds Tryd.pinned (.plain (OpenSpec.upto fnInsertRowRewriteSpec)) fnInsertRowRewriteUptoCard

/-- THE SECOND FORM's CARD OF 'laws.FnAlterTable'. -/
def fnAlterTableUptoCard : Claim7 := { stood := { row := fnAlterTableUptoRow, standIns := [], harness := (true, "a065e85b54b292a0100af3360e6f1f74f411f57c0d7759353687b27ebe78a805"), looks := false }, kinds := [], alts := [], laidByText := true, laidKinds := [.data, .data, .data], laidTests := true, laidLooks := .later }
def FnAlterTableUptoCardSaid : Prop := Claim7.holds Tryd.pinned (.plain (OpenSpec.upto fnAlterTableSpec)) fnAlterTableUptoCard

/-- THE SECOND FORM's CARD OF 'laws.FnInsertRow'. -/
def fnInsertRowUptoCard : Claim7 := { stood := { row := fnInsertRowUptoRow, standIns := [], harness := (true, "a065e85b54b292a0100af3360e6f1f74f411f57c0d7759353687b27ebe78a805"), looks := false }, kinds := [], alts := [], laidByText := true, laidKinds := [.data, .data, .data], laidTests := true, laidLooks := .later }
def FnInsertRowUptoCardSaid : Prop := Claim7.holds Tryd.pinned (.plain (OpenSpec.upto fnInsertRowSpec)) fnInsertRowUptoCard

/-- THE SECOND FORM's CARD OF 'laws.FnRewriteRows'. -/
def fnRewriteRowsUptoCard : Claim7 := { stood := { row := fnRewriteRowsUptoRow, standIns := [], harness := (true, "a065e85b54b292a0100af3360e6f1f74f411f57c0d7759353687b27ebe78a805"), looks := false }, kinds := [], alts := [], laidByText := true, laidKinds := [.data, .data, .data], laidTests := true, laidLooks := .later }
def FnRewriteRowsUptoCardSaid : Prop := Claim7.holds Tryd.pinned (.plain (OpenSpec.upto fnRewriteRowsSpec)) fnRewriteRowsUptoCard

/-- THE SECOND FORM's CARD OF 'laws.FnExactAlterTable'. -/
def fnExactAlterTableUptoCard : Claim7 := { stood := { row := fnExactAlterTableUptoRow, standIns := [], harness := (true, "a065e85b54b292a0100af3360e6f1f74f411f57c0d7759353687b27ebe78a805"), looks := false }, kinds := [], alts := [], laidByText := true, laidKinds := [.data, .data, .data], laidTests := true, laidLooks := .later }
def FnExactAlterTableUptoCardSaid : Prop := Claim7.holds Tryd.pinned (.plain (OpenSpec.upto fnExactAlterTableSpec)) fnExactAlterTableUptoCard

/-- THE SECOND FORM's CARD OF 'laws.FnExactInsertRow'. -/
def fnExactInsertRowUptoCard : Claim7 := { stood := { row := fnExactInsertRowUptoRow, standIns := [], harness := (true, "a065e85b54b292a0100af3360e6f1f74f411f57c0d7759353687b27ebe78a805"), looks := false }, kinds := [], alts := [], laidByText := true, laidKinds := [.data, .data, .data], laidTests := true, laidLooks := .later }
def FnExactInsertRowUptoCardSaid : Prop := Claim7.holds Tryd.pinned (.plain (OpenSpec.upto fnExactInsertRowSpec)) fnExactInsertRowUptoCard
end Rows
end Go.Proofs.YthhlkedkeefgnaaDoor
