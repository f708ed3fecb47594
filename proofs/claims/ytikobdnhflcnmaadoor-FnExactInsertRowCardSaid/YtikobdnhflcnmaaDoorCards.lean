/-
  DERIVED. GIVEN WITH THE SEED: THE CARDS: each row of YtikobdnhflcnmaaDoorRows.lean that lists a variable, with what it lists TIED to the program's text (the seventh form; the later family's looks); each row that meets fmt, with fmt's text TOLD by the authors' own Lean function (tested against real Go, not proved from fmt's source: count such statements apart). THE CARD IS WHAT COUNTS. Prove the row's statement (the work); the ties are given (YtikobdnhflcnmaaDoorTie.lean); close each card by the builder's one call (the guide's Derived/Test/ToyasCard.lean, 'card_holds'). Laid BY PROGRAM, IN A SANDBOX (cutbox-door.mjs). By AI agents, Wed Nov 11 2026. No macro, syntax, notation, axiom, sorry.
-/
import Derived.Test.YtikobdnhflcnmaaDoorRows
import GoSem.ClaimSeven
namespace Go.Proofs.YtikobdnhflcnmaaDoor
namespace Rows

/-- THE TIED CARD OF 'laws.FnExactAlterTable'. -/
def fnExactAlterTableCard : Claim7 := { stood := { row := fnExactAlterTableRow, standIns := [], harness := (true, "44aad7592839db518a1710c7e7ccf779df7467ae4e6dffab076a856c92842ace"), looks := false }, kinds := [], alts := [], laidByText := true, laidKinds := [.data, .data, .data], laidTests := true, laidLooks := .later }
def FnExactAlterTableCardSaid : Prop := Claim7.holds Tryd.pinned (.plain (OpenSpec.ofChange fnExactAlterTableSpec)) fnExactAlterTableCard

/-- THE TIED CARD OF 'laws.FnExactInsertRow'. -/
def fnExactInsertRowCard : Claim7 := { stood := { row := fnExactInsertRowRow, standIns := [], harness := (true, "44aad7592839db518a1710c7e7ccf779df7467ae4e6dffab076a856c92842ace"), looks := false }, kinds := [], alts := [], laidByText := true, laidKinds := [.data, .data, .data], laidTests := true, laidLooks := .later }
def FnExactInsertRowCardSaid : Prop := Claim7.holds Tryd.pinned (.plain (OpenSpec.ofChange fnExactInsertRowSpec)) fnExactInsertRowCard

/-- THE SECOND FORM's CARD OF 'laws.FnExactAlterTable'. -/
def fnExactAlterTableUptoCard : Claim7 := { stood := { row := fnExactAlterTableUptoRow, standIns := [], harness := (true, "44aad7592839db518a1710c7e7ccf779df7467ae4e6dffab076a856c92842ace"), looks := false }, kinds := [], alts := [], laidByText := true, laidKinds := [.data, .data, .data], laidTests := true, laidLooks := .later }
def FnExactAlterTableUptoCardSaid : Prop := Claim7.holds Tryd.pinned (.plain (OpenSpec.upto fnExactAlterTableSpec)) fnExactAlterTableUptoCard

/-- THE SECOND FORM's CARD OF 'laws.FnExactInsertRow'. -/
def fnExactInsertRowUptoCard : Claim7 := { stood := { row := fnExactInsertRowUptoRow, standIns := [], harness := (true, "44aad7592839db518a1710c7e7ccf779df7467ae4e6dffab076a856c92842ace"), looks := false }, kinds := [], alts := [], laidByText := true, laidKinds := [.data, .data, .data], laidTests := true, laidLooks := .later }
def FnExactInsertRowUptoCardSaid : Prop := Claim7.holds Tryd.pinned (.plain (OpenSpec.upto fnExactInsertRowSpec)) fnExactInsertRowUptoCard
end Rows
end Go.Proofs.YtikobdnhflcnmaaDoor
