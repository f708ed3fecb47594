/-
  DERIVED. GIVEN WITH THE SEED: THE CARDS: each row of YtkjnnifnmoekjaaDoorRows.lean that lists a variable, with what it lists TIED to the program's text (the seventh form; the later family's looks); each row that meets fmt, with fmt's text TOLD by the authors' own Lean function (tested against real Go, not proved from fmt's source: count such statements apart). THE CARD IS WHAT COUNTS. Prove the row's statement (the work); the ties are given (YtkjnnifnmoekjaaDoorTie.lean); close each card by the builder's one call (the guide's Derived/Test/ToyasCard.lean, 'card_holds'). Laid BY PROGRAM, IN A SANDBOX (cutbox-door.mjs). By AI agents, Wed Nov 11 2026. No macro, syntax, notation, axiom, sorry.
-/
import Derived.Test.YtkjnnifnmoekjaaDoorRows
import GoSem.ClaimSeven
namespace Go.Proofs.YtkjnnifnmoekjaaDoor
namespace Rows

/-- THE TIED CARD OF 'laws.FnScanTable'. -/
def fnScanTableCard : Claim7 := { stood := { row := fnScanTableRow, standIns := [], harness := (true, "66dbd61624d574ba2e683952e675980c2032cb576c33f1f44f00a0d4d9fa3ec2"), looks := false }, kinds := [], alts := [], laidByText := true, laidKinds := [.data, .data, .data], laidTests := true, laidLooks := .later }
def FnScanTableCardSaid : Prop := Claim7.holds Tryd.pinned (.plain (OpenSpec.ofChange fnScanTableSpec)) fnScanTableCard

/-- THE SECOND FORM's CARD OF 'laws.FnScanTable'. -/
def fnScanTableUptoCard : Claim7 := { stood := { row := fnScanTableUptoRow, standIns := [], harness := (true, "66dbd61624d574ba2e683952e675980c2032cb576c33f1f44f00a0d4d9fa3ec2"), looks := false }, kinds := [], alts := [], laidByText := true, laidKinds := [.data, .data, .data], laidTests := true, laidLooks := .later }
def FnScanTableUptoCardSaid : Prop := Claim7.holds Tryd.pinned (.plain (OpenSpec.upto fnScanTableSpec)) fnScanTableUptoCard
end Rows
end Go.Proofs.YtkjnnifnmoekjaaDoor
