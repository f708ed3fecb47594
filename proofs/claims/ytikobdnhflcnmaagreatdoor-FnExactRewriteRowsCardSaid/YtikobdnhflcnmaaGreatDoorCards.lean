/-
  DERIVED. GIVEN WITH THE SEED: THE CARDS: each row of YtikobdnhflcnmaaGreatDoorRows.lean that lists a variable, with what it lists TIED to the program's text (the seventh form; the later family's looks); each row that meets fmt, with fmt's text TOLD by the authors' own Lean function (tested against real Go, not proved from fmt's source: count such statements apart). THE CARD IS WHAT COUNTS. Prove the row's statement (the work); the ties are given (YtikobdnhflcnmaaGreatDoorTie.lean); close each card by the builder's one call (the guide's Derived/Test/ToyasCard.lean, 'card_holds'). Laid BY PROGRAM, IN A SANDBOX (cutbox-door.mjs). By AI agents, Wed Nov 11 2026. No macro, syntax, notation, axiom, sorry.
-/
import Derived.Test.YtikobdnhflcnmaaGreatDoorRows
import GoSem.ClaimSeven
namespace Go.Proofs.YtikobdnhflcnmaaGreatDoor
namespace Rows

/-- THE TIED CARD OF 'laws.FnExactTableRows'. -/
def fnExactTableRowsCard : Claim7 := { stood := { row := fnExactTableRowsRow, standIns := [], harness := (true, "a9214ed15d0857f4f6a61995fb371cfaf12a92c43e04b4f32aa24be451c6cf36"), looks := false }, kinds := [], alts := [], laidByText := true, laidKinds := [.data, .data, .data], laidTests := true, laidLooks := .later }
def FnExactTableRowsCardSaid : Prop := Claim7.holds Tryz.pinned (.plain (OpenSpec.ofChange fnExactTableRowsSpec)) fnExactTableRowsCard

/-- THE TIED CARD OF 'laws.FnExactRewriteRows'. -/
def fnExactRewriteRowsCard : Claim7 := { stood := { row := fnExactRewriteRowsRow, standIns := [], harness := (true, "a9214ed15d0857f4f6a61995fb371cfaf12a92c43e04b4f32aa24be451c6cf36"), looks := false }, kinds := [], alts := [], laidByText := true, laidKinds := [.data, .data, .data], laidTests := true, laidLooks := .later }
def FnExactRewriteRowsCardSaid : Prop := Claim7.holds Tryz.pinned (.plain (OpenSpec.ofChange fnExactRewriteRowsSpec)) fnExactRewriteRowsCard

/-- THE SECOND FORM's CARD OF 'laws.FnExactTableRows'. -/
def fnExactTableRowsUptoCard : Claim7 := { stood := { row := fnExactTableRowsUptoRow, standIns := [], harness := (true, "a9214ed15d0857f4f6a61995fb371cfaf12a92c43e04b4f32aa24be451c6cf36"), looks := false }, kinds := [], alts := [], laidByText := true, laidKinds := [.data, .data, .data], laidTests := true, laidLooks := .later }
def FnExactTableRowsUptoCardSaid : Prop := Claim7.holds Tryz.pinned (.plain (OpenSpec.upto fnExactTableRowsSpec)) fnExactTableRowsUptoCard

/-- THE SECOND FORM's CARD OF 'laws.FnExactRewriteRows'. -/
def fnExactRewriteRowsUptoCard : Claim7 := { stood := { row := fnExactRewriteRowsUptoRow, standIns := [], harness := (true, "a9214ed15d0857f4f6a61995fb371cfaf12a92c43e04b4f32aa24be451c6cf36"), looks := false }, kinds := [], alts := [], laidByText := true, laidKinds := [.data, .data, .data], laidTests := true, laidLooks := .later }
def FnExactRewriteRowsUptoCardSaid : Prop := Claim7.holds Tryz.pinned (.plain (OpenSpec.upto fnExactRewriteRowsSpec)) fnExactRewriteRowsUptoCard
end Rows
end Go.Proofs.YtikobdnhflcnmaaGreatDoor
