/-
  DERIVED. GIVEN WITH THE SEED: THE CARDS: each row of YtkjnnifnmoekjaaGreatDoorRows.lean that lists a variable, with what it lists TIED to the program's text (the seventh form; the later family's looks); each row that meets fmt, with fmt's text TOLD by the authors' own Lean function (tested against real Go, not proved from fmt's source: count such statements apart). THE CARD IS WHAT COUNTS. Prove the row's statement (the work); the ties are given (YtkjnnifnmoekjaaGreatDoorTie.lean); close each card by the builder's one call (the guide's Derived/Test/ToyasCard.lean, 'card_holds'). Laid BY PROGRAM, IN A SANDBOX (cutbox-door.mjs). By AI agents, Wed Nov 11 2026. No macro, syntax, notation, axiom, sorry.
-/
import Derived.Test.YtkjnnifnmoekjaaGreatDoorRows
import GoSem.ClaimSeven
namespace Go.Proofs.YtkjnnifnmoekjaaGreatDoor
namespace Rows

/-- THE TIED CARD OF 'laws.FnExactScanTable'. -/
def fnExactScanTableCard : Claim7 := { stood := { row := fnExactScanTableRow, standIns := [], harness := (true, "c132916e900ca3d34716c3cbfd5d838fac81fa61c89e0579591cf1245125b312"), looks := false }, kinds := [], alts := [], laidByText := true, laidKinds := [.data, .data, .data], laidTests := true, laidLooks := .later }
def FnExactScanTableCardSaid : Prop := Claim7.holds Tryz.pinned (.plain (OpenSpec.ofChange fnExactScanTableSpec)) fnExactScanTableCard

/-- THE TIED CARD OF 'laws.FnIndexColumn'. -/
def fnIndexColumnCard : Claim7 := { stood := { row := fnIndexColumnRow, standIns := [], harness := (true, "c132916e900ca3d34716c3cbfd5d838fac81fa61c89e0579591cf1245125b312"), looks := false }, kinds := [], alts := [], laidByText := true, laidKinds := [.data, .data, .data], laidTests := true, laidLooks := .later }
def FnIndexColumnCardSaid : Prop := Claim7.holds Tryz.pinned (.plain (OpenSpec.ofChange fnIndexColumnSpec)) fnIndexColumnCard

/-- THE TIED CARD OF 'laws.FnExactIndexColumn'. -/
def fnExactIndexColumnCard : Claim7 := { stood := { row := fnExactIndexColumnRow, standIns := [], harness := (true, "c132916e900ca3d34716c3cbfd5d838fac81fa61c89e0579591cf1245125b312"), looks := false }, kinds := [], alts := [], laidByText := true, laidKinds := [.data, .data, .data], laidTests := true, laidLooks := .later }
def FnExactIndexColumnCardSaid : Prop := Claim7.holds Tryz.pinned (.plain (OpenSpec.ofChange fnExactIndexColumnSpec)) fnExactIndexColumnCard

/-- THE TIED CARD OF 'laws.FnScanTableIndex'. -/
def fnScanTableIndexCard : Claim7 := { stood := { row := fnScanTableIndexRow, standIns := [], harness := (true, "c132916e900ca3d34716c3cbfd5d838fac81fa61c89e0579591cf1245125b312"), looks := false }, kinds := [], alts := [], laidByText := true, laidKinds := [.data, .data, .data], laidTests := true, laidLooks := .later }
def FnScanTableIndexCardSaid : Prop := Claim7.holds Tryz.pinned (.plain (OpenSpec.ofChange fnScanTableIndexSpec)) fnScanTableIndexCard

/-- THE SECOND FORM's CARD OF 'laws.FnExactScanTable'. -/
def fnExactScanTableUptoCard : Claim7 := { stood := { row := fnExactScanTableUptoRow, standIns := [], harness := (true, "c132916e900ca3d34716c3cbfd5d838fac81fa61c89e0579591cf1245125b312"), looks := false }, kinds := [], alts := [], laidByText := true, laidKinds := [.data, .data, .data], laidTests := true, laidLooks := .later }
def FnExactScanTableUptoCardSaid : Prop := Claim7.holds Tryz.pinned (.plain (OpenSpec.upto fnExactScanTableSpec)) fnExactScanTableUptoCard

/-- THE SECOND FORM's CARD OF 'laws.FnIndexColumn'. -/
def fnIndexColumnUptoCard : Claim7 := { stood := { row := fnIndexColumnUptoRow, standIns := [], harness := (true, "c132916e900ca3d34716c3cbfd5d838fac81fa61c89e0579591cf1245125b312"), looks := false }, kinds := [], alts := [], laidByText := true, laidKinds := [.data, .data, .data], laidTests := true, laidLooks := .later }
def FnIndexColumnUptoCardSaid : Prop := Claim7.holds Tryz.pinned (.plain (OpenSpec.upto fnIndexColumnSpec)) fnIndexColumnUptoCard

/-- THE SECOND FORM's CARD OF 'laws.FnExactIndexColumn'. -/
def fnExactIndexColumnUptoCard : Claim7 := { stood := { row := fnExactIndexColumnUptoRow, standIns := [], harness := (true, "c132916e900ca3d34716c3cbfd5d838fac81fa61c89e0579591cf1245125b312"), looks := false }, kinds := [], alts := [], laidByText := true, laidKinds := [.data, .data, .data], laidTests := true, laidLooks := .later }
def FnExactIndexColumnUptoCardSaid : Prop := Claim7.holds Tryz.pinned (.plain (OpenSpec.upto fnExactIndexColumnSpec)) fnExactIndexColumnUptoCard

/-- THE SECOND FORM's CARD OF 'laws.FnScanTableIndex'. -/
def fnScanTableIndexUptoCard : Claim7 := { stood := { row := fnScanTableIndexUptoRow, standIns := [], harness := (true, "c132916e900ca3d34716c3cbfd5d838fac81fa61c89e0579591cf1245125b312"), looks := false }, kinds := [], alts := [], laidByText := true, laidKinds := [.data, .data, .data], laidTests := true, laidLooks := .later }
def FnScanTableIndexUptoCardSaid : Prop := Claim7.holds Tryz.pinned (.plain (OpenSpec.upto fnScanTableIndexSpec)) fnScanTableIndexUptoCard
end Rows
end Go.Proofs.YtkjnnifnmoekjaaGreatDoor
