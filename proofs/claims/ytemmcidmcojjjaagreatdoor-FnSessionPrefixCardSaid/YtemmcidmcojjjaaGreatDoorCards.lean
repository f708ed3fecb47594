/-
  DERIVED. GIVEN WITH THE SEED: THE CARDS: each row of YtemmcidmcojjjaaGreatDoorRows.lean that lists a variable, with what it lists TIED to the program's text (the seventh form; the later family's looks); each row that meets fmt, with fmt's text TOLD by the authors' own Lean function (tested against real Go, not proved from fmt's source: count such statements apart). THE CARD IS WHAT COUNTS. Prove the row's statement (the work); the ties are given (YtemmcidmcojjjaaGreatDoorTie.lean); close each card by the builder's one call (the guide's Derived/Test/ToyasCard.lean, 'card_holds'). Laid BY PROGRAM, IN A SANDBOX (cutbox-door.mjs). By AI agents, Wed Nov 11 2026. No macro, syntax, notation, axiom, sorry.
-/
import Derived.Test.YtemmcidmcojjjaaGreatDoorRows
import GoSem.ClaimSeven
namespace Go.Proofs.YtemmcidmcojjjaaGreatDoor
namespace Rows

/-- THE TIED CARD OF 'laws.FnSessionRewrite'. -/
def fnSessionRewriteCard : Claim7 := { stood := { row := fnSessionRewriteRow, standIns := [], harness := (true, "7ffc71974bb1d920b04cee2358c06c539c7e4c97b1f06e030fe6c3eb27a9937e"), looks := false }, kinds := [], alts := [], laidByText := true, laidKinds := [.data, .data, .data, .data, .pinned], laidTests := true, laidLooks := .later }
def FnSessionRewriteCardSaid : Prop := Claim7.holds Tryz.pinned (.plain (OpenSpec.ofChange fnSessionRewriteSpec)) fnSessionRewriteCard

/-- THE TIED CARD OF 'laws.FnExactRunSession'. -/
def fnExactRunSessionCard : Claim7 := { stood := { row := fnExactRunSessionRow, standIns := [], harness := (true, "7ffc71974bb1d920b04cee2358c06c539c7e4c97b1f06e030fe6c3eb27a9937e"), looks := false }, kinds := [], alts := [], laidByText := true, laidKinds := [.data, .data, .data, .data, .pinned], laidTests := true, laidLooks := .later }
def FnExactRunSessionCardSaid : Prop := Claim7.holds Tryz.pinned (.plain (OpenSpec.ofChange fnExactRunSessionSpec)) fnExactRunSessionCard

/-- THE TIED CARD OF 'laws.FnSessionNew'. -/
def fnSessionNewCard : Claim7 := { stood := { row := fnSessionNewRow, standIns := [], harness := (true, "7ffc71974bb1d920b04cee2358c06c539c7e4c97b1f06e030fe6c3eb27a9937e"), looks := false }, kinds := [], alts := [], laidByText := true, laidKinds := [.data, .data, .data, .data, .pinned], laidTests := true, laidLooks := .later }
def FnSessionNewCardSaid : Prop := Claim7.holds Tryz.pinned (.plain (OpenSpec.ofChange fnSessionNewSpec)) fnSessionNewCard

/-- THE TIED CARD OF 'laws.FnSessionPrefix'. -/
def fnSessionPrefixCard : Claim7 := { stood := { row := fnSessionPrefixRow, standIns := [], harness := (true, "7ffc71974bb1d920b04cee2358c06c539c7e4c97b1f06e030fe6c3eb27a9937e"), looks := false }, kinds := [], alts := [], laidByText := true, laidKinds := [.data, .data, .data, .data, .pinned], laidTests := true, laidLooks := .later }
def FnSessionPrefixCardSaid : Prop := Claim7.holds Tryz.pinned (.plain (OpenSpec.ofChange fnSessionPrefixSpec)) fnSessionPrefixCard

/-- THE SECOND FORM's CARD OF 'laws.FnSessionRewrite'. -/
def fnSessionRewriteUptoCard : Claim7 := { stood := { row := fnSessionRewriteUptoRow, standIns := [], harness := (true, "7ffc71974bb1d920b04cee2358c06c539c7e4c97b1f06e030fe6c3eb27a9937e"), looks := false }, kinds := [], alts := [], laidByText := true, laidKinds := [.data, .data, .data, .data, .pinned], laidTests := true, laidLooks := .later }
def FnSessionRewriteUptoCardSaid : Prop := Claim7.holds Tryz.pinned (.plain (OpenSpec.upto fnSessionRewriteSpec)) fnSessionRewriteUptoCard

/-- THE SECOND FORM's CARD OF 'laws.FnExactRunSession'. -/
def fnExactRunSessionUptoCard : Claim7 := { stood := { row := fnExactRunSessionUptoRow, standIns := [], harness := (true, "7ffc71974bb1d920b04cee2358c06c539c7e4c97b1f06e030fe6c3eb27a9937e"), looks := false }, kinds := [], alts := [], laidByText := true, laidKinds := [.data, .data, .data, .data, .pinned], laidTests := true, laidLooks := .later }
def FnExactRunSessionUptoCardSaid : Prop := Claim7.holds Tryz.pinned (.plain (OpenSpec.upto fnExactRunSessionSpec)) fnExactRunSessionUptoCard

/-- THE SECOND FORM's CARD OF 'laws.FnSessionNew'. -/
def fnSessionNewUptoCard : Claim7 := { stood := { row := fnSessionNewUptoRow, standIns := [], harness := (true, "7ffc71974bb1d920b04cee2358c06c539c7e4c97b1f06e030fe6c3eb27a9937e"), looks := false }, kinds := [], alts := [], laidByText := true, laidKinds := [.data, .data, .data, .data, .pinned], laidTests := true, laidLooks := .later }
def FnSessionNewUptoCardSaid : Prop := Claim7.holds Tryz.pinned (.plain (OpenSpec.upto fnSessionNewSpec)) fnSessionNewUptoCard

/-- THE SECOND FORM's CARD OF 'laws.FnSessionPrefix'. -/
def fnSessionPrefixUptoCard : Claim7 := { stood := { row := fnSessionPrefixUptoRow, standIns := [], harness := (true, "7ffc71974bb1d920b04cee2358c06c539c7e4c97b1f06e030fe6c3eb27a9937e"), looks := false }, kinds := [], alts := [], laidByText := true, laidKinds := [.data, .data, .data, .data, .pinned], laidTests := true, laidLooks := .later }
def FnSessionPrefixUptoCardSaid : Prop := Claim7.holds Tryz.pinned (.plain (OpenSpec.upto fnSessionPrefixSpec)) fnSessionPrefixUptoCard
end Rows
end Go.Proofs.YtemmcidmcojjjaaGreatDoor
