/-
  DERIVED. GIVEN WITH THE SEED: THE CARDS: each row of YtniibgdokfnomaaGreatDoorRows.lean that lists a variable, with what it lists TIED to the program's text (the seventh form; the later family's looks); each row that meets fmt, with fmt's text TOLD by the authors' own Lean function (tested against real Go, not proved from fmt's source: count such statements apart). THE CARD IS WHAT COUNTS. Prove the row's statement (the work); the ties are given (YtniibgdokfnomaaGreatDoorTie.lean); close each card by the builder's one call (the guide's Derived/Test/ToyasCard.lean, 'card_holds'). Laid BY PROGRAM, IN A SANDBOX (cutbox-door.mjs). By AI agents, Wed Nov 11 2026. No macro, syntax, notation, axiom, sorry.
-/
import Derived.Test.YtniibgdokfnomaaGreatDoorRows
import GoSem.ClaimSeven
namespace Go.Proofs.YtniibgdokfnomaaGreatDoor
namespace Rows

/-- THE TIED CARD OF 'laws.FnExactIsQuiet'. -/
def fnExactIsQuietCard : Claim7 := { stood := { row := fnExactIsQuietRow, standIns := [], harness := (true, "bf13ab6ac1cd296ca2ff628b8c852a313ea489a66b6990f87e193fad6cac7e6d"), looks := false }, kinds := [], alts := [], laidByText := true, laidKinds := [.data, .data, .data, .data, .pinned], laidTests := true, laidLooks := .later }
def FnExactIsQuietCardSaid : Prop := Claim7.holds Tryz.pinned (.plain (OpenSpec.ofChange fnExactIsQuietSpec)) fnExactIsQuietCard

/-- THE TIED CARD OF 'laws.FnExactStepDesk'. -/
def fnExactStepDeskCard : Claim7 := { stood := { row := fnExactStepDeskRow, standIns := [], harness := (true, "bf13ab6ac1cd296ca2ff628b8c852a313ea489a66b6990f87e193fad6cac7e6d"), looks := false }, kinds := [], alts := [], laidByText := true, laidKinds := [.data, .pinned], laidTests := true, laidLooks := .later }
def FnExactStepDeskCardSaid : Prop := Claim7.holds Tryz.pinned (.plain (OpenSpec.ofChange fnExactStepDeskSpec)) fnExactStepDeskCard

/-- THE SECOND FORM's CARD OF 'laws.FnExactIsQuiet'. -/
def fnExactIsQuietUptoCard : Claim7 := { stood := { row := fnExactIsQuietUptoRow, standIns := [], harness := (true, "bf13ab6ac1cd296ca2ff628b8c852a313ea489a66b6990f87e193fad6cac7e6d"), looks := false }, kinds := [], alts := [], laidByText := true, laidKinds := [.data, .data, .data, .data, .pinned], laidTests := true, laidLooks := .later }
def FnExactIsQuietUptoCardSaid : Prop := Claim7.holds Tryz.pinned (.plain (OpenSpec.upto fnExactIsQuietSpec)) fnExactIsQuietUptoCard

/-- THE SECOND FORM's CARD OF 'laws.FnExactStepDesk'. -/
def fnExactStepDeskUptoCard : Claim7 := { stood := { row := fnExactStepDeskUptoRow, standIns := [], harness := (true, "bf13ab6ac1cd296ca2ff628b8c852a313ea489a66b6990f87e193fad6cac7e6d"), looks := false }, kinds := [], alts := [], laidByText := true, laidKinds := [.data, .pinned], laidTests := true, laidLooks := .later }
def FnExactStepDeskUptoCardSaid : Prop := Claim7.holds Tryz.pinned (.plain (OpenSpec.upto fnExactStepDeskSpec)) fnExactStepDeskUptoCard
end Rows
end Go.Proofs.YtniibgdokfnomaaGreatDoor
