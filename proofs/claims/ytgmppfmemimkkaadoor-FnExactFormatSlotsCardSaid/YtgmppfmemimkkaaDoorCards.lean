/-
  DERIVED. GIVEN WITH THE SEED: THE CARDS: each row of YtgmppfmemimkkaaDoorRows.lean that lists a variable, with what it lists TIED to the program's text (the seventh form; the later family's looks); each row that meets fmt, with fmt's text TOLD by the authors' own Lean function (tested against real Go, not proved from fmt's source: count such statements apart). THE CARD IS WHAT COUNTS. Prove the row's statement (the work); the ties are given (YtgmppfmemimkkaaDoorTie.lean); close each card by the builder's one call (the guide's Derived/Test/ToyasCard.lean, 'card_holds'). Laid BY PROGRAM, IN A SANDBOX (cutbox-door.mjs). By AI agents, Wed Nov 11 2026. No macro, syntax, notation, axiom, sorry.
-/
import Derived.Test.YtgmppfmemimkkaaDoorRows
import GoSem.ClaimSeven
namespace Go.Proofs.YtgmppfmemimkkaaDoor
namespace Rows

/-- THE TIED CARD OF 'laws.FnExactFormatNumbers'. -/
def fnExactFormatNumbersCard : Claim7 := { stood := { row := fnExactFormatNumbersRow, standIns := [], harness := (true, "7fee6f38d0723f02b924b08ac5a44b0f07dc3ac7cf00abd8bf3111f61108a01c"), looks := false }, kinds := [], alts := [], laidByText := true, laidKinds := [.data, .data, .data], laidTests := true, laidLooks := .later }
def FnExactFormatNumbersCardSaid : Prop := Claim7.holds Tryd.pinned (.plain (OpenSpec.ofChange fnExactFormatNumbersSpec)) fnExactFormatNumbersCard

/-- THE TIED CARD OF 'laws.FnExactFormatSlots'. -/
def fnExactFormatSlotsCard : Claim7 := { stood := { row := fnExactFormatSlotsRow, standIns := [], harness := (true, "7fee6f38d0723f02b924b08ac5a44b0f07dc3ac7cf00abd8bf3111f61108a01c"), looks := false }, kinds := [], alts := [], laidByText := true, laidKinds := [.data, .data, .data], laidTests := true, laidLooks := .later }
def FnExactFormatSlotsCardSaid : Prop := Claim7.holds Tryd.pinned (.plain (OpenSpec.ofChange fnExactFormatSlotsSpec)) fnExactFormatSlotsCard

/-- THE TIED CARD OF 'laws.FnExactFormatHouse'. -/
def fnExactFormatHouseCard : Claim7 := { stood := { row := fnExactFormatHouseRow, standIns := [], harness := (true, "7fee6f38d0723f02b924b08ac5a44b0f07dc3ac7cf00abd8bf3111f61108a01c"), looks := false }, kinds := [], alts := [], laidByText := true, laidKinds := [.data, .data, .data], laidTests := true, laidLooks := .later }
def FnExactFormatHouseCardSaid : Prop := Claim7.holds Tryd.pinned (.plain (OpenSpec.ofChange fnExactFormatHouseSpec)) fnExactFormatHouseCard

/-- THE SECOND FORM's CARD OF 'laws.FnExactFormatNumbers'. -/
def fnExactFormatNumbersUptoCard : Claim7 := { stood := { row := fnExactFormatNumbersUptoRow, standIns := [], harness := (true, "7fee6f38d0723f02b924b08ac5a44b0f07dc3ac7cf00abd8bf3111f61108a01c"), looks := false }, kinds := [], alts := [], laidByText := true, laidKinds := [.data, .data, .data], laidTests := true, laidLooks := .later }
def FnExactFormatNumbersUptoCardSaid : Prop := Claim7.holds Tryd.pinned (.plain (OpenSpec.upto fnExactFormatNumbersSpec)) fnExactFormatNumbersUptoCard

/-- THE SECOND FORM's CARD OF 'laws.FnExactFormatSlots'. -/
def fnExactFormatSlotsUptoCard : Claim7 := { stood := { row := fnExactFormatSlotsUptoRow, standIns := [], harness := (true, "7fee6f38d0723f02b924b08ac5a44b0f07dc3ac7cf00abd8bf3111f61108a01c"), looks := false }, kinds := [], alts := [], laidByText := true, laidKinds := [.data, .data, .data], laidTests := true, laidLooks := .later }
def FnExactFormatSlotsUptoCardSaid : Prop := Claim7.holds Tryd.pinned (.plain (OpenSpec.upto fnExactFormatSlotsSpec)) fnExactFormatSlotsUptoCard

/-- THE SECOND FORM's CARD OF 'laws.FnExactFormatHouse'. -/
def fnExactFormatHouseUptoCard : Claim7 := { stood := { row := fnExactFormatHouseUptoRow, standIns := [], harness := (true, "7fee6f38d0723f02b924b08ac5a44b0f07dc3ac7cf00abd8bf3111f61108a01c"), looks := false }, kinds := [], alts := [], laidByText := true, laidKinds := [.data, .data, .data], laidTests := true, laidLooks := .later }
def FnExactFormatHouseUptoCardSaid : Prop := Claim7.holds Tryd.pinned (.plain (OpenSpec.upto fnExactFormatHouseSpec)) fnExactFormatHouseUptoCard
end Rows
end Go.Proofs.YtgmppfmemimkkaaDoor
