/-
  DERIVED. GIVEN WITH THE SEED: THE CARDS: each row of YthcfalipgnpelaaGreatDoorRows.lean that lists a variable, with what it lists TIED to the program's text (the seventh form; the later family's looks); each row that meets fmt, with fmt's text TOLD by the authors' own Lean function (tested against real Go, not proved from fmt's source: count such statements apart). THE CARD IS WHAT COUNTS. Prove the row's statement (the work); the ties are given (YthcfalipgnpelaaGreatDoorTie.lean); close each card by the builder's one call (the guide's Derived/Test/ToyasCard.lean, 'card_holds'). Laid BY PROGRAM, IN A SANDBOX (cutbox-door.mjs). By AI agents, Wed Nov 11 2026. No macro, syntax, notation, axiom, sorry.
-/
import Derived.Test.YthcfalipgnpelaaGreatDoorRows
import GoSem.ClaimSeven
namespace Go.Proofs.YthcfalipgnpelaaGreatDoor
namespace Rows

/-- THE TIED CARD OF 'laws.FnExactStampsRight'. -/
def fnExactStampsRightCard : Claim7 := { stood := { row := fnExactStampsRightRow, standIns := [], harness := (true, "a34a479c244339000356c746d2a7643ced96e6816ce15d66b32557e6fc53409b"), looks := false }, kinds := [], alts := [], laidByText := true, laidKinds := [.data, .data], laidTests := true, laidLooks := .later }
def FnExactStampsRightCardSaid : Prop := Claim7.holds Tryz.pinned (.plain (OpenSpec.ofChange fnExactStampsRightSpec)) fnExactStampsRightCard

/-- THE TIED CARD OF 'laws.FnExactCoordOk'. -/
def fnExactCoordOkCard : Claim7 := { stood := { row := fnExactCoordOkRow, standIns := [], harness := (true, "a34a479c244339000356c746d2a7643ced96e6816ce15d66b32557e6fc53409b"), looks := false }, kinds := [], alts := [], laidByText := true, laidKinds := [.data, .data, .data, .data, .data], laidTests := true, laidLooks := .later }
def FnExactCoordOkCardSaid : Prop := Claim7.holds Tryz.pinned (.plain (OpenSpec.ofChange fnExactCoordOkSpec)) fnExactCoordOkCard

/-- THE TIED CARD OF 'laws.FnExactPinsRight'. -/
def fnExactPinsRightCard : Claim7 := { stood := { row := fnExactPinsRightRow, standIns := [], harness := (true, "a34a479c244339000356c746d2a7643ced96e6816ce15d66b32557e6fc53409b"), looks := false }, kinds := [], alts := [], laidByText := true, laidKinds := [.data, .data, .data, .data, .data], laidTests := true, laidLooks := .later }
def FnExactPinsRightCardSaid : Prop := Claim7.holds Tryz.pinned (.plain (OpenSpec.ofChange fnExactPinsRightSpec)) fnExactPinsRightCard

/-- THE TIED CARD OF 'laws.FnExactSoundHouse'. -/
def fnExactSoundHouseCard : Claim7 := { stood := { row := fnExactSoundHouseRow, standIns := [], harness := (true, "a34a479c244339000356c746d2a7643ced96e6816ce15d66b32557e6fc53409b"), looks := false }, kinds := [], alts := [], laidByText := true, laidKinds := [.data, .data, .data, .data, .data], laidTests := true, laidLooks := .later }
def FnExactSoundHouseCardSaid : Prop := Claim7.holds Tryz.pinned (.plain (OpenSpec.ofChange fnExactSoundHouseSpec)) fnExactSoundHouseCard

/-- THE SECOND FORM's CARD OF 'laws.FnExactStampsRight'. -/
def fnExactStampsRightUptoCard : Claim7 := { stood := { row := fnExactStampsRightUptoRow, standIns := [], harness := (true, "a34a479c244339000356c746d2a7643ced96e6816ce15d66b32557e6fc53409b"), looks := false }, kinds := [], alts := [], laidByText := true, laidKinds := [.data, .data], laidTests := true, laidLooks := .later }
def FnExactStampsRightUptoCardSaid : Prop := Claim7.holds Tryz.pinned (.plain (OpenSpec.upto fnExactStampsRightSpec)) fnExactStampsRightUptoCard

/-- THE SECOND FORM's CARD OF 'laws.FnExactCoordOk'. -/
def fnExactCoordOkUptoCard : Claim7 := { stood := { row := fnExactCoordOkUptoRow, standIns := [], harness := (true, "a34a479c244339000356c746d2a7643ced96e6816ce15d66b32557e6fc53409b"), looks := false }, kinds := [], alts := [], laidByText := true, laidKinds := [.data, .data, .data, .data, .data], laidTests := true, laidLooks := .later }
def FnExactCoordOkUptoCardSaid : Prop := Claim7.holds Tryz.pinned (.plain (OpenSpec.upto fnExactCoordOkSpec)) fnExactCoordOkUptoCard

/-- THE SECOND FORM's CARD OF 'laws.FnExactPinsRight'. -/
def fnExactPinsRightUptoCard : Claim7 := { stood := { row := fnExactPinsRightUptoRow, standIns := [], harness := (true, "a34a479c244339000356c746d2a7643ced96e6816ce15d66b32557e6fc53409b"), looks := false }, kinds := [], alts := [], laidByText := true, laidKinds := [.data, .data, .data, .data, .data], laidTests := true, laidLooks := .later }
def FnExactPinsRightUptoCardSaid : Prop := Claim7.holds Tryz.pinned (.plain (OpenSpec.upto fnExactPinsRightSpec)) fnExactPinsRightUptoCard

/-- THE SECOND FORM's CARD OF 'laws.FnExactSoundHouse'. -/
def fnExactSoundHouseUptoCard : Claim7 := { stood := { row := fnExactSoundHouseUptoRow, standIns := [], harness := (true, "a34a479c244339000356c746d2a7643ced96e6816ce15d66b32557e6fc53409b"), looks := false }, kinds := [], alts := [], laidByText := true, laidKinds := [.data, .data, .data, .data, .data], laidTests := true, laidLooks := .later }
def FnExactSoundHouseUptoCardSaid : Prop := Claim7.holds Tryz.pinned (.plain (OpenSpec.upto fnExactSoundHouseSpec)) fnExactSoundHouseUptoCard
end Rows
end Go.Proofs.YthcfalipgnpelaaGreatDoor
