/-
  DERIVED. GIVEN WITH THE SEED: THE CARDS: each row of YtnhcfmmdaihneaaGreatDoorRows.lean that lists a variable, with what it lists TIED to the program's text (the seventh form; the later family's looks); each row that meets fmt, with fmt's text TOLD by the authors' own Lean function (tested against real Go, not proved from fmt's source: count such statements apart). THE CARD IS WHAT COUNTS. Prove the row's statement (the work); the ties are given (YtnhcfmmdaihneaaGreatDoorTie.lean); close each card by the builder's one call (the guide's Derived/Test/ToyasCard.lean, 'card_holds'). Laid BY PROGRAM, IN A SANDBOX (cutbox-door.mjs). By AI agents, Wed Nov 11 2026. No macro, syntax, notation, axiom, sorry.
-/
import Derived.Test.YtnhcfmmdaihneaaGreatDoorRows
import GoSem.ClaimSeven
namespace Go.Proofs.YtnhcfmmdaihneaaGreatDoor
namespace Rows

/-- THE TIED CARD OF 'laws.FnExactReadMany'. -/
def fnExactReadManyCard : Claim7 := { stood := { row := fnExactReadManyRow, standIns := [], harness := (true, "5d3b0ddcdbe53e2e41646948fd39e095758167de8d0853f1c97b020c56781c6a"), looks := false }, kinds := [], alts := [], laidByText := true, laidKinds := [.data, .data], laidTests := true, laidLooks := .later }
def FnExactReadManyCardSaid : Prop := Claim7.holds Tryz.pinned (.plain (OpenSpec.ofChange fnExactReadManySpec)) fnExactReadManyCard

/-- THE TIED CARD OF 'laws.FnExactCoordNew'. -/
def fnExactCoordNewCard : Claim7 := { stood := { row := fnExactCoordNewRow, standIns := [], harness := (true, "5d3b0ddcdbe53e2e41646948fd39e095758167de8d0853f1c97b020c56781c6a"), looks := false }, kinds := [], alts := [], laidByText := true, laidKinds := [.data, .data, .data, .data, .data], laidTests := true, laidLooks := .later }
def FnExactCoordNewCardSaid : Prop := Claim7.holds Tryz.pinned (.plain (OpenSpec.ofChange fnExactCoordNewSpec)) fnExactCoordNewCard

/-- THE TIED CARD OF 'laws.FnExactRiseCoord'. -/
def fnExactRiseCoordCard : Claim7 := { stood := { row := fnExactRiseCoordRow, standIns := [], harness := (true, "5d3b0ddcdbe53e2e41646948fd39e095758167de8d0853f1c97b020c56781c6a"), looks := false }, kinds := [], alts := [], laidByText := true, laidKinds := [.data, .data, .data, .data, .data], laidTests := true, laidLooks := .later }
def FnExactRiseCoordCardSaid : Prop := Claim7.holds Tryz.pinned (.plain (OpenSpec.ofChange fnExactRiseCoordSpec)) fnExactRiseCoordCard

/-- THE TIED CARD OF 'laws.FnExactHouseNew'. -/
def fnExactHouseNewCard : Claim7 := { stood := { row := fnExactHouseNewRow, standIns := [], harness := (true, "5d3b0ddcdbe53e2e41646948fd39e095758167de8d0853f1c97b020c56781c6a"), looks := false }, kinds := [], alts := [], laidByText := true, laidKinds := [.data, .data, .data, .data, .data], laidTests := true, laidLooks := .later }
def FnExactHouseNewCardSaid : Prop := Claim7.holds Tryz.pinned (.plain (OpenSpec.ofChange fnExactHouseNewSpec)) fnExactHouseNewCard

/-- THE TIED CARD OF 'laws.FnExactWorldNew'. -/
def fnExactWorldNewCard : Claim7 := { stood := { row := fnExactWorldNewRow, standIns := [], harness := (true, "5d3b0ddcdbe53e2e41646948fd39e095758167de8d0853f1c97b020c56781c6a"), looks := false }, kinds := [], alts := [], laidByText := true, laidKinds := [.data, .data, .data, .data, .data], laidTests := true, laidLooks := .later }
def FnExactWorldNewCardSaid : Prop := Claim7.holds Tryz.pinned (.plain (OpenSpec.ofChange fnExactWorldNewSpec)) fnExactWorldNewCard

/-- THE SECOND FORM's CARD OF 'laws.FnExactReadMany'. -/
def fnExactReadManyUptoCard : Claim7 := { stood := { row := fnExactReadManyUptoRow, standIns := [], harness := (true, "5d3b0ddcdbe53e2e41646948fd39e095758167de8d0853f1c97b020c56781c6a"), looks := false }, kinds := [], alts := [], laidByText := true, laidKinds := [.data, .data], laidTests := true, laidLooks := .later }
def FnExactReadManyUptoCardSaid : Prop := Claim7.holds Tryz.pinned (.plain (OpenSpec.upto fnExactReadManySpec)) fnExactReadManyUptoCard

/-- THE SECOND FORM's CARD OF 'laws.FnExactCoordNew'. -/
def fnExactCoordNewUptoCard : Claim7 := { stood := { row := fnExactCoordNewUptoRow, standIns := [], harness := (true, "5d3b0ddcdbe53e2e41646948fd39e095758167de8d0853f1c97b020c56781c6a"), looks := false }, kinds := [], alts := [], laidByText := true, laidKinds := [.data, .data, .data, .data, .data], laidTests := true, laidLooks := .later }
def FnExactCoordNewUptoCardSaid : Prop := Claim7.holds Tryz.pinned (.plain (OpenSpec.upto fnExactCoordNewSpec)) fnExactCoordNewUptoCard

/-- THE SECOND FORM's CARD OF 'laws.FnExactRiseCoord'. -/
def fnExactRiseCoordUptoCard : Claim7 := { stood := { row := fnExactRiseCoordUptoRow, standIns := [], harness := (true, "5d3b0ddcdbe53e2e41646948fd39e095758167de8d0853f1c97b020c56781c6a"), looks := false }, kinds := [], alts := [], laidByText := true, laidKinds := [.data, .data, .data, .data, .data], laidTests := true, laidLooks := .later }
def FnExactRiseCoordUptoCardSaid : Prop := Claim7.holds Tryz.pinned (.plain (OpenSpec.upto fnExactRiseCoordSpec)) fnExactRiseCoordUptoCard

/-- THE SECOND FORM's CARD OF 'laws.FnExactHouseNew'. -/
def fnExactHouseNewUptoCard : Claim7 := { stood := { row := fnExactHouseNewUptoRow, standIns := [], harness := (true, "5d3b0ddcdbe53e2e41646948fd39e095758167de8d0853f1c97b020c56781c6a"), looks := false }, kinds := [], alts := [], laidByText := true, laidKinds := [.data, .data, .data, .data, .data], laidTests := true, laidLooks := .later }
def FnExactHouseNewUptoCardSaid : Prop := Claim7.holds Tryz.pinned (.plain (OpenSpec.upto fnExactHouseNewSpec)) fnExactHouseNewUptoCard

/-- THE SECOND FORM's CARD OF 'laws.FnExactWorldNew'. -/
def fnExactWorldNewUptoCard : Claim7 := { stood := { row := fnExactWorldNewUptoRow, standIns := [], harness := (true, "5d3b0ddcdbe53e2e41646948fd39e095758167de8d0853f1c97b020c56781c6a"), looks := false }, kinds := [], alts := [], laidByText := true, laidKinds := [.data, .data, .data, .data, .data], laidTests := true, laidLooks := .later }
def FnExactWorldNewUptoCardSaid : Prop := Claim7.holds Tryz.pinned (.plain (OpenSpec.upto fnExactWorldNewSpec)) fnExactWorldNewUptoCard
end Rows
end Go.Proofs.YtnhcfmmdaihneaaGreatDoor
