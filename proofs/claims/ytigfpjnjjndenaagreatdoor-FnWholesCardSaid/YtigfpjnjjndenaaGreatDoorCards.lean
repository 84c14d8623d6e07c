/-
  DERIVED. GIVEN WITH THE SEED: THE CARDS: each row of YtigfpjnjjndenaaGreatDoorRows.lean that lists a variable, with what it lists TIED to the program's text (the seventh form; the later family's looks); each row that meets fmt, with fmt's text TOLD by the authors' own Lean function (tested against real Go, not proved from fmt's source: count such statements apart). THE CARD IS WHAT COUNTS. Prove the row's statement (the work); the ties are given (YtigfpjnjjndenaaGreatDoorTie.lean); close each card by the builder's one call (the guide's Derived/Test/ToyasCard.lean, 'card_holds'). Laid BY PROGRAM, IN A SANDBOX (cutbox-door.mjs). By AI agents, Wed Nov 11 2026. No macro, syntax, notation, axiom, sorry.
-/
import Derived.Test.YtigfpjnjjndenaaGreatDoorRows
import GoSem.ClaimSeven
namespace Go.Proofs.YtigfpjnjjndenaaGreatDoor
namespace Rows

/-- THE TIED CARD OF 'laws.FnProofsTold'. -/
def fnProofsToldCard : Claim7 := { stood := { row := fnProofsToldRow, standIns := [], harness := (true, "fd8624965d5f9ba0ec4604bcca470e3a812cc3efb25cb9a014ac567ebf0e6ab5"), looks := false }, kinds := [], alts := [], laidByText := true, laidKinds := [.data, .data], laidTests := true, laidLooks := .later }
def FnProofsToldCardSaid : Prop := Claim7.holds Tryz.pinned (.plain (OpenSpec.ofChange fnProofsToldSpec)) fnProofsToldCard

/-- THE TIED CARD OF 'laws.FnWholesTurned'. -/
def fnWholesTurnedCard : Claim7 := { stood := { row := fnWholesTurnedRow, standIns := [], harness := (true, "fd8624965d5f9ba0ec4604bcca470e3a812cc3efb25cb9a014ac567ebf0e6ab5"), looks := false }, kinds := [], alts := [], laidByText := true, laidKinds := [.data, .data], laidTests := true, laidLooks := .later }
def FnWholesTurnedCardSaid : Prop := Claim7.holds Tryz.pinned (.plain (OpenSpec.ofChange fnWholesTurnedSpec)) fnWholesTurnedCard

/-- THE TIED CARD OF 'laws.FnWholes'. -/
def fnWholesCard : Claim7 := { stood := { row := fnWholesRow, standIns := [], harness := (true, "fd8624965d5f9ba0ec4604bcca470e3a812cc3efb25cb9a014ac567ebf0e6ab5"), looks := false }, kinds := [], alts := [], laidByText := true, laidKinds := [.data, .data], laidTests := true, laidLooks := .later }
def FnWholesCardSaid : Prop := Claim7.holds Tryz.pinned (.plain (OpenSpec.ofChange fnWholesSpec)) fnWholesCard

/-- THE TIED CARD OF 'laws.FnExactServerNew'. -/
def fnExactServerNewCard : Claim7 := { stood := { row := fnExactServerNewRow, standIns := [], harness := (true, "fd8624965d5f9ba0ec4604bcca470e3a812cc3efb25cb9a014ac567ebf0e6ab5"), looks := false }, kinds := [], alts := [], laidByText := true, laidKinds := [.data, .data], laidTests := true, laidLooks := .later }
def FnExactServerNewCardSaid : Prop := Claim7.holds Tryz.pinned (.plain (OpenSpec.ofChange fnExactServerNewSpec)) fnExactServerNewCard

/-- THE TIED CARD OF 'laws.FnMany'. -/
def fnManyCard : Claim7 := { stood := { row := fnManyRow, standIns := [], harness := (true, "fd8624965d5f9ba0ec4604bcca470e3a812cc3efb25cb9a014ac567ebf0e6ab5"), looks := false }, kinds := [], alts := [], laidByText := true, laidKinds := [.data, .data], laidTests := true, laidLooks := .later }
def FnManyCardSaid : Prop := Claim7.holds Tryz.pinned (.plain (OpenSpec.ofChange fnManySpec)) fnManyCard

/-- THE TIED CARD OF 'laws.FnExactServerOk'. -/
def fnExactServerOkCard : Claim7 := { stood := { row := fnExactServerOkRow, standIns := [], harness := (true, "fd8624965d5f9ba0ec4604bcca470e3a812cc3efb25cb9a014ac567ebf0e6ab5"), looks := false }, kinds := [], alts := [], laidByText := true, laidKinds := [.data, .data], laidTests := true, laidLooks := .later }
def FnExactServerOkCardSaid : Prop := Claim7.holds Tryz.pinned (.plain (OpenSpec.ofChange fnExactServerOkSpec)) fnExactServerOkCard

/-- THE SECOND FORM's CARD OF 'laws.FnProofsTold'. -/
def fnProofsToldUptoCard : Claim7 := { stood := { row := fnProofsToldUptoRow, standIns := [], harness := (true, "fd8624965d5f9ba0ec4604bcca470e3a812cc3efb25cb9a014ac567ebf0e6ab5"), looks := false }, kinds := [], alts := [], laidByText := true, laidKinds := [.data, .data], laidTests := true, laidLooks := .later }
def FnProofsToldUptoCardSaid : Prop := Claim7.holds Tryz.pinned (.plain (OpenSpec.upto fnProofsToldSpec)) fnProofsToldUptoCard

/-- THE SECOND FORM's CARD OF 'laws.FnWholesTurned'. -/
def fnWholesTurnedUptoCard : Claim7 := { stood := { row := fnWholesTurnedUptoRow, standIns := [], harness := (true, "fd8624965d5f9ba0ec4604bcca470e3a812cc3efb25cb9a014ac567ebf0e6ab5"), looks := false }, kinds := [], alts := [], laidByText := true, laidKinds := [.data, .data], laidTests := true, laidLooks := .later }
def FnWholesTurnedUptoCardSaid : Prop := Claim7.holds Tryz.pinned (.plain (OpenSpec.upto fnWholesTurnedSpec)) fnWholesTurnedUptoCard

/-- THE SECOND FORM's CARD OF 'laws.FnWholes'. -/
def fnWholesUptoCard : Claim7 := { stood := { row := fnWholesUptoRow, standIns := [], harness := (true, "fd8624965d5f9ba0ec4604bcca470e3a812cc3efb25cb9a014ac567ebf0e6ab5"), looks := false }, kinds := [], alts := [], laidByText := true, laidKinds := [.data, .data], laidTests := true, laidLooks := .later }
def FnWholesUptoCardSaid : Prop := Claim7.holds Tryz.pinned (.plain (OpenSpec.upto fnWholesSpec)) fnWholesUptoCard

/-- THE SECOND FORM's CARD OF 'laws.FnExactServerNew'. -/
def fnExactServerNewUptoCard : Claim7 := { stood := { row := fnExactServerNewUptoRow, standIns := [], harness := (true, "fd8624965d5f9ba0ec4604bcca470e3a812cc3efb25cb9a014ac567ebf0e6ab5"), looks := false }, kinds := [], alts := [], laidByText := true, laidKinds := [.data, .data], laidTests := true, laidLooks := .later }
def FnExactServerNewUptoCardSaid : Prop := Claim7.holds Tryz.pinned (.plain (OpenSpec.upto fnExactServerNewSpec)) fnExactServerNewUptoCard

/-- THE SECOND FORM's CARD OF 'laws.FnMany'. -/
def fnManyUptoCard : Claim7 := { stood := { row := fnManyUptoRow, standIns := [], harness := (true, "fd8624965d5f9ba0ec4604bcca470e3a812cc3efb25cb9a014ac567ebf0e6ab5"), looks := false }, kinds := [], alts := [], laidByText := true, laidKinds := [.data, .data], laidTests := true, laidLooks := .later }
def FnManyUptoCardSaid : Prop := Claim7.holds Tryz.pinned (.plain (OpenSpec.upto fnManySpec)) fnManyUptoCard

/-- THE SECOND FORM's CARD OF 'laws.FnExactServerOk'. -/
def fnExactServerOkUptoCard : Claim7 := { stood := { row := fnExactServerOkUptoRow, standIns := [], harness := (true, "fd8624965d5f9ba0ec4604bcca470e3a812cc3efb25cb9a014ac567ebf0e6ab5"), looks := false }, kinds := [], alts := [], laidByText := true, laidKinds := [.data, .data], laidTests := true, laidLooks := .later }
def FnExactServerOkUptoCardSaid : Prop := Claim7.holds Tryz.pinned (.plain (OpenSpec.upto fnExactServerOkSpec)) fnExactServerOkUptoCard
end Rows
end Go.Proofs.YtigfpjnjjndenaaGreatDoor
