/-
  DERIVED. GIVEN WITH THE SEED: THE CARDS: each row of YtceegbenenakaaaGreatDoorRows.lean that lists a variable, with what it lists TIED to the program's text (the seventh form; the later family's looks); each row that meets fmt, with fmt's text TOLD by the authors' own Lean function (tested against real Go, not proved from fmt's source: count such statements apart). THE CARD IS WHAT COUNTS. Prove the row's statement (the work); the ties are given (YtceegbenenakaaaGreatDoorTie.lean); close each card by the builder's one call (the guide's Derived/Test/ToyasCard.lean, 'card_holds'). Laid BY PROGRAM, IN A SANDBOX (cutbox-door.mjs). By AI agents, Wed Nov 11 2026. No macro, syntax, notation, axiom, sorry.
-/
import Derived.Test.YtceegbenenakaaaGreatDoorRows
import GoSem.ClaimSeven
namespace Go.Proofs.YtceegbenenakaaaGreatDoor
namespace Rows

/-- THE TIED CARD OF 'laws.FnMany'. -/
def fnManyCard : Claim7 := { stood := { row := fnManyRow, standIns := [], harness := (true, "6449aae2b5cec856f0b66048ab7392bfde659fef2d6b35921873174f9647f792"), looks := false }, kinds := [], alts := [], laidByText := true, laidKinds := [.data, .data], laidTests := true, laidLooks := .later }
def FnManyCardSaid : Prop := Claim7.holds Tryz.pinned (.plain (OpenSpec.ofChange fnManySpec)) fnManyCard

/-- THE TIED CARD OF 'laws.FnManyTold'. -/
def fnManyToldCard : Claim7 := { stood := { row := fnManyToldRow, standIns := [], harness := (true, "6449aae2b5cec856f0b66048ab7392bfde659fef2d6b35921873174f9647f792"), looks := false }, kinds := [], alts := [], laidByText := true, laidKinds := [.data, .data], laidTests := true, laidLooks := .later }
def FnManyToldCardSaid : Prop := Claim7.holds Tryz.pinned (.plain (OpenSpec.ofChange fnManyToldSpec)) fnManyToldCard

/-- THE SECOND FORM's CARD OF 'laws.FnMany'. -/
def fnManyUptoCard : Claim7 := { stood := { row := fnManyUptoRow, standIns := [], harness := (true, "6449aae2b5cec856f0b66048ab7392bfde659fef2d6b35921873174f9647f792"), looks := false }, kinds := [], alts := [], laidByText := true, laidKinds := [.data, .data], laidTests := true, laidLooks := .later }
def FnManyUptoCardSaid : Prop := Claim7.holds Tryz.pinned (.plain (OpenSpec.upto fnManySpec)) fnManyUptoCard

/-- THE SECOND FORM's CARD OF 'laws.FnManyTold'. -/
def fnManyToldUptoCard : Claim7 := { stood := { row := fnManyToldUptoRow, standIns := [], harness := (true, "6449aae2b5cec856f0b66048ab7392bfde659fef2d6b35921873174f9647f792"), looks := false }, kinds := [], alts := [], laidByText := true, laidKinds := [.data, .data], laidTests := true, laidLooks := .later }
def FnManyToldUptoCardSaid : Prop := Claim7.holds Tryz.pinned (.plain (OpenSpec.upto fnManyToldSpec)) fnManyToldUptoCard
end Rows
end Go.Proofs.YtceegbenenakaaaGreatDoor
