/-
  DERIVED. GIVEN WITH THE SEED: THE CARDS: each row of YtkjjacndfieeoaaGreatDoorRows.lean that lists a variable, with what it lists TIED to the program's text (the seventh form; the later family's looks); each row that meets fmt, with fmt's text TOLD by the authors' own Lean function (tested against real Go, not proved from fmt's source: count such statements apart). THE CARD IS WHAT COUNTS. Prove the row's statement (the work); the ties are given (YtkjjacndfieeoaaGreatDoorTie.lean); close each card by the builder's one call (the guide's Derived/Test/ToyasCard.lean, 'card_holds'). Laid BY PROGRAM, IN A SANDBOX (cutbox-door.mjs). By AI agents, Wed Nov 11 2026. No macro, syntax, notation, axiom, sorry.
-/
import Derived.Test.YtkjjacndfieeoaaGreatDoorRows
import GoSem.ClaimSeven
namespace Go.Proofs.YtkjjacndfieeoaaGreatDoor
namespace Rows

/-- THE TIED CARD OF 'laws.FnCoordsUp'. -/
def fnCoordsUpCard : Claim7 := { stood := { row := fnCoordsUpRow, standIns := [], harness := (true, "5a2f8dcf24d57d96ba8d1e9024413661878d7818b1a287bb7345e658d1a8012f"), looks := false }, kinds := [], alts := [], laidByText := true, laidKinds := [.data, .data, .data, .data, .data], laidTests := true, laidLooks := .later }
def FnCoordsUpCardSaid : Prop := Claim7.holds Tryz.pinned (.plain (OpenSpec.ofChange fnCoordsUpSpec)) fnCoordsUpCard

/-- THE TIED CARD OF 'laws.FnCloses'. -/
def fnClosesCard : Claim7 := { stood := { row := fnClosesRow, standIns := [], harness := (true, "5a2f8dcf24d57d96ba8d1e9024413661878d7818b1a287bb7345e658d1a8012f"), looks := false }, kinds := [], alts := [], laidByText := true, laidKinds := [.data, .data, .data, .data, .data], laidTests := true, laidLooks := .later }
def FnClosesCardSaid : Prop := Claim7.holds Tryz.pinned (.plain (OpenSpec.ofChange fnClosesSpec)) fnClosesCard

/-- THE SECOND FORM's CARD OF 'laws.FnCoordsUp'. -/
def fnCoordsUpUptoCard : Claim7 := { stood := { row := fnCoordsUpUptoRow, standIns := [], harness := (true, "5a2f8dcf24d57d96ba8d1e9024413661878d7818b1a287bb7345e658d1a8012f"), looks := false }, kinds := [], alts := [], laidByText := true, laidKinds := [.data, .data, .data, .data, .data], laidTests := true, laidLooks := .later }
def FnCoordsUpUptoCardSaid : Prop := Claim7.holds Tryz.pinned (.plain (OpenSpec.upto fnCoordsUpSpec)) fnCoordsUpUptoCard

/-- THE SECOND FORM's CARD OF 'laws.FnCloses'. -/
def fnClosesUptoCard : Claim7 := { stood := { row := fnClosesUptoRow, standIns := [], harness := (true, "5a2f8dcf24d57d96ba8d1e9024413661878d7818b1a287bb7345e658d1a8012f"), looks := false }, kinds := [], alts := [], laidByText := true, laidKinds := [.data, .data, .data, .data, .data], laidTests := true, laidLooks := .later }
def FnClosesUptoCardSaid : Prop := Claim7.holds Tryz.pinned (.plain (OpenSpec.upto fnClosesSpec)) fnClosesUptoCard
end Rows
end Go.Proofs.YtkjjacndfieeoaaGreatDoor
