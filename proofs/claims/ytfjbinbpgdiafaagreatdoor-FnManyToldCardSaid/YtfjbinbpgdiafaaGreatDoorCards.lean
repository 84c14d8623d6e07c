/-
  DERIVED. GIVEN WITH THE SEED: THE CARDS: each row of YtfjbinbpgdiafaaGreatDoorRows.lean that lists a variable, with what it lists TIED to the program's text (the seventh form; the later family's looks); each row that meets fmt, with fmt's text TOLD by the authors' own Lean function (tested against real Go, not proved from fmt's source: count such statements apart). THE CARD IS WHAT COUNTS. Prove the row's statement (the work); the ties are given (YtfjbinbpgdiafaaGreatDoorTie.lean); close each card by the builder's one call (the guide's Derived/Test/ToyasCard.lean, 'card_holds'). Laid BY PROGRAM, IN A SANDBOX (cutbox-door.mjs). By AI agents, Wed Nov 11 2026. No macro, syntax, notation, axiom, sorry.
-/
import Derived.Test.YtfjbinbpgdiafaaGreatDoorRows
import GoSem.ClaimSeven
namespace Go.Proofs.YtfjbinbpgdiafaaGreatDoor
namespace Rows

/-- THE TIED CARD OF 'laws.FnLooks'. -/
def fnLooksCard : Claim7 := { stood := { row := fnLooksRow, standIns := [], harness := (true, "b8ded7a3b388a32289077fa2aa266a87f860590019cd1608260705da4d840078"), looks := false }, kinds := [], alts := [], laidByText := true, laidKinds := [.data, .data], laidTests := true, laidLooks := .later }
def FnLooksCardSaid : Prop := Claim7.holds Tryz.pinned (.plain (OpenSpec.ofChange fnLooksSpec)) fnLooksCard

/-- THE TIED CARD OF 'laws.FnManyTold'. -/
def fnManyToldCard : Claim7 := { stood := { row := fnManyToldRow, standIns := [], harness := (true, "b8ded7a3b388a32289077fa2aa266a87f860590019cd1608260705da4d840078"), looks := false }, kinds := [], alts := [], laidByText := true, laidKinds := [.data, .data], laidTests := true, laidLooks := .later }
def FnManyToldCardSaid : Prop := Claim7.holds Tryz.pinned (.plain (OpenSpec.ofChange fnManyToldSpec)) fnManyToldCard

/-- THE SECOND FORM's CARD OF 'laws.FnLooks'. -/
def fnLooksUptoCard : Claim7 := { stood := { row := fnLooksUptoRow, standIns := [], harness := (true, "b8ded7a3b388a32289077fa2aa266a87f860590019cd1608260705da4d840078"), looks := false }, kinds := [], alts := [], laidByText := true, laidKinds := [.data, .data], laidTests := true, laidLooks := .later }
def FnLooksUptoCardSaid : Prop := Claim7.holds Tryz.pinned (.plain (OpenSpec.upto fnLooksSpec)) fnLooksUptoCard

/-- THE SECOND FORM's CARD OF 'laws.FnManyTold'. -/
def fnManyToldUptoCard : Claim7 := { stood := { row := fnManyToldUptoRow, standIns := [], harness := (true, "b8ded7a3b388a32289077fa2aa266a87f860590019cd1608260705da4d840078"), looks := false }, kinds := [], alts := [], laidByText := true, laidKinds := [.data, .data], laidTests := true, laidLooks := .later }
def FnManyToldUptoCardSaid : Prop := Claim7.holds Tryz.pinned (.plain (OpenSpec.upto fnManyToldSpec)) fnManyToldUptoCard
end Rows
end Go.Proofs.YtfjbinbpgdiafaaGreatDoor
