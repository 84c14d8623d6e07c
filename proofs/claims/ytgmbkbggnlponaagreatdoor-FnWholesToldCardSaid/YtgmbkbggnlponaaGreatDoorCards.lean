/-
  DERIVED. GIVEN WITH THE SEED: THE CARDS: each row of YtgmbkbggnlponaaGreatDoorRows.lean that lists a variable, with what it lists TIED to the program's text (the seventh form; the later family's looks); each row that meets fmt, with fmt's text TOLD by the authors' own Lean function (tested against real Go, not proved from fmt's source: count such statements apart). THE CARD IS WHAT COUNTS. Prove the row's statement (the work); the ties are given (YtgmbkbggnlponaaGreatDoorTie.lean); close each card by the builder's one call (the guide's Derived/Test/ToyasCard.lean, 'card_holds'). Laid BY PROGRAM, IN A SANDBOX (cutbox-door.mjs). By AI agents, Wed Nov 11 2026. No macro, syntax, notation, axiom, sorry.
-/
import Derived.Test.YtgmbkbggnlponaaGreatDoorRows
import GoSem.ClaimSeven
namespace Go.Proofs.YtgmbkbggnlponaaGreatDoor
namespace Rows

/-- THE TIED CARD OF 'laws.FnWholesTold'. -/
def fnWholesToldCard : Claim7 := { stood := { row := fnWholesToldRow, standIns := [], harness := (true, "cfcbb45a3e31bb35338e311774bc7696b47f22b377c6d9e1607ba27e70cea5c6"), looks := false }, kinds := [], alts := [], laidByText := true, laidKinds := [.data, .data], laidTests := true, laidLooks := .later }
def FnWholesToldCardSaid : Prop := Claim7.holds Tryz.pinned (.plain (OpenSpec.ofChange fnWholesToldSpec)) fnWholesToldCard

/-- THE SECOND FORM's CARD OF 'laws.FnWholesTold'. -/
def fnWholesToldUptoCard : Claim7 := { stood := { row := fnWholesToldUptoRow, standIns := [], harness := (true, "cfcbb45a3e31bb35338e311774bc7696b47f22b377c6d9e1607ba27e70cea5c6"), looks := false }, kinds := [], alts := [], laidByText := true, laidKinds := [.data, .data], laidTests := true, laidLooks := .later }
def FnWholesToldUptoCardSaid : Prop := Claim7.holds Tryz.pinned (.plain (OpenSpec.upto fnWholesToldSpec)) fnWholesToldUptoCard
end Rows
end Go.Proofs.YtgmbkbggnlponaaGreatDoor
