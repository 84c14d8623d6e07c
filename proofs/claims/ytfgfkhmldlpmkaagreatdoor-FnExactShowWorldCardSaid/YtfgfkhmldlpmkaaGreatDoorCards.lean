/-
  DERIVED. GIVEN WITH THE SEED: THE CARDS: each row of YtfgfkhmldlpmkaaGreatDoorRows.lean that lists a variable, with what it lists TIED to the program's text (the seventh form; the later family's looks); each row that meets fmt, with fmt's text TOLD by the authors' own Lean function (tested against real Go, not proved from fmt's source: count such statements apart). THE CARD IS WHAT COUNTS. Prove the row's statement (the work); the ties are given (YtfgfkhmldlpmkaaGreatDoorTie.lean); close each card by the builder's one call (the guide's Derived/Test/ToyasCard.lean, 'card_holds'). Laid BY PROGRAM, IN A SANDBOX (cutbox-door.mjs). By AI agents, Wed Nov 11 2026. No macro, syntax, notation, axiom, sorry.
-/
import Derived.Test.YtfgfkhmldlpmkaaGreatDoorRows
import GoSem.ClaimSeven
namespace Go.Proofs.YtfgfkhmldlpmkaaGreatDoor
namespace Rows

/-- THE TIED CARD OF 'laws.FnExactShowWorld'. -/
def fnExactShowWorldCard : Claim7 := { stood := { row := fnExactShowWorldRow, standIns := [], harness := (true, "12c3152932dc9a9cc8e7337167bca62fb6e27b88cb45044f6bf01b7cece00c5a"), looks := false }, kinds := [], alts := [], laidByText := true, laidKinds := [.data, .data, .data], laidTests := true, laidLooks := .later }
def FnExactShowWorldCardSaid : Prop := Claim7.holds Tryz.pinned (.plain (OpenSpec.ofChange fnExactShowWorldSpec)) fnExactShowWorldCard

/-- THE SECOND FORM's CARD OF 'laws.FnExactShowWorld'. -/
def fnExactShowWorldUptoCard : Claim7 := { stood := { row := fnExactShowWorldUptoRow, standIns := [], harness := (true, "12c3152932dc9a9cc8e7337167bca62fb6e27b88cb45044f6bf01b7cece00c5a"), looks := false }, kinds := [], alts := [], laidByText := true, laidKinds := [.data, .data, .data], laidTests := true, laidLooks := .later }
def FnExactShowWorldUptoCardSaid : Prop := Claim7.holds Tryz.pinned (.plain (OpenSpec.upto fnExactShowWorldSpec)) fnExactShowWorldUptoCard
end Rows
end Go.Proofs.YtfgfkhmldlpmkaaGreatDoor
