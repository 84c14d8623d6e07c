/-
  DERIVED. GIVEN WITH THE SEED: THE CARDS: each row of YtigfpjnjjndenaaDoorRows.lean that lists a variable, with what it lists TIED to the program's text (the seventh form; the later family's looks); each row that meets fmt, with fmt's text TOLD by the authors' own Lean function (tested against real Go, not proved from fmt's source: count such statements apart). THE CARD IS WHAT COUNTS. Prove the row's statement (the work); the ties are given (YtigfpjnjjndenaaDoorTie.lean); close each card by the builder's one call (the guide's Derived/Test/ToyasCard.lean, 'card_holds'). Laid BY PROGRAM, IN A SANDBOX (cutbox-door.mjs). By AI agents, Wed Nov 11 2026. No macro, syntax, notation, axiom, sorry.
-/
import Derived.Test.YtigfpjnjjndenaaDoorRows
import GoSem.ClaimSeven
namespace Go.Proofs.YtigfpjnjjndenaaDoor
namespace Rows

/-- THE TIED CARD OF 'laws.FnLeavesTold'. -/
def fnLeavesToldCard : Claim7 := { stood := { row := fnLeavesToldRow, standIns := [], harness := (true, "3968b0ed7d2349964de83c913ad2a005f708d284c254548cb7743cc021299dec"), looks := false }, kinds := [], alts := [], laidByText := true, laidKinds := [.data, .data], laidTests := true, laidLooks := .later }
def FnLeavesToldCardSaid : Prop := Claim7.holds Tryd.pinned (.plain (OpenSpec.ofChange fnLeavesToldSpec)) fnLeavesToldCard

/-- THE TIED CARD OF 'laws.FnProofs'. -/
def fnProofsCard : Claim7 := { stood := { row := fnProofsRow, standIns := [], harness := (true, "3968b0ed7d2349964de83c913ad2a005f708d284c254548cb7743cc021299dec"), looks := false }, kinds := [], alts := [], laidByText := true, laidKinds := [.data, .data], laidTests := true, laidLooks := .later }
def FnProofsCardSaid : Prop := Claim7.holds Tryd.pinned (.plain (OpenSpec.ofChange fnProofsSpec)) fnProofsCard

/-- THE TIED CARD OF 'laws.FnExactShowAuditor'. -/
def fnExactShowAuditorCard : Claim7 := { stood := { row := fnExactShowAuditorRow, standIns := [], harness := (true, "3968b0ed7d2349964de83c913ad2a005f708d284c254548cb7743cc021299dec"), looks := false }, kinds := [], alts := [], laidByText := true, laidKinds := [.data, .data, .data], laidTests := true, laidLooks := .later }
def FnExactShowAuditorCardSaid : Prop := Claim7.holds Tryd.pinned (.plain (OpenSpec.ofChange fnExactShowAuditorSpec)) fnExactShowAuditorCard

/-- THE TIED CARD OF 'laws.FnExactShowHouse'. -/
def fnExactShowHouseCard : Claim7 := { stood := { row := fnExactShowHouseRow, standIns := [], harness := (true, "3968b0ed7d2349964de83c913ad2a005f708d284c254548cb7743cc021299dec"), looks := false }, kinds := [], alts := [], laidByText := true, laidKinds := [.data, .data, .data], laidTests := true, laidLooks := .later }
def FnExactShowHouseCardSaid : Prop := Claim7.holds Tryd.pinned (.plain (OpenSpec.ofChange fnExactShowHouseSpec)) fnExactShowHouseCard

/-- THE SECOND FORM's CARD OF 'laws.FnLeavesTold'. -/
def fnLeavesToldUptoCard : Claim7 := { stood := { row := fnLeavesToldUptoRow, standIns := [], harness := (true, "3968b0ed7d2349964de83c913ad2a005f708d284c254548cb7743cc021299dec"), looks := false }, kinds := [], alts := [], laidByText := true, laidKinds := [.data, .data], laidTests := true, laidLooks := .later }
def FnLeavesToldUptoCardSaid : Prop := Claim7.holds Tryd.pinned (.plain (OpenSpec.upto fnLeavesToldSpec)) fnLeavesToldUptoCard

/-- THE SECOND FORM's CARD OF 'laws.FnProofs'. -/
def fnProofsUptoCard : Claim7 := { stood := { row := fnProofsUptoRow, standIns := [], harness := (true, "3968b0ed7d2349964de83c913ad2a005f708d284c254548cb7743cc021299dec"), looks := false }, kinds := [], alts := [], laidByText := true, laidKinds := [.data, .data], laidTests := true, laidLooks := .later }
def FnProofsUptoCardSaid : Prop := Claim7.holds Tryd.pinned (.plain (OpenSpec.upto fnProofsSpec)) fnProofsUptoCard

/-- THE SECOND FORM's CARD OF 'laws.FnExactShowAuditor'. -/
def fnExactShowAuditorUptoCard : Claim7 := { stood := { row := fnExactShowAuditorUptoRow, standIns := [], harness := (true, "3968b0ed7d2349964de83c913ad2a005f708d284c254548cb7743cc021299dec"), looks := false }, kinds := [], alts := [], laidByText := true, laidKinds := [.data, .data, .data], laidTests := true, laidLooks := .later }
def FnExactShowAuditorUptoCardSaid : Prop := Claim7.holds Tryd.pinned (.plain (OpenSpec.upto fnExactShowAuditorSpec)) fnExactShowAuditorUptoCard

/-- THE SECOND FORM's CARD OF 'laws.FnExactShowHouse'. -/
def fnExactShowHouseUptoCard : Claim7 := { stood := { row := fnExactShowHouseUptoRow, standIns := [], harness := (true, "3968b0ed7d2349964de83c913ad2a005f708d284c254548cb7743cc021299dec"), looks := false }, kinds := [], alts := [], laidByText := true, laidKinds := [.data, .data, .data], laidTests := true, laidLooks := .later }
def FnExactShowHouseUptoCardSaid : Prop := Claim7.holds Tryd.pinned (.plain (OpenSpec.upto fnExactShowHouseSpec)) fnExactShowHouseUptoCard
end Rows
end Go.Proofs.YtigfpjnjjndenaaDoor
