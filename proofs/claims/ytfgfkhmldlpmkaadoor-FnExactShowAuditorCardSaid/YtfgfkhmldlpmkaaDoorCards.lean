/-
  DERIVED. GIVEN WITH THE SEED: THE CARDS: each row of YtfgfkhmldlpmkaaDoorRows.lean that lists a variable, with what it lists TIED to the program's text (the seventh form; the later family's looks); each row that meets fmt, with fmt's text TOLD by the authors' own Lean function (tested against real Go, not proved from fmt's source: count such statements apart). THE CARD IS WHAT COUNTS. Prove the row's statement (the work); the ties are given (YtfgfkhmldlpmkaaDoorTie.lean); close each card by the builder's one call (the guide's Derived/Test/ToyasCard.lean, 'card_holds'). Laid BY PROGRAM, IN A SANDBOX (cutbox-door.mjs). By AI agents, Wed Nov 11 2026. No macro, syntax, notation, axiom, sorry.
-/
import Derived.Test.YtfgfkhmldlpmkaaDoorRows
import GoSem.ClaimSeven
namespace Go.Proofs.YtfgfkhmldlpmkaaDoor
namespace Rows

/-- THE TIED CARD OF 'laws.FnExactShowAuditor'. -/
def fnExactShowAuditorCard : Claim7 := { stood := { row := fnExactShowAuditorRow, standIns := [], harness := (true, "9d5c0fd9d4915e5a6d6bbe2b669746471ad2de488f328998673991f2e6eb43ed"), looks := false }, kinds := [], alts := [], laidByText := true, laidKinds := [.data, .data, .data], laidTests := true, laidLooks := .later }
def FnExactShowAuditorCardSaid : Prop := Claim7.holds Tryd.pinned (.plain (OpenSpec.ofChange fnExactShowAuditorSpec)) fnExactShowAuditorCard

/-- THE TIED CARD OF 'laws.FnExactShowHouse'. -/
def fnExactShowHouseCard : Claim7 := { stood := { row := fnExactShowHouseRow, standIns := [], harness := (true, "9d5c0fd9d4915e5a6d6bbe2b669746471ad2de488f328998673991f2e6eb43ed"), looks := false }, kinds := [], alts := [], laidByText := true, laidKinds := [.data, .data, .data], laidTests := true, laidLooks := .later }
def FnExactShowHouseCardSaid : Prop := Claim7.holds Tryd.pinned (.plain (OpenSpec.ofChange fnExactShowHouseSpec)) fnExactShowHouseCard

/-- THE SECOND FORM's CARD OF 'laws.FnExactShowAuditor'. -/
def fnExactShowAuditorUptoCard : Claim7 := { stood := { row := fnExactShowAuditorUptoRow, standIns := [], harness := (true, "9d5c0fd9d4915e5a6d6bbe2b669746471ad2de488f328998673991f2e6eb43ed"), looks := false }, kinds := [], alts := [], laidByText := true, laidKinds := [.data, .data, .data], laidTests := true, laidLooks := .later }
def FnExactShowAuditorUptoCardSaid : Prop := Claim7.holds Tryd.pinned (.plain (OpenSpec.upto fnExactShowAuditorSpec)) fnExactShowAuditorUptoCard

/-- THE SECOND FORM's CARD OF 'laws.FnExactShowHouse'. -/
def fnExactShowHouseUptoCard : Claim7 := { stood := { row := fnExactShowHouseUptoRow, standIns := [], harness := (true, "9d5c0fd9d4915e5a6d6bbe2b669746471ad2de488f328998673991f2e6eb43ed"), looks := false }, kinds := [], alts := [], laidByText := true, laidKinds := [.data, .data, .data], laidTests := true, laidLooks := .later }
def FnExactShowHouseUptoCardSaid : Prop := Claim7.holds Tryd.pinned (.plain (OpenSpec.upto fnExactShowHouseSpec)) fnExactShowHouseUptoCard
end Rows
end Go.Proofs.YtfgfkhmldlpmkaaDoor
