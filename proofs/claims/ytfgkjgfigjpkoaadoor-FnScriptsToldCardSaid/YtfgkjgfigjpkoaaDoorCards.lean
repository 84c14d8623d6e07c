/-
  DERIVED. GIVEN WITH THE SEED: THE CARDS: each row of YtfgkjgfigjpkoaaDoorRows.lean that lists a variable, with what it lists TIED to the program's text (the seventh form; the later family's looks); each row that meets fmt, with fmt's text TOLD by the authors' own Lean function (tested against real Go, not proved from fmt's source: count such statements apart). THE CARD IS WHAT COUNTS. Prove the row's statement (the work); the ties are given (YtfgkjgfigjpkoaaDoorTie.lean); close each card by the builder's one call (the guide's Derived/Test/ToyasCard.lean, 'card_holds'). Laid BY PROGRAM, IN A SANDBOX (cutbox-door.mjs). By AI agents, Wed Nov 11 2026. No macro, syntax, notation, axiom, sorry.
-/
import Derived.Test.YtfgkjgfigjpkoaaDoorRows
import GoSem.ClaimSeven
namespace Go.Proofs.YtfgkjgfigjpkoaaDoor
namespace Rows

/-- THE TIED CARD OF 'laws.FnScriptsTold'. -/
def fnScriptsToldCard : Claim7 := { stood := { row := fnScriptsToldRow, standIns := [], harness := (true, "02bafb9fc30db4fa0ba3c0820292280442fd1e42ad4628c77dbbc70593d27abc"), looks := true }, kinds := [], alts := [], laidByText := true, laidKinds := [.data, .data, .data, .data, .sentinel, .sentinel, .data, .pinned], laidTests := true, laidLooks := .later }
def FnScriptsToldCardSaid : Prop := Claim7.holds Tryd.pinned (.plain (OpenSpec.ofChange fnScriptsToldSpec)) fnScriptsToldCard

/-- THE SECOND FORM's CARD OF 'laws.FnScriptsTold'. -/
def fnScriptsToldUptoCard : Claim7 := { stood := { row := fnScriptsToldUptoRow, standIns := [], harness := (true, "02bafb9fc30db4fa0ba3c0820292280442fd1e42ad4628c77dbbc70593d27abc"), looks := true }, kinds := [], alts := [], laidByText := true, laidKinds := [.data, .data, .data, .data, .sentinel, .sentinel, .data, .pinned], laidTests := true, laidLooks := .later }
def FnScriptsToldUptoCardSaid : Prop := Claim7.holds Tryd.pinned (.plain (OpenSpec.upto fnScriptsToldSpec)) fnScriptsToldUptoCard
end Rows
end Go.Proofs.YtfgkjgfigjpkoaaDoor
