/-
  DERIVED. GIVEN WITH THE SEED: THE CARDS: each row of YthbdlnogojcnmaaGreatDoorRows.lean that lists a variable, with what it lists TIED to the program's text (the seventh form; the later family's looks); each row that meets fmt, with fmt's text TOLD by the authors' own Lean function (tested against real Go, not proved from fmt's source: count such statements apart). THE CARD IS WHAT COUNTS. Prove the row's statement (the work); the ties are given (YthbdlnogojcnmaaGreatDoorTie.lean); close each card by the builder's one call (the guide's Derived/Test/ToyasCard.lean, 'card_holds'). Laid BY PROGRAM, IN A SANDBOX (cutbox-door.mjs). By AI agents, Wed Nov 11 2026. No macro, syntax, notation, axiom, sorry.
-/
import Derived.Test.YthbdlnogojcnmaaGreatDoorRows
import GoSem.ClaimSeven
namespace Go.Proofs.YthbdlnogojcnmaaGreatDoor
namespace Rows

/-- THE TIED CARD OF 'laws.FnLooks'. -/
def fnLooksCard : Claim7 := { stood := { row := fnLooksRow, standIns := [], harness := (true, "a83136c0e133b22a9fb6d93127d827a72260912cd72d9c943c0a2034cd26b175"), looks := false }, kinds := [], alts := [], laidByText := true, laidKinds := [.data, .data], laidTests := true, laidLooks := .later }
def FnLooksCardSaid : Prop := Claim7.holds Tryz.pinned (.plain (OpenSpec.ofChange fnLooksSpec)) fnLooksCard

/-- THE TIED CARD OF 'laws.FnShardsUp'. -/
def fnShardsUpCard : Claim7 := { stood := { row := fnShardsUpRow, standIns := [], harness := (true, "a83136c0e133b22a9fb6d93127d827a72260912cd72d9c943c0a2034cd26b175"), looks := false }, kinds := [], alts := [], laidByText := true, laidKinds := [.data, .data], laidTests := true, laidLooks := .later }
def FnShardsUpCardSaid : Prop := Claim7.holds Tryz.pinned (.plain (OpenSpec.ofChange fnShardsUpSpec)) fnShardsUpCard

/-- THE TIED CARD OF 'laws.FnNotCommitted'. -/
def fnNotCommittedCard : Claim7 := { stood := { row := fnNotCommittedRow, standIns := [], harness := (true, "a83136c0e133b22a9fb6d93127d827a72260912cd72d9c943c0a2034cd26b175"), looks := false }, kinds := [], alts := [], laidByText := true, laidKinds := [.data, .data], laidTests := true, laidLooks := .later }
def FnNotCommittedCardSaid : Prop := Claim7.holds Tryz.pinned (.plain (OpenSpec.ofChange fnNotCommittedSpec)) fnNotCommittedCard

/-- THE TIED CARD OF 'laws.FnVotes'. -/
def fnVotesCard : Claim7 := { stood := { row := fnVotesRow, standIns := [], harness := (true, "a83136c0e133b22a9fb6d93127d827a72260912cd72d9c943c0a2034cd26b175"), looks := false }, kinds := [], alts := [], laidByText := true, laidKinds := [.data, .data], laidTests := true, laidLooks := .later }
def FnVotesCardSaid : Prop := Claim7.holds Tryz.pinned (.plain (OpenSpec.ofChange fnVotesSpec)) fnVotesCard

/-- THE SECOND FORM's CARD OF 'laws.FnLooks'. -/
def fnLooksUptoCard : Claim7 := { stood := { row := fnLooksUptoRow, standIns := [], harness := (true, "a83136c0e133b22a9fb6d93127d827a72260912cd72d9c943c0a2034cd26b175"), looks := false }, kinds := [], alts := [], laidByText := true, laidKinds := [.data, .data], laidTests := true, laidLooks := .later }
def FnLooksUptoCardSaid : Prop := Claim7.holds Tryz.pinned (.plain (OpenSpec.upto fnLooksSpec)) fnLooksUptoCard

/-- THE SECOND FORM's CARD OF 'laws.FnShardsUp'. -/
def fnShardsUpUptoCard : Claim7 := { stood := { row := fnShardsUpUptoRow, standIns := [], harness := (true, "a83136c0e133b22a9fb6d93127d827a72260912cd72d9c943c0a2034cd26b175"), looks := false }, kinds := [], alts := [], laidByText := true, laidKinds := [.data, .data], laidTests := true, laidLooks := .later }
def FnShardsUpUptoCardSaid : Prop := Claim7.holds Tryz.pinned (.plain (OpenSpec.upto fnShardsUpSpec)) fnShardsUpUptoCard

/-- THE SECOND FORM's CARD OF 'laws.FnNotCommitted'. -/
def fnNotCommittedUptoCard : Claim7 := { stood := { row := fnNotCommittedUptoRow, standIns := [], harness := (true, "a83136c0e133b22a9fb6d93127d827a72260912cd72d9c943c0a2034cd26b175"), looks := false }, kinds := [], alts := [], laidByText := true, laidKinds := [.data, .data], laidTests := true, laidLooks := .later }
def FnNotCommittedUptoCardSaid : Prop := Claim7.holds Tryz.pinned (.plain (OpenSpec.upto fnNotCommittedSpec)) fnNotCommittedUptoCard

/-- THE SECOND FORM's CARD OF 'laws.FnVotes'. -/
def fnVotesUptoCard : Claim7 := { stood := { row := fnVotesUptoRow, standIns := [], harness := (true, "a83136c0e133b22a9fb6d93127d827a72260912cd72d9c943c0a2034cd26b175"), looks := false }, kinds := [], alts := [], laidByText := true, laidKinds := [.data, .data], laidTests := true, laidLooks := .later }
def FnVotesUptoCardSaid : Prop := Claim7.holds Tryz.pinned (.plain (OpenSpec.upto fnVotesSpec)) fnVotesUptoCard
end Rows
end Go.Proofs.YthbdlnogojcnmaaGreatDoor
