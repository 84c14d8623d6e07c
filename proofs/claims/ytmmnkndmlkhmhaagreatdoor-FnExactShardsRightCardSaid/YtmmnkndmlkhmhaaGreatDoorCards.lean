/-
  DERIVED. GIVEN WITH THE SEED: THE CARDS: each row of YtmmnkndmlkhmhaaGreatDoorRows.lean that lists a variable, with what it lists TIED to the program's text (the seventh form; the later family's looks); each row that meets fmt, with fmt's text TOLD by the authors' own Lean function (tested against real Go, not proved from fmt's source: count such statements apart). THE CARD IS WHAT COUNTS. Prove the row's statement (the work); the ties are given (YtmmnkndmlkhmhaaGreatDoorTie.lean); close each card by the builder's one call (the guide's Derived/Test/ToyasCard.lean, 'card_holds'). Laid BY PROGRAM, IN A SANDBOX (cutbox-door.mjs). By AI agents, Wed Nov 11 2026. No macro, syntax, notation, axiom, sorry.
-/
import Derived.Test.YtmmnkndmlkhmhaaGreatDoorRows
import GoSem.ClaimSeven
namespace Go.Proofs.YtmmnkndmlkhmhaaGreatDoor
namespace Rows

/-- THE TIED CARD OF 'laws.FnMany'. -/
def fnManyCard : Claim7 := { stood := { row := fnManyRow, standIns := [], harness := (true, "f45bcb01982babb3f8e74beb53c7787b87500456273914416cd0bba997a7d310"), looks := false }, kinds := [], alts := [], laidByText := true, laidKinds := [.data, .data], laidTests := true, laidLooks := .later }
def FnManyCardSaid : Prop := Claim7.holds Tryz.pinned (.plain (OpenSpec.ofChange fnManySpec)) fnManyCard

/-- THE TIED CARD OF 'laws.FnExactServerOk'. -/
def fnExactServerOkCard : Claim7 := { stood := { row := fnExactServerOkRow, standIns := [], harness := (true, "f45bcb01982babb3f8e74beb53c7787b87500456273914416cd0bba997a7d310"), looks := false }, kinds := [], alts := [], laidByText := true, laidKinds := [.data, .data], laidTests := true, laidLooks := .later }
def FnExactServerOkCardSaid : Prop := Claim7.holds Tryz.pinned (.plain (OpenSpec.ofChange fnExactServerOkSpec)) fnExactServerOkCard

/-- THE TIED CARD OF 'laws.FnLooks'. -/
def fnLooksCard : Claim7 := { stood := { row := fnLooksRow, standIns := [], harness := (true, "f45bcb01982babb3f8e74beb53c7787b87500456273914416cd0bba997a7d310"), looks := false }, kinds := [], alts := [], laidByText := true, laidKinds := [.data, .data], laidTests := true, laidLooks := .later }
def FnLooksCardSaid : Prop := Claim7.holds Tryz.pinned (.plain (OpenSpec.ofChange fnLooksSpec)) fnLooksCard

/-- THE TIED CARD OF 'laws.FnExactStampsRight'. -/
def fnExactStampsRightCard : Claim7 := { stood := { row := fnExactStampsRightRow, standIns := [], harness := (true, "f45bcb01982babb3f8e74beb53c7787b87500456273914416cd0bba997a7d310"), looks := false }, kinds := [], alts := [], laidByText := true, laidKinds := [.data, .data], laidTests := true, laidLooks := .later }
def FnExactStampsRightCardSaid : Prop := Claim7.holds Tryz.pinned (.plain (OpenSpec.ofChange fnExactStampsRightSpec)) fnExactStampsRightCard

/-- THE TIED CARD OF 'laws.FnExactCoordOk'. -/
def fnExactCoordOkCard : Claim7 := { stood := { row := fnExactCoordOkRow, standIns := [], harness := (true, "f45bcb01982babb3f8e74beb53c7787b87500456273914416cd0bba997a7d310"), looks := false }, kinds := [], alts := [], laidByText := true, laidKinds := [.data, .data, .data, .data, .data], laidTests := true, laidLooks := .later }
def FnExactCoordOkCardSaid : Prop := Claim7.holds Tryz.pinned (.plain (OpenSpec.ofChange fnExactCoordOkSpec)) fnExactCoordOkCard

/-- THE TIED CARD OF 'laws.FnExactShardsRight'. -/
def fnExactShardsRightCard : Claim7 := { stood := { row := fnExactShardsRightRow, standIns := [], harness := (true, "f45bcb01982babb3f8e74beb53c7787b87500456273914416cd0bba997a7d310"), looks := false }, kinds := [], alts := [], laidByText := true, laidKinds := [.data, .data], laidTests := true, laidLooks := .later }
def FnExactShardsRightCardSaid : Prop := Claim7.holds Tryz.pinned (.plain (OpenSpec.ofChange fnExactShardsRightSpec)) fnExactShardsRightCard

/-- THE TIED CARD OF 'laws.FnExactPinsRight'. -/
def fnExactPinsRightCard : Claim7 := { stood := { row := fnExactPinsRightRow, standIns := [], harness := (true, "f45bcb01982babb3f8e74beb53c7787b87500456273914416cd0bba997a7d310"), looks := false }, kinds := [], alts := [], laidByText := true, laidKinds := [.data, .data, .data, .data, .data], laidTests := true, laidLooks := .later }
def FnExactPinsRightCardSaid : Prop := Claim7.holds Tryz.pinned (.plain (OpenSpec.ofChange fnExactPinsRightSpec)) fnExactPinsRightCard

/-- THE TIED CARD OF 'laws.FnExactSoundHouse'. -/
def fnExactSoundHouseCard : Claim7 := { stood := { row := fnExactSoundHouseRow, standIns := [], harness := (true, "f45bcb01982babb3f8e74beb53c7787b87500456273914416cd0bba997a7d310"), looks := false }, kinds := [], alts := [], laidByText := true, laidKinds := [.data, .data, .data, .data, .data], laidTests := true, laidLooks := .later }
def FnExactSoundHouseCardSaid : Prop := Claim7.holds Tryz.pinned (.plain (OpenSpec.ofChange fnExactSoundHouseSpec)) fnExactSoundHouseCard

/-- THE SECOND FORM's CARD OF 'laws.FnMany'. -/
def fnManyUptoCard : Claim7 := { stood := { row := fnManyUptoRow, standIns := [], harness := (true, "f45bcb01982babb3f8e74beb53c7787b87500456273914416cd0bba997a7d310"), looks := false }, kinds := [], alts := [], laidByText := true, laidKinds := [.data, .data], laidTests := true, laidLooks := .later }
def FnManyUptoCardSaid : Prop := Claim7.holds Tryz.pinned (.plain (OpenSpec.upto fnManySpec)) fnManyUptoCard

/-- THE SECOND FORM's CARD OF 'laws.FnExactServerOk'. -/
def fnExactServerOkUptoCard : Claim7 := { stood := { row := fnExactServerOkUptoRow, standIns := [], harness := (true, "f45bcb01982babb3f8e74beb53c7787b87500456273914416cd0bba997a7d310"), looks := false }, kinds := [], alts := [], laidByText := true, laidKinds := [.data, .data], laidTests := true, laidLooks := .later }
def FnExactServerOkUptoCardSaid : Prop := Claim7.holds Tryz.pinned (.plain (OpenSpec.upto fnExactServerOkSpec)) fnExactServerOkUptoCard

/-- THE SECOND FORM's CARD OF 'laws.FnLooks'. -/
def fnLooksUptoCard : Claim7 := { stood := { row := fnLooksUptoRow, standIns := [], harness := (true, "f45bcb01982babb3f8e74beb53c7787b87500456273914416cd0bba997a7d310"), looks := false }, kinds := [], alts := [], laidByText := true, laidKinds := [.data, .data], laidTests := true, laidLooks := .later }
def FnLooksUptoCardSaid : Prop := Claim7.holds Tryz.pinned (.plain (OpenSpec.upto fnLooksSpec)) fnLooksUptoCard

/-- THE SECOND FORM's CARD OF 'laws.FnExactStampsRight'. -/
def fnExactStampsRightUptoCard : Claim7 := { stood := { row := fnExactStampsRightUptoRow, standIns := [], harness := (true, "f45bcb01982babb3f8e74beb53c7787b87500456273914416cd0bba997a7d310"), looks := false }, kinds := [], alts := [], laidByText := true, laidKinds := [.data, .data], laidTests := true, laidLooks := .later }
def FnExactStampsRightUptoCardSaid : Prop := Claim7.holds Tryz.pinned (.plain (OpenSpec.upto fnExactStampsRightSpec)) fnExactStampsRightUptoCard

/-- THE SECOND FORM's CARD OF 'laws.FnExactCoordOk'. -/
def fnExactCoordOkUptoCard : Claim7 := { stood := { row := fnExactCoordOkUptoRow, standIns := [], harness := (true, "f45bcb01982babb3f8e74beb53c7787b87500456273914416cd0bba997a7d310"), looks := false }, kinds := [], alts := [], laidByText := true, laidKinds := [.data, .data, .data, .data, .data], laidTests := true, laidLooks := .later }
def FnExactCoordOkUptoCardSaid : Prop := Claim7.holds Tryz.pinned (.plain (OpenSpec.upto fnExactCoordOkSpec)) fnExactCoordOkUptoCard

/-- THE SECOND FORM's CARD OF 'laws.FnExactShardsRight'. -/
def fnExactShardsRightUptoCard : Claim7 := { stood := { row := fnExactShardsRightUptoRow, standIns := [], harness := (true, "f45bcb01982babb3f8e74beb53c7787b87500456273914416cd0bba997a7d310"), looks := false }, kinds := [], alts := [], laidByText := true, laidKinds := [.data, .data], laidTests := true, laidLooks := .later }
def FnExactShardsRightUptoCardSaid : Prop := Claim7.holds Tryz.pinned (.plain (OpenSpec.upto fnExactShardsRightSpec)) fnExactShardsRightUptoCard

/-- THE SECOND FORM's CARD OF 'laws.FnExactPinsRight'. -/
def fnExactPinsRightUptoCard : Claim7 := { stood := { row := fnExactPinsRightUptoRow, standIns := [], harness := (true, "f45bcb01982babb3f8e74beb53c7787b87500456273914416cd0bba997a7d310"), looks := false }, kinds := [], alts := [], laidByText := true, laidKinds := [.data, .data, .data, .data, .data], laidTests := true, laidLooks := .later }
def FnExactPinsRightUptoCardSaid : Prop := Claim7.holds Tryz.pinned (.plain (OpenSpec.upto fnExactPinsRightSpec)) fnExactPinsRightUptoCard

/-- THE SECOND FORM's CARD OF 'laws.FnExactSoundHouse'. -/
def fnExactSoundHouseUptoCard : Claim7 := { stood := { row := fnExactSoundHouseUptoRow, standIns := [], harness := (true, "f45bcb01982babb3f8e74beb53c7787b87500456273914416cd0bba997a7d310"), looks := false }, kinds := [], alts := [], laidByText := true, laidKinds := [.data, .data, .data, .data, .data], laidTests := true, laidLooks := .later }
def FnExactSoundHouseUptoCardSaid : Prop := Claim7.holds Tryz.pinned (.plain (OpenSpec.upto fnExactSoundHouseSpec)) fnExactSoundHouseUptoCard
end Rows
end Go.Proofs.YtmmnkndmlkhmhaaGreatDoor
