/-
  DERIVED. GIVEN WITH THE SEED: THE CARDS: each row of YtfihjhejognafaaGreatDoorRows.lean that lists a variable, with what it lists TIED to the program's text (the seventh form; the later family's looks); each row that meets fmt, with fmt's text TOLD by the authors' own Lean function (tested against real Go, not proved from fmt's source: count such statements apart). THE CARD IS WHAT COUNTS. Prove the row's statement (the work); the ties are given (YtfihjhejognafaaGreatDoorTie.lean); close each card by the builder's one call (the guide's Derived/Test/ToyasCard.lean, 'card_holds'). Laid BY PROGRAM, IN A SANDBOX (cutbox-door.mjs). By AI agents, Wed Nov 11 2026. No macro, syntax, notation, axiom, sorry.
-/
import Derived.Test.YtfihjhejognafaaGreatDoorRows
import GoSem.ClaimSeven
namespace Go.Proofs.YtfihjhejognafaaGreatDoor
namespace Rows

/-- THE TIED CARD OF 'laws.FnTagHas'. -/
def fnTagHasCard : Claim7 := { stood := { row := fnTagHasRow, standIns := [], harness := (true, "7a01d08486b2f0da6172fea35c71de9ad350bff069027deb1fd17b0f4524a6ad"), looks := true }, kinds := [], alts := [], laidByText := true, laidKinds := [.data, .data, .data, .sentinel, .sentinel], laidTests := true, laidLooks := .later }
def FnTagHasCardSaid : Prop := Claim7.holds Tryz.pinned (.plain (OpenSpec.ofChange fnTagHasSpec)) fnTagHasCard

/-- THE TIED CARD OF 'laws.FnTagTwo'. -/
def fnTagTwoCard : Claim7 := { stood := { row := fnTagTwoRow, standIns := [], harness := (true, "7a01d08486b2f0da6172fea35c71de9ad350bff069027deb1fd17b0f4524a6ad"), looks := true }, kinds := [], alts := [], laidByText := true, laidKinds := [.data, .data, .data, .sentinel, .sentinel], laidTests := true, laidLooks := .later }
def FnTagTwoCardSaid : Prop := Claim7.holds Tryz.pinned (.plain (OpenSpec.ofChange fnTagTwoSpec)) fnTagTwoCard

/-- THE SECOND FORM's CARD OF 'laws.FnTagHas'. -/
def fnTagHasUptoCard : Claim7 := { stood := { row := fnTagHasUptoRow, standIns := [], harness := (true, "7a01d08486b2f0da6172fea35c71de9ad350bff069027deb1fd17b0f4524a6ad"), looks := true }, kinds := [], alts := [], laidByText := true, laidKinds := [.data, .data, .data, .sentinel, .sentinel], laidTests := true, laidLooks := .later }
def FnTagHasUptoCardSaid : Prop := Claim7.holds Tryz.pinned (.plain (OpenSpec.upto fnTagHasSpec)) fnTagHasUptoCard

/-- THE SECOND FORM's CARD OF 'laws.FnTagTwo'. -/
def fnTagTwoUptoCard : Claim7 := { stood := { row := fnTagTwoUptoRow, standIns := [], harness := (true, "7a01d08486b2f0da6172fea35c71de9ad350bff069027deb1fd17b0f4524a6ad"), looks := true }, kinds := [], alts := [], laidByText := true, laidKinds := [.data, .data, .data, .sentinel, .sentinel], laidTests := true, laidLooks := .later }
def FnTagTwoUptoCardSaid : Prop := Claim7.holds Tryz.pinned (.plain (OpenSpec.upto fnTagTwoSpec)) fnTagTwoUptoCard
end Rows
end Go.Proofs.YtfihjhejognafaaGreatDoor
