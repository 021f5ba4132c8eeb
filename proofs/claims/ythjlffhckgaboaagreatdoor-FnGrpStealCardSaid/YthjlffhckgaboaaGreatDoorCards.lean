/-
  DERIVED. GIVEN WITH THE SEED: THE CARDS: each row of YthjlffhckgaboaaGreatDoorRows.lean that lists a variable, with what it lists TIED to the program's text (the seventh form; the later family's looks); each row that meets fmt, with fmt's text TOLD by the authors' own Lean function (tested against real Go, not proved from fmt's source: count such statements apart). THE CARD IS WHAT COUNTS. Prove the row's statement (the work); the ties are given (YthjlffhckgaboaaGreatDoorTie.lean); close each card by the builder's one call (the guide's Derived/Test/ToyasCard.lean, 'card_holds'). Laid BY PROGRAM, IN A SANDBOX (cutbox-door.mjs). By AI agents, Wed Nov 11 2026. No macro, syntax, notation, axiom, sorry.
-/
import Derived.Test.YthjlffhckgaboaaGreatDoorRows
import GoSem.ClaimSeven
namespace Go.Proofs.YthjlffhckgaboaaGreatDoor
namespace Rows

/-- THE TIED CARD OF 'laws.FnGrpEpoch'. -/
def fnGrpEpochCard : Claim7 := { stood := { row := fnGrpEpochRow, standIns := [], harness := (true, "5a6aa569f3e32293fa79b78af068962a46264e90ce5b049ce0f621ee7a44bd99"), looks := true }, kinds := [], alts := [], laidByText := true, laidKinds := [.data, .data, .data, .data, .sentinel, .sentinel, .pinned], laidTests := true, laidLooks := .later }
def FnGrpEpochCardSaid : Prop := Claim7.holds Tryz.pinned (.plain (OpenSpec.ofChange fnGrpEpochSpec)) fnGrpEpochCard

/-- THE TIED CARD OF 'laws.FnGrpBad'. -/
def fnGrpBadCard : Claim7 := { stood := { row := fnGrpBadRow, standIns := [], harness := (true, "5a6aa569f3e32293fa79b78af068962a46264e90ce5b049ce0f621ee7a44bd99"), looks := true }, kinds := [], alts := [], laidByText := true, laidKinds := [.data, .data, .data, .sentinel, .sentinel], laidTests := true, laidLooks := .later }
def FnGrpBadCardSaid : Prop := Claim7.holds Tryz.pinned (.plain (OpenSpec.ofChange fnGrpBadSpec)) fnGrpBadCard

/-- THE TIED CARD OF 'laws.FnGrpOrder'. -/
def fnGrpOrderCard : Claim7 := { stood := { row := fnGrpOrderRow, standIns := [], harness := (true, "5a6aa569f3e32293fa79b78af068962a46264e90ce5b049ce0f621ee7a44bd99"), looks := true }, kinds := [], alts := [], laidByText := true, laidKinds := [.data, .data, .data, .sentinel, .sentinel], laidTests := true, laidLooks := .later }
def FnGrpOrderCardSaid : Prop := Claim7.holds Tryz.pinned (.plain (OpenSpec.ofChange fnGrpOrderSpec)) fnGrpOrderCard

/-- THE TIED CARD OF 'laws.FnGrpSteal'. -/
def fnGrpStealCard : Claim7 := { stood := { row := fnGrpStealRow, standIns := [], harness := (true, "5a6aa569f3e32293fa79b78af068962a46264e90ce5b049ce0f621ee7a44bd99"), looks := true }, kinds := [], alts := [], laidByText := true, laidKinds := [.data, .data, .data, .sentinel, .sentinel], laidTests := true, laidLooks := .later }
def FnGrpStealCardSaid : Prop := Claim7.holds Tryz.pinned (.plain (OpenSpec.ofChange fnGrpStealSpec)) fnGrpStealCard

/-- THE SECOND FORM's CARD OF 'laws.FnGrpEpoch'. -/
def fnGrpEpochUptoCard : Claim7 := { stood := { row := fnGrpEpochUptoRow, standIns := [], harness := (true, "5a6aa569f3e32293fa79b78af068962a46264e90ce5b049ce0f621ee7a44bd99"), looks := true }, kinds := [], alts := [], laidByText := true, laidKinds := [.data, .data, .data, .data, .sentinel, .sentinel, .pinned], laidTests := true, laidLooks := .later }
def FnGrpEpochUptoCardSaid : Prop := Claim7.holds Tryz.pinned (.plain (OpenSpec.upto fnGrpEpochSpec)) fnGrpEpochUptoCard

/-- THE SECOND FORM's CARD OF 'laws.FnGrpBad'. -/
def fnGrpBadUptoCard : Claim7 := { stood := { row := fnGrpBadUptoRow, standIns := [], harness := (true, "5a6aa569f3e32293fa79b78af068962a46264e90ce5b049ce0f621ee7a44bd99"), looks := true }, kinds := [], alts := [], laidByText := true, laidKinds := [.data, .data, .data, .sentinel, .sentinel], laidTests := true, laidLooks := .later }
def FnGrpBadUptoCardSaid : Prop := Claim7.holds Tryz.pinned (.plain (OpenSpec.upto fnGrpBadSpec)) fnGrpBadUptoCard

/-- THE SECOND FORM's CARD OF 'laws.FnGrpOrder'. -/
def fnGrpOrderUptoCard : Claim7 := { stood := { row := fnGrpOrderUptoRow, standIns := [], harness := (true, "5a6aa569f3e32293fa79b78af068962a46264e90ce5b049ce0f621ee7a44bd99"), looks := true }, kinds := [], alts := [], laidByText := true, laidKinds := [.data, .data, .data, .sentinel, .sentinel], laidTests := true, laidLooks := .later }
def FnGrpOrderUptoCardSaid : Prop := Claim7.holds Tryz.pinned (.plain (OpenSpec.upto fnGrpOrderSpec)) fnGrpOrderUptoCard

/-- THE SECOND FORM's CARD OF 'laws.FnGrpSteal'. -/
def fnGrpStealUptoCard : Claim7 := { stood := { row := fnGrpStealUptoRow, standIns := [], harness := (true, "5a6aa569f3e32293fa79b78af068962a46264e90ce5b049ce0f621ee7a44bd99"), looks := true }, kinds := [], alts := [], laidByText := true, laidKinds := [.data, .data, .data, .sentinel, .sentinel], laidTests := true, laidLooks := .later }
def FnGrpStealUptoCardSaid : Prop := Claim7.holds Tryz.pinned (.plain (OpenSpec.upto fnGrpStealSpec)) fnGrpStealUptoCard
end Rows
end Go.Proofs.YthjlffhckgaboaaGreatDoor
