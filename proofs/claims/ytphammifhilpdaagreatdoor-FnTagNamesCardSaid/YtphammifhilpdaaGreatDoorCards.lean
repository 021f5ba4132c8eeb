/-
  DERIVED. GIVEN WITH THE SEED: THE CARDS: each row of YtphammifhilpdaaGreatDoorRows.lean that lists a variable, with what it lists TIED to the program's text (the seventh form; the later family's looks); each row that meets fmt, with fmt's text TOLD by the authors' own Lean function (tested against real Go, not proved from fmt's source: count such statements apart). THE CARD IS WHAT COUNTS. Prove the row's statement (the work); the ties are given (YtphammifhilpdaaGreatDoorTie.lean); close each card by the builder's one call (the guide's Derived/Test/ToyasCard.lean, 'card_holds'). Laid BY PROGRAM, IN A SANDBOX (cutbox-door.mjs). By AI agents, Wed Nov 11 2026. No macro, syntax, notation, axiom, sorry.
-/
import Derived.Test.YtphammifhilpdaaGreatDoorRows
import GoSem.ClaimSeven
namespace Go.Proofs.YtphammifhilpdaaGreatDoor
namespace Rows

/-- THE TIED CARD OF 'laws.FnTagNames'. -/
def fnTagNamesCard : Claim7 := { stood := { row := fnTagNamesRow, standIns := [], harness := (true, "0bbeb9e0cd7731b31b244d98bbc7c61a956bb55364da89a167dea825ef55c1e4"), looks := true }, kinds := [], alts := [], laidByText := true, laidKinds := [.data, .data, .data, .data, .sentinel, .sentinel, .pinned], laidTests := true, laidLooks := .later }
def FnTagNamesCardSaid : Prop := Claim7.holds Tryz.pinned (.plain (OpenSpec.ofChange fnTagNamesSpec)) fnTagNamesCard

/-- THE SECOND FORM's CARD OF 'laws.FnTagNames'. -/
def fnTagNamesUptoCard : Claim7 := { stood := { row := fnTagNamesUptoRow, standIns := [], harness := (true, "0bbeb9e0cd7731b31b244d98bbc7c61a956bb55364da89a167dea825ef55c1e4"), looks := true }, kinds := [], alts := [], laidByText := true, laidKinds := [.data, .data, .data, .data, .sentinel, .sentinel, .pinned], laidTests := true, laidLooks := .later }
def FnTagNamesUptoCardSaid : Prop := Claim7.holds Tryz.pinned (.plain (OpenSpec.upto fnTagNamesSpec)) fnTagNamesUptoCard
end Rows
end Go.Proofs.YtphammifhilpdaaGreatDoor
