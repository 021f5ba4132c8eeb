/-
  DERIVED. GIVEN WITH THE SEED: THE CARDS: each row of YtiogcgalhnjagaaGreatDoorRows.lean that lists a variable, with what it lists TIED to the program's text (the seventh form; the later family's looks); each row that meets fmt, with fmt's text TOLD by the authors' own Lean function (tested against real Go, not proved from fmt's source: count such statements apart). THE CARD IS WHAT COUNTS. Prove the row's statement (the work); the ties are given (YtiogcgalhnjagaaGreatDoorTie.lean); close each card by the builder's one call (the guide's Derived/Test/ToyasCard.lean, 'card_holds'). Laid BY PROGRAM, IN A SANDBOX (cutbox-door.mjs). By AI agents, Wed Nov 11 2026. No macro, syntax, notation, axiom, sorry.
-/
import Derived.Test.YtiogcgalhnjagaaGreatDoorRows
import GoSem.ClaimSeven
namespace Go.Proofs.YtiogcgalhnjagaaGreatDoor
namespace Rows

/-- THE TIED CARD OF 'laws.FnGrpAlone'. -/
def fnGrpAloneCard : Claim7 := { stood := { row := fnGrpAloneRow, standIns := [], harness := (true, "7c37e20c3484c1116cf7336f5529357e19712725b7f5cbebf0d6978061fda771"), looks := true }, kinds := [], alts := [], laidByText := true, laidKinds := [.data, .data, .data, .sentinel, .sentinel], laidTests := true, laidLooks := .later }
def FnGrpAloneCardSaid : Prop := Claim7.holds Tryz.pinned (.plain (OpenSpec.ofChange fnGrpAloneSpec)) fnGrpAloneCard

/-- THE TIED CARD OF 'laws.FnGrpReplace'. -/
def fnGrpReplaceCard : Claim7 := { stood := { row := fnGrpReplaceRow, standIns := [], harness := (true, "7c37e20c3484c1116cf7336f5529357e19712725b7f5cbebf0d6978061fda771"), looks := true }, kinds := [], alts := [], laidByText := true, laidKinds := [.data, .data, .data, .sentinel, .sentinel], laidTests := true, laidLooks := .later }
def FnGrpReplaceCardSaid : Prop := Claim7.holds Tryz.pinned (.plain (OpenSpec.ofChange fnGrpReplaceSpec)) fnGrpReplaceCard

/-- THE TIED CARD OF 'laws.FnGrpShrink'. -/
def fnGrpShrinkCard : Claim7 := { stood := { row := fnGrpShrinkRow, standIns := [], harness := (true, "7c37e20c3484c1116cf7336f5529357e19712725b7f5cbebf0d6978061fda771"), looks := true }, kinds := [], alts := [], laidByText := true, laidKinds := [.data, .data, .data, .sentinel, .sentinel], laidTests := true, laidLooks := .later }
def FnGrpShrinkCardSaid : Prop := Claim7.holds Tryz.pinned (.plain (OpenSpec.ofChange fnGrpShrinkSpec)) fnGrpShrinkCard

/-- THE TIED CARD OF 'laws.FnGrpCure'. -/
def fnGrpCureCard : Claim7 := { stood := { row := fnGrpCureRow, standIns := [], harness := (true, "7c37e20c3484c1116cf7336f5529357e19712725b7f5cbebf0d6978061fda771"), looks := true }, kinds := [], alts := [], laidByText := true, laidKinds := [.data, .data, .data, .data, .sentinel, .sentinel, .pinned], laidTests := true, laidLooks := .later }
def FnGrpCureCardSaid : Prop := Claim7.holds Tryz.pinned (.plain (OpenSpec.ofChange fnGrpCureSpec)) fnGrpCureCard

/-- THE SECOND FORM's CARD OF 'laws.FnGrpAlone'. -/
def fnGrpAloneUptoCard : Claim7 := { stood := { row := fnGrpAloneUptoRow, standIns := [], harness := (true, "7c37e20c3484c1116cf7336f5529357e19712725b7f5cbebf0d6978061fda771"), looks := true }, kinds := [], alts := [], laidByText := true, laidKinds := [.data, .data, .data, .sentinel, .sentinel], laidTests := true, laidLooks := .later }
def FnGrpAloneUptoCardSaid : Prop := Claim7.holds Tryz.pinned (.plain (OpenSpec.upto fnGrpAloneSpec)) fnGrpAloneUptoCard

/-- THE SECOND FORM's CARD OF 'laws.FnGrpReplace'. -/
def fnGrpReplaceUptoCard : Claim7 := { stood := { row := fnGrpReplaceUptoRow, standIns := [], harness := (true, "7c37e20c3484c1116cf7336f5529357e19712725b7f5cbebf0d6978061fda771"), looks := true }, kinds := [], alts := [], laidByText := true, laidKinds := [.data, .data, .data, .sentinel, .sentinel], laidTests := true, laidLooks := .later }
def FnGrpReplaceUptoCardSaid : Prop := Claim7.holds Tryz.pinned (.plain (OpenSpec.upto fnGrpReplaceSpec)) fnGrpReplaceUptoCard

/-- THE SECOND FORM's CARD OF 'laws.FnGrpShrink'. -/
def fnGrpShrinkUptoCard : Claim7 := { stood := { row := fnGrpShrinkUptoRow, standIns := [], harness := (true, "7c37e20c3484c1116cf7336f5529357e19712725b7f5cbebf0d6978061fda771"), looks := true }, kinds := [], alts := [], laidByText := true, laidKinds := [.data, .data, .data, .sentinel, .sentinel], laidTests := true, laidLooks := .later }
def FnGrpShrinkUptoCardSaid : Prop := Claim7.holds Tryz.pinned (.plain (OpenSpec.upto fnGrpShrinkSpec)) fnGrpShrinkUptoCard

/-- THE SECOND FORM's CARD OF 'laws.FnGrpCure'. -/
def fnGrpCureUptoCard : Claim7 := { stood := { row := fnGrpCureUptoRow, standIns := [], harness := (true, "7c37e20c3484c1116cf7336f5529357e19712725b7f5cbebf0d6978061fda771"), looks := true }, kinds := [], alts := [], laidByText := true, laidKinds := [.data, .data, .data, .data, .sentinel, .sentinel, .pinned], laidTests := true, laidLooks := .later }
def FnGrpCureUptoCardSaid : Prop := Claim7.holds Tryz.pinned (.plain (OpenSpec.upto fnGrpCureSpec)) fnGrpCureUptoCard
end Rows
end Go.Proofs.YtiogcgalhnjagaaGreatDoor
