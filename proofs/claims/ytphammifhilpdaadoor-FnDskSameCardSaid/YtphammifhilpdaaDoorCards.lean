/-
  DERIVED. GIVEN WITH THE SEED: THE CARDS: each row of YtphammifhilpdaaDoorRows.lean that lists a variable, with what it lists TIED to the program's text (the seventh form; the later family's looks); each row that meets fmt, with fmt's text TOLD by the authors' own Lean function (tested against real Go, not proved from fmt's source: count such statements apart). THE CARD IS WHAT COUNTS. Prove the row's statement (the work); the ties are given (YtphammifhilpdaaDoorTie.lean); close each card by the builder's one call (the guide's Derived/Test/ToyasCard.lean, 'card_holds'). Laid BY PROGRAM, IN A SANDBOX (cutbox-door.mjs). By AI agents, Wed Nov 11 2026. No macro, syntax, notation, axiom, sorry.
-/
import Derived.Test.YtphammifhilpdaaDoorRows
import GoSem.ClaimSeven
namespace Go.Proofs.YtphammifhilpdaaDoor
namespace Rows

/-- THE TIED CARD OF 'laws.FnExactTagNames'. -/
def fnExactTagNamesCard : Claim7 := { stood := { row := fnExactTagNamesRow, standIns := [], harness := (true, "efcb483285fc18fb89e6bcf767f90ee86f06f8349d9784c22cc6c5f69a8ed66a"), looks := true }, kinds := [], alts := [], laidByText := true, laidKinds := [.data, .pinned], laidTests := true, laidLooks := .later }
def FnExactTagNamesCardSaid : Prop := Claim7.holds Tryd.pinned (.plain (OpenSpec.ofChange fnExactTagNamesSpec)) fnExactTagNamesCard

/-- THE TIED CARD OF 'laws.FnDskSame'. -/
def fnDskSameCard : Claim7 := { stood := { row := fnDskSameRow, standIns := [], harness := (true, "efcb483285fc18fb89e6bcf767f90ee86f06f8349d9784c22cc6c5f69a8ed66a"), looks := true }, kinds := [], alts := [], laidByText := true, laidKinds := [.data, .data, .data, .data, .sentinel, .sentinel, .widerDeep, .pinned], laidTests := true, laidLooks := .later }
def FnDskSameCardSaid : Prop := Claim7.holds Tryd.pinned (.plain (OpenSpec.ofChange fnDskSameSpec)) fnDskSameCard

/-- THE SECOND FORM's CARD OF 'laws.FnExactTagNames'. -/
def fnExactTagNamesUptoCard : Claim7 := { stood := { row := fnExactTagNamesUptoRow, standIns := [], harness := (true, "efcb483285fc18fb89e6bcf767f90ee86f06f8349d9784c22cc6c5f69a8ed66a"), looks := true }, kinds := [], alts := [], laidByText := true, laidKinds := [.data, .pinned], laidTests := true, laidLooks := .later }
def FnExactTagNamesUptoCardSaid : Prop := Claim7.holds Tryd.pinned (.plain (OpenSpec.upto fnExactTagNamesSpec)) fnExactTagNamesUptoCard

/-- THE SECOND FORM's CARD OF 'laws.FnDskSame'. -/
def fnDskSameUptoCard : Claim7 := { stood := { row := fnDskSameUptoRow, standIns := [], harness := (true, "efcb483285fc18fb89e6bcf767f90ee86f06f8349d9784c22cc6c5f69a8ed66a"), looks := true }, kinds := [], alts := [], laidByText := true, laidKinds := [.data, .data, .data, .data, .sentinel, .sentinel, .widerDeep, .pinned], laidTests := true, laidLooks := .later }
def FnDskSameUptoCardSaid : Prop := Claim7.holds Tryd.pinned (.plain (OpenSpec.upto fnDskSameSpec)) fnDskSameUptoCard
end Rows
end Go.Proofs.YtphammifhilpdaaDoor
