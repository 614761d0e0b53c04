/-
  DERIVED. GIVEN WITH THE SEED: THE CARDS: each row of YtkgfnkfgmnijbaaDoorRows.lean that lists a variable, with what it lists TIED to the program's text (the seventh form; the later family's looks); each row that meets fmt, with fmt's text TOLD by the authors' own Lean function (tested against real Go, not proved from fmt's source: count such statements apart). THE CARD IS WHAT COUNTS. Prove the row's statement (the work); the ties are given (YtkgfnkfgmnijbaaDoorTie.lean); close each card by the builder's one call (the guide's Derived/Test/ToyasCard.lean, 'card_holds'). Laid BY PROGRAM, IN A SANDBOX (cutbox-door.mjs). By AI agents, Wed Nov 11 2026. No macro, syntax, notation, axiom, sorry.
-/
import Derived.Test.YtkgfnkfgmnijbaaDoorRows
import GoSem.ClaimSeven
namespace Go.Proofs.YtkgfnkfgmnijbaaDoor
namespace Rows

/-- THE TIED CARD OF 'tympanlaw49.IndexTexts'. -/
def indexTextsCard : Claim7 := { stood := { row := indexTextsRow, standIns := [], harness := (true, "a9fc4b4f1fad743835532d3ef0016cbb0feafd3eb369f5bce93ea0dc11e16141"), looks := false }, kinds := [], alts := [], laidByText := true, laidKinds := [.data, .data, .data], laidTests := true, laidLooks := .later }
def IndexTextsCardSaid : Prop := Claim7.holds Tryd.pinned (.plain (OpenSpec.ofChange indexTextsSpec)) indexTextsCard

/-- THE TIED CARD OF 'tympanlaw49.IndexTells'. -/
def indexTellsCard : Claim7 := { stood := { row := indexTellsRow, standIns := [], harness := (true, "a9fc4b4f1fad743835532d3ef0016cbb0feafd3eb369f5bce93ea0dc11e16141"), looks := false }, kinds := [], alts := [], laidByText := true, laidKinds := [.data, .data, .data], laidTests := true, laidLooks := .later }
def IndexTellsCardSaid : Prop := Claim7.holds Tryd.pinned (.plain (OpenSpec.ofChange indexTellsSpec)) indexTellsCard

/-- THE TIED CARD OF 'tympanlaw49.IndexHas'. -/
def indexHasCard : Claim7 := { stood := { row := indexHasRow, standIns := [], harness := (true, "a9fc4b4f1fad743835532d3ef0016cbb0feafd3eb369f5bce93ea0dc11e16141"), looks := false }, kinds := [], alts := [], laidByText := true, laidKinds := [.data, .data, .data], laidTests := true, laidLooks := .later }
def IndexHasCardSaid : Prop := Claim7.holds Tryd.pinned (.plain (OpenSpec.ofChange indexHasSpec)) indexHasCard

/-- THE SECOND FORM's CARD OF 'tympanlaw49.IndexTexts'. -/
def indexTextsUptoCard : Claim7 := { stood := { row := indexTextsUptoRow, standIns := [], harness := (true, "a9fc4b4f1fad743835532d3ef0016cbb0feafd3eb369f5bce93ea0dc11e16141"), looks := false }, kinds := [], alts := [], laidByText := true, laidKinds := [.data, .data, .data], laidTests := true, laidLooks := .later }
def IndexTextsUptoCardSaid : Prop := Claim7.holds Tryd.pinned (.plain (OpenSpec.upto indexTextsSpec)) indexTextsUptoCard

/-- THE SECOND FORM's CARD OF 'tympanlaw49.IndexTells'. -/
def indexTellsUptoCard : Claim7 := { stood := { row := indexTellsUptoRow, standIns := [], harness := (true, "a9fc4b4f1fad743835532d3ef0016cbb0feafd3eb369f5bce93ea0dc11e16141"), looks := false }, kinds := [], alts := [], laidByText := true, laidKinds := [.data, .data, .data], laidTests := true, laidLooks := .later }
def IndexTellsUptoCardSaid : Prop := Claim7.holds Tryd.pinned (.plain (OpenSpec.upto indexTellsSpec)) indexTellsUptoCard

/-- THE SECOND FORM's CARD OF 'tympanlaw49.IndexHas'. -/
def indexHasUptoCard : Claim7 := { stood := { row := indexHasUptoRow, standIns := [], harness := (true, "a9fc4b4f1fad743835532d3ef0016cbb0feafd3eb369f5bce93ea0dc11e16141"), looks := false }, kinds := [], alts := [], laidByText := true, laidKinds := [.data, .data, .data], laidTests := true, laidLooks := .later }
def IndexHasUptoCardSaid : Prop := Claim7.holds Tryd.pinned (.plain (OpenSpec.upto indexHasSpec)) indexHasUptoCard
end Rows
end Go.Proofs.YtkgfnkfgmnijbaaDoor
