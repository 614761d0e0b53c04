/-
  DERIVED. GIVEN WITH THE SEED: THE CARDS: each row of YteadhacoglcbfaaDoorRows.lean that lists a variable, with what it lists TIED to the program's text (the seventh form; the later family's looks); each row that meets fmt, with fmt's text TOLD by the authors' own Lean function (tested against real Go, not proved from fmt's source: count such statements apart). THE CARD IS WHAT COUNTS. Prove the row's statement (the work); the ties are given (YteadhacoglcbfaaDoorTie.lean); close each card by the builder's one call (the guide's Derived/Test/ToyasCard.lean, 'card_holds'). Laid BY PROGRAM, IN A SANDBOX (cutbox-door.mjs). By AI agents, Wed Nov 11 2026. No macro, syntax, notation, axiom, sorry.
-/
import Derived.Test.YteadhacoglcbfaaDoorRows
import GoSem.ClaimSeven
namespace Go.Proofs.YteadhacoglcbfaaDoor
namespace Rows

/-- THE TIED CARD OF 'tympanlaw51.GalleyReads'. -/
def galleyReadsCard : Claim7 := { stood := { row := galleyReadsRow, standIns := [], harness := (true, "018cb0060daa05caf6cf4f8c2eea4447a9882aff6b54332192d54be362ba77fa"), looks := true }, kinds := [], alts := [], laidByText := true, laidKinds := [.data, .data, .data, .data, .sentinel, .sentinel, .pinned], laidTests := true, laidLooks := .later }
def GalleyReadsCardSaid : Prop := Claim7.holds Tryd.pinned (.plain (OpenSpec.ofChange galleyReadsSpec)) galleyReadsCard

/-- THE TIED CARD OF 'tympanlaw51.GalleyPuts'. -/
def galleyPutsCard : Claim7 := { stood := { row := galleyPutsRow, standIns := [], harness := (true, "018cb0060daa05caf6cf4f8c2eea4447a9882aff6b54332192d54be362ba77fa"), looks := true }, kinds := [], alts := [], laidByText := true, laidKinds := [.data, .data, .data, .data, .sentinel, .sentinel, .data, .pinned], laidTests := true, laidLooks := .later }
def GalleyPutsCardSaid : Prop := Claim7.holds Tryd.pinned (.plain (OpenSpec.ofChange galleyPutsSpec)) galleyPutsCard

/-- THE TIED CARD OF 'tympanlaw51.GalleyBack'. -/
def galleyBackCard : Claim7 := { stood := { row := galleyBackRow, standIns := [], harness := (true, "018cb0060daa05caf6cf4f8c2eea4447a9882aff6b54332192d54be362ba77fa"), looks := true }, kinds := [], alts := [], laidByText := true, laidKinds := [.data, .data, .data, .data, .sentinel, .sentinel, .data, .pinned], laidTests := true, laidLooks := .later }
def GalleyBackCardSaid : Prop := Claim7.holds Tryd.pinned (.plain (OpenSpec.ofChange galleyBackSpec)) galleyBackCard

/-- THE SECOND FORM's CARD OF 'tympanlaw51.GalleyReads'. -/
def galleyReadsUptoCard : Claim7 := { stood := { row := galleyReadsUptoRow, standIns := [], harness := (true, "018cb0060daa05caf6cf4f8c2eea4447a9882aff6b54332192d54be362ba77fa"), looks := true }, kinds := [], alts := [], laidByText := true, laidKinds := [.data, .data, .data, .data, .sentinel, .sentinel, .pinned], laidTests := true, laidLooks := .later }
def GalleyReadsUptoCardSaid : Prop := Claim7.holds Tryd.pinned (.plain (OpenSpec.upto galleyReadsSpec)) galleyReadsUptoCard

/-- THE SECOND FORM's CARD OF 'tympanlaw51.GalleyPuts'. -/
def galleyPutsUptoCard : Claim7 := { stood := { row := galleyPutsUptoRow, standIns := [], harness := (true, "018cb0060daa05caf6cf4f8c2eea4447a9882aff6b54332192d54be362ba77fa"), looks := true }, kinds := [], alts := [], laidByText := true, laidKinds := [.data, .data, .data, .data, .sentinel, .sentinel, .data, .pinned], laidTests := true, laidLooks := .later }
def GalleyPutsUptoCardSaid : Prop := Claim7.holds Tryd.pinned (.plain (OpenSpec.upto galleyPutsSpec)) galleyPutsUptoCard

/-- THE SECOND FORM's CARD OF 'tympanlaw51.GalleyBack'. -/
def galleyBackUptoCard : Claim7 := { stood := { row := galleyBackUptoRow, standIns := [], harness := (true, "018cb0060daa05caf6cf4f8c2eea4447a9882aff6b54332192d54be362ba77fa"), looks := true }, kinds := [], alts := [], laidByText := true, laidKinds := [.data, .data, .data, .data, .sentinel, .sentinel, .data, .pinned], laidTests := true, laidLooks := .later }
def GalleyBackUptoCardSaid : Prop := Claim7.holds Tryd.pinned (.plain (OpenSpec.upto galleyBackSpec)) galleyBackUptoCard
end Rows
end Go.Proofs.YteadhacoglcbfaaDoor
