/-
  DERIVED. GIVEN WITH THE SEED: THE CARDS: each row of YtfiejiokconobaaDoorRows.lean that lists a variable, with what it lists TIED to the program's text (the seventh form; the later family's looks); each row that meets fmt, with fmt's text TOLD by the authors' own Lean function (tested against real Go, not proved from fmt's source: count such statements apart). THE CARD IS WHAT COUNTS. Prove the row's statement (the work); the ties are given (YtfiejiokconobaaDoorTie.lean); close each card by the builder's one call (the guide's Derived/Test/ToyasCard.lean, 'card_holds'). Laid BY PROGRAM, IN A SANDBOX (cutbox-door.mjs). By AI agents, Wed Nov 11 2026. No macro, syntax, notation, axiom, sorry.
-/
import Derived.Test.YtfiejiokconobaaDoorRows
import GoSem.ClaimSeven
namespace Go.Proofs.YtfiejiokconobaaDoor
namespace Rows

/-- THE TIED CARD OF 'tympanlaw44.ShowPages'. -/
def showPagesCard : Claim7 := { stood := { row := showPagesRow, standIns := [], harness := (true, "b7f62eee94467799babb801b79ff224e1c900e91d441b18858963ae1f5a94b4d"), looks := false }, kinds := [], alts := [], laidByText := true, laidKinds := [.data, .data, .data, .data, .data], laidTests := true, laidLooks := .later }
def ShowPagesCardSaid : Prop := Claim7.holds Tryd.pinned (.plain (OpenSpec.ofChange showPagesSpec)) showPagesCard

/-- THE TIED CARD OF 'tympanlaw44.ShowSketch'. -/
def showSketchCard : Claim7 := { stood := { row := showSketchRow, standIns := [], harness := (true, "b7f62eee94467799babb801b79ff224e1c900e91d441b18858963ae1f5a94b4d"), looks := false }, kinds := [], alts := [], laidByText := true, laidKinds := [.data, .data, .data, .data, .data], laidTests := true, laidLooks := .later }
def ShowSketchCardSaid : Prop := Claim7.holds Tryd.pinned (.plain (OpenSpec.ofChange showSketchSpec)) showSketchCard

/-- THE TIED CARD OF 'tympanlaw44.ShowApart'. -/
def showApartCard : Claim7 := { stood := { row := showApartRow, standIns := [], harness := (true, "b7f62eee94467799babb801b79ff224e1c900e91d441b18858963ae1f5a94b4d"), looks := false }, kinds := [], alts := [], laidByText := true, laidKinds := [.data, .data, .data, .data, .data], laidTests := true, laidLooks := .later }
def ShowApartCardSaid : Prop := Claim7.holds Tryd.pinned (.plain (OpenSpec.ofChange showApartSpec)) showApartCard

/-- THE SECOND FORM's CARD OF 'tympanlaw44.ShowPages'. -/
def showPagesUptoCard : Claim7 := { stood := { row := showPagesUptoRow, standIns := [], harness := (true, "b7f62eee94467799babb801b79ff224e1c900e91d441b18858963ae1f5a94b4d"), looks := false }, kinds := [], alts := [], laidByText := true, laidKinds := [.data, .data, .data, .data, .data], laidTests := true, laidLooks := .later }
def ShowPagesUptoCardSaid : Prop := Claim7.holds Tryd.pinned (.plain (OpenSpec.upto showPagesSpec)) showPagesUptoCard

/-- THE SECOND FORM's CARD OF 'tympanlaw44.ShowSketch'. -/
def showSketchUptoCard : Claim7 := { stood := { row := showSketchUptoRow, standIns := [], harness := (true, "b7f62eee94467799babb801b79ff224e1c900e91d441b18858963ae1f5a94b4d"), looks := false }, kinds := [], alts := [], laidByText := true, laidKinds := [.data, .data, .data, .data, .data], laidTests := true, laidLooks := .later }
def ShowSketchUptoCardSaid : Prop := Claim7.holds Tryd.pinned (.plain (OpenSpec.upto showSketchSpec)) showSketchUptoCard

/-- THE SECOND FORM's CARD OF 'tympanlaw44.ShowApart'. -/
def showApartUptoCard : Claim7 := { stood := { row := showApartUptoRow, standIns := [], harness := (true, "b7f62eee94467799babb801b79ff224e1c900e91d441b18858963ae1f5a94b4d"), looks := false }, kinds := [], alts := [], laidByText := true, laidKinds := [.data, .data, .data, .data, .data], laidTests := true, laidLooks := .later }
def ShowApartUptoCardSaid : Prop := Claim7.holds Tryd.pinned (.plain (OpenSpec.upto showApartSpec)) showApartUptoCard
end Rows
end Go.Proofs.YtfiejiokconobaaDoor
