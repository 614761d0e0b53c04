/-
  No cell of these rows narrows 'for every input' (looked for: loops, veiled, ifaces, maps, wideKeys, modest, calm, conditions, laid).
  DERIVED. THE GIVEN ROWS OF THIS SEAT. 11 by the template 'for every input the law returns true; each argument reads behind the call as it read before'; 0 by the template 'total and deterministic' (their statements: YtepckgcbncdibaaTotals.lean).
  GIVEN WITH THE SEED: the statements are not yours to turn. If you find one false, say at which input.
  Laid BY PROGRAM, IN A SANDBOX (cutbox-rows.mjs): the forced cells as the released guide's own fill.sh prints them over the translation 5a4382763487292c… (all of the seat's roots in one cut). By AI agents, Wed Nov 11 2026. No macro, syntax, notation, axiom, sorry.
-/
import Derived.Test.YtepckgcbncdibaaChecked
import GoSem.Claim
import GoSem.ClaimJoined
import GoSem.ClaimMapViews
import Derived.JoinedTies
import Derived.KernelRfl
namespace Go.Proofs.Ytepckgcbncdibaa
/- THE CELL 'sum', in the pinned program and in every row, IS THE sha256 OF THE DUMP (.gsa) THAT YtepckgcbncdibaaProg.lean LOADS. Nothing in Lean hashes anything: it is a label: what it is worth is what the hold of that sum in a sandbox is worth. -/
noncomputable def Try.pinned : Pinned := { name := "ytepckgcbncdibaa", sum := "5a4382763487292c8f288520e4cfc4412e05996d70e26b0ded6d3eea4fac085c", checked := Try.checked }
namespace Rows
def none {H : Type} : Left H := { results := [], args := [] }

/-- 'tympanlaw10.ItemMakes': WHATEVER THE INPUT: true; the input reads as it did. -/
def itemMakesSpec : ChangeSpec := { name := "itemMakes", fn := fun _ => fun
  | [d] => { results := [.lit (.bool true)], args := [d] }
  | _ => none }
def itemMakesRow : OpenClaim := { program := "ytepckgcbncdibaa", sum := "5a4382763487292c8f288520e4cfc4412e05996d70e26b0ded6d3eea4fac085c", func := "tympan/tympanlaw10.ItemMakes", spec := "itemMakes", unfollowed := true, recurses := true, apart := false }
def ItemMakesSaid : Prop := itemMakesRow.holds Try.pinned (OpenSpec.ofChange itemMakesSpec)

/-- ITS FALSE NEIGHBOUR: 'it returns false'. Refute it at one input. -/
def itemMakesWrong : ChangeSpec := { name := "itemMakes", fn := fun _ => fun
  | [d] => { results := [.lit (.bool false)], args := [d] }
  | _ => none }
def ItemMakesWrongFalsely : Prop := itemMakesRow.holds Try.pinned (OpenSpec.ofChange itemMakesWrong)

/-- 'tympanlaw10.ItemTells': WHATEVER THE INPUT: true; the input reads as it did. -/
def itemTellsSpec : ChangeSpec := { name := "itemTells", fn := fun _ => fun
  | [d] => { results := [.lit (.bool true)], args := [d] }
  | _ => none }
def itemTellsRow : OpenClaim := { program := "ytepckgcbncdibaa", sum := "5a4382763487292c8f288520e4cfc4412e05996d70e26b0ded6d3eea4fac085c", func := "tympan/tympanlaw10.ItemTells", spec := "itemTells", unfollowed := true, recurses := true, apart := false }
def ItemTellsSaid : Prop := itemTellsRow.holds Try.pinned (OpenSpec.ofChange itemTellsSpec)

/-- ITS FALSE NEIGHBOUR: 'it returns false'. Refute it at one input. -/
def itemTellsWrong : ChangeSpec := { name := "itemTells", fn := fun _ => fun
  | [d] => { results := [.lit (.bool false)], args := [d] }
  | _ => none }
def ItemTellsWrongFalsely : Prop := itemTellsRow.holds Try.pinned (OpenSpec.ofChange itemTellsWrong)

/-- 'tympanlaw10.ItemCounts': WHATEVER THE INPUT: true; the input reads as it did. -/
def itemCountsSpec : ChangeSpec := { name := "itemCounts", fn := fun _ => fun
  | [d1, d2] => { results := [.lit (.bool true)], args := [d1, d2] }
  | _ => none }
def itemCountsRow : OpenClaim := { program := "ytepckgcbncdibaa", sum := "5a4382763487292c8f288520e4cfc4412e05996d70e26b0ded6d3eea4fac085c", func := "tympan/tympanlaw10.ItemCounts", spec := "itemCounts", unfollowed := true, recurses := true, apart := false }
def ItemCountsSaid : Prop := itemCountsRow.holds Try.pinned (OpenSpec.ofChange itemCountsSpec)

/-- ITS FALSE NEIGHBOUR: 'it returns false'. Refute it at one input. -/
def itemCountsWrong : ChangeSpec := { name := "itemCounts", fn := fun _ => fun
  | [d1, d2] => { results := [.lit (.bool false)], args := [d1, d2] }
  | _ => none }
def ItemCountsWrongFalsely : Prop := itemCountsRow.holds Try.pinned (OpenSpec.ofChange itemCountsWrong)

/-- 'tympanlaw01.SpBack': WHATEVER THE INPUT: true; the input reads as it did. -/
def spBackSpec : ChangeSpec := { name := "spBack", fn := fun _ => fun
  | [d1, d2] => { results := [.lit (.bool true)], args := [d1, d2] }
  | _ => none }
def spBackRow : OpenClaim := { program := "ytepckgcbncdibaa", sum := "5a4382763487292c8f288520e4cfc4412e05996d70e26b0ded6d3eea4fac085c", func := "tympan/tympanlaw01.SpBack", spec := "spBack", unfollowed := true, recurses := true, apart := false }
def SpBackSaid : Prop := spBackRow.holds Try.pinned (OpenSpec.ofChange spBackSpec)

/-- ITS FALSE NEIGHBOUR: 'it returns false'. Refute it at one input. -/
def spBackWrong : ChangeSpec := { name := "spBack", fn := fun _ => fun
  | [d1, d2] => { results := [.lit (.bool false)], args := [d1, d2] }
  | _ => none }
def SpBackWrongFalsely : Prop := spBackRow.holds Try.pinned (OpenSpec.ofChange spBackWrong)

/-- 'tympanlaw01.SpSpoilt': WHATEVER THE INPUT: true; the input reads as it did. -/
def spSpoiltSpec : ChangeSpec := { name := "spSpoilt", fn := fun _ => fun
  | [d1, d2, d3] => { results := [.lit (.bool true)], args := [d1, d2, d3] }
  | _ => none }
def spSpoiltRow : OpenClaim := { program := "ytepckgcbncdibaa", sum := "5a4382763487292c8f288520e4cfc4412e05996d70e26b0ded6d3eea4fac085c", func := "tympan/tympanlaw01.SpSpoilt", spec := "spSpoilt", unfollowed := true, recurses := true, apart := false }
def SpSpoiltSaid : Prop := spSpoiltRow.holds Try.pinned (OpenSpec.ofChange spSpoiltSpec)

/-- ITS FALSE NEIGHBOUR: 'it returns false'. Refute it at one input. -/
def spSpoiltWrong : ChangeSpec := { name := "spSpoilt", fn := fun _ => fun
  | [d1, d2, d3] => { results := [.lit (.bool false)], args := [d1, d2, d3] }
  | _ => none }
def SpSpoiltWrongFalsely : Prop := spSpoiltRow.holds Try.pinned (OpenSpec.ofChange spSpoiltWrong)

/-- 'tympanlaw01.SpReckons': WHATEVER THE INPUT: true; the input reads as it did. -/
def spReckonsSpec : ChangeSpec := { name := "spReckons", fn := fun _ => fun
  | [d1, d2, d3] => { results := [.lit (.bool true)], args := [d1, d2, d3] }
  | _ => none }
def spReckonsRow : OpenClaim := { program := "ytepckgcbncdibaa", sum := "5a4382763487292c8f288520e4cfc4412e05996d70e26b0ded6d3eea4fac085c", func := "tympan/tympanlaw01.SpReckons", spec := "spReckons", unfollowed := true, recurses := true, apart := false }
def SpReckonsSaid : Prop := spReckonsRow.holds Try.pinned (OpenSpec.ofChange spReckonsSpec)

/-- ITS FALSE NEIGHBOUR: 'it returns false'. Refute it at one input. -/
def spReckonsWrong : ChangeSpec := { name := "spReckons", fn := fun _ => fun
  | [d1, d2, d3] => { results := [.lit (.bool false)], args := [d1, d2, d3] }
  | _ => none }
def SpReckonsWrongFalsely : Prop := spReckonsRow.holds Try.pinned (OpenSpec.ofChange spReckonsWrong)

/-- 'tympanlaw01.SpSums': WHATEVER THE INPUT: true; the input reads as it did. -/
def spSumsSpec : ChangeSpec := { name := "spSums", fn := fun _ => fun
  | [d] => { results := [.lit (.bool true)], args := [d] }
  | _ => none }
def spSumsRow : OpenClaim := { program := "ytepckgcbncdibaa", sum := "5a4382763487292c8f288520e4cfc4412e05996d70e26b0ded6d3eea4fac085c", func := "tympan/tympanlaw01.SpSums", spec := "spSums", unfollowed := true, recurses := true, apart := false }
def SpSumsSaid : Prop := spSumsRow.holds Try.pinned (OpenSpec.ofChange spSumsSpec)

/-- ITS FALSE NEIGHBOUR: 'it returns false'. Refute it at one input. -/
def spSumsWrong : ChangeSpec := { name := "spSums", fn := fun _ => fun
  | [d] => { results := [.lit (.bool false)], args := [d] }
  | _ => none }
def SpSumsWrongFalsely : Prop := spSumsRow.holds Try.pinned (OpenSpec.ofChange spSumsWrong)

/-- 'tympanlaw02.WideRatio': WHATEVER THE INPUT: true; the input reads as it did. -/
def wideRatioSpec : ChangeSpec := { name := "wideRatio", fn := fun _ => fun
  | [d] => { results := [.lit (.bool true)], args := [d] }
  | _ => none }
def wideRatioRow : OpenClaim := { program := "ytepckgcbncdibaa", sum := "5a4382763487292c8f288520e4cfc4412e05996d70e26b0ded6d3eea4fac085c", func := "tympan/tympanlaw02.WideRatio", spec := "wideRatio", unfollowed := true, recurses := true, named := ["math/bits.divideError", "math/bits.overflowError"], apart := false }
def WideRatioSaid : Prop := wideRatioRow.holds Try.pinned (OpenSpec.ofChange wideRatioSpec)

/-- ITS FALSE NEIGHBOUR: 'it returns false'. Refute it at one input. -/
def wideRatioWrong : ChangeSpec := { name := "wideRatio", fn := fun _ => fun
  | [d] => { results := [.lit (.bool false)], args := [d] }
  | _ => none }
def WideRatioWrongFalsely : Prop := wideRatioRow.holds Try.pinned (OpenSpec.ofChange wideRatioWrong)

/-- 'tympanlaw02.WideShares': WHATEVER THE INPUT: true; the input reads as it did. -/
def wideSharesSpec : ChangeSpec := { name := "wideShares", fn := fun _ => fun
  | [d1, d2, d3] => { results := [.lit (.bool true)], args := [d1, d2, d3] }
  | _ => none }
def wideSharesRow : OpenClaim := { program := "ytepckgcbncdibaa", sum := "5a4382763487292c8f288520e4cfc4412e05996d70e26b0ded6d3eea4fac085c", func := "tympan/tympanlaw02.WideShares", spec := "wideShares", unfollowed := true, recurses := true, named := ["math/bits.divideError", "math/bits.overflowError"], apart := false }
def WideSharesSaid : Prop := wideSharesRow.holds Try.pinned (OpenSpec.ofChange wideSharesSpec)

/-- ITS FALSE NEIGHBOUR: 'it returns false'. Refute it at one input. -/
def wideSharesWrong : ChangeSpec := { name := "wideShares", fn := fun _ => fun
  | [d1, d2, d3] => { results := [.lit (.bool false)], args := [d1, d2, d3] }
  | _ => none }
def WideSharesWrongFalsely : Prop := wideSharesRow.holds Try.pinned (OpenSpec.ofChange wideSharesWrong)

/-- 'tympanlaw02.WideReckons': WHATEVER THE INPUT: true; the input reads as it did. -/
def wideReckonsSpec : ChangeSpec := { name := "wideReckons", fn := fun _ => fun
  | [d1, d2, d3] => { results := [.lit (.bool true)], args := [d1, d2, d3] }
  | _ => none }
def wideReckonsRow : OpenClaim := { program := "ytepckgcbncdibaa", sum := "5a4382763487292c8f288520e4cfc4412e05996d70e26b0ded6d3eea4fac085c", func := "tympan/tympanlaw02.WideReckons", spec := "wideReckons", inPlace := ["math/bits.Add64"], unfollowed := true, recurses := true, named := ["math/bits.divideError", "math/bits.overflowError"], apart := false }
def WideReckonsSaid : Prop := wideReckonsRow.holds Try.pinned (OpenSpec.ofChange wideReckonsSpec)

/-- ITS FALSE NEIGHBOUR: 'it returns false'. Refute it at one input. -/
def wideReckonsWrong : ChangeSpec := { name := "wideReckons", fn := fun _ => fun
  | [d1, d2, d3] => { results := [.lit (.bool false)], args := [d1, d2, d3] }
  | _ => none }
def WideReckonsWrongFalsely : Prop := wideReckonsRow.holds Try.pinned (OpenSpec.ofChange wideReckonsWrong)

/-- 'tympanlaw02.WideBack': WHATEVER THE INPUT: true; the input reads as it did. -/
def wideBackSpec : ChangeSpec := { name := "wideBack", fn := fun _ => fun
  | [d1, d2, d3] => { results := [.lit (.bool true)], args := [d1, d2, d3] }
  | _ => none }
def wideBackRow : OpenClaim := { program := "ytepckgcbncdibaa", sum := "5a4382763487292c8f288520e4cfc4412e05996d70e26b0ded6d3eea4fac085c", func := "tympan/tympanlaw02.WideBack", spec := "wideBack", inPlace := ["math/bits.Add64"], unfollowed := true, recurses := true, named := ["math/bits.divideError", "math/bits.overflowError"], apart := false }
def WideBackSaid : Prop := wideBackRow.holds Try.pinned (OpenSpec.ofChange wideBackSpec)

/-- ITS FALSE NEIGHBOUR: 'it returns false'. Refute it at one input. -/
def wideBackWrong : ChangeSpec := { name := "wideBack", fn := fun _ => fun
  | [d1, d2, d3] => { results := [.lit (.bool false)], args := [d1, d2, d3] }
  | _ => none }
def WideBackWrongFalsely : Prop := wideBackRow.holds Try.pinned (OpenSpec.ofChange wideBackWrong)

/- THE SECOND FORM. 'bulk': how many values and letters a reading holds, each counted each time it is reached (what is shared counts as often as it is met; a slice's spare places count too). A statement '..UptoSaid' is the law's where the arguments, and the package variables that the reading takes, are together of bulk at most 1048576: NARROWER than '..Said'. Prove '..Said' where nothing that the law and all that it calls make is longer than what came in: it says more and counts as full. Else prove '..UptoSaid'. A law counts once. -/
mutual
def uptoBulk {H : Type} : DataW H → Nat
  | .lit (.string bytes) => bytes.length + 1
  | .lit _ => 1
  | .nil => 1
  | .ptr d => uptoBulk d + 1
  | .slice elems spare => uptoBulkAll elems + uptoBulkAll spare + 1
  | .agg parts => uptoBulkAll parts + 1
  | .iface _ d => uptoBulk d + 1
  | .map entries => uptoBulkEntries entries + 1
  | .held _ => 1
def uptoBulkAll {H : Type} : List (DataW H) → Nat
  | [] => 0
  | d :: r => uptoBulk d + uptoBulkAll r
def uptoBulkEntries {H : Type} : List (Lit × DataW H) → Nat
  | [] => 0
  | x :: r => uptoBulkEntry x + uptoBulkEntries r
def uptoBulkEntry {H : Type} : Lit × DataW H → Nat
  | (.string bytes, d) => bytes.length + uptoBulk d + 1
  | (_, d) => uptoBulk d + 1
 end
def uptoSmall : (H : Type) → List (DataW H) → Bool := fun _ ds => decide (uptoBulkAll ds ≤ 1048576)
def OpenSpec.upto (s : _root_.Go.ChangeSpec) : _root_.Go.OpenSpec := { _root_.Go.OpenSpec.ofChange s with cond := some uptoSmall }

/-- 'tympanlaw10.ItemMakes', WHERE WHAT IT READS IS OF BULK AT MOST 1048576: true; the input reads as it did. -/
def itemMakesUptoRow : OpenClaim := { program := "ytepckgcbncdibaa", sum := "5a4382763487292c8f288520e4cfc4412e05996d70e26b0ded6d3eea4fac085c", func := "tympan/tympanlaw10.ItemMakes", spec := "itemMakes", unfollowed := true, recurses := true, apart := false, narrowed := true }
def ItemMakesUptoSaid : Prop := itemMakesUptoRow.holds Try.pinned (OpenSpec.upto itemMakesSpec)

/-- 'tympanlaw10.ItemTells', WHERE WHAT IT READS IS OF BULK AT MOST 1048576: true; the input reads as it did. -/
def itemTellsUptoRow : OpenClaim := { program := "ytepckgcbncdibaa", sum := "5a4382763487292c8f288520e4cfc4412e05996d70e26b0ded6d3eea4fac085c", func := "tympan/tympanlaw10.ItemTells", spec := "itemTells", unfollowed := true, recurses := true, apart := false, narrowed := true }
def ItemTellsUptoSaid : Prop := itemTellsUptoRow.holds Try.pinned (OpenSpec.upto itemTellsSpec)

/-- 'tympanlaw10.ItemCounts', WHERE WHAT IT READS IS OF BULK AT MOST 1048576: true; the input reads as it did. -/
def itemCountsUptoRow : OpenClaim := { program := "ytepckgcbncdibaa", sum := "5a4382763487292c8f288520e4cfc4412e05996d70e26b0ded6d3eea4fac085c", func := "tympan/tympanlaw10.ItemCounts", spec := "itemCounts", unfollowed := true, recurses := true, apart := false, narrowed := true }
def ItemCountsUptoSaid : Prop := itemCountsUptoRow.holds Try.pinned (OpenSpec.upto itemCountsSpec)

/-- 'tympanlaw01.SpBack', WHERE WHAT IT READS IS OF BULK AT MOST 1048576: true; the input reads as it did. -/
def spBackUptoRow : OpenClaim := { program := "ytepckgcbncdibaa", sum := "5a4382763487292c8f288520e4cfc4412e05996d70e26b0ded6d3eea4fac085c", func := "tympan/tympanlaw01.SpBack", spec := "spBack", unfollowed := true, recurses := true, apart := false, narrowed := true }
def SpBackUptoSaid : Prop := spBackUptoRow.holds Try.pinned (OpenSpec.upto spBackSpec)

/-- 'tympanlaw01.SpSpoilt', WHERE WHAT IT READS IS OF BULK AT MOST 1048576: true; the input reads as it did. -/
def spSpoiltUptoRow : OpenClaim := { program := "ytepckgcbncdibaa", sum := "5a4382763487292c8f288520e4cfc4412e05996d70e26b0ded6d3eea4fac085c", func := "tympan/tympanlaw01.SpSpoilt", spec := "spSpoilt", unfollowed := true, recurses := true, apart := false, narrowed := true }
def SpSpoiltUptoSaid : Prop := spSpoiltUptoRow.holds Try.pinned (OpenSpec.upto spSpoiltSpec)

/-- 'tympanlaw01.SpReckons', WHERE WHAT IT READS IS OF BULK AT MOST 1048576: true; the input reads as it did. -/
def spReckonsUptoRow : OpenClaim := { program := "ytepckgcbncdibaa", sum := "5a4382763487292c8f288520e4cfc4412e05996d70e26b0ded6d3eea4fac085c", func := "tympan/tympanlaw01.SpReckons", spec := "spReckons", unfollowed := true, recurses := true, apart := false, narrowed := true }
def SpReckonsUptoSaid : Prop := spReckonsUptoRow.holds Try.pinned (OpenSpec.upto spReckonsSpec)

/-- 'tympanlaw01.SpSums', WHERE WHAT IT READS IS OF BULK AT MOST 1048576: true; the input reads as it did. -/
def spSumsUptoRow : OpenClaim := { program := "ytepckgcbncdibaa", sum := "5a4382763487292c8f288520e4cfc4412e05996d70e26b0ded6d3eea4fac085c", func := "tympan/tympanlaw01.SpSums", spec := "spSums", unfollowed := true, recurses := true, apart := false, narrowed := true }
def SpSumsUptoSaid : Prop := spSumsUptoRow.holds Try.pinned (OpenSpec.upto spSumsSpec)

/-- 'tympanlaw02.WideRatio', WHERE WHAT IT READS IS OF BULK AT MOST 1048576: true; the input reads as it did. -/
def wideRatioUptoRow : OpenClaim := { program := "ytepckgcbncdibaa", sum := "5a4382763487292c8f288520e4cfc4412e05996d70e26b0ded6d3eea4fac085c", func := "tympan/tympanlaw02.WideRatio", spec := "wideRatio", unfollowed := true, recurses := true, named := ["math/bits.divideError", "math/bits.overflowError"], apart := false, narrowed := true }
def WideRatioUptoSaid : Prop := wideRatioUptoRow.holds Try.pinned (OpenSpec.upto wideRatioSpec)

/-- 'tympanlaw02.WideShares', WHERE WHAT IT READS IS OF BULK AT MOST 1048576: true; the input reads as it did. -/
def wideSharesUptoRow : OpenClaim := { program := "ytepckgcbncdibaa", sum := "5a4382763487292c8f288520e4cfc4412e05996d70e26b0ded6d3eea4fac085c", func := "tympan/tympanlaw02.WideShares", spec := "wideShares", unfollowed := true, recurses := true, named := ["math/bits.divideError", "math/bits.overflowError"], apart := false, narrowed := true }
def WideSharesUptoSaid : Prop := wideSharesUptoRow.holds Try.pinned (OpenSpec.upto wideSharesSpec)

/-- 'tympanlaw02.WideReckons', WHERE WHAT IT READS IS OF BULK AT MOST 1048576: true; the input reads as it did. -/
def wideReckonsUptoRow : OpenClaim := { program := "ytepckgcbncdibaa", sum := "5a4382763487292c8f288520e4cfc4412e05996d70e26b0ded6d3eea4fac085c", func := "tympan/tympanlaw02.WideReckons", spec := "wideReckons", inPlace := ["math/bits.Add64"], unfollowed := true, recurses := true, named := ["math/bits.divideError", "math/bits.overflowError"], apart := false, narrowed := true }
def WideReckonsUptoSaid : Prop := wideReckonsUptoRow.holds Try.pinned (OpenSpec.upto wideReckonsSpec)

/-- 'tympanlaw02.WideBack', WHERE WHAT IT READS IS OF BULK AT MOST 1048576: true; the input reads as it did. -/
def wideBackUptoRow : OpenClaim := { program := "ytepckgcbncdibaa", sum := "5a4382763487292c8f288520e4cfc4412e05996d70e26b0ded6d3eea4fac085c", func := "tympan/tympanlaw02.WideBack", spec := "wideBack", inPlace := ["math/bits.Add64"], unfollowed := true, recurses := true, named := ["math/bits.divideError", "math/bits.overflowError"], apart := false, narrowed := true }
def WideBackUptoSaid : Prop := wideBackUptoRow.holds Try.pinned (OpenSpec.upto wideBackSpec)

end Rows
end Go.Proofs.Ytepckgcbncdibaa
