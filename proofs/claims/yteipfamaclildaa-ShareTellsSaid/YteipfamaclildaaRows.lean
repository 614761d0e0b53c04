/-
  No cell of these rows narrows 'for every input' (looked for: loops, veiled, ifaces, maps, wideKeys, modest, calm, conditions, laid).
  DERIVED. THE GIVEN ROWS OF THIS SEAT. 9 by the template 'for every input the law returns true; each argument reads behind the call as it read before'; 0 by the template 'total and deterministic' (their statements: YteipfamaclildaaTotals.lean).
  GIVEN WITH THE SEED: the statements are not yours to turn. If you find one false, say at which input.
  Laid BY PROGRAM, IN A SANDBOX (cutbox-rows.mjs): the forced cells as the released guide's own fill.sh prints them over the translation d72d4645416252cd… (all of the seat's roots in one cut). By AI agents, Wed Nov 11 2026. No macro, syntax, notation, axiom, sorry.
-/
import Derived.Test.YteipfamaclildaaChecked
import GoSem.Claim
import GoSem.ClaimJoined
import GoSem.ClaimMapViews
import Derived.JoinedTies
import Derived.KernelRfl
namespace Go.Proofs.Yteipfamaclildaa
/- THE CELL 'sum', in the pinned program and in every row, IS THE sha256 OF THE DUMP (.gsa) THAT YteipfamaclildaaProg.lean LOADS. Nothing in Lean hashes anything: it is a label: what it is worth is what the hold of that sum in a sandbox is worth. -/
noncomputable def Try.pinned : Pinned := { name := "yteipfamaclildaa", sum := "d72d4645416252cd9dfab44c3a7e42679963d816d574eb1aa9e2584f2cc8d870", checked := Try.checked }
namespace Rows
def none {H : Type} : Left H := { results := [], args := [] }

/-- 'tympanlaw19.SumsTells': WHATEVER THE INPUT: true; the input reads as it did. -/
def sumsTellsSpec : ChangeSpec := { name := "sumsTells", fn := fun _ => fun
  | [d1, d2, d3] => { results := [.lit (.bool true)], args := [d1, d2, d3] }
  | _ => none }
def sumsTellsRow : OpenClaim := { program := "yteipfamaclildaa", sum := "d72d4645416252cd9dfab44c3a7e42679963d816d574eb1aa9e2584f2cc8d870", func := "tympan/tympanlaw19.SumsTells", spec := "sumsTells", unfollowed := true, recurses := true, apart := false }
def SumsTellsSaid : Prop := sumsTellsRow.holds Try.pinned (OpenSpec.ofChange sumsTellsSpec)

/-- ITS FALSE NEIGHBOUR: 'it returns false'. Refute it at one input. -/
def sumsTellsWrong : ChangeSpec := { name := "sumsTells", fn := fun _ => fun
  | [d1, d2, d3] => { results := [.lit (.bool false)], args := [d1, d2, d3] }
  | _ => none }
def SumsTellsWrongFalsely : Prop := sumsTellsRow.holds Try.pinned (OpenSpec.ofChange sumsTellsWrong)

/-- 'tympanlaw19.SumsJoin': WHATEVER THE INPUT: true; the input reads as it did. -/
def sumsJoinSpec : ChangeSpec := { name := "sumsJoin", fn := fun _ => fun
  | [d1, d2] => { results := [.lit (.bool true)], args := [d1, d2] }
  | _ => none }
def sumsJoinRow : OpenClaim := { program := "yteipfamaclildaa", sum := "d72d4645416252cd9dfab44c3a7e42679963d816d574eb1aa9e2584f2cc8d870", func := "tympan/tympanlaw19.SumsJoin", spec := "sumsJoin", unfollowed := true, recurses := true, apart := false }
def SumsJoinSaid : Prop := sumsJoinRow.holds Try.pinned (OpenSpec.ofChange sumsJoinSpec)

/-- ITS FALSE NEIGHBOUR: 'it returns false'. Refute it at one input. -/
def sumsJoinWrong : ChangeSpec := { name := "sumsJoin", fn := fun _ => fun
  | [d1, d2] => { results := [.lit (.bool false)], args := [d1, d2] }
  | _ => none }
def SumsJoinWrongFalsely : Prop := sumsJoinRow.holds Try.pinned (OpenSpec.ofChange sumsJoinWrong)

/-- 'tympanlaw19.SumsNone': WHATEVER THE INPUT: true; the input reads as it did. -/
def sumsNoneSpec : ChangeSpec := { name := "sumsNone", fn := fun _ => fun
  | [d1, d2, d3] => { results := [.lit (.bool true)], args := [d1, d2, d3] }
  | _ => none }
def sumsNoneRow : OpenClaim := { program := "yteipfamaclildaa", sum := "d72d4645416252cd9dfab44c3a7e42679963d816d574eb1aa9e2584f2cc8d870", func := "tympan/tympanlaw19.SumsNone", spec := "sumsNone", unfollowed := true, recurses := true, apart := false }
def SumsNoneSaid : Prop := sumsNoneRow.holds Try.pinned (OpenSpec.ofChange sumsNoneSpec)

/-- ITS FALSE NEIGHBOUR: 'it returns false'. Refute it at one input. -/
def sumsNoneWrong : ChangeSpec := { name := "sumsNone", fn := fun _ => fun
  | [d1, d2, d3] => { results := [.lit (.bool false)], args := [d1, d2, d3] }
  | _ => none }
def SumsNoneWrongFalsely : Prop := sumsNoneRow.holds Try.pinned (OpenSpec.ofChange sumsNoneWrong)

/-- 'tympanlaw08.ShareAdds': WHATEVER THE INPUT: true; the input reads as it did. -/
def shareAddsSpec : ChangeSpec := { name := "shareAdds", fn := fun _ => fun
  | [d1, d2] => { results := [.lit (.bool true)], args := [d1, d2] }
  | _ => none }
def shareAddsRow : OpenClaim := { program := "yteipfamaclildaa", sum := "d72d4645416252cd9dfab44c3a7e42679963d816d574eb1aa9e2584f2cc8d870", func := "tympan/tympanlaw08.ShareAdds", spec := "shareAdds", unfollowed := true, recurses := true, named := ["math/bits.divideError", "math/bits.overflowError"], apart := false }
def ShareAddsSaid : Prop := shareAddsRow.holds Try.pinned (OpenSpec.ofChange shareAddsSpec)

/-- ITS FALSE NEIGHBOUR: 'it returns false'. Refute it at one input. -/
def shareAddsWrong : ChangeSpec := { name := "shareAdds", fn := fun _ => fun
  | [d1, d2] => { results := [.lit (.bool false)], args := [d1, d2] }
  | _ => none }
def ShareAddsWrongFalsely : Prop := shareAddsRow.holds Try.pinned (OpenSpec.ofChange shareAddsWrong)

/-- 'tympanlaw08.ShareStops': WHATEVER THE INPUT: true; the input reads as it did. -/
def shareStopsSpec : ChangeSpec := { name := "shareStops", fn := fun _ => fun
  | [d1, d2, d3] => { results := [.lit (.bool true)], args := [d1, d2, d3] }
  | _ => none }
def shareStopsRow : OpenClaim := { program := "yteipfamaclildaa", sum := "d72d4645416252cd9dfab44c3a7e42679963d816d574eb1aa9e2584f2cc8d870", func := "tympan/tympanlaw08.ShareStops", spec := "shareStops", unfollowed := true, recurses := true, named := ["math/bits.divideError", "math/bits.overflowError"], apart := false }
def ShareStopsSaid : Prop := shareStopsRow.holds Try.pinned (OpenSpec.ofChange shareStopsSpec)

/-- ITS FALSE NEIGHBOUR: 'it returns false'. Refute it at one input. -/
def shareStopsWrong : ChangeSpec := { name := "shareStops", fn := fun _ => fun
  | [d1, d2, d3] => { results := [.lit (.bool false)], args := [d1, d2, d3] }
  | _ => none }
def ShareStopsWrongFalsely : Prop := shareStopsRow.holds Try.pinned (OpenSpec.ofChange shareStopsWrong)

/-- 'tympanlaw08.ShareTells': WHATEVER THE INPUT: true; the input reads as it did. -/
def shareTellsSpec : ChangeSpec := { name := "shareTells", fn := fun _ => fun
  | [d1, d2, d3] => { results := [.lit (.bool true)], args := [d1, d2, d3] }
  | _ => none }
def shareTellsRow : OpenClaim := { program := "yteipfamaclildaa", sum := "d72d4645416252cd9dfab44c3a7e42679963d816d574eb1aa9e2584f2cc8d870", func := "tympan/tympanlaw08.ShareTells", spec := "shareTells", unfollowed := true, recurses := true, named := ["math/bits.divideError", "math/bits.overflowError"], apart := false }
def ShareTellsSaid : Prop := shareTellsRow.holds Try.pinned (OpenSpec.ofChange shareTellsSpec)

/-- ITS FALSE NEIGHBOUR: 'it returns false'. Refute it at one input. -/
def shareTellsWrong : ChangeSpec := { name := "shareTells", fn := fun _ => fun
  | [d1, d2, d3] => { results := [.lit (.bool false)], args := [d1, d2, d3] }
  | _ => none }
def ShareTellsWrongFalsely : Prop := shareTellsRow.holds Try.pinned (OpenSpec.ofChange shareTellsWrong)

/-- 'tympanlaw09.GsetTells': WHATEVER THE INPUT: true; the input reads as it did. -/
def gsetTellsSpec : ChangeSpec := { name := "gsetTells", fn := fun _ => fun
  | [d1, d2, d3] => { results := [.lit (.bool true)], args := [d1, d2, d3] }
  | _ => none }
def gsetTellsRow : OpenClaim := { program := "yteipfamaclildaa", sum := "d72d4645416252cd9dfab44c3a7e42679963d816d574eb1aa9e2584f2cc8d870", func := "tympan/tympanlaw09.GsetTells", spec := "gsetTells", unfollowed := true, recurses := true, named := ["math/bits.divideError", "math/bits.overflowError"], apart := false }
def GsetTellsSaid : Prop := gsetTellsRow.holds Try.pinned (OpenSpec.ofChange gsetTellsSpec)

/-- ITS FALSE NEIGHBOUR: 'it returns false'. Refute it at one input. -/
def gsetTellsWrong : ChangeSpec := { name := "gsetTells", fn := fun _ => fun
  | [d1, d2, d3] => { results := [.lit (.bool false)], args := [d1, d2, d3] }
  | _ => none }
def GsetTellsWrongFalsely : Prop := gsetTellsRow.holds Try.pinned (OpenSpec.ofChange gsetTellsWrong)

/-- 'tympanlaw09.GsetBad': WHATEVER THE INPUT: true; the input reads as it did. -/
def gsetBadSpec : ChangeSpec := { name := "gsetBad", fn := fun _ => fun
  | [d1, d2, d3] => { results := [.lit (.bool true)], args := [d1, d2, d3] }
  | _ => none }
def gsetBadRow : OpenClaim := { program := "yteipfamaclildaa", sum := "d72d4645416252cd9dfab44c3a7e42679963d816d574eb1aa9e2584f2cc8d870", func := "tympan/tympanlaw09.GsetBad", spec := "gsetBad", unfollowed := true, recurses := true, named := ["math/bits.divideError", "math/bits.overflowError"], apart := false }
def GsetBadSaid : Prop := gsetBadRow.holds Try.pinned (OpenSpec.ofChange gsetBadSpec)

/-- ITS FALSE NEIGHBOUR: 'it returns false'. Refute it at one input. -/
def gsetBadWrong : ChangeSpec := { name := "gsetBad", fn := fun _ => fun
  | [d1, d2, d3] => { results := [.lit (.bool false)], args := [d1, d2, d3] }
  | _ => none }
def GsetBadWrongFalsely : Prop := gsetBadRow.holds Try.pinned (OpenSpec.ofChange gsetBadWrong)

/-- 'tympanlaw09.GsetAdds': WHATEVER THE INPUT: true; the input reads as it did. -/
def gsetAddsSpec : ChangeSpec := { name := "gsetAdds", fn := fun _ => fun
  | [d1, d2, d3] => { results := [.lit (.bool true)], args := [d1, d2, d3] }
  | _ => none }
def gsetAddsRow : OpenClaim := { program := "yteipfamaclildaa", sum := "d72d4645416252cd9dfab44c3a7e42679963d816d574eb1aa9e2584f2cc8d870", func := "tympan/tympanlaw09.GsetAdds", spec := "gsetAdds", unfollowed := true, recurses := true, named := ["math/bits.divideError", "math/bits.overflowError"], apart := false }
def GsetAddsSaid : Prop := gsetAddsRow.holds Try.pinned (OpenSpec.ofChange gsetAddsSpec)

/-- ITS FALSE NEIGHBOUR: 'it returns false'. Refute it at one input. -/
def gsetAddsWrong : ChangeSpec := { name := "gsetAdds", fn := fun _ => fun
  | [d1, d2, d3] => { results := [.lit (.bool false)], args := [d1, d2, d3] }
  | _ => none }
def GsetAddsWrongFalsely : Prop := gsetAddsRow.holds Try.pinned (OpenSpec.ofChange gsetAddsWrong)

/- THE SECOND FORM. 'bulk': how many values and letters a reading holds, each counted each time it is reached (what is shared counts as often as it is met; a slice's spare places count too). A statement '..UptoSaid' is the law's where the arguments, and the package variables that the reading takes, are together of bulk at most 1048576: NARROWER than '..Said'. Prove '..Said' where nothing that the law and all that it calls make is longer than what came in: it says more and counts as full. Else prove '..UptoSaid'. A law counts once. -/
mutual
def uptoBulk {H : Type} : DataW H → Nat
  | .lit (.string bytes) => bytes.length + 1
  | .lit _ => 1
  | .nil => 1
  | .ptr d => uptoBulk d + 1
  | .slice elems spare => uptoBulkAll elems + uptoBulkAll spare + 1
  | .agg parts => uptoBulkAll parts + 1
  | .iface _ d => uptoBulk d + 1
  | .map entries => uptoBulkEntries entries + 1
  | .held _ => 1
def uptoBulkAll {H : Type} : List (DataW H) → Nat
  | [] => 0
  | d :: r => uptoBulk d + uptoBulkAll r
def uptoBulkEntries {H : Type} : List (Lit × DataW H) → Nat
  | [] => 0
  | x :: r => uptoBulkEntry x + uptoBulkEntries r
def uptoBulkEntry {H : Type} : Lit × DataW H → Nat
  | (.string bytes, d) => bytes.length + uptoBulk d + 1
  | (_, d) => uptoBulk d + 1
 end
def uptoSmall : (H : Type) → List (DataW H) → Bool := fun _ ds => decide (uptoBulkAll ds ≤ 1048576)
def OpenSpec.upto (s : _root_.Go.ChangeSpec) : _root_.Go.OpenSpec := { _root_.Go.OpenSpec.ofChange s with cond := some uptoSmall }

/-- 'tympanlaw19.SumsTells', WHERE WHAT IT READS IS OF BULK AT MOST 1048576: true; the input reads as it did. -/
def sumsTellsUptoRow : OpenClaim := { program := "yteipfamaclildaa", sum := "d72d4645416252cd9dfab44c3a7e42679963d816d574eb1aa9e2584f2cc8d870", func := "tympan/tympanlaw19.SumsTells", spec := "sumsTells", unfollowed := true, recurses := true, apart := false, narrowed := true }
def SumsTellsUptoSaid : Prop := sumsTellsUptoRow.holds Try.pinned (OpenSpec.upto sumsTellsSpec)

/-- 'tympanlaw19.SumsJoin', WHERE WHAT IT READS IS OF BULK AT MOST 1048576: true; the input reads as it did. -/
def sumsJoinUptoRow : OpenClaim := { program := "yteipfamaclildaa", sum := "d72d4645416252cd9dfab44c3a7e42679963d816d574eb1aa9e2584f2cc8d870", func := "tympan/tympanlaw19.SumsJoin", spec := "sumsJoin", unfollowed := true, recurses := true, apart := false, narrowed := true }
def SumsJoinUptoSaid : Prop := sumsJoinUptoRow.holds Try.pinned (OpenSpec.upto sumsJoinSpec)

/-- 'tympanlaw19.SumsNone', WHERE WHAT IT READS IS OF BULK AT MOST 1048576: true; the input reads as it did. -/
def sumsNoneUptoRow : OpenClaim := { program := "yteipfamaclildaa", sum := "d72d4645416252cd9dfab44c3a7e42679963d816d574eb1aa9e2584f2cc8d870", func := "tympan/tympanlaw19.SumsNone", spec := "sumsNone", unfollowed := true, recurses := true, apart := false, narrowed := true }
def SumsNoneUptoSaid : Prop := sumsNoneUptoRow.holds Try.pinned (OpenSpec.upto sumsNoneSpec)

/-- 'tympanlaw08.ShareAdds', WHERE WHAT IT READS IS OF BULK AT MOST 1048576: true; the input reads as it did. -/
def shareAddsUptoRow : OpenClaim := { program := "yteipfamaclildaa", sum := "d72d4645416252cd9dfab44c3a7e42679963d816d574eb1aa9e2584f2cc8d870", func := "tympan/tympanlaw08.ShareAdds", spec := "shareAdds", unfollowed := true, recurses := true, named := ["math/bits.divideError", "math/bits.overflowError"], apart := false, narrowed := true }
def ShareAddsUptoSaid : Prop := shareAddsUptoRow.holds Try.pinned (OpenSpec.upto shareAddsSpec)

/-- 'tympanlaw08.ShareStops', WHERE WHAT IT READS IS OF BULK AT MOST 1048576: true; the input reads as it did. -/
def shareStopsUptoRow : OpenClaim := { program := "yteipfamaclildaa", sum := "d72d4645416252cd9dfab44c3a7e42679963d816d574eb1aa9e2584f2cc8d870", func := "tympan/tympanlaw08.ShareStops", spec := "shareStops", unfollowed := true, recurses := true, named := ["math/bits.divideError", "math/bits.overflowError"], apart := false, narrowed := true }
def ShareStopsUptoSaid : Prop := shareStopsUptoRow.holds Try.pinned (OpenSpec.upto shareStopsSpec)

/-- 'tympanlaw08.ShareTells', WHERE WHAT IT READS IS OF BULK AT MOST 1048576: true; the input reads as it did. -/
def shareTellsUptoRow : OpenClaim := { program := "yteipfamaclildaa", sum := "d72d4645416252cd9dfab44c3a7e42679963d816d574eb1aa9e2584f2cc8d870", func := "tympan/tympanlaw08.ShareTells", spec := "shareTells", unfollowed := true, recurses := true, named := ["math/bits.divideError", "math/bits.overflowError"], apart := false, narrowed := true }
def ShareTellsUptoSaid : Prop := shareTellsUptoRow.holds Try.pinned (OpenSpec.upto shareTellsSpec)

/-- 'tympanlaw09.GsetTells', WHERE WHAT IT READS IS OF BULK AT MOST 1048576: true; the input reads as it did. -/
def gsetTellsUptoRow : OpenClaim := { program := "yteipfamaclildaa", sum := "d72d4645416252cd9dfab44c3a7e42679963d816d574eb1aa9e2584f2cc8d870", func := "tympan/tympanlaw09.GsetTells", spec := "gsetTells", unfollowed := true, recurses := true, named := ["math/bits.divideError", "math/bits.overflowError"], apart := false, narrowed := true }
def GsetTellsUptoSaid : Prop := gsetTellsUptoRow.holds Try.pinned (OpenSpec.upto gsetTellsSpec)

/-- 'tympanlaw09.GsetBad', WHERE WHAT IT READS IS OF BULK AT MOST 1048576: true; the input reads as it did. -/
def gsetBadUptoRow : OpenClaim := { program := "yteipfamaclildaa", sum := "d72d4645416252cd9dfab44c3a7e42679963d816d574eb1aa9e2584f2cc8d870", func := "tympan/tympanlaw09.GsetBad", spec := "gsetBad", unfollowed := true, recurses := true, named := ["math/bits.divideError", "math/bits.overflowError"], apart := false, narrowed := true }
def GsetBadUptoSaid : Prop := gsetBadUptoRow.holds Try.pinned (OpenSpec.upto gsetBadSpec)

/-- 'tympanlaw09.GsetAdds', WHERE WHAT IT READS IS OF BULK AT MOST 1048576: true; the input reads as it did. -/
def gsetAddsUptoRow : OpenClaim := { program := "yteipfamaclildaa", sum := "d72d4645416252cd9dfab44c3a7e42679963d816d574eb1aa9e2584f2cc8d870", func := "tympan/tympanlaw09.GsetAdds", spec := "gsetAdds", unfollowed := true, recurses := true, named := ["math/bits.divideError", "math/bits.overflowError"], apart := false, narrowed := true }
def GsetAddsUptoSaid : Prop := gsetAddsUptoRow.holds Try.pinned (OpenSpec.upto gsetAddsSpec)

end Rows
end Go.Proofs.Yteipfamaclildaa
