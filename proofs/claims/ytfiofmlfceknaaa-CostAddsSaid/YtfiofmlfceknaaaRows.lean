/-
  No cell of these rows narrows 'for every input' (looked for: loops, veiled, ifaces, maps, wideKeys, modest, calm, conditions, laid).
  DERIVED. THE GIVEN ROWS OF THIS SEAT. 11 by the template 'for every input the law returns true; each argument reads behind the call as it read before'; 0 by the template 'total and deterministic' (their statements: YtfiofmlfceknaaaTotals.lean).
  GIVEN WITH THE SEED: the statements are not yours to turn. If you find one false, say at which input.
  Laid BY PROGRAM, IN A SANDBOX (cutbox-rows.mjs): the forced cells as the released guide's own fill.sh prints them over the translation a078d2509fcfacc2… (all of the seat's roots in one cut). By AI agents, Wed Nov 11 2026. No macro, syntax, notation, axiom, sorry.
-/
import Derived.Test.YtfiofmlfceknaaaChecked
import GoSem.Claim
import GoSem.ClaimJoined
import GoSem.ClaimMapViews
import Derived.JoinedTies
import Derived.KernelRfl
namespace Go.Proofs.Ytfiofmlfceknaaa
/- THE CELL 'sum', in the pinned program and in every row, IS THE sha256 OF THE DUMP (.gsa) THAT YtfiofmlfceknaaaProg.lean LOADS. Nothing in Lean hashes anything: it is a label: what it is worth is what the hold of that sum in a sandbox is worth. -/
noncomputable def Try.pinned : Pinned := { name := "ytfiofmlfceknaaa", sum := "a078d2509fcfacc2dc6747f21a4f93a657bb093c10ff2420546ff3079f44bb98", checked := Try.checked }
namespace Rows
def none {H : Type} : Left H := { results := [], args := [] }

/-- 'tympanlaw03.BadTells': WHATEVER THE INPUT: true; the input reads as it did. -/
def badTellsSpec : ChangeSpec := { name := "badTells", fn := fun _ => fun
  | [d1, d2, d3] => { results := [.lit (.bool true)], args := [d1, d2, d3] }
  | _ => none }
def badTellsRow : OpenClaim := { program := "ytfiofmlfceknaaa", sum := "a078d2509fcfacc2dc6747f21a4f93a657bb093c10ff2420546ff3079f44bb98", func := "tympan/tympanlaw03.BadTells", spec := "badTells", unfollowed := true, recurses := true, apart := false }
def BadTellsSaid : Prop := badTellsRow.holds Try.pinned (OpenSpec.ofChange badTellsSpec)

/-- ITS FALSE NEIGHBOUR: 'it returns false'. Refute it at one input. -/
def badTellsWrong : ChangeSpec := { name := "badTells", fn := fun _ => fun
  | [d1, d2, d3] => { results := [.lit (.bool false)], args := [d1, d2, d3] }
  | _ => none }
def BadTellsWrongFalsely : Prop := badTellsRow.holds Try.pinned (OpenSpec.ofChange badTellsWrong)

/-- 'tympanlaw03.BadRises': WHATEVER THE INPUT: true; the input reads as it did. -/
def badRisesSpec : ChangeSpec := { name := "badRises", fn := fun _ => fun
  | [d] => { results := [.lit (.bool true)], args := [d] }
  | _ => none }
def badRisesRow : OpenClaim := { program := "ytfiofmlfceknaaa", sum := "a078d2509fcfacc2dc6747f21a4f93a657bb093c10ff2420546ff3079f44bb98", func := "tympan/tympanlaw03.BadRises", spec := "badRises", unfollowed := true, recurses := true, apart := false }
def BadRisesSaid : Prop := badRisesRow.holds Try.pinned (OpenSpec.ofChange badRisesSpec)

/-- ITS FALSE NEIGHBOUR: 'it returns false'. Refute it at one input. -/
def badRisesWrong : ChangeSpec := { name := "badRises", fn := fun _ => fun
  | [d] => { results := [.lit (.bool false)], args := [d] }
  | _ => none }
def BadRisesWrongFalsely : Prop := badRisesRow.holds Try.pinned (OpenSpec.ofChange badRisesWrong)

/-- 'tympanlaw03.BadEnds': WHATEVER THE INPUT: true; the input reads as it did. -/
def badEndsSpec : ChangeSpec := { name := "badEnds", fn := fun _ => fun
  | [d1, d2] => { results := [.lit (.bool true)], args := [d1, d2] }
  | _ => none }
def badEndsRow : OpenClaim := { program := "ytfiofmlfceknaaa", sum := "a078d2509fcfacc2dc6747f21a4f93a657bb093c10ff2420546ff3079f44bb98", func := "tympan/tympanlaw03.BadEnds", spec := "badEnds", unfollowed := true, recurses := true, apart := false }
def BadEndsSaid : Prop := badEndsRow.holds Try.pinned (OpenSpec.ofChange badEndsSpec)

/-- ITS FALSE NEIGHBOUR: 'it returns false'. Refute it at one input. -/
def badEndsWrong : ChangeSpec := { name := "badEnds", fn := fun _ => fun
  | [d1, d2] => { results := [.lit (.bool false)], args := [d1, d2] }
  | _ => none }
def BadEndsWrongFalsely : Prop := badEndsRow.holds Try.pinned (OpenSpec.ofChange badEndsWrong)

/-- 'tympanlaw07.TotalAdds': WHATEVER THE INPUT: true; the input reads as it did. -/
def totalAddsSpec : ChangeSpec := { name := "totalAdds", fn := fun _ => fun
  | [d1, d2, d3] => { results := [.lit (.bool true)], args := [d1, d2, d3] }
  | _ => none }
def totalAddsRow : OpenClaim := { program := "ytfiofmlfceknaaa", sum := "a078d2509fcfacc2dc6747f21a4f93a657bb093c10ff2420546ff3079f44bb98", func := "tympan/tympanlaw07.TotalAdds", spec := "totalAdds", unfollowed := true, recurses := true, apart := false }
def TotalAddsSaid : Prop := totalAddsRow.holds Try.pinned (OpenSpec.ofChange totalAddsSpec)

/-- ITS FALSE NEIGHBOUR: 'it returns false'. Refute it at one input. -/
def totalAddsWrong : ChangeSpec := { name := "totalAdds", fn := fun _ => fun
  | [d1, d2, d3] => { results := [.lit (.bool false)], args := [d1, d2, d3] }
  | _ => none }
def TotalAddsWrongFalsely : Prop := totalAddsRow.holds Try.pinned (OpenSpec.ofChange totalAddsWrong)

/-- 'tympanlaw07.TotalSums': WHATEVER THE INPUT: true; the input reads as it did. -/
def totalSumsSpec : ChangeSpec := { name := "totalSums", fn := fun _ => fun
  | [d] => { results := [.lit (.bool true)], args := [d] }
  | _ => none }
def totalSumsRow : OpenClaim := { program := "ytfiofmlfceknaaa", sum := "a078d2509fcfacc2dc6747f21a4f93a657bb093c10ff2420546ff3079f44bb98", func := "tympan/tympanlaw07.TotalSums", spec := "totalSums", unfollowed := true, recurses := true, apart := false }
def TotalSumsSaid : Prop := totalSumsRow.holds Try.pinned (OpenSpec.ofChange totalSumsSpec)

/-- ITS FALSE NEIGHBOUR: 'it returns false'. Refute it at one input. -/
def totalSumsWrong : ChangeSpec := { name := "totalSums", fn := fun _ => fun
  | [d] => { results := [.lit (.bool false)], args := [d] }
  | _ => none }
def TotalSumsWrongFalsely : Prop := totalSumsRow.holds Try.pinned (OpenSpec.ofChange totalSumsWrong)

/-- 'tympanlaw07.TotalOrder': WHATEVER THE INPUT: true; the input reads as it did. -/
def totalOrderSpec : ChangeSpec := { name := "totalOrder", fn := fun _ => fun
  | [d1, d2, d3] => { results := [.lit (.bool true)], args := [d1, d2, d3] }
  | _ => none }
def totalOrderRow : OpenClaim := { program := "ytfiofmlfceknaaa", sum := "a078d2509fcfacc2dc6747f21a4f93a657bb093c10ff2420546ff3079f44bb98", func := "tympan/tympanlaw07.TotalOrder", spec := "totalOrder", unfollowed := true, recurses := true, apart := false }
def TotalOrderSaid : Prop := totalOrderRow.holds Try.pinned (OpenSpec.ofChange totalOrderSpec)

/-- ITS FALSE NEIGHBOUR: 'it returns false'. Refute it at one input. -/
def totalOrderWrong : ChangeSpec := { name := "totalOrder", fn := fun _ => fun
  | [d1, d2, d3] => { results := [.lit (.bool false)], args := [d1, d2, d3] }
  | _ => none }
def TotalOrderWrongFalsely : Prop := totalOrderRow.holds Try.pinned (OpenSpec.ofChange totalOrderWrong)

/-- 'tympanlaw04.CostOrder': WHATEVER THE INPUT: true; the input reads as it did. -/
def costOrderSpec : ChangeSpec := { name := "costOrder", fn := fun _ => fun
  | [d1, d2, d3] => { results := [.lit (.bool true)], args := [d1, d2, d3] }
  | _ => none }
def costOrderRow : OpenClaim := { program := "ytfiofmlfceknaaa", sum := "a078d2509fcfacc2dc6747f21a4f93a657bb093c10ff2420546ff3079f44bb98", func := "tympan/tympanlaw04.CostOrder", spec := "costOrder", unfollowed := true, recurses := true, apart := false }
def CostOrderSaid : Prop := costOrderRow.holds Try.pinned (OpenSpec.ofChange costOrderSpec)

/-- ITS FALSE NEIGHBOUR: 'it returns false'. Refute it at one input. -/
def costOrderWrong : ChangeSpec := { name := "costOrder", fn := fun _ => fun
  | [d1, d2, d3] => { results := [.lit (.bool false)], args := [d1, d2, d3] }
  | _ => none }
def CostOrderWrongFalsely : Prop := costOrderRow.holds Try.pinned (OpenSpec.ofChange costOrderWrong)

/-- 'tympanlaw04.CostSums': WHATEVER THE INPUT: true; the input reads as it did. -/
def costSumsSpec : ChangeSpec := { name := "costSums", fn := fun _ => fun
  | [d] => { results := [.lit (.bool true)], args := [d] }
  | _ => none }
def costSumsRow : OpenClaim := { program := "ytfiofmlfceknaaa", sum := "a078d2509fcfacc2dc6747f21a4f93a657bb093c10ff2420546ff3079f44bb98", func := "tympan/tympanlaw04.CostSums", spec := "costSums", unfollowed := true, recurses := true, apart := false }
def CostSumsSaid : Prop := costSumsRow.holds Try.pinned (OpenSpec.ofChange costSumsSpec)

/-- ITS FALSE NEIGHBOUR: 'it returns false'. Refute it at one input. -/
def costSumsWrong : ChangeSpec := { name := "costSums", fn := fun _ => fun
  | [d] => { results := [.lit (.bool false)], args := [d] }
  | _ => none }
def CostSumsWrongFalsely : Prop := costSumsRow.holds Try.pinned (OpenSpec.ofChange costSumsWrong)

/-- 'tympanlaw04.CostAdds': WHATEVER THE INPUT: true; the input reads as it did. -/
def costAddsSpec : ChangeSpec := { name := "costAdds", fn := fun _ => fun
  | [d1, d2, d3] => { results := [.lit (.bool true)], args := [d1, d2, d3] }
  | _ => none }
def costAddsRow : OpenClaim := { program := "ytfiofmlfceknaaa", sum := "a078d2509fcfacc2dc6747f21a4f93a657bb093c10ff2420546ff3079f44bb98", func := "tympan/tympanlaw04.CostAdds", spec := "costAdds", unfollowed := true, recurses := true, apart := false }
def CostAddsSaid : Prop := costAddsRow.holds Try.pinned (OpenSpec.ofChange costAddsSpec)

/-- ITS FALSE NEIGHBOUR: 'it returns false'. Refute it at one input. -/
def costAddsWrong : ChangeSpec := { name := "costAdds", fn := fun _ => fun
  | [d1, d2, d3] => { results := [.lit (.bool false)], args := [d1, d2, d3] }
  | _ => none }
def CostAddsWrongFalsely : Prop := costAddsRow.holds Try.pinned (OpenSpec.ofChange costAddsWrong)

/-- 'tympanlaw36.MarkTells': WHATEVER THE INPUT: true; the input reads as it did. -/
def markTellsSpec : ChangeSpec := { name := "markTells", fn := fun _ => fun
  | [d1, d2, d3] => { results := [.lit (.bool true)], args := [d1, d2, d3] }
  | _ => none }
def markTellsRow : OpenClaim := { program := "ytfiofmlfceknaaa", sum := "a078d2509fcfacc2dc6747f21a4f93a657bb093c10ff2420546ff3079f44bb98", func := "tympan/tympanlaw36.MarkTells", spec := "markTells", unfollowed := true, recurses := true, apart := false }
def MarkTellsSaid : Prop := markTellsRow.holds Try.pinned (OpenSpec.ofChange markTellsSpec)

/-- ITS FALSE NEIGHBOUR: 'it returns false'. Refute it at one input. -/
def markTellsWrong : ChangeSpec := { name := "markTells", fn := fun _ => fun
  | [d1, d2, d3] => { results := [.lit (.bool false)], args := [d1, d2, d3] }
  | _ => none }
def MarkTellsWrongFalsely : Prop := markTellsRow.holds Try.pinned (OpenSpec.ofChange markTellsWrong)

/-- 'tympanlaw36.MarkFollows': WHATEVER THE INPUT: true; the input reads as it did. -/
def markFollowsSpec : ChangeSpec := { name := "markFollows", fn := fun _ => fun
  | [d1, d2, d3] => { results := [.lit (.bool true)], args := [d1, d2, d3] }
  | _ => none }
def markFollowsRow : OpenClaim := { program := "ytfiofmlfceknaaa", sum := "a078d2509fcfacc2dc6747f21a4f93a657bb093c10ff2420546ff3079f44bb98", func := "tympan/tympanlaw36.MarkFollows", spec := "markFollows", unfollowed := true, recurses := true, apart := false }
def MarkFollowsSaid : Prop := markFollowsRow.holds Try.pinned (OpenSpec.ofChange markFollowsSpec)

/-- ITS FALSE NEIGHBOUR: 'it returns false'. Refute it at one input. -/
def markFollowsWrong : ChangeSpec := { name := "markFollows", fn := fun _ => fun
  | [d1, d2, d3] => { results := [.lit (.bool false)], args := [d1, d2, d3] }
  | _ => none }
def MarkFollowsWrongFalsely : Prop := markFollowsRow.holds Try.pinned (OpenSpec.ofChange markFollowsWrong)

/- THE SECOND FORM. 'bulk': how many values and letters a reading holds, each counted each time it is reached (what is shared counts as often as it is met; a slice's spare places count too). A statement '..UptoSaid' is the law's where the arguments, and the package variables that the reading takes, are together of bulk at most 1048576: NARROWER than '..Said'. Prove '..Said' where nothing that the law and all that it calls make is longer than what came in: it says more and counts as full. Else prove '..UptoSaid'. A law counts once. -/
mutual
def uptoBulk {H : Type} : DataW H → Nat
  | .lit (.string bytes) => bytes.length + 1
  | .lit _ => 1
  | .nil => 1
  | .ptr d => uptoBulk d + 1
  | .slice elems spare => uptoBulkAll elems + uptoBulkAll spare + 1
  | .agg parts => uptoBulkAll parts + 1
  | .iface _ d => uptoBulk d + 1
  | .map entries => uptoBulkEntries entries + 1
  | .held _ => 1
def uptoBulkAll {H : Type} : List (DataW H) → Nat
  | [] => 0
  | d :: r => uptoBulk d + uptoBulkAll r
def uptoBulkEntries {H : Type} : List (Lit × DataW H) → Nat
  | [] => 0
  | x :: r => uptoBulkEntry x + uptoBulkEntries r
def uptoBulkEntry {H : Type} : Lit × DataW H → Nat
  | (.string bytes, d) => bytes.length + uptoBulk d + 1
  | (_, d) => uptoBulk d + 1
 end
def uptoSmall : (H : Type) → List (DataW H) → Bool := fun _ ds => decide (uptoBulkAll ds ≤ 1048576)
def OpenSpec.upto (s : _root_.Go.ChangeSpec) : _root_.Go.OpenSpec := { _root_.Go.OpenSpec.ofChange s with cond := some uptoSmall }

/-- 'tympanlaw03.BadTells', WHERE WHAT IT READS IS OF BULK AT MOST 1048576: true; the input reads as it did. -/
def badTellsUptoRow : OpenClaim := { program := "ytfiofmlfceknaaa", sum := "a078d2509fcfacc2dc6747f21a4f93a657bb093c10ff2420546ff3079f44bb98", func := "tympan/tympanlaw03.BadTells", spec := "badTells", unfollowed := true, recurses := true, apart := false, narrowed := true }
def BadTellsUptoSaid : Prop := badTellsUptoRow.holds Try.pinned (OpenSpec.upto badTellsSpec)

/-- 'tympanlaw03.BadRises', WHERE WHAT IT READS IS OF BULK AT MOST 1048576: true; the input reads as it did. -/
def badRisesUptoRow : OpenClaim := { program := "ytfiofmlfceknaaa", sum := "a078d2509fcfacc2dc6747f21a4f93a657bb093c10ff2420546ff3079f44bb98", func := "tympan/tympanlaw03.BadRises", spec := "badRises", unfollowed := true, recurses := true, apart := false, narrowed := true }
def BadRisesUptoSaid : Prop := badRisesUptoRow.holds Try.pinned (OpenSpec.upto badRisesSpec)

/-- 'tympanlaw03.BadEnds', WHERE WHAT IT READS IS OF BULK AT MOST 1048576: true; the input reads as it did. -/
def badEndsUptoRow : OpenClaim := { program := "ytfiofmlfceknaaa", sum := "a078d2509fcfacc2dc6747f21a4f93a657bb093c10ff2420546ff3079f44bb98", func := "tympan/tympanlaw03.BadEnds", spec := "badEnds", unfollowed := true, recurses := true, apart := false, narrowed := true }
def BadEndsUptoSaid : Prop := badEndsUptoRow.holds Try.pinned (OpenSpec.upto badEndsSpec)

/-- 'tympanlaw07.TotalAdds', WHERE WHAT IT READS IS OF BULK AT MOST 1048576: true; the input reads as it did. -/
def totalAddsUptoRow : OpenClaim := { program := "ytfiofmlfceknaaa", sum := "a078d2509fcfacc2dc6747f21a4f93a657bb093c10ff2420546ff3079f44bb98", func := "tympan/tympanlaw07.TotalAdds", spec := "totalAdds", unfollowed := true, recurses := true, apart := false, narrowed := true }
def TotalAddsUptoSaid : Prop := totalAddsUptoRow.holds Try.pinned (OpenSpec.upto totalAddsSpec)

/-- 'tympanlaw07.TotalSums', WHERE WHAT IT READS IS OF BULK AT MOST 1048576: true; the input reads as it did. -/
def totalSumsUptoRow : OpenClaim := { program := "ytfiofmlfceknaaa", sum := "a078d2509fcfacc2dc6747f21a4f93a657bb093c10ff2420546ff3079f44bb98", func := "tympan/tympanlaw07.TotalSums", spec := "totalSums", unfollowed := true, recurses := true, apart := false, narrowed := true }
def TotalSumsUptoSaid : Prop := totalSumsUptoRow.holds Try.pinned (OpenSpec.upto totalSumsSpec)

/-- 'tympanlaw07.TotalOrder', WHERE WHAT IT READS IS OF BULK AT MOST 1048576: true; the input reads as it did. -/
def totalOrderUptoRow : OpenClaim := { program := "ytfiofmlfceknaaa", sum := "a078d2509fcfacc2dc6747f21a4f93a657bb093c10ff2420546ff3079f44bb98", func := "tympan/tympanlaw07.TotalOrder", spec := "totalOrder", unfollowed := true, recurses := true, apart := false, narrowed := true }
def TotalOrderUptoSaid : Prop := totalOrderUptoRow.holds Try.pinned (OpenSpec.upto totalOrderSpec)

/-- 'tympanlaw04.CostOrder', WHERE WHAT IT READS IS OF BULK AT MOST 1048576: true; the input reads as it did. -/
def costOrderUptoRow : OpenClaim := { program := "ytfiofmlfceknaaa", sum := "a078d2509fcfacc2dc6747f21a4f93a657bb093c10ff2420546ff3079f44bb98", func := "tympan/tympanlaw04.CostOrder", spec := "costOrder", unfollowed := true, recurses := true, apart := false, narrowed := true }
def CostOrderUptoSaid : Prop := costOrderUptoRow.holds Try.pinned (OpenSpec.upto costOrderSpec)

/-- 'tympanlaw04.CostSums', WHERE WHAT IT READS IS OF BULK AT MOST 1048576: true; the input reads as it did. -/
def costSumsUptoRow : OpenClaim := { program := "ytfiofmlfceknaaa", sum := "a078d2509fcfacc2dc6747f21a4f93a657bb093c10ff2420546ff3079f44bb98", func := "tympan/tympanlaw04.CostSums", spec := "costSums", unfollowed := true, recurses := true, apart := false, narrowed := true }
def CostSumsUptoSaid : Prop := costSumsUptoRow.holds Try.pinned (OpenSpec.upto costSumsSpec)

/-- 'tympanlaw04.CostAdds', WHERE WHAT IT READS IS OF BULK AT MOST 1048576: true; the input reads as it did. -/
def costAddsUptoRow : OpenClaim := { program := "ytfiofmlfceknaaa", sum := "a078d2509fcfacc2dc6747f21a4f93a657bb093c10ff2420546ff3079f44bb98", func := "tympan/tympanlaw04.CostAdds", spec := "costAdds", unfollowed := true, recurses := true, apart := false, narrowed := true }
def CostAddsUptoSaid : Prop := costAddsUptoRow.holds Try.pinned (OpenSpec.upto costAddsSpec)

/-- 'tympanlaw36.MarkTells', WHERE WHAT IT READS IS OF BULK AT MOST 1048576: true; the input reads as it did. -/
def markTellsUptoRow : OpenClaim := { program := "ytfiofmlfceknaaa", sum := "a078d2509fcfacc2dc6747f21a4f93a657bb093c10ff2420546ff3079f44bb98", func := "tympan/tympanlaw36.MarkTells", spec := "markTells", unfollowed := true, recurses := true, apart := false, narrowed := true }
def MarkTellsUptoSaid : Prop := markTellsUptoRow.holds Try.pinned (OpenSpec.upto markTellsSpec)

/-- 'tympanlaw36.MarkFollows', WHERE WHAT IT READS IS OF BULK AT MOST 1048576: true; the input reads as it did. -/
def markFollowsUptoRow : OpenClaim := { program := "ytfiofmlfceknaaa", sum := "a078d2509fcfacc2dc6747f21a4f93a657bb093c10ff2420546ff3079f44bb98", func := "tympan/tympanlaw36.MarkFollows", spec := "markFollows", unfollowed := true, recurses := true, apart := false, narrowed := true }
def MarkFollowsUptoSaid : Prop := markFollowsUptoRow.holds Try.pinned (OpenSpec.upto markFollowsSpec)

end Rows
end Go.Proofs.Ytfiofmlfceknaaa
