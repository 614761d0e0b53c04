/- A word and numbers as a text: the program's line. -/
import Derived.Test.YtaekeogaakogbaaGreatDoorEnv

namespace Go.Proofs.YtaekeogaakogbaaGreatDoor

open Go.RowKit

/-- A number's cells. -/
def enc1 (x : Int) : List Value := [.int .i64 x]
def numL (n : Int) : List UInt8 := 32 :: Lib.itoa n
def lineL (wd : List UInt8) (ns : List Int) : List UInt8 := wd ++ ns.flatMap numL
theorem flat_snoc {α β : Type} {f : α → List β} {l : List α} {k : Nat} {x : α} (h : l[k]? = some x) : (l.take (k + 1)).flatMap f = (l.take k).flatMap f ++ f x := by
  rw [List.take_add_one, h, List.flatMap_append]; simp
theorem numL_short {n : Int} (h : I64 n) : (numL n).length ≤ 22 := by unfold numL; have := itoa_short h; simp; omega
theorem flat_short {l : List Int} (h : ∀ x, x ∈ l → I64 x) : (l.flatMap numL).length ≤ 22 * l.length := by
  induction l with
  | nil => simp
  | cons x l ih =>
    have h1 := numL_short (h x List.mem_cons_self)
    have h2 := ih fun y hy => h y (List.mem_cons_of_mem _ hy)
    rw [List.flatMap_cons, List.length_append, List.length_cons]
    omega
theorem lineL_short {wd : List UInt8} {ns : List Int} (h : ∀ x, x ∈ ns → I64 x) : (lineL wd ns).length ≤ wd.length + 22 * ns.length := by
  unfold lineL
  rw [List.length_append]
  have := flat_short h
  omega

end Go.Proofs.YtaekeogaakogbaaGreatDoor
