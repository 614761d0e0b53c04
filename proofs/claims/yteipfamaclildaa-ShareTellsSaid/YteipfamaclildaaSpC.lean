/- The next multiples below and above; the reference's product: packages sp and tympanref01. -/
import Derived.Test.YteipfamaclildaaSpB

namespace Go.Proofs.Yteipfamaclildaa

open Go.RowKit

theorem tmod_cases {a s : Int} (hs : 1 ≤ s) : (0 ≤ a.tmod s ∧ a.tmod s = a % s) ∨ (a.tmod s < 0 ∧ a.tmod s + s = a % s ∧ 0 < a % s) := by
  have h0 := Int.emod_nonneg a (by omega : s ≠ 0)
  have h1 := Int.emod_lt_of_pos a (by omega : 0 < s)
  rw [Int.tmod_eq_emod]
  split
  · left; omega
  · rename_i hd
    right
    have h2 : (s.natAbs : Int) = s := Int.natAbs_of_nonneg (by omega)
    have h3 : a % s ≠ 0 := fun e => hd (.inr (Int.dvd_of_emod_eq_zero e))
    omega
/-- The next multiple above, below; none: there is none. -/
def upTo (a s : Int) : Option Int := if s < 1 then none else if a % s = 0 then some a else if fits (a + (s - a % s)) = true then some (a + (s - a % s)) else none
def downTo (a s : Int) : Option Int := if s < 1 then none else if fits (a - a % s) = true then some (a - a % s) else none
theorem opt_fits (x : Int) : (if fits x = true then some x else none).getD 0 = clip x ∧ (if fits x = true then some x else none).isSome = fits x := by
  unfold clip
  by_cases f : fits x = true
  · rw [if_pos f, if_pos f, f]; exact ⟨rfl, rfl⟩
  · rw [if_neg f, if_neg f, Bool.eq_false_iff.2 f]; exact ⟨rfl, rfl⟩

end Go.Proofs.Yteipfamaclildaa
