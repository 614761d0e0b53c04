/- Checked multiples, and the next multiples below and above: packages sp and tympanref01. -/
import Derived.Test.YteipfamaclildaaSp

import Derived.Test.YteipfamaclildaaDiv64

import Derived.Test.YteipfamaclildaaFlat

namespace Go.Proofs.Yteipfamaclildaa

open Go.RowKit

theorem mul_same {a n : Int} (h : a < 0 ↔ n < 0) : a * n = ((a.natAbs * n.natAbs : Nat) : Int) := by
  rw [Int.natCast_mul]
  by_cases s : a < 0
  · rw [Int.ofNat_natAbs_of_nonpos (by omega), Int.ofNat_natAbs_of_nonpos (by have := h.1 s; omega), Int.neg_mul_neg]
  · rw [Int.natAbs_of_nonneg (by omega), Int.natAbs_of_nonneg (by have := fun g => s (h.2 g); omega)]
theorem mul_unlike {a n : Int} (h : ¬ (a < 0 ↔ n < 0)) : a * n = -((a.natAbs * n.natAbs : Nat) : Int) := by
  rw [Int.natCast_mul]
  by_cases s : a < 0
  · have : ¬ n < 0 := fun g => h ⟨fun _ => g, fun _ => s⟩
    rw [Int.ofNat_natAbs_of_nonpos (by omega), Int.natAbs_of_nonneg (by omega), Int.neg_mul, Int.neg_neg]
  · have : n < 0 := by
      rcases Int.lt_or_le n 0 with g | g
      · exact g
      · exact absurd ⟨fun k => absurd k s, fun k => absurd k (by omega)⟩ h
    rw [Int.natAbs_of_nonneg (by omega), Int.ofNat_natAbs_of_nonpos (by omega), Int.mul_neg, Int.neg_neg]

end Go.Proofs.Yteipfamaclildaa
