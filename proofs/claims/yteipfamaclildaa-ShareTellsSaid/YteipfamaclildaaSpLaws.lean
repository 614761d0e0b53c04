/- The laws SpBack and SpSpoilt: the walks. -/
import Derived.Test.YteipfamaclildaaMeter

import Derived.Test.YteipfamaclildaaFld

namespace Go.Proofs.Yteipfamaclildaa

open Go.RowKit

theorem wrapU (x : Int) : ∃ k : Nat, IntKind.u64.wrap x = (k : Int) ∧ x % 18446744073709551616 = (k : Int) :=
  ⟨(x % 18446744073709551616).toNat, by rw [IntKind.wrap_u64]; omega, by omega⟩
theorem apart_facts {x y b : Int} (h0 : 0 ≤ y - x) (h1 : y - x < b) (hb : I64 b) : ∃ X Y B D : Nat, IntKind.u64.wrap x = (X : Int) ∧ IntKind.u64.wrap y = (Y : Int) ∧ IntKind.u64.wrap b = (B : Int) ∧ IntKind.u64.wrap ((Y : Int) - (X : Int)) = (D : Int) ∧ ¬ ((B : Int) ≤ (D : Int)) := by
  obtain ⟨X, e1, f1⟩ := wrapU x
  obtain ⟨Y, e2, f2⟩ := wrapU y
  obtain ⟨B, e3, f3⟩ := wrapU b
  obtain ⟨D, e4, f4⟩ := wrapU ((Y : Int) - (X : Int))
  exact ⟨X, Y, B, D, e1, e2, e3, e4, by have := hb.2; omega⟩
theorem tmod_zero {x b : Int} (h : x % b = 0) : x.tmod b = 0 := Int.tmod_eq_zero_of_dvd (Int.dvd_of_emod_eq_zero h)

theorem up_facts {a b u : Int} (h : upTo a b = some u) : 1 ≤ b ∧ 0 ≤ u - a ∧ u - a < b ∧ u.tmod b = 0 := by
  unfold upTo at h
  split at h
  · cases h
  · rename_i hb
    have h0 := Int.emod_nonneg a (by omega : b ≠ 0)
    have hl := Int.emod_lt_of_pos a (by omega : 0 < b)
    split at h
    · rename_i hz
      cases h
      exact ⟨by omega, by omega, by omega, tmod_zero hz⟩
    · rename_i hz
      split at h
      · cases h
        refine ⟨by omega, by omega, by omega, tmod_zero ?_⟩
        have e : a + (b - a % b) = b * (a / b + 1) := by
          have := Int.mul_ediv_add_emod a b
          rw [Int.mul_add, Int.mul_one]; omega
        rw [e, Int.mul_emod_right]
      · cases h
theorem down_facts {a b d : Int} (h : downTo a b = some d) : 1 ≤ b ∧ 0 ≤ a - d ∧ a - d < b ∧ d.tmod b = 0 := by
  unfold downTo at h
  split at h
  · cases h
  · rename_i hb
    have h0 := Int.emod_nonneg a (by omega : b ≠ 0)
    have hl := Int.emod_lt_of_pos a (by omega : 0 < b)
    split at h
    · cases h
      refine ⟨by omega, by omega, by omega, tmod_zero ?_⟩
      have e : a - a % b = b * (a / b) := by
        have := Int.mul_ediv_add_emod a b
        omega
      rw [e, Int.mul_emod_right]
    · cases h
theorem upTo_i64 {a b : Int} (ha : I64 a) : I64 ((upTo a b).getD 0) := by
  unfold upTo
  split
  · exact ⟨by decide, by decide⟩
  · split
    · exact ha
    · rw [(opt_fits _).1]; exact clip_bounds _

end Go.Proofs.Yteipfamaclildaa
