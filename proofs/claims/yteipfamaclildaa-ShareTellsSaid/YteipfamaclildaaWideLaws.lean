/- The laws WideBack and WideShares: the walks. -/
import Derived.Test.YteipfamaclildaaWide

namespace Go.Proofs.Yteipfamaclildaa

open Go.RowKit

theorem less_words {a1 a0 b1 b0 : Nat} (h0 : a0 < 18446744073709551616) (g0 : b0 < 18446744073709551616) :
    decide (a1 * 18446744073709551616 + a0 < b1 * 18446744073709551616 + b0) = if a1 = b1 then decide (a0 < b0) else decide (a1 < b1) := by
  split
  · rw [decide_eq_decide]; omega
  · rw [decide_eq_decide]; omega
/-- How two numbers compare. -/
def cmpN (A B : Nat) : Int := if A < B then -1 else if B < A then 1 else 0
/-- A length from 0 on. -/
def pos (x : Int) : Nat := x.toNat
theorem pos_lt {x : Int} (h : I64 x) : pos x < 9223372036854775808 := by have := h.2; unfold pos; omega
theorem back_words {Z r b H L H2 L2 : Nat} (hH : Z / 18446744073709551616 = H) (hL : Z % 18446744073709551616 = L) (hZr : Z + r < 18446744073709551616 * b)
    (h2 : H + 0 + (L + r) / 18446744073709551616 = H2) (l2 : (L + r) % 18446744073709551616 = L2) : H2 * 18446744073709551616 + L2 = Z + r ∧ H2 < b := by
  have e1 := Nat.div_add_mod Z 18446744073709551616
  have e2 := Nat.div_add_mod (L + r) 18446744073709551616
  have e3 : L2 < 18446744073709551616 := by rw [← l2]; exact Nat.mod_lt _ (by omega)
  rw [hH, hL] at e1
  obtain ⟨q, hq⟩ : ∃ q, (L + r) / 18446744073709551616 = q := ⟨_, rfl⟩
  rw [l2, hq] at e2
  rw [hq] at h2
  clear hH hL l2 hq
  have e4 : H2 * 18446744073709551616 + L2 = Z + r := by rw [← h2]; omega
  refine ⟨e4, ?_⟩
  rcases Nat.lt_or_ge H2 b with h | h
  · exact h
  · have h3 : b * 18446744073709551616 ≤ H2 * 18446744073709551616 := Nat.mul_le_mul_right _ h
    rw [Nat.mul_comm] at hZr
    omega

/-- The three ratios of the law. -/
theorem ratio_part {a b c : Int} (ha : 0 ≤ a) (hb : 0 ≤ b) (hbc : b ≤ c) (hc : 1 ≤ c) (hA : I64 a) : ratio a b c = some (a * b / c) ∧ 0 ≤ a * b / c ∧ a * b / c ≤ a := by
  have h1 : a * b ≤ a * c := Int.mul_le_mul_of_nonneg_left hbc ha
  have h2 : a * b / c ≤ a := by
    have h3 := Int.ediv_le_ediv (by omega : 0 < c) h1
    rwa [Int.mul_ediv_cancel _ (by omega)] at h3
  have h0 : 0 ≤ a * b / c := Int.ediv_nonneg (Int.mul_nonneg ha hb) (by omega)
  refine ⟨?_, h0, h2⟩
  unfold ratio
  rw [if_neg (by omega), if_pos (by have := hA.2; omega)]
theorem ratio_grows {a b c d : Int} (ha : 0 ≤ a) (hbd : b ≤ d) (hc : 1 ≤ c) : a * b / c ≤ a * d / c :=
  Int.ediv_le_ediv (by omega) (Int.mul_le_mul_of_nonneg_left hbd ha)

end Go.Proofs.Yteipfamaclildaa
