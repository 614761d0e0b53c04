/- The arithmetic of a long division by two halves: no program in sight. -/
import Derived.Test.YteipfamaclildaaKit

namespace Go.Proofs.Yteipfamaclildaa

/-- The test of one digit's guess holds: the guess is above the digit. -/
theorem digit_above {n m q r y1 y0 Q : Nat} (hn : q * y1 + r = n) (hQ : Q = (n * 4294967296 + m) / (y1 * 4294967296 + y0)) (hy : 0 < y1)
    (ht : Q < q ∨ r * 4294967296 + m < q * y0) : Q + 1 ≤ q := by
  rcases ht with h | h
  · exact h
  · have h1 : n * 4294967296 + m < q * (y1 * 4294967296 + y0) := by
      clear hQ
      rw [Nat.mul_add, ← Nat.mul_assoc]
      obtain ⟨A, hA⟩ : ∃ A, A = q * y0 := ⟨_, rfl⟩
      obtain ⟨B, hB⟩ : ∃ B, B = q * y1 := ⟨_, rfl⟩
      rw [← hA] at h ⊢
      rw [← hB] at hn ⊢
      clear hA hB
      rw [← hn, Nat.add_mul, Nat.add_assoc]
      exact Nat.add_lt_add_left h _
    have h2 : (n * 4294967296 + m) / (y1 * 4294967296 + y0) < q := (Nat.div_lt_iff_lt_mul (by omega)).2 h1
    rw [← hQ] at h2
    omega
/-- The test fails: the guess is the digit. -/
theorem digit_is {n m q r y1 y0 Q : Nat} (hn : q * y1 + r = n) (hQ : Q = (n * 4294967296 + m) / (y1 * 4294967296 + y0)) (hy : 0 < y1)
    (ht : q * y0 ≤ r * 4294967296 + m) (hle : Q ≤ q) : q = Q := by
  have h1 : q * (y1 * 4294967296 + y0) ≤ n * 4294967296 + m := by
    clear hQ hle
    rw [Nat.mul_add, ← Nat.mul_assoc]
    omega
  have h2 : q ≤ Q := by rw [hQ]; exact (Nat.le_div_iff_mul_le (by omega)).2 h1
  omega
/-- Behind a step that brings the rest to 2^32 the guess is the digit. -/
theorem digit_last {n m q r y1 y0 Q : Nat} (hn : q * y1 + r = n) (hQ : Q = (n * 4294967296 + m) / (y1 * 4294967296 + y0)) (hy : 0 < y1)
    (hr : 4294967296 ≤ r) (hq : q ≤ 4294967296) (h0 : y0 < 4294967296) (hle : Q ≤ q) : q = Q := by
  refine digit_is hn hQ hy ?_ hle
  have := Nat.mul_le_mul hq (by omega : y0 ≤ 4294967295)
  omega
/-- The first guess. -/
theorem digit_first {n m y1 y0 Q : Nat} (hQ : Q = (n * 4294967296 + m) / (y1 * 4294967296 + y0)) (hy : 2147483648 ≤ y1) (h0 : y0 < 4294967296) (hm : m < 4294967296) (hn : n < y1 * 4294967296 + y0) :
    Q ≤ n / y1 ∧ n / y1 ≤ 4294967297 ∧ Q < 4294967296 ∧ n / y1 * y1 + n % y1 = n := by
  refine ⟨?_, ?_, ?_, Nat.div_add_mod' n y1⟩
  · rw [Nat.le_div_iff_mul_le (by omega)]
    have h1 : Q * (y1 * 4294967296 + y0) ≤ n * 4294967296 + m := by rw [hQ]; exact Nat.div_mul_le_self _ _
    clear hQ
    rw [Nat.mul_add, ← Nat.mul_assoc] at h1
    omega
  · have h1 : n / y1 < 4294967298 := by
      rw [Nat.div_lt_iff_lt_mul (by omega)]
      clear hQ
      omega
    omega
  · rw [hQ, Nat.div_lt_iff_lt_mul (by omega)]
    clear hQ
    omega
/-- A step down. -/
theorem digit_down {n q r y1 : Nat} (hn : q * y1 + r = n) (hq : 1 ≤ q) : (q - 1) * y1 + (r + y1) = n := by
  obtain ⟨p, rfl⟩ : ∃ p, q = p + 1 := ⟨q - 1, by omega⟩
  rw [Nat.add_mul, Nat.one_mul] at hn
  simp only [Nat.add_sub_cancel]
  omega
/-- Both digits together, brought back by the shift. -/
theorem digits_both {Z y s n1 n2 m1 m2 Q1 Q2 : Nat} (hy : 0 < y) (hU : (n1 * 4294967296 + m1) * 4294967296 + m2 = Z * 2 ^ s)
    (h1 : Q1 = (n1 * 4294967296 + m1) / (y * 2 ^ s)) (h2 : n2 = (n1 * 4294967296 + m1) % (y * 2 ^ s)) (h3 : Q2 = (n2 * 4294967296 + m2) / (y * 2 ^ s)) :
    Q1 * 4294967296 + Q2 = Z / y ∧ (n2 * 4294967296 + m2) % (y * 2 ^ s) / 2 ^ s = Z % y := by
  have hp : 0 < 2 ^ s := Nat.two_pow_pos s
  have hd : 0 < y * 2 ^ s := Nat.mul_pos hy hp
  have e1 := Nat.div_add_mod (n1 * 4294967296 + m1) (y * 2 ^ s)
  rw [← h1, ← h2] at e1
  have e2 := Nat.div_add_mod (n2 * 4294967296 + m2) (y * 2 ^ s)
  rw [← h3] at e2
  have hlt := Nat.mod_lt (n2 * 4294967296 + m2) hd
  obtain ⟨R, hR0⟩ : ∃ R, R = (n2 * 4294967296 + m2) % (y * 2 ^ s) := ⟨_, rfl⟩
  rw [← hR0] at hlt e2 ⊢
  clear h1 h2 h3 hR0
  have e3 : Z * 2 ^ s = (y * 2 ^ s) * (Q1 * 4294967296 + Q2) + R := by
    rw [← hU, ← e1, Nat.mul_add, ← Nat.mul_assoc]
    obtain ⟨A, hA⟩ : ∃ A, A = y * 2 ^ s * Q1 := ⟨_, rfl⟩
    obtain ⟨B, hB⟩ : ∃ B, B = y * 2 ^ s * Q2 := ⟨_, rfl⟩
    rw [← hA] at e1 ⊢
    rw [← hB] at e2 ⊢
    clear hA hB hU hd hlt
    omega
  clear e1 e2 hU
  obtain ⟨Q, hQ0⟩ : ∃ Q, Q = Q1 * 4294967296 + Q2 := ⟨_, rfl⟩
  rw [← hQ0] at e3 ⊢
  clear hQ0
  have hR : R % 2 ^ s = 0 := by
    have h := congrArg (· % 2 ^ s) e3
    simp only [Nat.mul_mod_left] at h
    rw [Nat.mul_comm y (2 ^ s), Nat.mul_assoc, Nat.mul_add_mod] at h
    exact h.symm
  obtain ⟨t, ht0⟩ : ∃ t, R = t * 2 ^ s := ⟨R / 2 ^ s, by rw [Nat.div_mul_cancel (Nat.dvd_of_mod_eq_zero hR)]⟩
  subst ht0
  have ht : t < y := Nat.lt_of_mul_lt_mul_right (a := 2 ^ s) hlt
  have e4 : Z = y * Q + t := by
    apply Nat.eq_of_mul_eq_mul_right hp
    rw [e3, Nat.add_mul]
    congr 1
    rw [Nat.mul_assoc, Nat.mul_comm (2 ^ s), ← Nat.mul_assoc]
  refine ⟨?_, ?_⟩
  · rw [e4, Nat.mul_add_div hy, Nat.div_eq_of_lt ht]; rfl
  · rw [Nat.mul_div_cancel _ hp, e4, Nat.mul_add_mod, Nat.mod_eq_of_lt ht]
end Go.Proofs.Yteipfamaclildaa
