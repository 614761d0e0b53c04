/- Checked multiples, and the next multiples below and above: packages sp and tympanref01. -/
import Derived.Test.YtepckgcbncdibaaSp
import Derived.Test.YtepckgcbncdibaaDiv64
import Derived.Test.YtepckgcbncdibaaFlat
namespace Go.Proofs.Ytepckgcbncdibaa
open Go.RowKit

theorem far_any (n : Int) (w : World) (h : I64 n) : Calls Try.prog 77 #[.int .i64 n] w fun e w' => e = .returned (.int .u64 ((n.natAbs : Nat) : Int)) ∧ w = w' := by
  obtain ⟨h1, h2⟩ := h
  by_cases s : n < 0
  · obtain ⟨k, hk⟩ : ∃ k : Nat, n + 18446744073709551616 = k := ⟨(n + 18446744073709551616).toNat, by omega⟩
    have e1 : IntKind.u64.wrap n = (k : Int) := wrapN (by omega)
    have e2 : IntKind.u64.wrap (-(k : Int)) = ((n.natAbs : Nat) : Int) := wrapN (by omega)
    clear hk
    go_enter Try.func77, Try.ntmps77
    go_wp2
    go_ret
    exact ⟨rfl, rfl⟩
  · have e1 : IntKind.u64.wrap n = ((n.natAbs : Nat) : Int) := wrapN (by omega)
    go_enter Try.func77, Try.ntmps77
    go_wp2
    go_ret
    exact ⟨ret_int (by omega), rfl⟩
theorem refSize_any (n : Int) (w : World) (h : I64 n) : Calls Try.prog 78 #[.int .i64 n] w fun e w' => e = .returned (.int .u64 ((n.natAbs : Nat) : Int)) ∧ w = w' := by
  obtain ⟨h1, h2⟩ := h
  by_cases s : n < 0
  · go_enter Try.func78, Try.ntmps78
    go_wp2
    go_ret
    exact ⟨ret_int (by omega), rfl⟩
  · have e1 : IntKind.u64.wrap n = ((n.natAbs : Nat) : Int) := wrapN (by omega)
    go_enter Try.func78, Try.ntmps78
    go_wp2
    go_ret
    exact ⟨ret_int (by omega), rfl⟩

theorem mul_same {a n : Int} (h : a < 0 ↔ n < 0) : a * n = ((a.natAbs * n.natAbs : Nat) : Int) := by
  rw [Int.natCast_mul]
  by_cases s : a < 0
  · rw [Int.ofNat_natAbs_of_nonpos (by omega), Int.ofNat_natAbs_of_nonpos (by have := h.1 s; omega), Int.neg_mul_neg]
  · rw [Int.natAbs_of_nonneg (by omega), Int.natAbs_of_nonneg (by have := fun g => s (h.2 g); omega)]
theorem mul_unlike {a n : Int} (h : ¬ (a < 0 ↔ n < 0)) : a * n = -((a.natAbs * n.natAbs : Nat) : Int) := by
  rw [Int.natCast_mul]
  by_cases s : a < 0
  · have : ¬ n < 0 := fun g => h ⟨fun _ => g, fun _ => s⟩
    rw [Int.ofNat_natAbs_of_nonpos (by omega), Int.natAbs_of_nonneg (by omega), Int.neg_mul, Int.neg_neg]
  · have : n < 0 := by
      rcases Int.lt_or_le n 0 with g | g
      · exact g
      · exact absurd ⟨fun k => absurd k s, fun k => absurd k (by omega)⟩ h
    rw [Int.natAbs_of_nonneg (by omega), Int.ofNat_natAbs_of_nonpos (by omega), Int.mul_neg, Int.neg_neg]

set_option maxRecDepth 100000 in
set_option maxHeartbeats 2000000 in
theorem spMul_any (a n : Int) (w : World) (ha : I64 a) (hn : I64 n) :
    Calls Try.prog 36 #[.int .i64 a, .int .i64 n] w fun e w' => e = .returned (.tuple #[.int .i64 (clip (a * n)), .bool (fits (a * n))]) ∧ w = w' := by
  obtain ⟨z, hz⟩ : ∃ z, a * n = z := ⟨_, rfl⟩
  obtain ⟨p, hp⟩ : ∃ p, a.natAbs * n.natAbs = p := ⟨_, rfl⟩
  have hs := @mul_same a n
  have hu := @mul_unlike a n
  rw [hz, hp] at hs hu
  have m := fun w => Try.bits_Mul64 a.natAbs n.natAbs (by have := ha.1; have := ha.2; omega) (by have := hn.1; have := hn.2; omega) w
  rw [hp] at m
  obtain ⟨H, hH⟩ : ∃ k : Nat, p / 18446744073709551616 = k := ⟨_, rfl⟩
  obtain ⟨L, hL⟩ : ∃ k : Nat, p % 18446744073709551616 = k := ⟨_, rfl⟩
  rw [hH, hL] at m
  rw [hz]
  clear hz hp
  have HA := Lib.hid ha; have HN := Lib.hid hn; have M := Lib.hid m
  have hfit : fits z = true ∨ fits z = false := by cases fits z <;> simp
  clear m ha hn
  by_cases sa : a < 0
  · by_cases sn : n < 0
    · skip
      have hv := hs (by omega)
      clear hs hu
      rcases hfit with f | f
      · have f2 := fits_iff.1 f
        rw [clip_yes f, f]
        obtain rfl : H = 0 := by omega
        have e3 : IntKind.i64.wrap (L : Int) = z := by rw [IntKind.wrap_i64]; omega
        have g1 : ¬ ((9223372036854775807 : Int) < (L : Int)) := by omega
        clear hv hH hL f2 f
        go_enter Try.func36, Try.ntmps36
        go_wp2_with fail
        refine (far_any _ _ HA.out).mono ?_
        rintro e w1 ⟨rfl, rfl⟩
        go_wp2_with fail
        refine (far_any _ _ HN.out).mono ?_
        rintro e w2 ⟨rfl, rfl⟩
        go_wp2_with fail
        refine (M.out _).mono ?_
        rintro e w3 ⟨rfl, hw⟩
        rw [hw]
        go_wp2
        go_ret2
        exact ⟨by first | rfl | (congr 3; omega), rfl⟩
      · have f2 : ¬ (-9223372036854775808 ≤ z ∧ z ≤ 9223372036854775807) := fun h => by rw [fits_iff.2 h] at f; cases f
        rw [clip_no f, f]
        by_cases hh : 0 < H
        · clear hv hH hL f2 f
          go_enter Try.func36, Try.ntmps36
          go_wp2_with fail
          refine (far_any _ _ HA.out).mono ?_
          rintro e w1 ⟨rfl, rfl⟩
          go_wp2_with fail
          refine (far_any _ _ HN.out).mono ?_
          rintro e w2 ⟨rfl, rfl⟩
          go_wp2_with fail
          refine (M.out _).mono ?_
          rintro e w3 ⟨rfl, hw⟩
          rw [hw]
          go_wp2
          go_ret2
          exact ⟨rfl, rfl⟩
        · obtain rfl : H = 0 := by omega
          have g1 : (9223372036854775807 : Int) < (L : Int) := by omega
          clear hv hH hL f2 f
          go_enter Try.func36, Try.ntmps36
          go_wp2_with fail
          refine (far_any _ _ HA.out).mono ?_
          rintro e w1 ⟨rfl, rfl⟩
          go_wp2_with fail
          refine (far_any _ _ HN.out).mono ?_
          rintro e w2 ⟨rfl, rfl⟩
          go_wp2_with fail
          refine (M.out _).mono ?_
          rintro e w3 ⟨rfl, hw⟩
          rw [hw]
          go_wp2
          go_ret2
          exact ⟨rfl, rfl⟩
    · have dn : decide (n < 0) = false := decide_eq_false sn
      have hv := hu (by omega)
      clear hs hu
      rcases hfit with f | f
      · have f2 := fits_iff.1 f
        rw [clip_yes f, f]
        obtain rfl : H = 0 := by omega
        obtain ⟨k, hk⟩ : ∃ k : Nat, (18446744073709551616 - L) % 18446744073709551616 = k := ⟨_, rfl⟩
        have e2 : IntKind.u64.wrap (-(L : Int)) = (k : Int) := wrapN (by omega)
        have e3 : IntKind.i64.wrap (k : Int) = z := by rw [IntKind.wrap_i64]; omega
        have g1 : ¬ ((9223372036854775808 : Int) < (L : Int)) := by omega
        clear hv hH hL f2 f hk
        go_enter Try.func36, Try.ntmps36
        go_wp2_with fail
        refine (far_any _ _ HA.out).mono ?_
        rintro e w1 ⟨rfl, rfl⟩
        go_wp2_with fail
        refine (far_any _ _ HN.out).mono ?_
        rintro e w2 ⟨rfl, rfl⟩
        go_wp2_with fail
        refine (M.out _).mono ?_
        rintro e w3 ⟨rfl, hw⟩
        rw [hw]
        go_wp2
        go_ret2
        exact ⟨by first | rfl | (congr 3; omega), rfl⟩
      · have f2 : ¬ (-9223372036854775808 ≤ z ∧ z ≤ 9223372036854775807) := fun h => by rw [fits_iff.2 h] at f; cases f
        rw [clip_no f, f]
        by_cases hh : 0 < H
        · clear hv hH hL f2 f
          go_enter Try.func36, Try.ntmps36
          go_wp2_with fail
          refine (far_any _ _ HA.out).mono ?_
          rintro e w1 ⟨rfl, rfl⟩
          go_wp2_with fail
          refine (far_any _ _ HN.out).mono ?_
          rintro e w2 ⟨rfl, rfl⟩
          go_wp2_with fail
          refine (M.out _).mono ?_
          rintro e w3 ⟨rfl, hw⟩
          rw [hw]
          go_wp2
          go_ret2
          exact ⟨rfl, rfl⟩
        · obtain rfl : H = 0 := by omega
          have g1 : (9223372036854775808 : Int) < (L : Int) := by omega
          clear hv hH hL f2 f
          go_enter Try.func36, Try.ntmps36
          go_wp2_with fail
          refine (far_any _ _ HA.out).mono ?_
          rintro e w1 ⟨rfl, rfl⟩
          go_wp2_with fail
          refine (far_any _ _ HN.out).mono ?_
          rintro e w2 ⟨rfl, rfl⟩
          go_wp2_with fail
          refine (M.out _).mono ?_
          rintro e w3 ⟨rfl, hw⟩
          rw [hw]
          go_wp2
          go_ret2
          exact ⟨rfl, rfl⟩
  · by_cases sn : n < 0
    · have da : decide (a < 0) = false := decide_eq_false sa
      have hv := hu (by omega)
      clear hs hu
      rcases hfit with f | f
      · have f2 := fits_iff.1 f
        rw [clip_yes f, f]
        obtain rfl : H = 0 := by omega
        obtain ⟨k, hk⟩ : ∃ k : Nat, (18446744073709551616 - L) % 18446744073709551616 = k := ⟨_, rfl⟩
        have e2 : IntKind.u64.wrap (-(L : Int)) = (k : Int) := wrapN (by omega)
        have e3 : IntKind.i64.wrap (k : Int) = z := by rw [IntKind.wrap_i64]; omega
        have g1 : ¬ ((9223372036854775808 : Int) < (L : Int)) := by omega
        clear hv hH hL f2 f hk
        go_enter Try.func36, Try.ntmps36
        go_wp2_with fail
        refine (far_any _ _ HA.out).mono ?_
        rintro e w1 ⟨rfl, rfl⟩
        go_wp2_with fail
        refine (far_any _ _ HN.out).mono ?_
        rintro e w2 ⟨rfl, rfl⟩
        go_wp2_with fail
        refine (M.out _).mono ?_
        rintro e w3 ⟨rfl, hw⟩
        rw [hw]
        go_wp2
        go_ret2
        exact ⟨by first | rfl | (congr 3; omega), rfl⟩
      · have f2 : ¬ (-9223372036854775808 ≤ z ∧ z ≤ 9223372036854775807) := fun h => by rw [fits_iff.2 h] at f; cases f
        rw [clip_no f, f]
        by_cases hh : 0 < H
        · clear hv hH hL f2 f
          go_enter Try.func36, Try.ntmps36
          go_wp2_with fail
          refine (far_any _ _ HA.out).mono ?_
          rintro e w1 ⟨rfl, rfl⟩
          go_wp2_with fail
          refine (far_any _ _ HN.out).mono ?_
          rintro e w2 ⟨rfl, rfl⟩
          go_wp2_with fail
          refine (M.out _).mono ?_
          rintro e w3 ⟨rfl, hw⟩
          rw [hw]
          go_wp2
          go_ret2
          exact ⟨rfl, rfl⟩
        · obtain rfl : H = 0 := by omega
          have g1 : (9223372036854775808 : Int) < (L : Int) := by omega
          clear hv hH hL f2 f
          go_enter Try.func36, Try.ntmps36
          go_wp2_with fail
          refine (far_any _ _ HA.out).mono ?_
          rintro e w1 ⟨rfl, rfl⟩
          go_wp2_with fail
          refine (far_any _ _ HN.out).mono ?_
          rintro e w2 ⟨rfl, rfl⟩
          go_wp2_with fail
          refine (M.out _).mono ?_
          rintro e w3 ⟨rfl, hw⟩
          rw [hw]
          go_wp2
          go_ret2
          exact ⟨rfl, rfl⟩
    · have da : decide (a < 0) = false := decide_eq_false sa
      have dn : decide (n < 0) = false := decide_eq_false sn
      have hv := hs (by omega)
      clear hs hu
      rcases hfit with f | f
      · have f2 := fits_iff.1 f
        rw [clip_yes f, f]
        obtain rfl : H = 0 := by omega
        have e3 : IntKind.i64.wrap (L : Int) = z := by rw [IntKind.wrap_i64]; omega
        have g1 : ¬ ((9223372036854775807 : Int) < (L : Int)) := by omega
        clear hv hH hL f2 f
        go_enter Try.func36, Try.ntmps36
        go_wp2_with fail
        refine (far_any _ _ HA.out).mono ?_
        rintro e w1 ⟨rfl, rfl⟩
        go_wp2_with fail
        refine (far_any _ _ HN.out).mono ?_
        rintro e w2 ⟨rfl, rfl⟩
        go_wp2_with fail
        refine (M.out _).mono ?_
        rintro e w3 ⟨rfl, hw⟩
        rw [hw]
        go_wp2
        go_ret2
        exact ⟨by first | rfl | (congr 3; omega), rfl⟩
      · have f2 : ¬ (-9223372036854775808 ≤ z ∧ z ≤ 9223372036854775807) := fun h => by rw [fits_iff.2 h] at f; cases f
        rw [clip_no f, f]
        by_cases hh : 0 < H
        · clear hv hH hL f2 f
          go_enter Try.func36, Try.ntmps36
          go_wp2_with fail
          refine (far_any _ _ HA.out).mono ?_
          rintro e w1 ⟨rfl, rfl⟩
          go_wp2_with fail
          refine (far_any _ _ HN.out).mono ?_
          rintro e w2 ⟨rfl, rfl⟩
          go_wp2_with fail
          refine (M.out _).mono ?_
          rintro e w3 ⟨rfl, hw⟩
          rw [hw]
          go_wp2
          go_ret2
          exact ⟨rfl, rfl⟩
        · obtain rfl : H = 0 := by omega
          have g1 : (9223372036854775807 : Int) < (L : Int) := by omega
          clear hv hH hL f2 f
          go_enter Try.func36, Try.ntmps36
          go_wp2_with fail
          refine (far_any _ _ HA.out).mono ?_
          rintro e w1 ⟨rfl, rfl⟩
          go_wp2_with fail
          refine (far_any _ _ HN.out).mono ?_
          rintro e w2 ⟨rfl, rfl⟩
          go_wp2_with fail
          refine (M.out _).mono ?_
          rintro e w3 ⟨rfl, hw⟩
          rw [hw]
          go_wp2
          go_ret2
          exact ⟨rfl, rfl⟩
end Go.Proofs.Ytepckgcbncdibaa
