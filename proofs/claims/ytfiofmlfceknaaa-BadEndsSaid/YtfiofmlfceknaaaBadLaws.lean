/- The laws of package bad: plain facts on badness, and the walks of the laws BadRises and BadEnds. -/
import Derived.Test.YtfiofmlfceknaaaBad
import Derived.Test.YtfiofmlfceknaaaTypesA
import Derived.Deep.QuietTactic
import Derived.BigQuiet
namespace Go.Proofs.Ytfiofmlfceknaaa
open Go.RowKit

theorem ediv_anti {n a b : Int} (hn : 0 ≤ n) (ha : 1 ≤ a) (hab : a ≤ b) : n / b ≤ n / a := by
  have hq : 0 ≤ n / b := Int.ediv_nonneg hn (by omega)
  rw [Int.le_ediv_iff_mul_le (by omega)]
  have h1 : n / b * a ≤ n / b * b := Int.mul_le_mul_of_nonneg_left hab hq
  have h2 : n / b * b ≤ n := Int.ediv_mul_le n (by omega)
  omega
theorem cube_mono {r s : Int} (h : r ≤ s) : cube r ≤ cube s := by
  by_cases hs : 1290 < s
  · rw [cu1 hs]; exact (cube_bounds r).2
  · by_cases hr : r < 1
    · rw [cu2 hr]; exact (cube_bounds s).1
    · rw [cu3 (r := r) (by omega) (by omega), cu3 (r := s) (by omega) (by omega)]
      have h1 : r * r ≤ s * s := Int.mul_le_mul h h (by omega) (by omega)
      have h2 : r * r * r ≤ s * s * s := Int.mul_le_mul h1 h (by omega) (sq_bd (r := s) (by omega) (by omega)).1
      omega
theorem quarter_eq {need has : Int} (h : 1 ≤ need) (h' : 1 ≤ has) (h2 : need ≤ 7230584) : quarter need has = if 1291 ≤ need * 297 / has then 1291 else need * 297 / has := by
  rw [qr0 (by unfold quarterRaw; rw [if_neg (by omega), if_neg (by omega), if_pos h2])]
theorem quarter_mono {need more has : Int} (h : need ≤ more) (hm : more ≤ 7230584) : quarter need has ≤ quarter more has := by
  by_cases h1 : need < 1
  · rw [qr1 h1]; exact (quarter_bounds _ _).1
  · by_cases h2 : has < 1
    · rw [qr2 (by omega) h2, qr2 (by omega) h2]; omega
    · rw [quarter_eq (by omega) (by omega) (by omega), quarter_eq (need := more) (by omega) (by omega) (by omega)]
      have : need * 297 / has ≤ more * 297 / has := Int.ediv_le_ediv (by omega) (by omega)
      split <;> split <;> omega
theorem quarter_anti {need has wider : Int} (hn : need ≤ 7230584) (h : has ≤ wider) : quarter need wider ≤ quarter need has := by
  by_cases h1 : need < 1
  · rw [qr1 h1, qr1 h1]; omega
  · by_cases h2 : has < 1
    · rw [qr2 (has := has) (by omega) h2]; exact (quarter_bounds _ _).2
    · rw [quarter_eq (by omega) (by omega) (by omega), quarter_eq (has := has) (by omega) (by omega) (by omega)]
      have : need * 297 / wider ≤ need * 297 / has := ediv_anti (by omega) (by omega) h
      split <;> split <;> omega
theorem badOf_mono {need more has : Int} (h : need ≤ more) (hm : more ≤ 7230584) : badOf need has ≤ badOf more has := cube_mono (quarter_mono h hm)
theorem badOf_anti {need has wider : Int} (hn : need ≤ 7230584) (h : has ≤ wider) : badOf need wider ≤ badOf need has := cube_mono (quarter_anti hn h)
theorem badOf_bounds (need has : Int) : 0 ≤ badOf need has ∧ badOf need has ≤ 10000 := cube_bounds _
theorem badOf_none {need has : Int} (h : need ≤ 0) : badOf need has = 0 := by
  unfold badOf; rw [qr1 (by omega)]; rfl
theorem badOf_most {need has : Int} (h : 1 ≤ need) (h' : has ≤ 0) : badOf need has = 10000 := by
  unfold badOf; rw [qr2 h (by omega)]; rfl
theorem badOf_just {need : Int} (h : 1 ≤ need) (h' : need ≤ 7230584) : badOf need need = 100 := by
  unfold badOf
  have e : need * 297 / need = 297 := Int.mul_ediv_cancel_left 297 (by omega)
  rw [qr4 h h h' (by omega), e]; rfl

set_option maxHeartbeats 400000 in
theorem badRises_any (l0 l1 l2 l3 : Int) (w : World) (b0 : -9223372036854775808 ≤ l0 ∧ l0 ≤ 9223372036854775807) (b1 : -9223372036854775808 ≤ l1 ∧ l1 ≤ 9223372036854775807) (b2 : -9223372036854775808 ≤ l2 ∧ l2 ≤ 9223372036854775807) (b3 : -9223372036854775808 ≤ l3 ∧ l3 ≤ 9223372036854775807) :
    Calls Try.prog 4 #[.agg #[.int .i64 l0, .int .i64 l1, .int .i64 l2, .int .i64 l3]] w fun e w' => e = .returned (.bool true) ∧ Kp w w' := by
  obtain ⟨b00, b01⟩ := b0; obtain ⟨b10, b11⟩ := b1; obtain ⟨b20, b21⟩ := b2; obtain ⟨b30, b31⟩ := b3
  by_cases g0 : 7230584 < l0
  · go_enter Try.func4, Try.ntmps4
    go_wp2
    go_quiet (fail)
    go_wp2_with (go_at_call 20; refine (awake_any _).mono ?_; rintro e w' ⟨rfl, hb⟩)
    go_ret
    exact ⟨rfl, (by (repeat (first | exact Kp.refl _ | assumption | refine Kp.drew ?_ | refine Kp.drewN ?_ _ | refine Kp.alloc ?_ _ | (refine Kp.setCell ?_ (by simp <;> omega) _) | (refine Kp.trans ?_ (by assumption)))))⟩
  by_cases g1 : 7230584 < l1
  · go_enter Try.func4, Try.ntmps4
    go_wp2
    go_quiet (fail)
    go_wp2_with (go_at_call 20; refine (awake_any _).mono ?_; rintro e w' ⟨rfl, hb⟩)
    go_ret
    exact ⟨rfl, (by (repeat (first | exact Kp.refl _ | assumption | refine Kp.drew ?_ | refine Kp.drewN ?_ _ | refine Kp.alloc ?_ _ | (refine Kp.setCell ?_ (by simp <;> omega) _) | (refine Kp.trans ?_ (by assumption)))))⟩
  by_cases g2 : l1 < l0
  · go_enter Try.func4, Try.ntmps4
    go_wp2
    go_quiet (fail)
    go_wp2_with (go_at_call 20; refine (awake_any _).mono ?_; rintro e w' ⟨rfl, hb⟩)
    go_ret
    exact ⟨rfl, (by (repeat (first | exact Kp.refl _ | assumption | refine Kp.drew ?_ | refine Kp.drewN ?_ _ | refine Kp.alloc ?_ _ | (refine Kp.setCell ?_ (by simp <;> omega) _) | (refine Kp.trans ?_ (by assumption)))))⟩
  by_cases g3 : l3 < l2
  · go_enter Try.func4, Try.ntmps4
    go_wp2
    go_quiet (fail)
    go_wp2_with (go_at_call 20; refine (awake_any _).mono ?_; rintro e w' ⟨rfl, hb⟩)
    go_ret
    exact ⟨rfl, (by (repeat (first | exact Kp.refl _ | assumption | refine Kp.drew ?_ | refine Kp.drewN ?_ _ | refine Kp.alloc ?_ _ | (refine Kp.setCell ?_ (by simp <;> omega) _) | (refine Kp.trans ?_ (by assumption)))))⟩
  · have m1 : badOf l0 l2 ≤ badOf l1 l2 := badOf_mono (by omega) (by omega)
    have m2 : badOf l0 l3 ≤ badOf l0 l2 := badOf_anti (by omega) (by omega)
    obtain ⟨m3, m4⟩ := badOf_bounds l0 l2
    go_enter Try.func4, Try.ntmps4
    go_wp2
    go_quiet (fail)
    go_wp2_with (first
      | (go_at_call 20; refine (awake_any _).mono ?_; rintro e w' ⟨rfl, hb⟩)
      | (go_at_call 14; refine (of_any _ _ _ (by omega) (by omega) (by omega) (by omega)).mono ?_; rintro e w' ⟨rfl, hb⟩))
    go_ret
    exact ⟨rfl, (by (repeat (first | exact Kp.refl _ | assumption | refine Kp.drew ?_ | refine Kp.drewN ?_ _ | refine Kp.alloc ?_ _ | (refine Kp.setCell ?_ (by simp <;> omega) _) | (refine Kp.trans ?_ (by assumption)))))⟩

set_option maxHeartbeats 400000 in
theorem badEnds_any (need has : Int) (hn : -9223372036854775808 ≤ need ∧ need ≤ 9223372036854775807) (hh : -9223372036854775808 ≤ has ∧ has ≤ 9223372036854775807) (w : World) :
    Calls Try.prog 5 #[.int .i64 need, .int .i64 has] w fun e w' => e = .returned (.bool true) ∧ Kp w w' := by
  obtain ⟨h0, h1⟩ := hn; obtain ⟨h2, h3⟩ := hh
  have e1 : (decide (need < 1) || (decide (7230584 < need) || badOf need need == 100)) = true := by
    by_cases k1 : need < 1
    · simp [k1]
    · by_cases k2 : 7230584 < need
      · simp [k2]
      · simp [badOf_just (need := need) (by omega) (by omega)]
  have E1 := Lib.hid e1; clear e1
  go_enter Try.func5, Try.ntmps5
  go_wp2_with (first
    | (go_at_call 14; refine (of_any _ _ _ (by omega) (by omega) (by omega) (by omega)).mono ?_; rintro e w' ⟨rfl, hb⟩; (try rw [badOf_none (by omega)]); (try rw [badOf_most (by omega) (by omega)]))
    | (go_at_call 20; refine (awake_any _).mono ?_; rintro e w' ⟨rfl, hb⟩))
  all_goals
    go_ret
    refine ⟨ret_bool ?_, (by (repeat (first | exact Kp.refl _ | assumption | refine Kp.drew ?_ | refine Kp.drewN ?_ _ | refine Kp.alloc ?_ _ | (refine Kp.setCell ?_ (by simp <;> omega) _) | (refine Kp.trans ?_ (by assumption)))))⟩
    have := E1.out
    first | rfl | (simp at this ⊢; omega)
theorem badRises_four (x : Four) (h : x.ok) (w : World) : Calls Try.prog 4 #[x.v] w fun e w' => e = .returned (.bool true) ∧ Kp w w' :=
  badRises_any x.a0 x.a1 x.a2 x.a3 w h.1 h.2.1 h.2.2.1 h.2.2.2
end Go.Proofs.Ytfiofmlfceknaaa
