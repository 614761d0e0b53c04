/- Fair totals: the walks. -/
import Derived.Test.YteipfamaclildaaSumsP

import Derived.Deep.CutBlock

namespace Go.Proofs.Yteipfamaclildaa

open Go.RowKit

theorem fairOne_any (x : Int) (w : World) : Calls Try.prog 71 #[.int .i64 x] w fun e w' => e = .returned (.bool (inn 4294967296 x)) ∧ w = w' := by
  unfold inn
  by_cases h : 0 ≤ x
  · have h1 : decide (0 ≤ x) = true := decide_eq_true h
    rw [h1]
    go_enter Try.func71, Try.ntmps71
    go_wp2
    go_ret
    exact ⟨rfl, rfl⟩
  · have h1 : decide (0 ≤ x) = false := decide_eq_false h
    rw [h1]
    go_enter Try.func71, Try.ntmps71
    go_wp2
    go_ret
    exact ⟨rfl, rfl⟩
set_option maxHeartbeats 1000000 in
theorem fair_any (a0 a1 a2 a3 a4 a5 : Int) (w : World) : Calls Try.prog 45 #[.agg #[.int .i64 a0, .int .i64 a1, .int .i64 a2, .int .i64 a3, .int .i64 a4, .int .i64 a5]] w fun e w' => e = .returned (.bool (fairT ⟨a0, a1, a2, a3, a4, a5⟩)) ∧ Kp w w' := by
  unfold fairT
  simp only
  have f := fairOne_any
  obtain ⟨b1, h1⟩ : ∃ b, inn 4294967296 a1 = b := ⟨_, rfl⟩
  obtain ⟨b2, h2⟩ : ∃ b, inn 4294967296 a2 = b := ⟨_, rfl⟩
  obtain ⟨b3, h3⟩ : ∃ b, inn 4294967296 a3 = b := ⟨_, rfl⟩
  obtain ⟨b4, h4⟩ : ∃ b, inn 4294967296 a4 = b := ⟨_, rfl⟩
  obtain ⟨b0, h0⟩ : ∃ b, inn 4294967296 a0 = b := ⟨_, rfl⟩
  obtain ⟨b5, h5⟩ : ∃ b, inn 4294967296 a5 = b := ⟨_, rfl⟩
  have f0 := f a0; have f1 := f a1; have f2 := f a2; have f3 := f a3; have f4 := f a4; have f5 := f a5
  rw [h0] at f0 ⊢; rw [h1] at f1 ⊢; rw [h2] at f2 ⊢; rw [h3] at f3 ⊢; rw [h4] at f4 ⊢; rw [h5] at f5 ⊢
  have F0 := Lib.hid f0; have F1 := Lib.hid f1; have F2 := Lib.hid f2; have F3 := Lib.hid f3; have F4 := Lib.hid f4; have F5 := Lib.hid f5
  clear f f0 f1 f2 f3 f4 f5 h0 h1 h2 h3 h4 h5
  go_enter Try.func45, Try.ntmps45
  go_wp2
  refine wp_loop_rounds 5 ?_
  repeat any_goals (rw [rounds_succ]; go_wp2_with (first
    | ((go_at_call_of 71 (Value.int IntKind.i64 a1)); go_must (refine (F1.out _).mono ?_); rintro e w' ⟨rfl, rfl⟩; cases b1)
    | ((go_at_call_of 71 (Value.int IntKind.i64 a2)); go_must (refine (F2.out _).mono ?_); rintro e w' ⟨rfl, rfl⟩; cases b2)
    | ((go_at_call_of 71 (Value.int IntKind.i64 a3)); go_must (refine (F3.out _).mono ?_); rintro e w' ⟨rfl, rfl⟩; cases b3)
    | ((go_at_call_of 71 (Value.int IntKind.i64 a4)); go_must (refine (F4.out _).mono ?_); rintro e w' ⟨rfl, rfl⟩; cases b4)
    | ((go_at_call_of 71 (Value.int IntKind.i64 a0)); go_must (refine (F0.out _).mono ?_); rintro e w' ⟨rfl, rfl⟩; cases b0)
    | ((go_at_call_of 71 (Value.int IntKind.i64 a5)); go_must (refine (F5.out _).mono ?_); rintro e w' ⟨rfl, rfl⟩; cases b5)))
  all_goals go_ret
  all_goals exact ⟨ret_bool (by first | rfl | simp), (by (repeat (first | with_reducible assumption | with_reducible exact Kp.refl _ | with_reducible refine Kp.drew ?_ | with_reducible refine Kp.drewN ?_ _ | with_reducible refine Kp.alloc ?_ _ | ((with_reducible refine Kp.setCell ?_ ?_ _); rotate_left; (focus (first | omega | (simp; done) | (simp; omega)))) | with_reducible refine Kp.trans ?_ (by assumption))))⟩

theorem tri (x : Int) : (decide (x < 0) = false ∧ decide (4294967296 < x) = false ∧ decide (0 ≤ x) = true ∧ decide (x ≤ 4294967296) = true ∧ inn 4294967296 x = true) ∨
    (decide (x < 0) = true ∧ decide (4294967296 < x) = false ∧ decide (0 ≤ x) = false ∧ decide (x ≤ 4294967296) = true ∧ inn 4294967296 x = false) ∨
    (decide (x < 0) = false ∧ decide (4294967296 < x) = true ∧ decide (0 ≤ x) = true ∧ decide (x ≤ 4294967296) = false ∧ inn 4294967296 x = false) := by
  unfold inn
  by_cases h : x < 0
  · exact .inr (.inl ⟨decide_eq_true h, decide_eq_false (by omega), decide_eq_false (by omega), decide_eq_true (by omega), by rw [decide_eq_false (show ¬ 0 ≤ x by omega)]; rfl⟩)
  · by_cases h2 : 4294967296 < x
    · exact .inr (.inr ⟨decide_eq_false h, decide_eq_true h2, decide_eq_true (by omega), decide_eq_false (by omega), by rw [decide_eq_false (show ¬ x ≤ 4294967296 by omega)]; simp⟩)
    · exact .inl ⟨decide_eq_false h, decide_eq_false h2, decide_eq_true (by omega), decide_eq_true (by omega), by rw [decide_eq_true (show 0 ≤ x by omega), decide_eq_true (show x ≤ 4294967296 by omega)]; rfl⟩
set_option maxHeartbeats 4000000 in
theorem refFair_any (a0 a1 a2 a3 a4 a5 : Int) (w : World) : Calls Try.prog 47 #[.agg #[.int .i64 a0, .int .i64 a1, .int .i64 a2, .int .i64 a3, .int .i64 a4, .int .i64 a5]] w fun e w' => e = .returned (.bool (fairT ⟨a0, a1, a2, a3, a4, a5⟩)) ∧ Kp w w' := by
  rcases tri a1 with ⟨p1, q1, r1, s1, i1⟩ | ⟨p1, q1, r1, s1, i1⟩ | ⟨p1, q1, r1, s1, i1⟩
  rotate_left
  · have I : Hid (fairT ⟨a0, a1, a2, a3, a4, a5⟩ = false) := Lib.hid (by simp [fairT, i1])
    rw [I.out]
    clear I  i1
    go_enter Try.func47, Try.ntmps47
    go_wp2
    refine wp_loop_rounds 5 ?_
    repeat any_goals (rw [rounds_succ]; go_wp2)
    all_goals go_ret
    all_goals exact ⟨ret_bool (by first | rfl | simp), (by (repeat (first | with_reducible assumption | with_reducible exact Kp.refl _ | with_reducible refine Kp.drew ?_ | with_reducible refine Kp.drewN ?_ _ | with_reducible refine Kp.alloc ?_ _ | ((with_reducible refine Kp.setCell ?_ ?_ _); rotate_left; (focus (first | omega | (simp; done) | (simp; omega)))) | with_reducible refine Kp.trans ?_ (by assumption))))⟩
  · have I : Hid (fairT ⟨a0, a1, a2, a3, a4, a5⟩ = false) := Lib.hid (by simp [fairT, i1])
    rw [I.out]
    clear I  i1
    go_enter Try.func47, Try.ntmps47
    go_wp2
    refine wp_loop_rounds 5 ?_
    repeat any_goals (rw [rounds_succ]; go_wp2)
    all_goals go_ret
    all_goals exact ⟨ret_bool (by first | rfl | simp), (by (repeat (first | with_reducible assumption | with_reducible exact Kp.refl _ | with_reducible refine Kp.drew ?_ | with_reducible refine Kp.drewN ?_ _ | with_reducible refine Kp.alloc ?_ _ | ((with_reducible refine Kp.setCell ?_ ?_ _); rotate_left; (focus (first | omega | (simp; done) | (simp; omega)))) | with_reducible refine Kp.trans ?_ (by assumption))))⟩
  rcases tri a2 with ⟨p2, q2, r2, s2, i2⟩ | ⟨p2, q2, r2, s2, i2⟩ | ⟨p2, q2, r2, s2, i2⟩
  rotate_left
  · have I : Hid (fairT ⟨a0, a1, a2, a3, a4, a5⟩ = false) := Lib.hid (by simp [fairT, i1, i2])
    rw [I.out]
    clear I i1 i2
    go_enter Try.func47, Try.ntmps47
    go_wp2
    refine wp_loop_rounds 5 ?_
    repeat any_goals (rw [rounds_succ]; go_wp2)
    all_goals go_ret
    all_goals exact ⟨ret_bool (by first | rfl | simp), (by (repeat (first | with_reducible assumption | with_reducible exact Kp.refl _ | with_reducible refine Kp.drew ?_ | with_reducible refine Kp.drewN ?_ _ | with_reducible refine Kp.alloc ?_ _ | ((with_reducible refine Kp.setCell ?_ ?_ _); rotate_left; (focus (first | omega | (simp; done) | (simp; omega)))) | with_reducible refine Kp.trans ?_ (by assumption))))⟩
  · have I : Hid (fairT ⟨a0, a1, a2, a3, a4, a5⟩ = false) := Lib.hid (by simp [fairT, i1, i2])
    rw [I.out]
    clear I i1 i2
    go_enter Try.func47, Try.ntmps47
    go_wp2
    refine wp_loop_rounds 5 ?_
    repeat any_goals (rw [rounds_succ]; go_wp2)
    all_goals go_ret
    all_goals exact ⟨ret_bool (by first | rfl | simp), (by (repeat (first | with_reducible assumption | with_reducible exact Kp.refl _ | with_reducible refine Kp.drew ?_ | with_reducible refine Kp.drewN ?_ _ | with_reducible refine Kp.alloc ?_ _ | ((with_reducible refine Kp.setCell ?_ ?_ _); rotate_left; (focus (first | omega | (simp; done) | (simp; omega)))) | with_reducible refine Kp.trans ?_ (by assumption))))⟩
  rcases tri a3 with ⟨p3, q3, r3, s3, i3⟩ | ⟨p3, q3, r3, s3, i3⟩ | ⟨p3, q3, r3, s3, i3⟩
  rotate_left
  · have I : Hid (fairT ⟨a0, a1, a2, a3, a4, a5⟩ = false) := Lib.hid (by simp [fairT, i1, i2, i3])
    rw [I.out]
    clear I i1 i2 i3
    go_enter Try.func47, Try.ntmps47
    go_wp2
    refine wp_loop_rounds 5 ?_
    repeat any_goals (rw [rounds_succ]; go_wp2)
    all_goals go_ret
    all_goals exact ⟨ret_bool (by first | rfl | simp), (by (repeat (first | with_reducible assumption | with_reducible exact Kp.refl _ | with_reducible refine Kp.drew ?_ | with_reducible refine Kp.drewN ?_ _ | with_reducible refine Kp.alloc ?_ _ | ((with_reducible refine Kp.setCell ?_ ?_ _); rotate_left; (focus (first | omega | (simp; done) | (simp; omega)))) | with_reducible refine Kp.trans ?_ (by assumption))))⟩
  · have I : Hid (fairT ⟨a0, a1, a2, a3, a4, a5⟩ = false) := Lib.hid (by simp [fairT, i1, i2, i3])
    rw [I.out]
    clear I i1 i2 i3
    go_enter Try.func47, Try.ntmps47
    go_wp2
    refine wp_loop_rounds 5 ?_
    repeat any_goals (rw [rounds_succ]; go_wp2)
    all_goals go_ret
    all_goals exact ⟨ret_bool (by first | rfl | simp), (by (repeat (first | with_reducible assumption | with_reducible exact Kp.refl _ | with_reducible refine Kp.drew ?_ | with_reducible refine Kp.drewN ?_ _ | with_reducible refine Kp.alloc ?_ _ | ((with_reducible refine Kp.setCell ?_ ?_ _); rotate_left; (focus (first | omega | (simp; done) | (simp; omega)))) | with_reducible refine Kp.trans ?_ (by assumption))))⟩
  rcases tri a4 with ⟨p4, q4, r4, s4, i4⟩ | ⟨p4, q4, r4, s4, i4⟩ | ⟨p4, q4, r4, s4, i4⟩
  rotate_left
  · have I : Hid (fairT ⟨a0, a1, a2, a3, a4, a5⟩ = false) := Lib.hid (by simp [fairT, i1, i2, i3, i4])
    rw [I.out]
    clear I i1 i2 i3 i4
    go_enter Try.func47, Try.ntmps47
    go_wp2
    refine wp_loop_rounds 5 ?_
    repeat any_goals (rw [rounds_succ]; go_wp2)
    all_goals go_ret
    all_goals exact ⟨ret_bool (by first | rfl | simp), (by (repeat (first | with_reducible assumption | with_reducible exact Kp.refl _ | with_reducible refine Kp.drew ?_ | with_reducible refine Kp.drewN ?_ _ | with_reducible refine Kp.alloc ?_ _ | ((with_reducible refine Kp.setCell ?_ ?_ _); rotate_left; (focus (first | omega | (simp; done) | (simp; omega)))) | with_reducible refine Kp.trans ?_ (by assumption))))⟩
  · have I : Hid (fairT ⟨a0, a1, a2, a3, a4, a5⟩ = false) := Lib.hid (by simp [fairT, i1, i2, i3, i4])
    rw [I.out]
    clear I i1 i2 i3 i4
    go_enter Try.func47, Try.ntmps47
    go_wp2
    refine wp_loop_rounds 5 ?_
    repeat any_goals (rw [rounds_succ]; go_wp2)
    all_goals go_ret
    all_goals exact ⟨ret_bool (by first | rfl | simp), (by (repeat (first | with_reducible assumption | with_reducible exact Kp.refl _ | with_reducible refine Kp.drew ?_ | with_reducible refine Kp.drewN ?_ _ | with_reducible refine Kp.alloc ?_ _ | ((with_reducible refine Kp.setCell ?_ ?_ _); rotate_left; (focus (first | omega | (simp; done) | (simp; omega)))) | with_reducible refine Kp.trans ?_ (by assumption))))⟩
  rcases tri a0 with ⟨p0, q0, r0, s0, i0⟩ | ⟨p0, q0, r0, s0, i0⟩ | ⟨p0, q0, r0, s0, i0⟩
  rotate_left
  · have I : Hid (fairT ⟨a0, a1, a2, a3, a4, a5⟩ = false) := Lib.hid (by simp [fairT, i1, i2, i3, i4, i0])
    rw [I.out]
    clear I i1 i2 i3 i4 i0
    go_enter Try.func47, Try.ntmps47
    go_wp2
    refine wp_loop_rounds 5 ?_
    repeat any_goals (rw [rounds_succ]; go_wp2)
    all_goals go_ret
    all_goals exact ⟨ret_bool (by first | rfl | simp), (by (repeat (first | with_reducible assumption | with_reducible exact Kp.refl _ | with_reducible refine Kp.drew ?_ | with_reducible refine Kp.drewN ?_ _ | with_reducible refine Kp.alloc ?_ _ | ((with_reducible refine Kp.setCell ?_ ?_ _); rotate_left; (focus (first | omega | (simp; done) | (simp; omega)))) | with_reducible refine Kp.trans ?_ (by assumption))))⟩
  · have I : Hid (fairT ⟨a0, a1, a2, a3, a4, a5⟩ = false) := Lib.hid (by simp [fairT, i1, i2, i3, i4, i0])
    rw [I.out]
    clear I i1 i2 i3 i4 i0
    go_enter Try.func47, Try.ntmps47
    go_wp2
    refine wp_loop_rounds 5 ?_
    repeat any_goals (rw [rounds_succ]; go_wp2)
    all_goals go_ret
    all_goals exact ⟨ret_bool (by first | rfl | simp), (by (repeat (first | with_reducible assumption | with_reducible exact Kp.refl _ | with_reducible refine Kp.drew ?_ | with_reducible refine Kp.drewN ?_ _ | with_reducible refine Kp.alloc ?_ _ | ((with_reducible refine Kp.setCell ?_ ?_ _); rotate_left; (focus (first | omega | (simp; done) | (simp; omega)))) | with_reducible refine Kp.trans ?_ (by assumption))))⟩
  rcases tri a5 with ⟨p5, q5, r5, s5, i5⟩ | ⟨p5, q5, r5, s5, i5⟩ | ⟨p5, q5, r5, s5, i5⟩
  rotate_left
  · have I : Hid (fairT ⟨a0, a1, a2, a3, a4, a5⟩ = false) := Lib.hid (by simp [fairT, i1, i2, i3, i4, i0, i5])
    rw [I.out]
    clear I i1 i2 i3 i4 i0 i5
    go_enter Try.func47, Try.ntmps47
    go_wp2
    refine wp_loop_rounds 5 ?_
    repeat any_goals (rw [rounds_succ]; go_wp2)
    all_goals go_ret
    all_goals exact ⟨ret_bool (by first | rfl | simp), (by (repeat (first | with_reducible assumption | with_reducible exact Kp.refl _ | with_reducible refine Kp.drew ?_ | with_reducible refine Kp.drewN ?_ _ | with_reducible refine Kp.alloc ?_ _ | ((with_reducible refine Kp.setCell ?_ ?_ _); rotate_left; (focus (first | omega | (simp; done) | (simp; omega)))) | with_reducible refine Kp.trans ?_ (by assumption))))⟩
  · have I : Hid (fairT ⟨a0, a1, a2, a3, a4, a5⟩ = false) := Lib.hid (by simp [fairT, i1, i2, i3, i4, i0, i5])
    rw [I.out]
    clear I i1 i2 i3 i4 i0 i5
    go_enter Try.func47, Try.ntmps47
    go_wp2
    refine wp_loop_rounds 5 ?_
    repeat any_goals (rw [rounds_succ]; go_wp2)
    all_goals go_ret
    all_goals exact ⟨ret_bool (by first | rfl | simp), (by (repeat (first | with_reducible assumption | with_reducible exact Kp.refl _ | with_reducible refine Kp.drew ?_ | with_reducible refine Kp.drewN ?_ _ | with_reducible refine Kp.alloc ?_ _ | ((with_reducible refine Kp.setCell ?_ ?_ _); rotate_left; (focus (first | omega | (simp; done) | (simp; omega)))) | with_reducible refine Kp.trans ?_ (by assumption))))⟩
  have I : Hid (fairT ⟨a0, a1, a2, a3, a4, a5⟩ = true) := Lib.hid (by simp [fairT, i1, i2, i3, i4, i0, i5])
  rw [I.out]
  clear I i1 i2 i3 i4 i0 i5
  go_enter Try.func47, Try.ntmps47
  go_wp2
  refine wp_loop_rounds 5 ?_
  repeat any_goals (rw [rounds_succ]; go_wp2)
  all_goals go_ret
  all_goals exact ⟨ret_bool (by first | rfl | simp), (by (repeat (first | with_reducible assumption | with_reducible exact Kp.refl _ | with_reducible refine Kp.drew ?_ | with_reducible refine Kp.drewN ?_ _ | with_reducible refine Kp.alloc ?_ _ | ((with_reducible refine Kp.setCell ?_ ?_ _); rotate_left; (focus (first | omega | (simp; done) | (simp; omega)))) | with_reducible refine Kp.trans ?_ (by assumption))))⟩
end Go.Proofs.Yteipfamaclildaa
