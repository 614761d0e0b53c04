/- tympanref10.Right at the kind 2: the walk. -/
import Derived.Test.YtepckgcbncdibaaItemLaw
import Derived.Test.YtepckgcbncdibaaItemRL
namespace Go.Proofs.Ytepckgcbncdibaa
open Go.RowKit

theorem itemOk2 (x1 x2 x3 x4 x5 x6 : Int) : itemOk 2 x1 x2 x3 x4 x5 x6 = (((2 : Int) == 2 && ((x1 : Int) == x1 && ((0 : Int) == x2 && ((x3 : Int) == x3 && ((x4 : Int) == x4 && ((x5 : Int) == x5 && ((0 : Int) == x6))))))) && (upto 0 x6 && (long3 x1 x3 x5 && (upto 3 x2 && (upto 3 x4 && !decide (x1 < x5)))))) := rfl
set_option maxRecDepth 100000 in
set_option maxHeartbeats 4000000 in
theorem right2_any (x1 x2 x3 x4 x5 x6 : Int) (w : World) : Calls Try.prog 17 #[.agg #[.int .i64 2, .int .i64 x1, .int .i64 x2, .int .i64 x3, .int .i64 x4, .int .i64 x5, .int .i64 x6]] w fun e w' => e = .returned (.bool (itemOk 2 x1 x2 x3 x4 x5 x6)) ∧ Kp w w' := by
  rw [itemOk2]
  have eI : ∀ (d : Nat) (w : World) (s : Bool), (((2 : Int) == 2 && ((x1 : Int) == x1 && ((0 : Int) == x2 && ((x3 : Int) == x3 && ((x4 : Int) == x4 && ((x5 : Int) == x5 && ((0 : Int) == x6))))))) = s) → (Op.equalIn (d + 2) 24 (.agg #[.int .i64 2, .int .i64 x1, .int .i64 x2, .int .i64 x3, .int .i64 x4, .int .i64 x5, .int .i64 x6]) (.agg #[.int .i64 2, .int .i64 x1, .int .i64 0, .int .i64 x3, .int .i64 x4, .int .i64 x5, .int .i64 0])).run Try.prog w = .ok s w := fun d w s h => by
    rw [eqItem, ← h]
    congr 1
    rw [Bool.eq_iff_iff]
    constructor
    all_goals
      intro h
      simp at h ⊢
      try omega
  obtain ⟨b1, h1⟩ : ∃ b, badLen x1 = b := ⟨_, rfl⟩
  obtain ⟨b3, h3⟩ : ∃ b, badLen x3 = b := ⟨_, rfl⟩
  obtain ⟨b5, h5⟩ : ∃ b, badLen x5 = b := ⟨_, rfl⟩
  obtain ⟨sm, hs⟩ : ∃ b, ((2 : Int) == 2 && ((x1 : Int) == x1 && ((0 : Int) == x2 && ((x3 : Int) == x3 && ((x4 : Int) == x4 && ((x5 : Int) == x5 && ((0 : Int) == x6))))))) = b := ⟨_, rfl⟩
  have eS := fun d w => eI d w sm hs
  rw [hs]
  unfold long3
  rw [h1, h3, h5]
  clear eI
  have hn : sm = true → upto 0 x6 = true := fun h => by
    rw [h] at hs
    simp only [Bool.and_eq_true, beq_iff_eq] at hs
    exact upto_yes (by omega) (by omega)
  cases sm with
  | false =>
    clear hs
    rw [Bool.false_and]
    go_enter Try.func17, Try.ntmps17
    go_wp2_with (first
      | (go_at_call_of 69 (Value.int IntKind.i64 x1); go_must (refine (refLong_any _ _).mono ?_); rintro e w' ⟨rfl, rfl⟩; rw [h1])
      | (go_at_call_of 69 (Value.int IntKind.i64 x3); go_must (refine (refLong_any _ _).mono ?_); rintro e w' ⟨rfl, rfl⟩; rw [h3])
      | (go_at_call_of 69 (Value.int IntKind.i64 x5); go_must (refine (refLong_any _ _).mono ?_); rintro e w' ⟨rfl, rfl⟩; rw [h5]))
    go_ret
    exact ⟨ret_bool (by first | rfl | simp), (by (repeat (first | with_reducible assumption | with_reducible exact Kp.refl _ | with_reducible refine Kp.drew ?_ | with_reducible refine Kp.drewN ?_ _ | with_reducible refine Kp.alloc ?_ _ | ((with_reducible refine Kp.setCell ?_ ?_ _); rotate_left; (focus (first | omega | (simp; done) | (simp; omega)))) | with_reducible refine Kp.trans ?_ (by assumption))))⟩
  | true =>
    rw [hn rfl]
    clear hn
    clear hs
    cases b1 with
    | true =>
      go_enter Try.func17, Try.ntmps17
      go_wp2_with (first
        | (go_at_call_of 69 (Value.int IntKind.i64 x1); go_must (refine (refLong_any _ _).mono ?_); rintro e w' ⟨rfl, rfl⟩; rw [h1])
        | (go_at_call_of 69 (Value.int IntKind.i64 x3); go_must (refine (refLong_any _ _).mono ?_); rintro e w' ⟨rfl, rfl⟩; rw [h3])
        | (go_at_call_of 69 (Value.int IntKind.i64 x5); go_must (refine (refLong_any _ _).mono ?_); rintro e w' ⟨rfl, rfl⟩; rw [h5]))
      go_ret
      exact ⟨ret_bool (by first | rfl | simp), (by (repeat (first | with_reducible assumption | with_reducible exact Kp.refl _ | with_reducible refine Kp.drew ?_ | with_reducible refine Kp.drewN ?_ _ | with_reducible refine Kp.alloc ?_ _ | ((with_reducible refine Kp.setCell ?_ ?_ _); rotate_left; (focus (first | omega | (simp; done) | (simp; omega)))) | with_reducible refine Kp.trans ?_ (by assumption))))⟩
    | false =>
      cases b3 with
      | true =>
        go_enter Try.func17, Try.ntmps17
        go_wp2_with (first
          | (go_at_call_of 69 (Value.int IntKind.i64 x1); go_must (refine (refLong_any _ _).mono ?_); rintro e w' ⟨rfl, rfl⟩; rw [h1])
          | (go_at_call_of 69 (Value.int IntKind.i64 x3); go_must (refine (refLong_any _ _).mono ?_); rintro e w' ⟨rfl, rfl⟩; rw [h3])
          | (go_at_call_of 69 (Value.int IntKind.i64 x5); go_must (refine (refLong_any _ _).mono ?_); rintro e w' ⟨rfl, rfl⟩; rw [h5]))
        go_ret
        exact ⟨ret_bool (by first | rfl | simp), (by (repeat (first | with_reducible assumption | with_reducible exact Kp.refl _ | with_reducible refine Kp.drew ?_ | with_reducible refine Kp.drewN ?_ _ | with_reducible refine Kp.alloc ?_ _ | ((with_reducible refine Kp.setCell ?_ ?_ _); rotate_left; (focus (first | omega | (simp; done) | (simp; omega)))) | with_reducible refine Kp.trans ?_ (by assumption))))⟩
      | false =>
        cases b5 with
        | true =>
          go_enter Try.func17, Try.ntmps17
          go_wp2_with (first
            | (go_at_call_of 69 (Value.int IntKind.i64 x1); go_must (refine (refLong_any _ _).mono ?_); rintro e w' ⟨rfl, rfl⟩; rw [h1])
            | (go_at_call_of 69 (Value.int IntKind.i64 x3); go_must (refine (refLong_any _ _).mono ?_); rintro e w' ⟨rfl, rfl⟩; rw [h3])
            | (go_at_call_of 69 (Value.int IntKind.i64 x5); go_must (refine (refLong_any _ _).mono ?_); rintro e w' ⟨rfl, rfl⟩; rw [h5]))
          go_ret
          exact ⟨ret_bool (by first | rfl | simp), (by (repeat (first | with_reducible assumption | with_reducible exact Kp.refl _ | with_reducible refine Kp.drew ?_ | with_reducible refine Kp.drewN ?_ _ | with_reducible refine Kp.alloc ?_ _ | ((with_reducible refine Kp.setCell ?_ ?_ _); rotate_left; (focus (first | omega | (simp; done) | (simp; omega)))) | with_reducible refine Kp.trans ?_ (by assumption))))⟩
        | false =>
          by_cases lox2 : x2 < 0
          · have ex2 : upto 3 x2 = false := upto_no (.inl lox2)
            rw [ex2]
            go_enter Try.func17, Try.ntmps17
            go_wp2_with (first
              | (go_at_call_of 69 (Value.int IntKind.i64 x1); go_must (refine (refLong_any _ _).mono ?_); rintro e w' ⟨rfl, rfl⟩; rw [h1])
              | (go_at_call_of 69 (Value.int IntKind.i64 x3); go_must (refine (refLong_any _ _).mono ?_); rintro e w' ⟨rfl, rfl⟩; rw [h3])
              | (go_at_call_of 69 (Value.int IntKind.i64 x5); go_must (refine (refLong_any _ _).mono ?_); rintro e w' ⟨rfl, rfl⟩; rw [h5]))
            go_ret
            exact ⟨ret_bool (by first | rfl | simp), (by (repeat (first | with_reducible assumption | with_reducible exact Kp.refl _ | with_reducible refine Kp.drew ?_ | with_reducible refine Kp.drewN ?_ _ | with_reducible refine Kp.alloc ?_ _ | ((with_reducible refine Kp.setCell ?_ ?_ _); rotate_left; (focus (first | omega | (simp; done) | (simp; omega)))) | with_reducible refine Kp.trans ?_ (by assumption))))⟩
          by_cases hix2 : 3 < x2
          · have ex2 : upto 3 x2 = false := upto_no (.inr hix2)
            rw [ex2]
            have dx2 : decide (x2 ≤ 3) = false := by rw [decide_eq_false_iff_not]; omega
            go_enter Try.func17, Try.ntmps17
            go_wp2_with (first
              | (go_at_call_of 69 (Value.int IntKind.i64 x1); go_must (refine (refLong_any _ _).mono ?_); rintro e w' ⟨rfl, rfl⟩; rw [h1])
              | (go_at_call_of 69 (Value.int IntKind.i64 x3); go_must (refine (refLong_any _ _).mono ?_); rintro e w' ⟨rfl, rfl⟩; rw [h3])
              | (go_at_call_of 69 (Value.int IntKind.i64 x5); go_must (refine (refLong_any _ _).mono ?_); rintro e w' ⟨rfl, rfl⟩; rw [h5]))
            go_ret
            exact ⟨ret_bool (by first | rfl | simp), (by (repeat (first | with_reducible assumption | with_reducible exact Kp.refl _ | with_reducible refine Kp.drew ?_ | with_reducible refine Kp.drewN ?_ _ | with_reducible refine Kp.alloc ?_ _ | ((with_reducible refine Kp.setCell ?_ ?_ _); rotate_left; (focus (first | omega | (simp; done) | (simp; omega)))) | with_reducible refine Kp.trans ?_ (by assumption))))⟩
          have ex2 : upto 3 x2 = true := upto_yes (by omega) (by omega)
          rw [ex2]
          have fx2 : x2 ≤ 3 := by omega
          have gx2 : 0 ≤ x2 := by omega
          by_cases lox4 : x4 < 0
          · have ex4 : upto 3 x4 = false := upto_no (.inl lox4)
            rw [ex4]
            go_enter Try.func17, Try.ntmps17
            go_wp2_with (first
              | (go_at_call_of 69 (Value.int IntKind.i64 x1); go_must (refine (refLong_any _ _).mono ?_); rintro e w' ⟨rfl, rfl⟩; rw [h1])
              | (go_at_call_of 69 (Value.int IntKind.i64 x3); go_must (refine (refLong_any _ _).mono ?_); rintro e w' ⟨rfl, rfl⟩; rw [h3])
              | (go_at_call_of 69 (Value.int IntKind.i64 x5); go_must (refine (refLong_any _ _).mono ?_); rintro e w' ⟨rfl, rfl⟩; rw [h5]))
            go_ret
            exact ⟨ret_bool (by first | rfl | simp), (by (repeat (first | with_reducible assumption | with_reducible exact Kp.refl _ | with_reducible refine Kp.drew ?_ | with_reducible refine Kp.drewN ?_ _ | with_reducible refine Kp.alloc ?_ _ | ((with_reducible refine Kp.setCell ?_ ?_ _); rotate_left; (focus (first | omega | (simp; done) | (simp; omega)))) | with_reducible refine Kp.trans ?_ (by assumption))))⟩
          by_cases hix4 : 3 < x4
          · have ex4 : upto 3 x4 = false := upto_no (.inr hix4)
            rw [ex4]
            have dx4 : decide (x4 ≤ 3) = false := by rw [decide_eq_false_iff_not]; omega
            go_enter Try.func17, Try.ntmps17
            go_wp2_with (first
              | (go_at_call_of 69 (Value.int IntKind.i64 x1); go_must (refine (refLong_any _ _).mono ?_); rintro e w' ⟨rfl, rfl⟩; rw [h1])
              | (go_at_call_of 69 (Value.int IntKind.i64 x3); go_must (refine (refLong_any _ _).mono ?_); rintro e w' ⟨rfl, rfl⟩; rw [h3])
              | (go_at_call_of 69 (Value.int IntKind.i64 x5); go_must (refine (refLong_any _ _).mono ?_); rintro e w' ⟨rfl, rfl⟩; rw [h5]))
            go_ret
            exact ⟨ret_bool (by first | rfl | simp), (by (repeat (first | with_reducible assumption | with_reducible exact Kp.refl _ | with_reducible refine Kp.drew ?_ | with_reducible refine Kp.drewN ?_ _ | with_reducible refine Kp.alloc ?_ _ | ((with_reducible refine Kp.setCell ?_ ?_ _); rotate_left; (focus (first | omega | (simp; done) | (simp; omega)))) | with_reducible refine Kp.trans ?_ (by assumption))))⟩
          have ex4 : upto 3 x4 = true := upto_yes (by omega) (by omega)
          rw [ex4]
          have fx4 : x4 ≤ 3 := by omega
          have gx4 : 0 ≤ x4 := by omega
          by_cases hr : x1 < x5
          · rw [decide_eq_true hr]
            have dr : decide (x5 ≤ x1) = false := by rw [decide_eq_false_iff_not]; omega
            go_enter Try.func17, Try.ntmps17
            go_wp2_with (first
              | (go_at_call_of 69 (Value.int IntKind.i64 x1); go_must (refine (refLong_any _ _).mono ?_); rintro e w' ⟨rfl, rfl⟩; rw [h1])
              | (go_at_call_of 69 (Value.int IntKind.i64 x3); go_must (refine (refLong_any _ _).mono ?_); rintro e w' ⟨rfl, rfl⟩; rw [h3])
              | (go_at_call_of 69 (Value.int IntKind.i64 x5); go_must (refine (refLong_any _ _).mono ?_); rintro e w' ⟨rfl, rfl⟩; rw [h5]))
            go_ret
            exact ⟨ret_bool (by first | rfl | simp), (by (repeat (first | with_reducible assumption | with_reducible exact Kp.refl _ | with_reducible refine Kp.drew ?_ | with_reducible refine Kp.drewN ?_ _ | with_reducible refine Kp.alloc ?_ _ | ((with_reducible refine Kp.setCell ?_ ?_ _); rotate_left; (focus (first | omega | (simp; done) | (simp; omega)))) | with_reducible refine Kp.trans ?_ (by assumption))))⟩
          rw [decide_eq_false hr]
          have dr : x5 ≤ x1 := by omega
          go_enter Try.func17, Try.ntmps17
          go_wp2_with (first
            | (go_at_call_of 69 (Value.int IntKind.i64 x1); go_must (refine (refLong_any _ _).mono ?_); rintro e w' ⟨rfl, rfl⟩; rw [h1])
            | (go_at_call_of 69 (Value.int IntKind.i64 x3); go_must (refine (refLong_any _ _).mono ?_); rintro e w' ⟨rfl, rfl⟩; rw [h3])
            | (go_at_call_of 69 (Value.int IntKind.i64 x5); go_must (refine (refLong_any _ _).mono ?_); rintro e w' ⟨rfl, rfl⟩; rw [h5]))
          go_ret
          exact ⟨ret_bool (by first | rfl | simp), (by (repeat (first | with_reducible assumption | with_reducible exact Kp.refl _ | with_reducible refine Kp.drew ?_ | with_reducible refine Kp.drewN ?_ _ | with_reducible refine Kp.alloc ?_ _ | ((with_reducible refine Kp.setCell ?_ ?_ _); rotate_left; (focus (first | omega | (simp; done) | (simp; omega)))) | with_reducible refine Kp.trans ?_ (by assumption))))⟩
end Go.Proofs.Ytepckgcbncdibaa
