/- tympanref10.Right at the kind 3: the walk. -/
import Derived.Test.YtepckgcbncdibaaItemLaw
import Derived.Test.YtepckgcbncdibaaItemRL
namespace Go.Proofs.Ytepckgcbncdibaa
open Go.RowKit

theorem itemOk3 (x1 x2 x3 x4 x5 x6 : Int) : itemOk 3 x1 x2 x3 x4 x5 x6 = (((3 : Int) == 3 && ((0 : Int) == x1 && ((0 : Int) == x2 && ((0 : Int) == x3 && ((0 : Int) == x4 && ((0 : Int) == x5 && ((x6 : Int) == x6))))))) && (penOk x6 && (long3 x1 x3 x5 && (upto 3 x2 && upto 3 x4)))) := rfl
set_option maxRecDepth 100000 in
set_option maxHeartbeats 4000000 in
theorem right3_any (x1 x2 x3 x4 x5 x6 : Int) (w : World) : Calls Try.prog 17 #[.agg #[.int .i64 3, .int .i64 x1, .int .i64 x2, .int .i64 x3, .int .i64 x4, .int .i64 x5, .int .i64 x6]] w fun e w' => e = .returned (.bool (itemOk 3 x1 x2 x3 x4 x5 x6)) ∧ Kp w w' := by
  rw [itemOk3]
  have eI : ∀ (d : Nat) (w : World) (s : Bool), (((3 : Int) == 3 && ((0 : Int) == x1 && ((0 : Int) == x2 && ((0 : Int) == x3 && ((0 : Int) == x4 && ((0 : Int) == x5 && ((x6 : Int) == x6))))))) = s) → (Op.equalIn (d + 2) 24 (.agg #[.int .i64 3, .int .i64 x1, .int .i64 x2, .int .i64 x3, .int .i64 x4, .int .i64 x5, .int .i64 x6]) (.agg #[.int .i64 3, .int .i64 0, .int .i64 0, .int .i64 0, .int .i64 0, .int .i64 0, .int .i64 x6])).run Try.prog w = .ok s w := fun d w s h => by
    rw [eqItem, ← h]
    congr 1
    rw [Bool.eq_iff_iff]
    constructor
    all_goals
      intro h
      simp at h ⊢
      try omega
  obtain ⟨b1, h1⟩ : ∃ b, badLen x1 = b := ⟨_, rfl⟩
  obtain ⟨b3, h3⟩ : ∃ b, badLen x3 = b := ⟨_, rfl⟩
  obtain ⟨b5, h5⟩ : ∃ b, badLen x5 = b := ⟨_, rfl⟩
  obtain ⟨sm, hs⟩ : ∃ b, ((3 : Int) == 3 && ((0 : Int) == x1 && ((0 : Int) == x2 && ((0 : Int) == x3 && ((0 : Int) == x4 && ((0 : Int) == x5 && ((x6 : Int) == x6))))))) = b := ⟨_, rfl⟩
  have eS := fun d w => eI d w sm hs
  rw [hs]
  unfold long3
  rw [h1, h3, h5]
  clear eI
  by_cases hn : penOk x6 = true
  rotate_left
  · have hp : ¬ x6 = -10000 ∧ (x6 < 0 ∨ 10000 < x6) := by
      refine ⟨fun h => hn (by unfold penOk; rw [h]; rfl), ?_⟩
      rcases Int.lt_or_le x6 0 with h | h
      · exact .inl h
      · exact .inr (by
          rcases Int.lt_or_le 10000 x6 with g | g
          · exact g
          · exact absurd (by unfold penOk; rw [upto_yes h g, Bool.or_true]) hn)
    obtain ⟨g1, g2⟩ := hp
    have g3 : (x6 != -10000) = true := by rw [bne_iff_ne]; exact g1
    rw [Bool.eq_false_iff.2 hn, Bool.false_and, Bool.and_false]
    clear hn hs
    by_cases g4 : x6 < 0
    · skip
      go_enter Try.func17, Try.ntmps17
      go_wp2_with (first
        | (go_at_call_of 69 (Value.int IntKind.i64 x1); go_must (refine (refLong_any _ _).mono ?_); rintro e w' ⟨rfl, rfl⟩; rw [h1])
        | (go_at_call_of 69 (Value.int IntKind.i64 x3); go_must (refine (refLong_any _ _).mono ?_); rintro e w' ⟨rfl, rfl⟩; rw [h3])
        | (go_at_call_of 69 (Value.int IntKind.i64 x5); go_must (refine (refLong_any _ _).mono ?_); rintro e w' ⟨rfl, rfl⟩; rw [h5]))
      go_ret
      exact ⟨ret_bool (by first | rfl | simp), (by (repeat (first | with_reducible assumption | with_reducible exact Kp.refl _ | with_reducible refine Kp.drew ?_ | with_reducible refine Kp.drewN ?_ _ | with_reducible refine Kp.alloc ?_ _ | ((with_reducible refine Kp.setCell ?_ ?_ _); rotate_left; (focus (first | omega | (simp; done) | (simp; omega)))) | with_reducible refine Kp.trans ?_ (by assumption))))⟩
    · have g5 : 10000 < x6 := by omega
      go_enter Try.func17, Try.ntmps17
      go_wp2_with (first
        | (go_at_call_of 69 (Value.int IntKind.i64 x1); go_must (refine (refLong_any _ _).mono ?_); rintro e w' ⟨rfl, rfl⟩; rw [h1])
        | (go_at_call_of 69 (Value.int IntKind.i64 x3); go_must (refine (refLong_any _ _).mono ?_); rintro e w' ⟨rfl, rfl⟩; rw [h3])
        | (go_at_call_of 69 (Value.int IntKind.i64 x5); go_must (refine (refLong_any _ _).mono ?_); rintro e w' ⟨rfl, rfl⟩; rw [h5]))
      go_ret
      exact ⟨ret_bool (by first | rfl | simp), (by (repeat (first | with_reducible assumption | with_reducible exact Kp.refl _ | with_reducible refine Kp.drew ?_ | with_reducible refine Kp.drewN ?_ _ | with_reducible refine Kp.alloc ?_ _ | ((with_reducible refine Kp.setCell ?_ ?_ _); rotate_left; (focus (first | omega | (simp; done) | (simp; omega)))) | with_reducible refine Kp.trans ?_ (by assumption))))⟩
  rw [hn, Bool.true_and]
  have hpen : x6 = -10000 ∨ (¬ x6 = -10000 ∧ ¬ x6 < 0 ∧ x6 ≤ 10000) := by
    by_cases g : x6 = -10000
    · exact .inl g
    · right
      unfold penOk at hn
      rw [beq_eq_false_iff_ne.2 g, Bool.false_or] at hn
      unfold upto at hn
      rw [decide_eq_true_eq] at hn
      exact ⟨g, by omega, hn.2⟩
  clear hn
  rcases hpen with hp | ⟨hp1, hp2, hp3⟩
  · have hp0 : (x6 != -10000) = false := by rw [hp]; rfl
    clear hp
    cases sm with
    | false =>
      clear hs
      rw [Bool.false_and]
      go_enter Try.func17, Try.ntmps17
      go_wp2_with (first
        | (go_at_call_of 69 (Value.int IntKind.i64 x1); go_must (refine (refLong_any _ _).mono ?_); rintro e w' ⟨rfl, rfl⟩; rw [h1])
        | (go_at_call_of 69 (Value.int IntKind.i64 x3); go_must (refine (refLong_any _ _).mono ?_); rintro e w' ⟨rfl, rfl⟩; rw [h3])
        | (go_at_call_of 69 (Value.int IntKind.i64 x5); go_must (refine (refLong_any _ _).mono ?_); rintro e w' ⟨rfl, rfl⟩; rw [h5]))
      go_ret
      exact ⟨ret_bool (by first | rfl | simp), (by (repeat (first | with_reducible assumption | with_reducible exact Kp.refl _ | with_reducible refine Kp.drew ?_ | with_reducible refine Kp.drewN ?_ _ | with_reducible refine Kp.alloc ?_ _ | ((with_reducible refine Kp.setCell ?_ ?_ _); rotate_left; (focus (first | omega | (simp; done) | (simp; omega)))) | with_reducible refine Kp.trans ?_ (by assumption))))⟩
    | true =>
      clear hs
      cases b1 with
      | true =>
        go_enter Try.func17, Try.ntmps17
        go_wp2_with (first
          | (go_at_call_of 69 (Value.int IntKind.i64 x1); go_must (refine (refLong_any _ _).mono ?_); rintro e w' ⟨rfl, rfl⟩; rw [h1])
          | (go_at_call_of 69 (Value.int IntKind.i64 x3); go_must (refine (refLong_any _ _).mono ?_); rintro e w' ⟨rfl, rfl⟩; rw [h3])
          | (go_at_call_of 69 (Value.int IntKind.i64 x5); go_must (refine (refLong_any _ _).mono ?_); rintro e w' ⟨rfl, rfl⟩; rw [h5]))
        go_ret
        exact ⟨ret_bool (by first | rfl | simp), (by (repeat (first | with_reducible assumption | with_reducible exact Kp.refl _ | with_reducible refine Kp.drew ?_ | with_reducible refine Kp.drewN ?_ _ | with_reducible refine Kp.alloc ?_ _ | ((with_reducible refine Kp.setCell ?_ ?_ _); rotate_left; (focus (first | omega | (simp; done) | (simp; omega)))) | with_reducible refine Kp.trans ?_ (by assumption))))⟩
      | false =>
        cases b3 with
        | true =>
          go_enter Try.func17, Try.ntmps17
          go_wp2_with (first
            | (go_at_call_of 69 (Value.int IntKind.i64 x1); go_must (refine (refLong_any _ _).mono ?_); rintro e w' ⟨rfl, rfl⟩; rw [h1])
            | (go_at_call_of 69 (Value.int IntKind.i64 x3); go_must (refine (refLong_any _ _).mono ?_); rintro e w' ⟨rfl, rfl⟩; rw [h3])
            | (go_at_call_of 69 (Value.int IntKind.i64 x5); go_must (refine (refLong_any _ _).mono ?_); rintro e w' ⟨rfl, rfl⟩; rw [h5]))
          go_ret
          exact ⟨ret_bool (by first | rfl | simp), (by (repeat (first | with_reducible assumption | with_reducible exact Kp.refl _ | with_reducible refine Kp.drew ?_ | with_reducible refine Kp.drewN ?_ _ | with_reducible refine Kp.alloc ?_ _ | ((with_reducible refine Kp.setCell ?_ ?_ _); rotate_left; (focus (first | omega | (simp; done) | (simp; omega)))) | with_reducible refine Kp.trans ?_ (by assumption))))⟩
        | false =>
          cases b5 with
          | true =>
            go_enter Try.func17, Try.ntmps17
            go_wp2_with (first
              | (go_at_call_of 69 (Value.int IntKind.i64 x1); go_must (refine (refLong_any _ _).mono ?_); rintro e w' ⟨rfl, rfl⟩; rw [h1])
              | (go_at_call_of 69 (Value.int IntKind.i64 x3); go_must (refine (refLong_any _ _).mono ?_); rintro e w' ⟨rfl, rfl⟩; rw [h3])
              | (go_at_call_of 69 (Value.int IntKind.i64 x5); go_must (refine (refLong_any _ _).mono ?_); rintro e w' ⟨rfl, rfl⟩; rw [h5]))
            go_ret
            exact ⟨ret_bool (by first | rfl | simp), (by (repeat (first | with_reducible assumption | with_reducible exact Kp.refl _ | with_reducible refine Kp.drew ?_ | with_reducible refine Kp.drewN ?_ _ | with_reducible refine Kp.alloc ?_ _ | ((with_reducible refine Kp.setCell ?_ ?_ _); rotate_left; (focus (first | omega | (simp; done) | (simp; omega)))) | with_reducible refine Kp.trans ?_ (by assumption))))⟩
          | false =>
            by_cases lox2 : x2 < 0
            · have ex2 : upto 3 x2 = false := upto_no (.inl lox2)
              rw [ex2]
              go_enter Try.func17, Try.ntmps17
              go_wp2_with (first
                | (go_at_call_of 69 (Value.int IntKind.i64 x1); go_must (refine (refLong_any _ _).mono ?_); rintro e w' ⟨rfl, rfl⟩; rw [h1])
                | (go_at_call_of 69 (Value.int IntKind.i64 x3); go_must (refine (refLong_any _ _).mono ?_); rintro e w' ⟨rfl, rfl⟩; rw [h3])
                | (go_at_call_of 69 (Value.int IntKind.i64 x5); go_must (refine (refLong_any _ _).mono ?_); rintro e w' ⟨rfl, rfl⟩; rw [h5]))
              go_ret
              exact ⟨ret_bool (by first | rfl | simp), (by (repeat (first | with_reducible assumption | with_reducible exact Kp.refl _ | with_reducible refine Kp.drew ?_ | with_reducible refine Kp.drewN ?_ _ | with_reducible refine Kp.alloc ?_ _ | ((with_reducible refine Kp.setCell ?_ ?_ _); rotate_left; (focus (first | omega | (simp; done) | (simp; omega)))) | with_reducible refine Kp.trans ?_ (by assumption))))⟩
            by_cases hix2 : 3 < x2
            · have ex2 : upto 3 x2 = false := upto_no (.inr hix2)
              rw [ex2]
              have dx2 : decide (x2 ≤ 3) = false := by rw [decide_eq_false_iff_not]; omega
              go_enter Try.func17, Try.ntmps17
              go_wp2_with (first
                | (go_at_call_of 69 (Value.int IntKind.i64 x1); go_must (refine (refLong_any _ _).mono ?_); rintro e w' ⟨rfl, rfl⟩; rw [h1])
                | (go_at_call_of 69 (Value.int IntKind.i64 x3); go_must (refine (refLong_any _ _).mono ?_); rintro e w' ⟨rfl, rfl⟩; rw [h3])
                | (go_at_call_of 69 (Value.int IntKind.i64 x5); go_must (refine (refLong_any _ _).mono ?_); rintro e w' ⟨rfl, rfl⟩; rw [h5]))
              go_ret
              exact ⟨ret_bool (by first | rfl | simp), (by (repeat (first | with_reducible assumption | with_reducible exact Kp.refl _ | with_reducible refine Kp.drew ?_ | with_reducible refine Kp.drewN ?_ _ | with_reducible refine Kp.alloc ?_ _ | ((with_reducible refine Kp.setCell ?_ ?_ _); rotate_left; (focus (first | omega | (simp; done) | (simp; omega)))) | with_reducible refine Kp.trans ?_ (by assumption))))⟩
            have ex2 : upto 3 x2 = true := upto_yes (by omega) (by omega)
            rw [ex2]
            have fx2 : x2 ≤ 3 := by omega
            have gx2 : 0 ≤ x2 := by omega
            by_cases lox4 : x4 < 0
            · have ex4 : upto 3 x4 = false := upto_no (.inl lox4)
              rw [ex4]
              go_enter Try.func17, Try.ntmps17
              go_wp2_with (first
                | (go_at_call_of 69 (Value.int IntKind.i64 x1); go_must (refine (refLong_any _ _).mono ?_); rintro e w' ⟨rfl, rfl⟩; rw [h1])
                | (go_at_call_of 69 (Value.int IntKind.i64 x3); go_must (refine (refLong_any _ _).mono ?_); rintro e w' ⟨rfl, rfl⟩; rw [h3])
                | (go_at_call_of 69 (Value.int IntKind.i64 x5); go_must (refine (refLong_any _ _).mono ?_); rintro e w' ⟨rfl, rfl⟩; rw [h5]))
              go_ret
              exact ⟨ret_bool (by first | rfl | simp), (by (repeat (first | with_reducible assumption | with_reducible exact Kp.refl _ | with_reducible refine Kp.drew ?_ | with_reducible refine Kp.drewN ?_ _ | with_reducible refine Kp.alloc ?_ _ | ((with_reducible refine Kp.setCell ?_ ?_ _); rotate_left; (focus (first | omega | (simp; done) | (simp; omega)))) | with_reducible refine Kp.trans ?_ (by assumption))))⟩
            by_cases hix4 : 3 < x4
            · have ex4 : upto 3 x4 = false := upto_no (.inr hix4)
              rw [ex4]
              have dx4 : decide (x4 ≤ 3) = false := by rw [decide_eq_false_iff_not]; omega
              go_enter Try.func17, Try.ntmps17
              go_wp2_with (first
                | (go_at_call_of 69 (Value.int IntKind.i64 x1); go_must (refine (refLong_any _ _).mono ?_); rintro e w' ⟨rfl, rfl⟩; rw [h1])
                | (go_at_call_of 69 (Value.int IntKind.i64 x3); go_must (refine (refLong_any _ _).mono ?_); rintro e w' ⟨rfl, rfl⟩; rw [h3])
                | (go_at_call_of 69 (Value.int IntKind.i64 x5); go_must (refine (refLong_any _ _).mono ?_); rintro e w' ⟨rfl, rfl⟩; rw [h5]))
              go_ret
              exact ⟨ret_bool (by first | rfl | simp), (by (repeat (first | with_reducible assumption | with_reducible exact Kp.refl _ | with_reducible refine Kp.drew ?_ | with_reducible refine Kp.drewN ?_ _ | with_reducible refine Kp.alloc ?_ _ | ((with_reducible refine Kp.setCell ?_ ?_ _); rotate_left; (focus (first | omega | (simp; done) | (simp; omega)))) | with_reducible refine Kp.trans ?_ (by assumption))))⟩
            have ex4 : upto 3 x4 = true := upto_yes (by omega) (by omega)
            rw [ex4]
            have fx4 : x4 ≤ 3 := by omega
            have gx4 : 0 ≤ x4 := by omega
            go_enter Try.func17, Try.ntmps17
            go_wp2_with (first
              | (go_at_call_of 69 (Value.int IntKind.i64 x1); go_must (refine (refLong_any _ _).mono ?_); rintro e w' ⟨rfl, rfl⟩; rw [h1])
              | (go_at_call_of 69 (Value.int IntKind.i64 x3); go_must (refine (refLong_any _ _).mono ?_); rintro e w' ⟨rfl, rfl⟩; rw [h3])
              | (go_at_call_of 69 (Value.int IntKind.i64 x5); go_must (refine (refLong_any _ _).mono ?_); rintro e w' ⟨rfl, rfl⟩; rw [h5]))
            go_ret
            exact ⟨ret_bool (by first | rfl | simp), (by (repeat (first | with_reducible assumption | with_reducible exact Kp.refl _ | with_reducible refine Kp.drew ?_ | with_reducible refine Kp.drewN ?_ _ | with_reducible refine Kp.alloc ?_ _ | ((with_reducible refine Kp.setCell ?_ ?_ _); rotate_left; (focus (first | omega | (simp; done) | (simp; omega)))) | with_reducible refine Kp.trans ?_ (by assumption))))⟩
  · have hp0 : (x6 != -10000) = true := by rw [bne_iff_ne]; exact hp1
    have hp4 : decide (10000 < x6) = false := by rw [decide_eq_false_iff_not]; omega
    cases sm with
    | false =>
      clear hs
      rw [Bool.false_and]
      go_enter Try.func17, Try.ntmps17
      go_wp2_with (first
        | (go_at_call_of 69 (Value.int IntKind.i64 x1); go_must (refine (refLong_any _ _).mono ?_); rintro e w' ⟨rfl, rfl⟩; rw [h1])
        | (go_at_call_of 69 (Value.int IntKind.i64 x3); go_must (refine (refLong_any _ _).mono ?_); rintro e w' ⟨rfl, rfl⟩; rw [h3])
        | (go_at_call_of 69 (Value.int IntKind.i64 x5); go_must (refine (refLong_any _ _).mono ?_); rintro e w' ⟨rfl, rfl⟩; rw [h5]))
      go_ret
      exact ⟨ret_bool (by first | rfl | simp), (by (repeat (first | with_reducible assumption | with_reducible exact Kp.refl _ | with_reducible refine Kp.drew ?_ | with_reducible refine Kp.drewN ?_ _ | with_reducible refine Kp.alloc ?_ _ | ((with_reducible refine Kp.setCell ?_ ?_ _); rotate_left; (focus (first | omega | (simp; done) | (simp; omega)))) | with_reducible refine Kp.trans ?_ (by assumption))))⟩
    | true =>
      clear hs
      cases b1 with
      | true =>
        go_enter Try.func17, Try.ntmps17
        go_wp2_with (first
          | (go_at_call_of 69 (Value.int IntKind.i64 x1); go_must (refine (refLong_any _ _).mono ?_); rintro e w' ⟨rfl, rfl⟩; rw [h1])
          | (go_at_call_of 69 (Value.int IntKind.i64 x3); go_must (refine (refLong_any _ _).mono ?_); rintro e w' ⟨rfl, rfl⟩; rw [h3])
          | (go_at_call_of 69 (Value.int IntKind.i64 x5); go_must (refine (refLong_any _ _).mono ?_); rintro e w' ⟨rfl, rfl⟩; rw [h5]))
        go_ret
        exact ⟨ret_bool (by first | rfl | simp), (by (repeat (first | with_reducible assumption | with_reducible exact Kp.refl _ | with_reducible refine Kp.drew ?_ | with_reducible refine Kp.drewN ?_ _ | with_reducible refine Kp.alloc ?_ _ | ((with_reducible refine Kp.setCell ?_ ?_ _); rotate_left; (focus (first | omega | (simp; done) | (simp; omega)))) | with_reducible refine Kp.trans ?_ (by assumption))))⟩
      | false =>
        cases b3 with
        | true =>
          go_enter Try.func17, Try.ntmps17
          go_wp2_with (first
            | (go_at_call_of 69 (Value.int IntKind.i64 x1); go_must (refine (refLong_any _ _).mono ?_); rintro e w' ⟨rfl, rfl⟩; rw [h1])
            | (go_at_call_of 69 (Value.int IntKind.i64 x3); go_must (refine (refLong_any _ _).mono ?_); rintro e w' ⟨rfl, rfl⟩; rw [h3])
            | (go_at_call_of 69 (Value.int IntKind.i64 x5); go_must (refine (refLong_any _ _).mono ?_); rintro e w' ⟨rfl, rfl⟩; rw [h5]))
          go_ret
          exact ⟨ret_bool (by first | rfl | simp), (by (repeat (first | with_reducible assumption | with_reducible exact Kp.refl _ | with_reducible refine Kp.drew ?_ | with_reducible refine Kp.drewN ?_ _ | with_reducible refine Kp.alloc ?_ _ | ((with_reducible refine Kp.setCell ?_ ?_ _); rotate_left; (focus (first | omega | (simp; done) | (simp; omega)))) | with_reducible refine Kp.trans ?_ (by assumption))))⟩
        | false =>
          cases b5 with
          | true =>
            go_enter Try.func17, Try.ntmps17
            go_wp2_with (first
              | (go_at_call_of 69 (Value.int IntKind.i64 x1); go_must (refine (refLong_any _ _).mono ?_); rintro e w' ⟨rfl, rfl⟩; rw [h1])
              | (go_at_call_of 69 (Value.int IntKind.i64 x3); go_must (refine (refLong_any _ _).mono ?_); rintro e w' ⟨rfl, rfl⟩; rw [h3])
              | (go_at_call_of 69 (Value.int IntKind.i64 x5); go_must (refine (refLong_any _ _).mono ?_); rintro e w' ⟨rfl, rfl⟩; rw [h5]))
            go_ret
            exact ⟨ret_bool (by first | rfl | simp), (by (repeat (first | with_reducible assumption | with_reducible exact Kp.refl _ | with_reducible refine Kp.drew ?_ | with_reducible refine Kp.drewN ?_ _ | with_reducible refine Kp.alloc ?_ _ | ((with_reducible refine Kp.setCell ?_ ?_ _); rotate_left; (focus (first | omega | (simp; done) | (simp; omega)))) | with_reducible refine Kp.trans ?_ (by assumption))))⟩
          | false =>
            by_cases lox2 : x2 < 0
            · have ex2 : upto 3 x2 = false := upto_no (.inl lox2)
              rw [ex2]
              go_enter Try.func17, Try.ntmps17
              go_wp2_with (first
                | (go_at_call_of 69 (Value.int IntKind.i64 x1); go_must (refine (refLong_any _ _).mono ?_); rintro e w' ⟨rfl, rfl⟩; rw [h1])
                | (go_at_call_of 69 (Value.int IntKind.i64 x3); go_must (refine (refLong_any _ _).mono ?_); rintro e w' ⟨rfl, rfl⟩; rw [h3])
                | (go_at_call_of 69 (Value.int IntKind.i64 x5); go_must (refine (refLong_any _ _).mono ?_); rintro e w' ⟨rfl, rfl⟩; rw [h5]))
              go_ret
              exact ⟨ret_bool (by first | rfl | simp), (by (repeat (first | with_reducible assumption | with_reducible exact Kp.refl _ | with_reducible refine Kp.drew ?_ | with_reducible refine Kp.drewN ?_ _ | with_reducible refine Kp.alloc ?_ _ | ((with_reducible refine Kp.setCell ?_ ?_ _); rotate_left; (focus (first | omega | (simp; done) | (simp; omega)))) | with_reducible refine Kp.trans ?_ (by assumption))))⟩
            by_cases hix2 : 3 < x2
            · have ex2 : upto 3 x2 = false := upto_no (.inr hix2)
              rw [ex2]
              have dx2 : decide (x2 ≤ 3) = false := by rw [decide_eq_false_iff_not]; omega
              go_enter Try.func17, Try.ntmps17
              go_wp2_with (first
                | (go_at_call_of 69 (Value.int IntKind.i64 x1); go_must (refine (refLong_any _ _).mono ?_); rintro e w' ⟨rfl, rfl⟩; rw [h1])
                | (go_at_call_of 69 (Value.int IntKind.i64 x3); go_must (refine (refLong_any _ _).mono ?_); rintro e w' ⟨rfl, rfl⟩; rw [h3])
                | (go_at_call_of 69 (Value.int IntKind.i64 x5); go_must (refine (refLong_any _ _).mono ?_); rintro e w' ⟨rfl, rfl⟩; rw [h5]))
              go_ret
              exact ⟨ret_bool (by first | rfl | simp), (by (repeat (first | with_reducible assumption | with_reducible exact Kp.refl _ | with_reducible refine Kp.drew ?_ | with_reducible refine Kp.drewN ?_ _ | with_reducible refine Kp.alloc ?_ _ | ((with_reducible refine Kp.setCell ?_ ?_ _); rotate_left; (focus (first | omega | (simp; done) | (simp; omega)))) | with_reducible refine Kp.trans ?_ (by assumption))))⟩
            have ex2 : upto 3 x2 = true := upto_yes (by omega) (by omega)
            rw [ex2]
            have fx2 : x2 ≤ 3 := by omega
            have gx2 : 0 ≤ x2 := by omega
            by_cases lox4 : x4 < 0
            · have ex4 : upto 3 x4 = false := upto_no (.inl lox4)
              rw [ex4]
              go_enter Try.func17, Try.ntmps17
              go_wp2_with (first
                | (go_at_call_of 69 (Value.int IntKind.i64 x1); go_must (refine (refLong_any _ _).mono ?_); rintro e w' ⟨rfl, rfl⟩; rw [h1])
                | (go_at_call_of 69 (Value.int IntKind.i64 x3); go_must (refine (refLong_any _ _).mono ?_); rintro e w' ⟨rfl, rfl⟩; rw [h3])
                | (go_at_call_of 69 (Value.int IntKind.i64 x5); go_must (refine (refLong_any _ _).mono ?_); rintro e w' ⟨rfl, rfl⟩; rw [h5]))
              go_ret
              exact ⟨ret_bool (by first | rfl | simp), (by (repeat (first | with_reducible assumption | with_reducible exact Kp.refl _ | with_reducible refine Kp.drew ?_ | with_reducible refine Kp.drewN ?_ _ | with_reducible refine Kp.alloc ?_ _ | ((with_reducible refine Kp.setCell ?_ ?_ _); rotate_left; (focus (first | omega | (simp; done) | (simp; omega)))) | with_reducible refine Kp.trans ?_ (by assumption))))⟩
            by_cases hix4 : 3 < x4
            · have ex4 : upto 3 x4 = false := upto_no (.inr hix4)
              rw [ex4]
              have dx4 : decide (x4 ≤ 3) = false := by rw [decide_eq_false_iff_not]; omega
              go_enter Try.func17, Try.ntmps17
              go_wp2_with (first
                | (go_at_call_of 69 (Value.int IntKind.i64 x1); go_must (refine (refLong_any _ _).mono ?_); rintro e w' ⟨rfl, rfl⟩; rw [h1])
                | (go_at_call_of 69 (Value.int IntKind.i64 x3); go_must (refine (refLong_any _ _).mono ?_); rintro e w' ⟨rfl, rfl⟩; rw [h3])
                | (go_at_call_of 69 (Value.int IntKind.i64 x5); go_must (refine (refLong_any _ _).mono ?_); rintro e w' ⟨rfl, rfl⟩; rw [h5]))
              go_ret
              exact ⟨ret_bool (by first | rfl | simp), (by (repeat (first | with_reducible assumption | with_reducible exact Kp.refl _ | with_reducible refine Kp.drew ?_ | with_reducible refine Kp.drewN ?_ _ | with_reducible refine Kp.alloc ?_ _ | ((with_reducible refine Kp.setCell ?_ ?_ _); rotate_left; (focus (first | omega | (simp; done) | (simp; omega)))) | with_reducible refine Kp.trans ?_ (by assumption))))⟩
            have ex4 : upto 3 x4 = true := upto_yes (by omega) (by omega)
            rw [ex4]
            have fx4 : x4 ≤ 3 := by omega
            have gx4 : 0 ≤ x4 := by omega
            go_enter Try.func17, Try.ntmps17
            go_wp2_with (first
              | (go_at_call_of 69 (Value.int IntKind.i64 x1); go_must (refine (refLong_any _ _).mono ?_); rintro e w' ⟨rfl, rfl⟩; rw [h1])
              | (go_at_call_of 69 (Value.int IntKind.i64 x3); go_must (refine (refLong_any _ _).mono ?_); rintro e w' ⟨rfl, rfl⟩; rw [h3])
              | (go_at_call_of 69 (Value.int IntKind.i64 x5); go_must (refine (refLong_any _ _).mono ?_); rintro e w' ⟨rfl, rfl⟩; rw [h5]))
            go_ret
            exact ⟨ret_bool (by first | rfl | simp), (by (repeat (first | with_reducible assumption | with_reducible exact Kp.refl _ | with_reducible refine Kp.drew ?_ | with_reducible refine Kp.drewN ?_ _ | with_reducible refine Kp.alloc ?_ _ | ((with_reducible refine Kp.setCell ?_ ?_ _); rotate_left; (focus (first | omega | (simp; done) | (simp; omega)))) | with_reducible refine Kp.trans ?_ (by assumption))))⟩
end Go.Proofs.Ytepckgcbncdibaa
