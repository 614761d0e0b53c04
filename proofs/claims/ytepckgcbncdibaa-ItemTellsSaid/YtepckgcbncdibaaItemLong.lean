/- Whether three lengths may be. -/
import Derived.Test.YtepckgcbncdibaaItem
namespace Go.Proofs.Ytepckgcbncdibaa
open Go.RowKit

def badLen (n : Int) : Bool := decide (n < 0 ∨ 1073741823 < n)
theorem badLen_yes {n : Int} (h : n < 0 ∨ 1073741823 < n) : badLen n = true := by unfold badLen; simp; omega
theorem badLen_no {n : Int} (h : ¬ (n < 0 ∨ 1073741823 < n)) : badLen n = false := by unfold badLen; simp; omega
theorem long1_any (n : Int) (w : World) : Calls Try.prog 95 #[.int .i64 n] w fun e w' => e = .returned (.bool (badLen n)) ∧ w = w' := by
  by_cases h : n < 0
  · rw [badLen_yes (.inl h)]
    go_enter Try.func95, Try.ntmps95
    go_wp2
    go_ret
    exact ⟨rfl, rfl⟩
  · by_cases h2 : 1073741823 < n
    · rw [badLen_yes (.inr h2)]
      go_enter Try.func95, Try.ntmps95
      go_wp2
      go_ret
      exact ⟨rfl, rfl⟩
    · rw [badLen_no (by omega)]
      have h3 : decide (1073741823 < n) = false := decide_eq_false h2
      go_enter Try.func95, Try.ntmps95
      go_wp2
      go_ret
      exact ⟨rfl, rfl⟩
/-- The first of three that is not a length that may be. -/
def firstBad (a b c : Int) : Int := if badLen a = true then 0 else if badLen b = true then 1 else if badLen c = true then 2 else -1
set_option maxHeartbeats 1000000 in
theorem index3_any (p : Nat) (a b c : Int) (w : World) (c0 : w.cell? ⟨p, 0, none⟩ = some (.int .i64 a)) (c1 : w.cell? ⟨p, 1, none⟩ = some (.int .i64 b)) (c2 : w.cell? ⟨p, 2, none⟩ = some (.int .i64 c)) :
    Calls Try.prog 97 #[.slice (some ⟨p, 0, none⟩) 3 3, .func (Fn.func 95) #[] #[]] w fun e w' => e = .returned (.int .i64 (firstBad a b c)) ∧ w = w' := by
  have la := long1_any a; have lb := long1_any b; have lc := long1_any c
  unfold firstBad
  obtain ⟨x, hx⟩ : ∃ x, badLen a = x := ⟨_, rfl⟩
  obtain ⟨y, hy⟩ : ∃ x, badLen b = x := ⟨_, rfl⟩
  obtain ⟨z, hz⟩ : ∃ x, badLen c = x := ⟨_, rfl⟩
  rw [hx] at la ⊢; rw [hy] at lb ⊢; rw [hz] at lc ⊢
  have LA := Lib.hid la; have LB := Lib.hid lb; have LC := Lib.hid lc
  clear la lb lc hx hy hz
  cases x with
  | true =>
    go_enter Try.func97, Try.ntmps97
    go_wp2_with fail
    refine wp_loop_rounds 4 ?_
    repeat any_goals (rw [rounds_succ]; go_wp2_with (first
      | (go_at_call_of 95 (Value.int IntKind.i64 a); go_must (refine (LA.out _).mono ?_); rintro e w' ⟨rfl, rfl⟩)
      | (go_at_call_of 95 (Value.int IntKind.i64 b); go_must (refine (LB.out _).mono ?_); rintro e w' ⟨rfl, rfl⟩)
      | (go_at_call_of 95 (Value.int IntKind.i64 c); go_must (refine (LC.out _).mono ?_); rintro e w' ⟨rfl, rfl⟩)))
    go_ret
    exact ⟨rfl, rfl⟩
  | false =>
    cases y with
    | true =>
      go_enter Try.func97, Try.ntmps97
      go_wp2_with fail
      refine wp_loop_rounds 4 ?_
      repeat any_goals (rw [rounds_succ]; go_wp2_with (first
        | (go_at_call_of 95 (Value.int IntKind.i64 a); go_must (refine (LA.out _).mono ?_); rintro e w' ⟨rfl, rfl⟩)
        | (go_at_call_of 95 (Value.int IntKind.i64 b); go_must (refine (LB.out _).mono ?_); rintro e w' ⟨rfl, rfl⟩)
        | (go_at_call_of 95 (Value.int IntKind.i64 c); go_must (refine (LC.out _).mono ?_); rintro e w' ⟨rfl, rfl⟩)))
      go_ret
      exact ⟨rfl, rfl⟩
    | false =>
      cases z with
      | true =>
        go_enter Try.func97, Try.ntmps97
        go_wp2_with fail
        refine wp_loop_rounds 4 ?_
        repeat any_goals (rw [rounds_succ]; go_wp2_with (first
          | (go_at_call_of 95 (Value.int IntKind.i64 a); go_must (refine (LA.out _).mono ?_); rintro e w' ⟨rfl, rfl⟩)
          | (go_at_call_of 95 (Value.int IntKind.i64 b); go_must (refine (LB.out _).mono ?_); rintro e w' ⟨rfl, rfl⟩)
          | (go_at_call_of 95 (Value.int IntKind.i64 c); go_must (refine (LC.out _).mono ?_); rintro e w' ⟨rfl, rfl⟩)))
        go_ret
        exact ⟨rfl, rfl⟩
      | false =>
        go_enter Try.func97, Try.ntmps97
        go_wp2_with fail
        refine wp_loop_rounds 4 ?_
        repeat any_goals (rw [rounds_succ]; go_wp2_with (first
          | (go_at_call_of 95 (Value.int IntKind.i64 a); go_must (refine (LA.out _).mono ?_); rintro e w' ⟨rfl, rfl⟩)
          | (go_at_call_of 95 (Value.int IntKind.i64 b); go_must (refine (LB.out _).mono ?_); rintro e w' ⟨rfl, rfl⟩)
          | (go_at_call_of 95 (Value.int IntKind.i64 c); go_must (refine (LC.out _).mono ?_); rintro e w' ⟨rfl, rfl⟩)))
        go_ret
        exact ⟨rfl, rfl⟩

/-- May three lengths be? -/
def long3 (a b c : Int) : Bool := !badLen a && (!badLen b && !badLen c)
theorem firstBad_long (a b c : Int) : (!decide (0 ≤ firstBad a b c)) = long3 a b c := by
  unfold firstBad long3
  cases badLen a <;> cases badLen b <;> cases badLen c <;> rfl
theorem contains3_any (p : Nat) (a b c : Int) (w : World) (c0 : w.cell? ⟨p, 0, none⟩ = some (.int .i64 a)) (c1 : w.cell? ⟨p, 1, none⟩ = some (.int .i64 b)) (c2 : w.cell? ⟨p, 2, none⟩ = some (.int .i64 c)) :
    Calls Try.prog 94 #[.slice (some ⟨p, 0, none⟩) 3 3, .func (Fn.func 95) #[] #[]] w fun e w' => e = .returned (.bool (decide (0 ≤ firstBad a b c))) ∧ w = w' := by
  have IX := Lib.hid (index3_any p a b c w c0 c1 c2)
  clear c0 c1 c2
  go_enter Try.func94, Try.ntmps94
  go_wp2_with fail
  refine IX.out.mono ?_
  rintro e w' ⟨rfl, rfl⟩
  go_wp2
  go_ret
  exact ⟨ret_bool (by first | rfl | simp), rfl⟩
theorem long_any (p : Nat) (a b c : Int) (w : World) (c0 : w.cell? ⟨p, 0, none⟩ = some (.int .i64 a)) (c1 : w.cell? ⟨p, 1, none⟩ = some (.int .i64 b)) (c2 : w.cell? ⟨p, 2, none⟩ = some (.int .i64 c)) :
    Calls Try.prog 61 #[.slice (some ⟨p, 0, none⟩) 3 3] w fun e w' => e = .returned (.bool (long3 a b c)) ∧ w = w' := by
  have IX := Lib.hid (contains3_any p a b c w c0 c1 c2)
  have HE := Lib.hid (firstBad_long a b c)
  clear c0 c1 c2
  go_enter Try.func61, Try.ntmps61
  go_wp2_with fail
  refine IX.out.mono ?_
  rintro e w' ⟨rfl, rfl⟩
  go_wp2
  go_ret
  exact ⟨ret_bool (by rw [← HE.out]), rfl⟩
end Go.Proofs.Ytepckgcbncdibaa
