/- Packages cost and tympanref04: the walks. -/
import Derived.Test.YtfiofmlfceknaaaHeld
import Derived.Test.YtfiofmlfceknaaaTypesA
import Derived.Test.YtfiofmlfceknaaaSl
import Derived.Laws.StructEq
import Derived.IntWalk
namespace Go.Proofs.Ytfiofmlfceknaaa
open Go.RowKit

/-- A number from 0 to where sums stop. -/
def held (n : Int) : Int := if n < 0 then 0 else if 1125899906842624 < n then 1125899906842624 else n
theorem held_bounds (n : Int) : 0 ≤ held n ∧ held n ≤ 1125899906842624 := by unfold held; split; · omega
                                                                             · split <;> omega
theorem held_low {n : Int} (h : n < 0) : held n = 0 := by unfold held; rw [if_pos h]
theorem held_high {n : Int} (h : 1125899906842624 < n) : held n = 1125899906842624 := by unfold held; rw [if_neg (by omega), if_pos h]
theorem held_in {n : Int} (h : 0 ≤ n) (h' : n ≤ 1125899906842624) : held n = n := by unfold held; rw [if_neg (by omega), if_neg (by omega)]
/-- Sums that stop. -/
def add1 (a b : Int) : Int := held (held a + held b)

set_option maxHeartbeats 400000 in
theorem heldI_any (n : Int) (w : World) : Calls Try.prog 82 #[.int .i64 n] w fun e w' => e = .returned (.int .i64 (held n)) ∧ w = w' := by
  by_cases h0 : n < 0
  · go_enter Try.func82, Try.ntmps82
    go_wp2
    all_goals
      go_ret
      exact ⟨ret_int (by first | rw [held_low h0] | (rw [held_low h0]; omega)), rfl⟩
  · by_cases h1 : 1125899906842624 < n
    · go_enter Try.func82, Try.ntmps82
      go_wp2
      all_goals
        go_ret
        exact ⟨ret_int (by rw [held_high h1]), rfl⟩
    · go_enter Try.func82, Try.ntmps82
      go_wp2
      all_goals
        go_ret
        exact ⟨ret_int (by rw [held_in (by omega) (by omega)]; try omega), rfl⟩

set_option maxHeartbeats 400000 in
theorem heldJ_any (n : Int) (w : World) : Calls Try.prog 83 #[.int .i64 n] w fun e w' => e = .returned (.int .i64 (held n)) ∧ w = w' := by
  by_cases h0 : n < 0
  · go_enter Try.func83, Try.ntmps83
    go_wp2
    all_goals
      go_ret
      exact ⟨ret_int (by first | rw [held_low h0] | (rw [held_low h0]; omega)), rfl⟩
  · by_cases h1 : 1125899906842624 < n
    · go_enter Try.func83, Try.ntmps83
      go_wp2
      all_goals
        go_ret
        exact ⟨ret_int (by rw [held_high h1]), rfl⟩
    · go_enter Try.func83, Try.ntmps83
      go_wp2
      all_goals
        go_ret
        exact ⟨ret_int (by rw [held_in (by omega) (by omega)]; try omega), rfl⟩

set_option maxHeartbeats 400000 in
theorem refHeld_any (n : Int) (w : World) : Calls Try.prog 71 #[.int .i64 n] w fun e w' => e = .returned (.int .i64 (held n)) ∧ w = w' := by
  by_cases h0 : n < 0
  · go_enter Try.func71, Try.ntmps71
    go_wp2
    all_goals
      go_ret
      exact ⟨ret_int (by first | rw [held_low h0] | (rw [held_low h0]; omega)), rfl⟩
  · by_cases h1 : 1125899906842624 < n
    · go_enter Try.func71, Try.ntmps71
      go_wp2
      all_goals
        go_ret
        exact ⟨ret_int (by rw [held_high h1]), rfl⟩
    · go_enter Try.func71, Try.ntmps71
      go_wp2
      all_goals
        go_ret
        exact ⟨ret_int (by rw [held_in (by omega) (by omega)]; try omega), rfl⟩

set_option maxHeartbeats 400000 in
theorem addI_any (a b : Int) (w : World) : Calls Try.prog 67 #[.int .i64 a, .int .i64 b] w fun e w' => e = .returned (.int .i64 (add1 a b)) ∧ w = w' := by
  obtain ⟨h0, h1⟩ := held_bounds a
  obtain ⟨h2, h3⟩ := held_bounds b
  go_enter Try.func67, Try.ntmps67
  go_wp2_with fail
  refine (heldI_any _ _).mono ?_
  rintro e w1 ⟨rfl, rfl⟩
  go_wp2_with fail
  refine (heldI_any _ _).mono ?_
  rintro e w1 ⟨rfl, rfl⟩
  go_wp2_with fail
  refine (heldI_any _ _).mono ?_
  rintro e w1 ⟨rfl, rfl⟩
  go_wp2
  go_ret
  exact ⟨rfl, rfl⟩

set_option maxHeartbeats 400000 in
theorem addJ_any (a b : Int) (w : World) : Calls Try.prog 68 #[.int .i64 a, .int .i64 b] w fun e w' => e = .returned (.int .i64 (add1 a b)) ∧ w = w' := by
  obtain ⟨h0, h1⟩ := held_bounds a
  obtain ⟨h2, h3⟩ := held_bounds b
  go_enter Try.func68, Try.ntmps68
  go_wp2_with fail
  refine (heldJ_any _ _).mono ?_
  rintro e w1 ⟨rfl, rfl⟩
  go_wp2_with fail
  refine (heldJ_any _ _).mono ?_
  rintro e w1 ⟨rfl, rfl⟩
  go_wp2_with fail
  refine (heldJ_any _ _).mono ?_
  rintro e w1 ⟨rfl, rfl⟩
  go_wp2
  go_ret
  exact ⟨rfl, rfl⟩

set_option maxHeartbeats 400000 in
theorem costAdd_any (a0 a1 b0 b1 : Int) (w : World) : Calls Try.prog 40 #[.agg #[.int .i64 a0, .int .i64 a1], .agg #[.int .i64 b0, .int .i64 b1]] w fun e w' => e = .returned (.agg #[.int .i64 (add1 a0 b0), .int .i64 (add1 a1 b1)]) ∧ Kp w w' := by
  go_enter Try.func40, Try.ntmps40
  go_wp2
  go_region_held3 (fun w' => w'.cell? ⟨w.heap.size, 0, none⟩ = some (.int .i64 a0) ∧ w'.cell? ⟨w.heap.size, 1, none⟩ = some (.int .i64 a1) ∧ w'.cell? ⟨w.heap.size + 1, 0, none⟩ = some (.int .i64 b0) ∧ w'.cell? ⟨w.heap.size + 1, 1, none⟩ = some (.int .i64 b1)) (first | with_reducible assumption | (go_simp; done)) (first
    | (go_at_call 67; go_must (refine (addI_any _ _ _).mono ?_); rintro e w' ⟨rfl, rfl⟩)
    | (go_at_call 68; go_must (refine (addJ_any _ _ _).mono ?_); rintro e w' ⟨rfl, rfl⟩))
  all_goals
    go_wp2
    exact bodyPost_ret (v := .agg #[.int .i64 (add1 a0 b0), .int .i64 (add1 a1 b1)]) (by simp [results, Try.results40, go_sem]) rfl ⟨rfl, (by (repeat (first | with_reducible assumption | with_reducible exact Kp.refl _ | with_reducible refine Kp.drew ?_ | with_reducible refine Kp.drewN ?_ _ | with_reducible refine Kp.alloc ?_ _ | ((with_reducible refine Kp.setCell ?_ ?_ _); rotate_left; (focus (first | omega | (simp; done) | (simp; omega)))) | with_reducible refine Kp.trans ?_ (by assumption))))⟩

set_option maxHeartbeats 1000000 in
theorem refCostAdd_any (a0 a1 b0 b1 : Int) (w : World) (_i0 : I64 a0) (_i1 : I64 a1) (_i2 : I64 b0) (_i3 : I64 b1) : Calls Try.prog 47 #[.agg #[.int .i64 a0, .int .i64 a1], .agg #[.int .i64 b0, .int .i64 b1]] w fun e w' => e = .returned (.agg #[.int .i64 (add1 a0 b0), .int .i64 (add1 a1 b1)]) ∧ Kp w w' := by
  obtain ⟨h0, h1⟩ := held_bounds a0
  obtain ⟨h2, h3⟩ := held_bounds b0
  obtain ⟨h4, h5⟩ := held_bounds a1
  obtain ⟨h6, h7⟩ := held_bounds b1
  have q0 : IntKind.i64.wrap (held a0 + held b0) = held a0 + held b0 := IntWalk.i64_in _ (by omega)
  have q1 : IntKind.i64.wrap (held a1 + held b1) = held a1 + held b1 := IntWalk.i64_in _ (by omega)
  go_enter Try.func47, Try.ntmps47
  go_wp2
  go_region_held3 (fun w' => w'.cell? ⟨w.heap.size, 0, none⟩ = some (.int .i64 a0) ∧ w'.cell? ⟨w.heap.size, 1, none⟩ = some (.int .i64 a1) ∧ w'.cell? ⟨w.heap.size + 1, 0, none⟩ = some (.int .i64 b0) ∧ w'.cell? ⟨w.heap.size + 1, 1, none⟩ = some (.int .i64 b1)) (first | with_reducible assumption | (go_simp; done)) (first
    | (go_at_call 71; go_must (refine (refHeld_any _ _).mono ?_); rintro e w' ⟨rfl, rfl⟩))
  all_goals
    go_wp2
    exact bodyPost_ret (v := .agg #[.int .i64 (held (held a0 + held b0)), .int .i64 (held (held a1 + held b1))]) (by simp [results, Try.results47, go_sem]) rfl ⟨rfl, (by (repeat (first | with_reducible assumption | with_reducible exact Kp.refl _ | with_reducible refine Kp.drew ?_ | with_reducible refine Kp.drewN ?_ _ | with_reducible refine Kp.alloc ?_ _ | ((with_reducible refine Kp.setCell ?_ ?_ _); rotate_left; (focus (first | omega | (simp; done) | (simp; omega)))) | with_reducible refine Kp.trans ?_ (by assumption))))⟩

def cmp3 (a b : Int) : Int := if a < b then -1 else if b < a then 1 else 0
set_option maxHeartbeats 400000 in
theorem cmpI_any (a b : Int) (w : World) : Calls Try.prog 85 #[.int .i64 a, .int .i64 b] w fun e w' => e = .returned (.int .i64 (cmp3 a b)) ∧ w = w' := by
  rcases Int.lt_trichotomy a b with h | h | h
  · have e1 : cmp3 a b = -1 := by unfold cmp3; rw [if_pos h]
    have E := Lib.hid e1; clear e1
    go_enter Try.func85, Try.ntmps85
    go_wp2
    go_ret
    exact ⟨ret_int E.out.symm, rfl⟩
  · have e1 : cmp3 a b = 0 := by unfold cmp3; rw [if_neg (by omega), if_neg (by omega)]
    have E := Lib.hid e1; clear e1
    have k1 : ¬ a < b := by omega
    have k2 : ¬ b < a := by omega
    clear h
    go_enter Try.func85, Try.ntmps85
    go_wp2
    go_ret
    exact ⟨ret_int E.out.symm, rfl⟩
  · have e1 : cmp3 a b = 1 := by unfold cmp3; rw [if_neg (by omega), if_pos h]
    have E := Lib.hid e1; clear e1
    go_enter Try.func85, Try.ntmps85
    go_wp2
    go_ret
    exact ⟨ret_int E.out.symm, rfl⟩

set_option maxHeartbeats 400000 in
theorem cmpJ_any (a b : Int) (w : World) : Calls Try.prog 86 #[.int .i64 a, .int .i64 b] w fun e w' => e = .returned (.int .i64 (cmp3 a b)) ∧ w = w' := by
  rcases Int.lt_trichotomy a b with h | h | h
  · have e1 : cmp3 a b = -1 := by unfold cmp3; rw [if_pos h]
    have E := Lib.hid e1; clear e1
    go_enter Try.func86, Try.ntmps86
    go_wp2
    go_ret
    exact ⟨ret_int E.out.symm, rfl⟩
  · have e1 : cmp3 a b = 0 := by unfold cmp3; rw [if_neg (by omega), if_neg (by omega)]
    have E := Lib.hid e1; clear e1
    have k1 : ¬ a < b := by omega
    have k2 : ¬ b < a := by omega
    clear h
    go_enter Try.func86, Try.ntmps86
    go_wp2
    go_ret
    exact ⟨ret_int E.out.symm, rfl⟩
  · have e1 : cmp3 a b = 1 := by unfold cmp3; rw [if_neg (by omega), if_pos h]
    have E := Lib.hid e1; clear e1
    go_enter Try.func86, Try.ntmps86
    go_wp2
    go_ret
    exact ⟨ret_int E.out.symm, rfl⟩

theorem cmp3_bounds (a b : Int) : -1 ≤ cmp3 a b ∧ cmp3 a b ≤ 1 := by
  unfold cmp3
  by_cases h : a < b
  · rw [if_pos h]; omega
  · rw [if_neg h]
    by_cases h' : b < a
    · rw [if_pos h']; omega
    · rw [if_neg h']; omega
/-- The first that is not 0. -/
def or2 (x y : Int) : Int := if x ≠ 0 then x else y
set_option maxHeartbeats 400000 in
theorem or_any (b : Nat) (x y : Int) (w : World) (c0 : w.cell? ⟨b, 0, none⟩ = some (.int .i64 x)) (c1 : w.cell? ⟨b, 1, none⟩ = some (.int .i64 y)) :
    Calls Try.prog 84 #[.slice (some ⟨b, 0, none⟩) 2 2] w fun e w' => e = .returned (.int .i64 (or2 x y)) ∧ w = w' := by
  cases hx : (x == 0) with
  | true =>
    have hn : (x != 0) = false := by simp [bne, hx]
    have e1 : or2 x y = y := by rw [beq_iff_eq] at hx; unfold or2; rw [if_neg (by simp [hx])]
    have E := Lib.hid e1; clear e1
    cases hy : (y == 0) with
    | true =>
      have hm : (y != 0) = false := by simp [bne, hy]
      have e2 : y = 0 := by rwa [beq_iff_eq] at hy
      have F := Lib.hid e2; clear e2
      go_enter Try.func84, Try.ntmps84
      go_wp2
      go_rounds 3
      go_ret
      exact ⟨ret_int (E.out.trans F.out).symm, rfl⟩
    | false =>
      have hm : (y != 0) = true := by simp [bne, hy]
      go_enter Try.func84, Try.ntmps84
      go_wp2
      go_rounds 3
      go_ret
      exact ⟨ret_int E.out.symm, rfl⟩
  | false =>
    have hn : (x != 0) = true := by simp [bne, hx]
    have e1 : or2 x y = x := by unfold or2; rw [if_pos (by simpa using hx)]
    have E := Lib.hid e1; clear e1
    go_enter Try.func84, Try.ntmps84
    go_wp2
    go_rounds 3
    go_ret
    exact ⟨ret_int E.out.symm, rfl⟩

def cmpC (a0 a1 b0 b1 : Int) : Int := or2 (cmp3 a0 b0) (cmp3 a1 b1)
theorem cmpC_bounds (a0 a1 b0 b1 : Int) : -1 ≤ cmpC a0 a1 b0 b1 ∧ cmpC a0 a1 b0 b1 ≤ 1 := by
  have h1 := cmp3_bounds a0 b0; have h2 := cmp3_bounds a1 b1
  unfold cmpC or2
  by_cases h : cmp3 a0 b0 ≠ 0
  · rw [if_pos h]; exact h1
  · rw [if_neg h]; exact h2
set_option maxHeartbeats 400000 in
theorem orderCmp_any (a0 a1 b0 b1 : Int) (w : World) : Calls Try.prog 69 #[.agg #[.int .i64 a0, .int .i64 a1], .agg #[.int .i64 b0, .int .i64 b1]] w fun e w' => e = .returned (.int .i64 (cmpC a0 a1 b0 b1)) ∧ Kp w w' := by
  go_enter Try.func69, Try.ntmps69
  go_wp2
  go_region_held3 (fun w' => w'.cell? ⟨w.heap.size, 0, none⟩ = some (.int .i64 a0) ∧ w'.cell? ⟨w.heap.size, 1, none⟩ = some (.int .i64 a1) ∧ w'.cell? ⟨w.heap.size + 1, 0, none⟩ = some (.int .i64 b0) ∧ w'.cell? ⟨w.heap.size + 1, 1, none⟩ = some (.int .i64 b1)) (first | with_reducible assumption | (go_simp; done)) (first
    | (go_at_call 85; go_must (refine (cmpI_any _ _ _).mono ?_); rintro e w' ⟨rfl, rfl⟩)
    | (go_at_call 86; go_must (refine (cmpJ_any _ _ _).mono ?_); rintro e w' ⟨rfl, rfl⟩)
    | (go_at_call 84; go_must (refine (or_any _ _ _ _ (by go_simp; rfl) (by go_simp; rfl)).mono ?_); rintro e w' ⟨rfl, rfl⟩))
  all_goals
    go_wp2
    go_ret
    exact ⟨rfl, (by (repeat (first | with_reducible assumption | with_reducible exact Kp.refl _ | with_reducible refine Kp.drew ?_ | with_reducible refine Kp.drewN ?_ _ | with_reducible refine Kp.alloc ?_ _ | ((with_reducible refine Kp.setCell ?_ ?_ _); rotate_left; (focus (first | omega | (simp; done) | (simp; omega)))) | with_reducible refine Kp.trans ?_ (by assumption))))⟩
set_option maxHeartbeats 400000 in
theorem costCmp_any (a0 a1 b0 b1 : Int) (w : World) : Calls Try.prog 41 #[.agg #[.int .i64 a0, .int .i64 a1], .agg #[.int .i64 b0, .int .i64 b1]] w fun e w' => e = .returned (.int .i64 (cmpC a0 a1 b0 b1)) ∧ Kp w w' := by
  go_enter Try.func41, Try.ntmps41
  go_wp2_with (go_at_call 69; refine (orderCmp_any _ _ _ _ _).mono ?_; rintro e w' ⟨rfl, kk⟩)
  go_ret
  exact ⟨rfl, (by (repeat (first | with_reducible assumption | with_reducible exact Kp.refl _ | with_reducible refine Kp.drew ?_ | with_reducible refine Kp.drewN ?_ _ | with_reducible refine Kp.alloc ?_ _ | ((with_reducible refine Kp.setCell ?_ ?_ _); rotate_left; (focus (first | omega | (simp; done) | (simp; omega)))) | with_reducible refine Kp.trans ?_ (by assumption))))⟩
set_option maxHeartbeats 400000 in
theorem costLess_any (a0 a1 b0 b1 : Int) (w : World) : Calls Try.prog 49 #[.agg #[.int .i64 a0, .int .i64 a1], .agg #[.int .i64 b0, .int .i64 b1]] w fun e w' => e = .returned (.bool (decide (cmpC a0 a1 b0 b1 < 0))) ∧ Kp w w' := by
  go_enter Try.func49, Try.ntmps49
  go_wp2_with (go_at_call 41; refine (costCmp_any _ _ _ _ _).mono ?_; rintro e w' ⟨rfl, kk⟩)
  go_ret
  exact ⟨rfl, (by (repeat (first | with_reducible assumption | with_reducible exact Kp.refl _ | with_reducible refine Kp.drew ?_ | with_reducible refine Kp.drewN ?_ _ | with_reducible refine Kp.alloc ?_ _ | ((with_reducible refine Kp.setCell ?_ ?_ _); rotate_left; (focus (first | omega | (simp; done) | (simp; omega)))) | with_reducible refine Kp.trans ?_ (by assumption))))⟩
/-- May a cost be? -/
def rightC (a0 a1 : Int) : Bool := decide ((0 ≤ a0 ∧ a0 ≤ 1125899906842624) ∧ (0 ≤ a1 ∧ a1 ≤ 1125899906842624))
theorem held_self {n : Int} : held n = n ↔ 0 ≤ n ∧ n ≤ 1125899906842624 := by
  constructor
  · intro h; have := held_bounds n; omega
  · intro h; exact held_in h.1 h.2
theorem add1_zero (a : Int) : add1 a 0 = held a := by
  have h0 : held 0 = 0 := held_in (by omega) (by omega)
  have := held_bounds a
  unfold add1; rw [h0, Int.add_zero, held_in (by omega) (by omega)]
theorem right_eq (a0 a1 : Int) : (add1 a0 0 == a0 && add1 a1 0 == a1) = rightC a0 a1 := by
  rw [add1_zero, add1_zero, Bool.eq_iff_iff]
  simp only [Bool.and_eq_true, beq_iff_eq, rightC, decide_eq_true_eq, held_self]
set_option maxHeartbeats 1000000 in
theorem eqCost (d : Nat) (w : World) (a0 a1 b0 b1 : Int) :
    (Op.equalIn (d + 2) 54 (.agg #[.int .i64 a0, .int .i64 a1]) (.agg #[.int .i64 b0, .int .i64 b1])).run Try.prog w = .ok (a0 == b0 && a1 == b1) w := by
  have hu := Try.underlying54
  go_simp
  clear hu
  by_cases h0 : a0 = b0 <;> by_cases h1 : a1 = b1 <;> simp_all
set_option maxHeartbeats 400000 in
theorem costRight_any (a0 a1 : Int) (w : World) : Calls Try.prog 37 #[.agg #[.int .i64 a0, .int .i64 a1]] w fun e w' => e = .returned (.bool (rightC a0 a1)) ∧ Kp w w' := by
  have hr := right_eq a0 a1
  have HR := Lib.hid hr; clear hr
  have eC := @eqCost
  go_enter Try.func37, Try.ntmps37
  go_wp2_with fail
  
  refine named_world (F := fun w1 => Blk w1 w.heap.size (ints [a0, a1]) 54 ∧ Kp w w1) ⟨(by (repeat (first | with_reducible assumption | ((with_reducible refine Blk.newL ?_ ?_); (focus (first | (simp; done) | omega)); rfl) | with_reducible refine Blk.drew ?_ | with_reducible refine Blk.drewN ?_ _ | with_reducible refine Blk.alloc ?_ _ | ((with_reducible refine Blk.other ?_ ?_ _); rotate_left; (focus (first | with_reducible assumption | omega | (simp; done) | (simp; omega))))))), (by (repeat (first | with_reducible assumption | with_reducible exact Kp.refl _ | with_reducible refine Kp.drew ?_ | with_reducible refine Kp.drewN ?_ _ | with_reducible refine Kp.alloc ?_ _ | ((with_reducible refine Kp.setCell ?_ ?_ _); rotate_left; (focus (first | omega | (simp; done) | (simp; omega)))) | with_reducible refine Kp.trans ?_ (by assumption))))⟩ ?_; rintro w1 ⟨xa, kw1⟩; have xa_0 := xa.cell 0 rfl; have xa_1 := xa.cell 1 rfl; have xa_ne := xa.lt; have xa_n1 := Nat.lt_add_one_of_lt xa_ne; have xa_n2 := Nat.lt_add_one_of_lt xa_n1
  go_region_held3 (fun w' => (∀ b o, b < w1.heap.size → w'.cell? ⟨b, o, none⟩ = w1.cell? ⟨b, o, none⟩) ∧ Kp w1 w') (first | with_reducible assumption | with_reducible exact held_start _ | with_reducible exact held_next (by assumption) (by assumption) | with_reducible exact held_alloc (by assumption) _ | with_reducible exact held_drew (by assumption) | exact held_store (by assumption) (by simp) _) (first
    | (go_at_call 40; go_must (refine (costAdd_any _ _ _ _ _).mono ?_); rintro e w' ⟨rfl, kk⟩))
  go_wp2
  go_ret
  exact ⟨ret_bool HR.out, (by (repeat (first | with_reducible assumption | with_reducible exact Kp.refl _ | with_reducible refine Kp.drew ?_ | with_reducible refine Kp.drewN ?_ _ | with_reducible refine Kp.alloc ?_ _ | ((with_reducible refine Kp.setCell ?_ ?_ _); rotate_left; (focus (first | omega | (simp; done) | (simp; omega)))) | with_reducible refine Kp.trans ?_ (by assumption))))⟩
set_option maxHeartbeats 400000 in
theorem refRight_any (a0 a1 : Int) (w : World) : Calls Try.prog 38 #[.agg #[.int .i64 a0, .int .i64 a1]] w fun e w' => e = .returned (.bool (rightC a0 a1)) ∧ Kp w w' := by
  go_enter Try.func38, Try.ntmps38
  go_wp2
  all_goals
    go_ret
    refine ⟨ret_bool ?_, (by (repeat (first | with_reducible assumption | with_reducible exact Kp.refl _ | with_reducible refine Kp.drew ?_ | with_reducible refine Kp.drewN ?_ _ | with_reducible refine Kp.alloc ?_ _ | ((with_reducible refine Kp.setCell ?_ ?_ _); rotate_left; (focus (first | omega | (simp; done) | (simp; omega)))) | with_reducible refine Kp.trans ?_ (by assumption))))⟩
    unfold rightC
    rw [Bool.eq_iff_iff]; simp; try omega
/-- The reference's comparison. -/
theorem cmpC_eq (a0 a1 b0 b1 : Int) : cmpC a0 a1 b0 b1 = if a0 < b0 ∨ (a0 = b0 ∧ a1 < b1) then -1 else if a0 = b0 ∧ a1 = b1 then 0 else 1 := by
  unfold cmpC or2 cmp3
  by_cases h1 : a0 < b0
  · simp [h1]
  · by_cases h2 : b0 < a0
    · have : ¬ a0 = b0 := by omega
      simp [h1, h2, this]
    · obtain rfl : a0 = b0 := by omega
      by_cases h3 : a1 < b1
      · simp [h3]
      · by_cases h4 : b1 < a1
        · have : ¬ a1 = b1 := by omega
          simp [h3, h4, this]
        · obtain rfl : a1 = b1 := by omega
          simp
set_option maxHeartbeats 1000000 in
theorem refCmp_any (a0 a1 b0 b1 : Int) (w : World) : Calls Try.prog 48 #[.agg #[.int .i64 a0, .int .i64 a1], .agg #[.int .i64 b0, .int .i64 b1]] w fun e w' => e = .returned (.int .i64 (cmpC a0 a1 b0 b1)) ∧ Kp w w' := by
  have eC := @eqCost
  rcases Int.lt_trichotomy a0 b0 with h | h | h
  · have e1 : cmpC a0 a1 b0 b1 = -1 := by rw [cmpC_eq, if_pos (.inl h)]
    have E := Lib.hid e1; clear e1
    go_enter Try.func48, Try.ntmps48
    go_wp2
    go_ret
    exact ⟨ret_int E.out.symm, (by (repeat (first | with_reducible assumption | with_reducible exact Kp.refl _ | with_reducible refine Kp.drew ?_ | with_reducible refine Kp.drewN ?_ _ | with_reducible refine Kp.alloc ?_ _ | ((with_reducible refine Kp.setCell ?_ ?_ _); rotate_left; (focus (first | omega | (simp; done) | (simp; omega)))) | with_reducible refine Kp.trans ?_ (by assumption))))⟩
  · have k1 : (a0 == b0) = true := beq_iff_eq.2 h
    have k2 : ¬ a0 < b0 := by omega
    rcases Int.lt_trichotomy a1 b1 with g | g | g
    · have e1 : cmpC a0 a1 b0 b1 = -1 := by rw [cmpC_eq, if_pos (.inr ⟨h, g⟩)]
      have E := Lib.hid e1; clear e1 h
      go_enter Try.func48, Try.ntmps48
      go_wp2
      go_ret
      exact ⟨ret_int E.out.symm, (by (repeat (first | with_reducible assumption | with_reducible exact Kp.refl _ | with_reducible refine Kp.drew ?_ | with_reducible refine Kp.drewN ?_ _ | with_reducible refine Kp.alloc ?_ _ | ((with_reducible refine Kp.setCell ?_ ?_ _); rotate_left; (focus (first | omega | (simp; done) | (simp; omega)))) | with_reducible refine Kp.trans ?_ (by assumption))))⟩
    · have e1 : cmpC a0 a1 b0 b1 = 0 := by rw [cmpC_eq, if_neg (by omega), if_pos ⟨h, g⟩]
      have k3 : (a1 == b1) = true := beq_iff_eq.2 g
      have k4 : ¬ a1 < b1 := by omega
      have E := Lib.hid e1; clear e1 h g
      go_enter Try.func48, Try.ntmps48
      go_wp2
      go_ret
      exact ⟨ret_int E.out.symm, (by (repeat (first | with_reducible assumption | with_reducible exact Kp.refl _ | with_reducible refine Kp.drew ?_ | with_reducible refine Kp.drewN ?_ _ | with_reducible refine Kp.alloc ?_ _ | ((with_reducible refine Kp.setCell ?_ ?_ _); rotate_left; (focus (first | omega | (simp; done) | (simp; omega)))) | with_reducible refine Kp.trans ?_ (by assumption))))⟩
    · have e1 : cmpC a0 a1 b0 b1 = 1 := by rw [cmpC_eq, if_neg (by omega), if_neg (by omega)]
      have k3 : (a1 == b1) = false := beq_eq_false_iff_ne.2 (by omega)
      have k4 : ¬ a1 < b1 := by omega
      have E := Lib.hid e1; clear e1 h
      go_enter Try.func48, Try.ntmps48
      go_wp2
      go_ret
      exact ⟨ret_int E.out.symm, (by (repeat (first | with_reducible assumption | with_reducible exact Kp.refl _ | with_reducible refine Kp.drew ?_ | with_reducible refine Kp.drewN ?_ _ | with_reducible refine Kp.alloc ?_ _ | ((with_reducible refine Kp.setCell ?_ ?_ _); rotate_left; (focus (first | omega | (simp; done) | (simp; omega)))) | with_reducible refine Kp.trans ?_ (by assumption))))⟩
  · have e1 : cmpC a0 a1 b0 b1 = 1 := by rw [cmpC_eq, if_neg (by omega), if_neg (by omega)]
    have k1 : (a0 == b0) = false := beq_eq_false_iff_ne.2 (by omega)
    have k2 : ¬ a0 < b0 := by omega
    have E := Lib.hid e1; clear e1
    go_enter Try.func48, Try.ntmps48
    go_wp2
    go_ret
    exact ⟨ret_int E.out.symm, (by (repeat (first | with_reducible assumption | with_reducible exact Kp.refl _ | with_reducible refine Kp.drew ?_ | with_reducible refine Kp.drewN ?_ _ | with_reducible refine Kp.alloc ?_ _ | ((with_reducible refine Kp.setCell ?_ ?_ _); rotate_left; (focus (first | omega | (simp; done) | (simp; omega)))) | with_reducible refine Kp.trans ?_ (by assumption))))⟩
end Go.Proofs.Ytfiofmlfceknaaa
