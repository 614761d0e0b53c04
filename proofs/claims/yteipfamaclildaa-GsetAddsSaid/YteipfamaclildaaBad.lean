/- The walks of package bad and of its reference: what each function computes. -/
import Derived.Test.YteipfamaclildaaKit

namespace Go.Proofs.Yteipfamaclildaa

open Go.RowKit

def quarterRaw (need has : Int) : Int := if need < 1 then 0 else if has < 1 then 1291 else if need ≤ 7230584 then need * 297 / has else if 1663497 ≤ has then need / (has / 297) else need
def quarter (need has : Int) : Int := if 1291 ≤ quarterRaw need has then 1291 else quarterRaw need has
def cube (r : Int) : Int := if 1290 < r then 10000 else if r < 1 then 0 else (r*r*r + 131072) / 262144

theorem quarterRaw_nonneg (need has : Int) : 0 ≤ quarterRaw need has := by
  unfold quarterRaw
  split
  · omega
  · split
    · omega
    · split
      · exact Int.ediv_nonneg (by omega) (by omega)
      · split
        · exact Int.ediv_nonneg (by omega) (by omega)
        · omega
theorem quarter_bounds (need has : Int) : 0 ≤ quarter need has ∧ quarter need has ≤ 1291 := by
  have := quarterRaw_nonneg need has
  unfold quarter; split <;> omega

set_option maxHeartbeats 400000 in
theorem rules_any (w : World) :
    Calls Try.prog 95 #[] w fun e w' => e = .returned (.slice (some { block := w.heap.size, off := 0 }) 4 4) ∧ w' = w.alloc
    (Obj.cells
      #[Value.func (Fn.func 97) #[] #[], Value.func (Fn.func 98) #[] #[], Value.func (Fn.func 99) #[] #[], Value.func (Fn.func 100) #[] #[],
        Value.func (Fn.func 101) #[] #[], Value.func (Fn.func 102) #[] #[], Value.func (Fn.func 103) #[] #[], Value.func (Fn.func 104) #[] #[]]
      142) := by
  go_enter Try.func95, Try.ntmps95
  go_wp2
  go_ret
  exact ⟨rfl, rfl⟩

theorem qr0 {need has r : Int} (h : quarterRaw need has = r) : quarter need has = if 1291 ≤ r then 1291 else r := by unfold quarter; rw [h]
theorem qr1 {need has : Int} (h : need < 1) : quarter need has = 0 := by rw [qr0 (by unfold quarterRaw; rw [if_pos h])]; rfl
theorem qr2 {need has : Int} (h : 1 ≤ need) (h' : has < 1) : quarter need has = 1291 := by rw [qr0 (by unfold quarterRaw; rw [if_neg (by omega), if_pos h'])]; rfl
theorem qr3 {need has : Int} (h : 1 ≤ need) (h' : 1 ≤ has) (h2 : need ≤ 7230584) (h3 : 1291 ≤ need * 297 / has) : quarter need has = 1291 := by
  rw [qr0 (by unfold quarterRaw; rw [if_neg (by omega), if_neg (by omega), if_pos h2]), if_pos h3]
theorem qr4 {need has : Int} (h : 1 ≤ need) (h' : 1 ≤ has) (h2 : need ≤ 7230584) (h3 : need * 297 / has ≤ 1291) : quarter need has = need * 297 / has := by
  rw [qr0 (by unfold quarterRaw; rw [if_neg (by omega), if_neg (by omega), if_pos h2])]; split <;> omega
theorem qr5 {need has : Int} (h : 7230584 < need) (h' : 1663497 ≤ has) (h3 : 1291 ≤ need / (has / 297)) : quarter need has = 1291 := by
  rw [qr0 (by unfold quarterRaw; rw [if_neg (by omega : ¬ need < 1), if_neg (by omega : ¬ has < 1), if_neg (by omega : ¬ need ≤ 7230584), if_pos h']), if_pos h3]
theorem qr6 {need has : Int} (h : 7230584 < need) (h' : 1663497 ≤ has) (h3 : need / (has / 297) ≤ 1291) : quarter need has = need / (has / 297) := by
  rw [qr0 (by unfold quarterRaw; rw [if_neg (by omega : ¬ need < 1), if_neg (by omega : ¬ has < 1), if_neg (by omega : ¬ need ≤ 7230584), if_pos h'])]; split <;> omega
theorem qr7 {need has : Int} (h : 7230584 < need) (h1 : 1 ≤ has) (h' : has < 1663497) : quarter need has = 1291 := by
  rw [qr0 (by unfold quarterRaw; rw [if_neg (by omega : ¬ need < 1), if_neg (by omega : ¬ has < 1), if_neg (by omega : ¬ need ≤ 7230584), if_neg (by omega : ¬ 1663497 ≤ has)]), if_pos (by omega)]

set_option maxHeartbeats 400000 in
theorem quarter_any (need has : Int) (w : World) (h0 : -9223372036854775808 ≤ need) (h1 : need ≤ 9223372036854775807) (h2 : -9223372036854775808 ≤ has) (h3 : has ≤ 9223372036854775807) :
    Calls Try.prog 88 #[.int .i64 need, .int .i64 has] w fun e w' => e = .returned (.int .i64 (quarter need has)) ∧ Kp w w' := by
  go_enter Try.func88, Try.ntmps88
  go_wp2
  go_rounds 5
  all_goals
    go_ret
    refine ⟨ret_int ?_, (by (repeat (first | with_reducible assumption | with_reducible exact Kp.refl _ | with_reducible refine Kp.drew ?_ | with_reducible refine Kp.drewN ?_ _ | with_reducible refine Kp.alloc ?_ _ | ((with_reducible refine Kp.setCell ?_ ?_ _); rotate_left; (focus (first | omega | (simp; done) | (simp; omega)))) | with_reducible refine Kp.trans ?_ (by assumption))))⟩
    first | (rw [qr1 (by omega)]; done) | (rw [qr2 (by omega) (by omega)]; done) | (rw [qr3 (by omega) (by omega) (by omega) (by omega)]; done) | (rw [qr4 (by omega) (by omega) (by omega) (by omega)]; done) | (rw [qr5 (by omega) (by omega) (by omega)]; done) | (rw [qr6 (by omega) (by omega) (by omega)]; done) | (rw [qr7 (by omega) (by omega) (by omega)]; done)

theorem cu1 {r : Int} (h : 1290 < r) : cube r = 10000 := by unfold cube; rw [if_pos h]
theorem cu2 {r : Int} (h : r < 1) : cube r = 0 := by unfold cube; rw [if_neg (by omega), if_pos h]
theorem cu3 {r : Int} (h : 1 ≤ r) (h' : r ≤ 1290) : cube r = (r*r*r + 131072) / 262144 := by unfold cube; rw [if_neg (by omega), if_neg (by omega)]
theorem sq_bd {r : Int} (h : 1 ≤ r) (h' : r ≤ 1290) : 0 ≤ r * r ∧ r * r ≤ 1664100 := by
  have h1 := Int.mul_le_mul h' h' (by omega) (by omega : (0:Int) ≤ 1290)
  have h2 := Int.mul_nonneg (by omega : 0 ≤ r) (by omega : 0 ≤ r)
  omega
theorem cu_bd {r : Int} (h : 1 ≤ r) (h' : r ≤ 1290) : 0 ≤ r * r * r ∧ r * r * r ≤ 2146689000 := by
  have ⟨a, b⟩ := sq_bd h h'
  have h1 := Int.mul_le_mul b h' (by omega) (by omega : (0:Int) ≤ 1664100)
  have h2 := Int.mul_nonneg a (by omega : 0 ≤ r)
  omega
theorem cube_bounds (r : Int) : 0 ≤ cube r ∧ cube r ≤ 10000 := by
  by_cases h : 1290 < r
  · rw [cu1 h]; omega
  · by_cases h' : r < 1
    · rw [cu2 h']; omega
    · have := cu_bd (r := r) (by omega) (by omega); rw [cu3 (by omega) (by omega)]; omega

set_option maxHeartbeats 400000 in
theorem cube_any (r : Int) (w : World) (h0 : -9223372036854775808 ≤ r) (h1 : r ≤ 9223372036854775807) :
    Calls Try.prog 87 #[.int .i64 r] w fun e w' => e = .returned (.int .i64 (cube r)) ∧ w = w' := by
  by_cases h : 1290 < r
  · go_enter Try.func87, Try.ntmps87
    go_wp2
    go_ret
    exact ⟨ret_int (by rw [cu1 (by omega)]), rfl⟩
  · by_cases h' : r < 1
    · go_enter Try.func87, Try.ntmps87
      go_wp2
      go_ret
      exact ⟨ret_int (by rw [cu2 (by omega)]), rfl⟩
    · obtain ⟨b1, b2⟩ := sq_bd (r := r) (by omega) (by omega)
      obtain ⟨b3, b4⟩ := cu_bd (r := r) (by omega) (by omega)
      go_enter Try.func87, Try.ntmps87
      go_wp2
      go_ret
      exact ⟨ret_int (by rw [cu3 (by omega) (by omega)]), rfl⟩

set_option maxHeartbeats 400000 in
theorem refcube_any (r : Int) (w : World) (h0 : -9223372036854775808 ≤ r) (h1 : r ≤ 9223372036854775807) :
    Calls Try.prog 89 #[.int .i64 r] w fun e w' => e = .returned (.int .i64 (cube r)) ∧ w = w' := by
  by_cases h : 1290 < r
  · go_enter Try.func89, Try.ntmps89
    go_wp2
    go_ret
    exact ⟨ret_int (by rw [cu1 (by omega)]), rfl⟩
  · by_cases h' : r < 1
    · go_enter Try.func89, Try.ntmps89
      go_wp2
      go_ret
      exact ⟨ret_int (by rw [cu2 (by omega)]), rfl⟩
    · obtain ⟨b1, b2⟩ := sq_bd (r := r) (by omega) (by omega)
      obtain ⟨b3, b4⟩ := cu_bd (r := r) (by omega) (by omega)
      go_enter Try.func89, Try.ntmps89
      go_wp2
      go_ret
      exact ⟨ret_int (by rw [cu3 (by omega) (by omega)]), rfl⟩

set_option maxHeartbeats 400000 in
theorem refquarter_any (need has : Int) (w : World) (h0 : -9223372036854775808 ≤ need) (h1 : need ≤ 9223372036854775807) (h2 : -9223372036854775808 ≤ has) (h3 : has ≤ 9223372036854775807) :
    Calls Try.prog 90 #[.int .i64 need, .int .i64 has] w fun e w' => e = .returned (.int .i64 (quarter need has)) ∧ w = w' := by
  go_enter Try.func90, Try.ntmps90
  go_wp2
  all_goals
    go_ret
    refine ⟨ret_int ?_, rfl⟩
    first | (rw [Int.mul_comm 297 need] at *; rw [qr3 (by omega) (by omega) (by omega) (by omega)]; done) | (rw [Int.mul_comm 297 need] at *; rw [qr4 (by omega) (by omega) (by omega) (by omega)]; done) | (rw [qr1 (by omega)]; done) | (rw [qr2 (by omega) (by omega)]; done) | (rw [qr3 (by omega) (by omega) (by omega) (by omega)]; done) | (rw [qr4 (by omega) (by omega) (by omega) (by omega)]; done) | (rw [qr5 (by omega) (by omega) (by omega)]; done) | (rw [qr6 (by omega) (by omega) (by omega)]; done) | (rw [qr7 (by omega) (by omega) (by omega)]; done)

def badOf (need has : Int) : Int := cube (quarter need has)
set_option maxHeartbeats 400000 in
theorem of_any (need has : Int) (w : World) (h0 : -9223372036854775808 ≤ need) (h1 : need ≤ 9223372036854775807) (h2 : -9223372036854775808 ≤ has) (h3 : has ≤ 9223372036854775807) :
    Calls Try.prog 64 #[.int .i64 need, .int .i64 has] w fun e w' => e = .returned (.int .i64 (badOf need has)) ∧ Kp w w' := by
  obtain ⟨b1, b2⟩ := quarter_bounds need has
  obtain ⟨c1, c2⟩ := cube_bounds (quarter need has)
  go_enter Try.func64, Try.ntmps64
  go_wp2_with (first | (go_at_call 88; refine (quarter_any _ _ _ (by omega) (by omega) (by omega) (by omega)).mono ?_; rintro e w' ⟨rfl, hb⟩) | (go_at_call 87; refine (cube_any _ _ (by omega) (by omega)).mono ?_; rintro e w' ⟨rfl, rfl⟩))
  go_ret
  exact ⟨rfl, by assumption⟩
set_option maxHeartbeats 400000 in
theorem refof_any (need has : Int) (w : World) (h0 : -9223372036854775808 ≤ need) (h1 : need ≤ 9223372036854775807) (h2 : -9223372036854775808 ≤ has) (h3 : has ≤ 9223372036854775807) :
    Calls Try.prog 65 #[.int .i64 need, .int .i64 has] w fun e w' => e = .returned (.int .i64 (badOf need has)) ∧ w = w' := by
  obtain ⟨b1, b2⟩ := quarter_bounds need has
  obtain ⟨c1, c2⟩ := cube_bounds (quarter need has)
  go_enter Try.func65, Try.ntmps65
  go_wp2_with (first | (go_at_call 90; refine (refquarter_any _ _ _ (by omega) (by omega) (by omega) (by omega)).mono ?_; rintro e w' ⟨rfl, rfl⟩) | (go_at_call 89; refine (refcube_any _ _ (by omega) (by omega)).mono ?_; rintro e w' ⟨rfl, rfl⟩))
  go_ret
  exact ⟨rfl, rfl⟩

end Go.Proofs.Yteipfamaclildaa
