/- The walks of package bad and of its reference: what each function computes. -/
import Derived.Test.YtfiofmlfceknaaaKit
namespace Go.Proofs.Ytfiofmlfceknaaa
open Go.RowKit

def quarterRaw (need has : Int) : Int := if need < 1 then 0 else if has < 1 then 1291 else if need ≤ 7230584 then need * 297 / has else if 1663497 ≤ has then need / (has / 297) else need
def quarter (need has : Int) : Int := if 1291 ≤ quarterRaw need has then 1291 else quarterRaw need has
def cube (r : Int) : Int := if 1290 < r then 10000 else if r < 1 then 0 else (r*r*r + 131072) / 262144

theorem quarterRaw_nonneg (need has : Int) : 0 ≤ quarterRaw need has := by
  unfold quarterRaw
  split
  · omega
  · split
    · omega
    · split
      · exact Int.ediv_nonneg (by omega) (by omega)
      · split
        · exact Int.ediv_nonneg (by omega) (by omega)
        · omega
theorem quarter_bounds (need has : Int) : 0 ≤ quarter need has ∧ quarter need has ≤ 1291 := by
  have := quarterRaw_nonneg need has
  unfold quarter; split <;> omega

set_option maxHeartbeats 400000 in
theorem rules_any (w : World) :
    Calls Try.prog 60 #[] w fun e w' => e = .returned (.slice (some { block := w.heap.size, off := 0 }) 4 4) ∧ w' = w.alloc
    (Obj.cells
      #[Value.func (Fn.func 73) #[] #[], Value.func (Fn.func 74) #[] #[], Value.func (Fn.func 75) #[] #[], Value.func (Fn.func 76) #[] #[],
        Value.func (Fn.func 77) #[] #[], Value.func (Fn.func 78) #[] #[], Value.func (Fn.func 79) #[] #[], Value.func (Fn.func 80) #[] #[]]
      95) := by
  go_enter Try.func60, Try.ntmps60
  go_wp2
  go_ret
  exact ⟨rfl, rfl⟩

theorem qr0 {need has r : Int} (h : quarterRaw need has = r) : quarter need has = if 1291 ≤ r then 1291 else r := by unfold quarter; rw [h]
theorem qr1 {need has : Int} (h : need < 1) : quarter need has = 0 := by rw [qr0 (by unfold quarterRaw; rw [if_pos h])]; rfl
theorem qr2 {need has : Int} (h : 1 ≤ need) (h' : has < 1) : quarter need has = 1291 := by rw [qr0 (by unfold quarterRaw; rw [if_neg (by omega), if_pos h'])]; rfl
theorem qr3 {need has : Int} (h : 1 ≤ need) (h' : 1 ≤ has) (h2 : need ≤ 7230584) (h3 : 1291 ≤ need * 297 / has) : quarter need has = 1291 := by
  rw [qr0 (by unfold quarterRaw; rw [if_neg (by omega), if_neg (by omega), if_pos h2]), if_pos h3]
theorem qr4 {need has : Int} (h : 1 ≤ need) (h' : 1 ≤ has) (h2 : need ≤ 7230584) (h3 : need * 297 / has ≤ 1291) : quarter need has = need * 297 / has := by
  rw [qr0 (by unfold quarterRaw; rw [if_neg (by omega), if_neg (by omega), if_pos h2])]; split <;> omega
theorem qr5 {need has : Int} (h : 7230584 < need) (h' : 1663497 ≤ has) (h3 : 1291 ≤ need / (has / 297)) : quarter need has = 1291 := by
  rw [qr0 (by unfold quarterRaw; rw [if_neg (by omega : ¬ need < 1), if_neg (by omega : ¬ has < 1), if_neg (by omega : ¬ need ≤ 7230584), if_pos h']), if_pos h3]
theorem qr6 {need has : Int} (h : 7230584 < need) (h' : 1663497 ≤ has) (h3 : need / (has / 297) ≤ 1291) : quarter need has = need / (has / 297) := by
  rw [qr0 (by unfold quarterRaw; rw [if_neg (by omega : ¬ need < 1), if_neg (by omega : ¬ has < 1), if_neg (by omega : ¬ need ≤ 7230584), if_pos h'])]; split <;> omega
theorem qr7 {need has : Int} (h : 7230584 < need) (h1 : 1 ≤ has) (h' : has < 1663497) : quarter need has = 1291 := by
  rw [qr0 (by unfold quarterRaw; rw [if_neg (by omega : ¬ need < 1), if_neg (by omega : ¬ has < 1), if_neg (by omega : ¬ need ≤ 7230584), if_neg (by omega : ¬ 1663497 ≤ has)]), if_pos (by omega)]

set_option maxHeartbeats 400000 in
theorem quarter_any (need has : Int) (w : World) (h0 : -9223372036854775808 ≤ need) (h1 : need ≤ 9223372036854775807) (h2 : -9223372036854775808 ≤ has) (h3 : has ≤ 9223372036854775807) :
    Calls Try.prog 16 #[.int .i64 need, .int .i64 has] w fun e w' => e = .returned (.int .i64 (quarter need has)) ∧ Kp w w' := by
  go_enter Try.func16, Try.ntmps16
  go_wp2
  go_rounds 5
  all_goals
    go_ret
    refine ⟨ret_int ?_, (by (repeat (first | exact Kp.refl _ | assumption | refine Kp.drew ?_ | refine Kp.drewN ?_ _ | refine Kp.alloc ?_ _ | (refine Kp.setCell ?_ (by simp <;> omega) _) | (refine Kp.trans ?_ (by assumption)))))⟩
    first | (rw [qr1 (by omega)]; done) | (rw [qr2 (by omega) (by omega)]; done) | (rw [qr3 (by omega) (by omega) (by omega) (by omega)]; done) | (rw [qr4 (by omega) (by omega) (by omega) (by omega)]; done) | (rw [qr5 (by omega) (by omega) (by omega)]; done) | (rw [qr6 (by omega) (by omega) (by omega)]; done) | (rw [qr7 (by omega) (by omega) (by omega)]; done)

theorem cu1 {r : Int} (h : 1290 < r) : cube r = 10000 := by unfold cube; rw [if_pos h]
theorem cu2 {r : Int} (h : r < 1) : cube r = 0 := by unfold cube; rw [if_neg (by omega), if_pos h]
theorem cu3 {r : Int} (h : 1 ≤ r) (h' : r ≤ 1290) : cube r = (r*r*r + 131072) / 262144 := by unfold cube; rw [if_neg (by omega), if_neg (by omega)]
theorem sq_bd {r : Int} (h : 1 ≤ r) (h' : r ≤ 1290) : 0 ≤ r * r ∧ r * r ≤ 1664100 := by
  have h1 := Int.mul_le_mul h' h' (by omega) (by omega : (0:Int) ≤ 1290)
  have h2 := Int.mul_nonneg (by omega : 0 ≤ r) (by omega : 0 ≤ r)
  omega
theorem cu_bd {r : Int} (h : 1 ≤ r) (h' : r ≤ 1290) : 0 ≤ r * r * r ∧ r * r * r ≤ 2146689000 := by
  have ⟨a, b⟩ := sq_bd h h'
  have h1 := Int.mul_le_mul b h' (by omega) (by omega : (0:Int) ≤ 1664100)
  have h2 := Int.mul_nonneg a (by omega : 0 ≤ r)
  omega
theorem cube_bounds (r : Int) : 0 ≤ cube r ∧ cube r ≤ 10000 := by
  by_cases h : 1290 < r
  · rw [cu1 h]; omega
  · by_cases h' : r < 1
    · rw [cu2 h']; omega
    · have := cu_bd (r := r) (by omega) (by omega); rw [cu3 (by omega) (by omega)]; omega

set_option maxHeartbeats 400000 in
theorem cube_any (r : Int) (w : World) (h0 : -9223372036854775808 ≤ r) (h1 : r ≤ 9223372036854775807) :
    Calls Try.prog 18 #[.int .i64 r] w fun e w' => e = .returned (.int .i64 (cube r)) ∧ w = w' := by
  by_cases h : 1290 < r
  · go_enter Try.func18, Try.ntmps18
    go_wp2
    go_ret
    exact ⟨ret_int (by rw [cu1 (by omega)]), rfl⟩
  · by_cases h' : r < 1
    · go_enter Try.func18, Try.ntmps18
      go_wp2
      go_ret
      exact ⟨ret_int (by rw [cu2 (by omega)]), rfl⟩
    · obtain ⟨b1, b2⟩ := sq_bd (r := r) (by omega) (by omega)
      obtain ⟨b3, b4⟩ := cu_bd (r := r) (by omega) (by omega)
      go_enter Try.func18, Try.ntmps18
      go_wp2
      go_ret
      exact ⟨ret_int (by rw [cu3 (by omega) (by omega)]), rfl⟩

set_option maxHeartbeats 400000 in
theorem refcube_any (r : Int) (w : World) (h0 : -9223372036854775808 ≤ r) (h1 : r ≤ 9223372036854775807) :
    Calls Try.prog 19 #[.int .i64 r] w fun e w' => e = .returned (.int .i64 (cube r)) ∧ w = w' := by
  by_cases h : 1290 < r
  · go_enter Try.func19, Try.ntmps19
    go_wp2
    go_ret
    exact ⟨ret_int (by rw [cu1 (by omega)]), rfl⟩
  · by_cases h' : r < 1
    · go_enter Try.func19, Try.ntmps19
      go_wp2
      go_ret
      exact ⟨ret_int (by rw [cu2 (by omega)]), rfl⟩
    · obtain ⟨b1, b2⟩ := sq_bd (r := r) (by omega) (by omega)
      obtain ⟨b3, b4⟩ := cu_bd (r := r) (by omega) (by omega)
      go_enter Try.func19, Try.ntmps19
      go_wp2
      go_ret
      exact ⟨ret_int (by rw [cu3 (by omega) (by omega)]), rfl⟩

set_option maxHeartbeats 400000 in
theorem refquarter_any (need has : Int) (w : World) (h0 : -9223372036854775808 ≤ need) (h1 : need ≤ 9223372036854775807) (h2 : -9223372036854775808 ≤ has) (h3 : has ≤ 9223372036854775807) :
    Calls Try.prog 17 #[.int .i64 need, .int .i64 has] w fun e w' => e = .returned (.int .i64 (quarter need has)) ∧ w = w' := by
  go_enter Try.func17, Try.ntmps17
  go_wp2
  all_goals
    go_ret
    refine ⟨ret_int ?_, rfl⟩
    first | (rw [Int.mul_comm 297 need] at *; rw [qr3 (by omega) (by omega) (by omega) (by omega)]; done) | (rw [Int.mul_comm 297 need] at *; rw [qr4 (by omega) (by omega) (by omega) (by omega)]; done) | (rw [qr1 (by omega)]; done) | (rw [qr2 (by omega) (by omega)]; done) | (rw [qr3 (by omega) (by omega) (by omega) (by omega)]; done) | (rw [qr4 (by omega) (by omega) (by omega) (by omega)]; done) | (rw [qr5 (by omega) (by omega) (by omega)]; done) | (rw [qr6 (by omega) (by omega) (by omega)]; done) | (rw [qr7 (by omega) (by omega) (by omega)]; done)

def badOf (need has : Int) : Int := cube (quarter need has)
set_option maxHeartbeats 400000 in
theorem of_any (need has : Int) (w : World) (h0 : -9223372036854775808 ≤ need) (h1 : need ≤ 9223372036854775807) (h2 : -9223372036854775808 ≤ has) (h3 : has ≤ 9223372036854775807) :
    Calls Try.prog 14 #[.int .i64 need, .int .i64 has] w fun e w' => e = .returned (.int .i64 (badOf need has)) ∧ Kp w w' := by
  obtain ⟨b1, b2⟩ := quarter_bounds need has
  obtain ⟨c1, c2⟩ := cube_bounds (quarter need has)
  go_enter Try.func14, Try.ntmps14
  go_wp2_with (first | (go_at_call 16; refine (quarter_any _ _ _ (by omega) (by omega) (by omega) (by omega)).mono ?_; rintro e w' ⟨rfl, hb⟩) | (go_at_call 18; refine (cube_any _ _ (by omega) (by omega)).mono ?_; rintro e w' ⟨rfl, rfl⟩))
  go_ret
  exact ⟨rfl, by assumption⟩
set_option maxHeartbeats 400000 in
theorem refof_any (need has : Int) (w : World) (h0 : -9223372036854775808 ≤ need) (h1 : need ≤ 9223372036854775807) (h2 : -9223372036854775808 ≤ has) (h3 : has ≤ 9223372036854775807) :
    Calls Try.prog 15 #[.int .i64 need, .int .i64 has] w fun e w' => e = .returned (.int .i64 (badOf need has)) ∧ w = w' := by
  obtain ⟨b1, b2⟩ := quarter_bounds need has
  obtain ⟨c1, c2⟩ := cube_bounds (quarter need has)
  go_enter Try.func15, Try.ntmps15
  go_wp2_with (first | (go_at_call 17; refine (refquarter_any _ _ _ (by omega) (by omega) (by omega) (by omega)).mono ?_; rintro e w' ⟨rfl, rfl⟩) | (go_at_call 19; refine (refcube_any _ _ (by omega) (by omega)).mono ?_; rintro e w' ⟨rfl, rfl⟩))
  go_ret
  exact ⟨rfl, rfl⟩

set_option maxHeartbeats 400000 in
theorem awake_any (w : World) :
    Calls Try.prog 20 #[] w fun e w' => e = .returned (.bool true) ∧ Kp w w' := by
  have e1 : badOf 10 10 = 100 := by decide
  have e2 : badOf 5 10 = 12 := by decide
  have e3 : badOf 0 0 = 0 := by decide
  have e4 : badOf 1 0 = 10000 := by decide
  go_enter Try.func20, Try.ntmps20
  go_wp2_with (go_at_call 14; refine (of_any _ _ _ (by omega) (by omega) (by omega) (by omega)).mono ?_; rintro e w' ⟨rfl, hb⟩)
  go_ret
  exact ⟨rfl, (by (repeat (first | exact Kp.refl _ | assumption | refine Kp.drew ?_ | refine Kp.drewN ?_ _ | refine Kp.alloc ?_ _ | (refine Kp.setCell ?_ (by simp <;> omega) _) | (refine Kp.trans ?_ (by assumption)))))⟩

set_option maxHeartbeats 400000 in
theorem badTells_any (need has r : Int) (hn : -9223372036854775808 ≤ need ∧ need ≤ 9223372036854775807) (hh : -9223372036854775808 ≤ has ∧ has ≤ 9223372036854775807) (hr : -9223372036854775808 ≤ r ∧ r ≤ 9223372036854775807) (w : World) :
    Calls Try.prog 3 #[.int .i64 need, .int .i64 has, .int .i64 r] w fun e w' => e = .returned (.bool true) ∧ Kp w w' := by
  obtain ⟨h0, h1⟩ := hn; obtain ⟨h2, h3⟩ := hh; obtain ⟨h4, h5⟩ := hr
  go_enter Try.func3, Try.ntmps3
  go_wp2_with (first
    | (go_at_call 14; refine (of_any _ _ _ (by omega) (by omega) (by omega) (by omega)).mono ?_; rintro e w' ⟨rfl, hb⟩)
    | (go_at_call 15; refine (refof_any _ _ _ (by omega) (by omega) (by omega) (by omega)).mono ?_; rintro e w' ⟨rfl, rfl⟩)
    | (go_at_call 16; refine (quarter_any _ _ _ (by omega) (by omega) (by omega) (by omega)).mono ?_; rintro e w' ⟨rfl, hb⟩)
    | (go_at_call 17; refine (refquarter_any _ _ _ (by omega) (by omega) (by omega) (by omega)).mono ?_; rintro e w' ⟨rfl, rfl⟩)
    | (go_at_call 18; refine (cube_any _ _ (by omega) (by omega)).mono ?_; rintro e w' ⟨rfl, rfl⟩)
    | (go_at_call 19; refine (refcube_any _ _ (by omega) (by omega)).mono ?_; rintro e w' ⟨rfl, rfl⟩)
    | (go_at_call 20; refine (awake_any _).mono ?_; rintro e w' ⟨rfl, hb⟩))
  go_ret
  exact ⟨rfl, (by (repeat (first | exact Kp.refl _ | assumption | refine Kp.drew ?_ | refine Kp.drewN ?_ _ | refine Kp.alloc ?_ _ | (refine Kp.setCell ?_ (by simp <;> omega) _) | (refine Kp.trans ?_ (by assumption)))))⟩
end Go.Proofs.Ytfiofmlfceknaaa
