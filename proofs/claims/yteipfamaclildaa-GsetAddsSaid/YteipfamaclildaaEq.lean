/- '==' on arrays of four lengths. -/
import Derived.Test.YteipfamaclildaaKit

import Derived.Laws.StructEq

namespace Go.Proofs.Yteipfamaclildaa

open Go.RowKit

set_option maxHeartbeats 1000000 in
theorem eqFour (d : Nat) (w : World) (a0 a1 a2 a3 b0 b1 b2 b3 : Int) :
    (Op.equalIn (d + 2) 29 (.agg #[.int .i64 a0, .int .i64 a1, .int .i64 a2, .int .i64 a3]) (.agg #[.int .i64 b0, .int .i64 b1, .int .i64 b2, .int .i64 b3])).run Try.prog w = .ok (a0 == b0 && (a1 == b1 && (a2 == b2 && a3 == b3))) w := by
  have hs : ∀ w, (sizeOf 28).run Try.prog w = .ok 1 w := fun _ => by kernel_rfl
  have hp : ∀ w (xs : Array Value) i (v : Value), xs[i]? = some v → (part 28 xs i).run Try.prog w = .ok v w := by
    intro w xs i v h
    have ha : ∀ w, (isAgg 28).run Try.prog w = .ok false w := fun _ => by kernel_rfl
    simp [part, ha, h]
  have pa0 : ∀ w, (part 28 #[.int .i64 a0, .int .i64 a1, .int .i64 a2, .int .i64 a3] 0).run Try.prog w = .ok (.int .i64 a0) w := fun w => hp w _ 0 _ rfl
  have pa1 : ∀ w, (part 28 #[.int .i64 a0, .int .i64 a1, .int .i64 a2, .int .i64 a3] 1).run Try.prog w = .ok (.int .i64 a1) w := fun w => hp w _ 1 _ rfl
  have pa2 : ∀ w, (part 28 #[.int .i64 a0, .int .i64 a1, .int .i64 a2, .int .i64 a3] 2).run Try.prog w = .ok (.int .i64 a2) w := fun w => hp w _ 2 _ rfl
  have pa3 : ∀ w, (part 28 #[.int .i64 a0, .int .i64 a1, .int .i64 a2, .int .i64 a3] 3).run Try.prog w = .ok (.int .i64 a3) w := fun w => hp w _ 3 _ rfl
  have pb0 : ∀ w, (part 28 #[.int .i64 b0, .int .i64 b1, .int .i64 b2, .int .i64 b3] 0).run Try.prog w = .ok (.int .i64 b0) w := fun w => hp w _ 0 _ rfl
  have pb1 : ∀ w, (part 28 #[.int .i64 b0, .int .i64 b1, .int .i64 b2, .int .i64 b3] 1).run Try.prog w = .ok (.int .i64 b1) w := fun w => hp w _ 1 _ rfl
  have pb2 : ∀ w, (part 28 #[.int .i64 b0, .int .i64 b1, .int .i64 b2, .int .i64 b3] 2).run Try.prog w = .ok (.int .i64 b2) w := fun w => hp w _ 2 _ rfl
  have pb3 : ∀ w, (part 28 #[.int .i64 b0, .int .i64 b1, .int .i64 b2, .int .i64 b3] 3).run Try.prog w = .ok (.int .i64 b3) w := fun w => hp w _ 3 _ rfl
  clear hp
  rw [Op.equalIn]
  simp only [Sem.run_bind, run_underlying Try.underlying29, Result.andThen_ok]
  simp only [Std.Legacy.Range.forIn_eq_forIn_range', Std.Legacy.Range.size]
  simp [hs, List.range', pa0, pa1, pa2, pa3, pb0, pb1, pb2, pb3, run_equalIn_int _ _ _ _ _ _ _ Try.underlying28]
  clear pa0 pa1 pa2 pa3 pb0 pb1 pb2 pb3 hs
  by_cases h0 : a0 = b0 <;> by_cases h1 : a1 = b1 <;> by_cases h2 : a2 = b2 <;> by_cases h3 : a3 = b3 <;> simp_all
set_option maxHeartbeats 1000000 in
theorem eqTot (d : Nat) (w : World) (a0 a1 a2 a3 a4 a5 b0 b1 b2 b3 b4 b5 : Int) :
    (Op.equalIn (d + 3) 31 (.agg #[.int .i64 a0, .int .i64 a1, .int .i64 a2, .int .i64 a3, .int .i64 a4, .int .i64 a5]) (.agg #[.int .i64 b0, .int .i64 b1, .int .i64 b2, .int .i64 b3, .int .i64 b4, .int .i64 b5])).run Try.prog w = .ok (a0 == b0 && ((a1 == b1 && (a2 == b2 && (a3 == b3 && a4 == b4))) && a5 == b5)) w := by
  have e := @eqFour
  have hu := Try.underlying31
  go_simp
  by_cases h0 : a0 = b0 <;> by_cases h1 : (a1 == b1 && (a2 == b2 && (a3 == b3 && a4 == b4))) = true <;> by_cases h5 : a5 = b5 <;> simp_all
end Go.Proofs.Yteipfamaclildaa
