/- Package tympanref07: the walks. -/
import Derived.Test.YteipfamaclildaaTotal

import Derived.Test.YteipfamaclildaaBlk

namespace Go.Proofs.Yteipfamaclildaa

open Go.RowKit

set_option maxHeartbeats 400000 in
theorem nums_any (a0 a1 a2 a3 a4 a5 : Int) (w : World) :
    Calls Try.prog 51 #[.agg #[.int .i64 a0, .int .i64 a1, .int .i64 a2, .int .i64 a3, .int .i64 a4, .int .i64 a5]] w fun e w' => e = .returned (.agg #[.int .i64 a0, .int .i64 a1, .int .i64 a2, .int .i64 a3, .int .i64 a4, .int .i64 a5]) ∧ w' = (w.alloc (Obj.cells #[.int .i64 a0, .int .i64 a1, .int .i64 a2, .int .i64 a3, .int .i64 a4, .int .i64 a5] 31)).alloc (Obj.cells #[.int .i64 a0, .int .i64 a1, .int .i64 a2, .int .i64 a3, .int .i64 a4, .int .i64 a5] 87) := by
  go_enter Try.func51, Try.ntmps51
  go_wp2
  exact bodyPost_ret (v := .agg #[.int .i64 a0, .int .i64 a1, .int .i64 a2, .int .i64 a3, .int .i64 a4, .int .i64 a5]) (by simp [results, Try.results51, go_sem]) rfl ⟨rfl, rfl⟩

set_option maxHeartbeats 400000 in
theorem of6_any (a0 a1 a2 a3 a4 a5 : Int) (w : World) :
    Calls Try.prog 53 #[.agg #[.int .i64 a0, .int .i64 a1, .int .i64 a2, .int .i64 a3, .int .i64 a4, .int .i64 a5]] w fun e w' => e = .returned (.agg #[.int .i64 a0, .int .i64 a1, .int .i64 a2, .int .i64 a3, .int .i64 a4, .int .i64 a5]) ∧ Kp w w' := by
  go_enter Try.func53, Try.ntmps53
  go_wp2
  exact bodyPost_ret (v := .agg #[.int .i64 a0, .int .i64 a1, .int .i64 a2, .int .i64 a3, .int .i64 a4, .int .i64 a5]) (by simp [results, Try.results53, go_sem]) rfl ⟨rfl, (by (repeat (first | with_reducible assumption | with_reducible exact Kp.refl _ | with_reducible refine Kp.drew ?_ | with_reducible refine Kp.drewN ?_ _ | with_reducible refine Kp.alloc ?_ _ | ((with_reducible refine Kp.setCell ?_ ?_ _); rotate_left; (focus (first | omega | (simp; done) | (simp; omega)))) | with_reducible refine Kp.trans ?_ (by assumption))))⟩

/-- Two blocks of six numbers at hand, and a zero result. -/
def Laid6 (w0 : World) (a b : List Int) (v5 v6 : Value) (w : World) : Prop :=
  ∃ p q : Nat, v5 = .pointer (some ⟨p, 0, none⟩) ∧ v6 = .pointer (some ⟨q, 0, none⟩) ∧ Blk w p (ints a) 87 ∧ Blk w q (ints b) 87 ∧
    Blk w (w0.heap.size + 1 + 1) (ints [0, 0, 0, 0, 0, 0] ++ [.bool false]) 44 ∧ Kp w0 w ∧ p ≠ w0.heap.size + 1 + 1 ∧ q ≠ w0.heap.size + 1 + 1

theorem i64_nth {a0 a1 a2 a3 a4 a5 : Int} (h : (Tot.mk a0 a1 a2 a3 a4 a5).ok) {k : Nat} (hk : k < 6) : I64 (nth [a0, a1, a2, a3, a4, a5] k) := by
  obtain ⟨h0, h1, h2, h3, h4, h5⟩ := h
  have : k = 0 ∨ k = 1 ∨ k = 2 ∨ k = 3 ∨ k = 4 ∨ k = 5 := by omega
  rcases this with rfl | rfl | rfl | rfl | rfl | rfl <;> assumption
end Go.Proofs.Yteipfamaclildaa
