/- Totals of boxes and glues. -/
import Derived.Test.YtepckgcbncdibaaBlk2
namespace Go.Proofs.Ytepckgcbncdibaa
open Go.RowKit

set_option maxHeartbeats 400000 in
theorem totBox_any (h : Int) (w : World) : Calls Try.prog 70 #[.int .i64 h] w fun e w' => e = .returned (.agg #[.int .i64 h, .int .i64 0, .int .i64 0, .int .i64 0, .int .i64 0, .int .i64 0]) ∧ Kp w w' := by
  go_enter Try.func70, Try.ntmps70
  go_wp2
  exact bodyPost_ret (v := .agg #[.int .i64 h, .int .i64 0, .int .i64 0, .int .i64 0, .int .i64 0, .int .i64 0]) (by simp [results, Try.results70, go_sem]) rfl ⟨rfl, (by (repeat (first | with_reducible assumption | with_reducible exact Kp.refl _ | with_reducible refine Kp.drew ?_ | with_reducible refine Kp.drewN ?_ _ | with_reducible refine Kp.alloc ?_ _ | ((with_reducible refine Kp.setCell ?_ ?_ _); rotate_left; (focus (first | omega | (simp; done) | (simp; omega)))) | with_reducible refine Kp.trans ?_ (by assumption))))⟩
set_option maxHeartbeats 400000 in
theorem refBox_any (h : Int) (w : World) : Calls Try.prog 72 #[.int .i64 h] w fun e w' => e = .returned (.agg #[.int .i64 h, .int .i64 0, .int .i64 0, .int .i64 0, .int .i64 0, .int .i64 0]) ∧ Kp w w' := by
  go_enter Try.func72, Try.ntmps72
  go_wp2
  exact bodyPost_ret (v := .agg #[.int .i64 h, .int .i64 0, .int .i64 0, .int .i64 0, .int .i64 0, .int .i64 0]) (by simp [results, Try.results72, go_sem]) rfl ⟨rfl, (by (repeat (first | with_reducible assumption | with_reducible exact Kp.refl _ | with_reducible refine Kp.drew ?_ | with_reducible refine Kp.drewN ?_ _ | with_reducible refine Kp.alloc ?_ _ | ((with_reducible refine Kp.setCell ?_ ?_ _); rotate_left; (focus (first | omega | (simp; done) | (simp; omega)))) | with_reducible refine Kp.trans ?_ (by assumption))))⟩

/-- The stretch of an order. -/
def strAt (str ord k : Int) : Int := if ord = k then str else 0
theorem strAt_self (s k : Int) : strAt s k k = s := by simp [strAt]
theorem strAt_ne {s o k : Int} (h : o ≠ k) : strAt s o k = 0 := by simp [strAt, h]
theorem glue_out {h s o r : Int} (ho : o < 0 ∨ 3 < o) : Ending.returned (.agg #[.int .i64 h, .int .i64 0, .int .i64 0, .int .i64 0, .int .i64 0, .int .i64 r]) = .returned (.agg #[.int .i64 h, .int .i64 (strAt s o 0), .int .i64 (strAt s o 1), .int .i64 (strAt s o 2), .int .i64 (strAt s o 3), .int .i64 r]) := by
  rw [strAt_ne (by omega), strAt_ne (by omega), strAt_ne (by omega), strAt_ne (by omega)]
set_option maxHeartbeats 400000 in
theorem totGlue_any (h s o r : Int) (w : World) : Calls Try.prog 71 #[.int .i64 h, .int .i64 s, .int .i64 o, .int .i64 r] w fun e w' => e = .returned (.agg #[.int .i64 h, .int .i64 (strAt s o 0), .int .i64 (strAt s o 1), .int .i64 (strAt s o 2), .int .i64 (strAt s o 3), .int .i64 r]) ∧ Kp w w' := by
  by_cases h0 : 0 ≤ o
  · by_cases h4 : o < 4
    · have : o = 0 ∨ o = 1 ∨ o = 2 ∨ o = 3 := by omega
      rcases this with rfl | rfl | rfl | rfl
      all_goals
        go_enter Try.func71, Try.ntmps71
        go_wp2
      · exact bodyPost_ret (v := .agg #[.int .i64 h, .int .i64 s, .int .i64 0, .int .i64 0, .int .i64 0, .int .i64 r]) (by simp [results, Try.results71, go_sem]) rfl ⟨rfl, (by (repeat (first | with_reducible assumption | with_reducible exact Kp.refl _ | with_reducible refine Kp.drew ?_ | with_reducible refine Kp.drewN ?_ _ | with_reducible refine Kp.alloc ?_ _ | ((with_reducible refine Kp.setCell ?_ ?_ _); rotate_left; (focus (first | omega | (simp; done) | (simp; omega)))) | with_reducible refine Kp.trans ?_ (by assumption))))⟩
      · exact bodyPost_ret (v := .agg #[.int .i64 h, .int .i64 0, .int .i64 s, .int .i64 0, .int .i64 0, .int .i64 r]) (by simp [results, Try.results71, go_sem]) rfl ⟨rfl, (by (repeat (first | with_reducible assumption | with_reducible exact Kp.refl _ | with_reducible refine Kp.drew ?_ | with_reducible refine Kp.drewN ?_ _ | with_reducible refine Kp.alloc ?_ _ | ((with_reducible refine Kp.setCell ?_ ?_ _); rotate_left; (focus (first | omega | (simp; done) | (simp; omega)))) | with_reducible refine Kp.trans ?_ (by assumption))))⟩
      · exact bodyPost_ret (v := .agg #[.int .i64 h, .int .i64 0, .int .i64 0, .int .i64 s, .int .i64 0, .int .i64 r]) (by simp [results, Try.results71, go_sem]) rfl ⟨rfl, (by (repeat (first | with_reducible assumption | with_reducible exact Kp.refl _ | with_reducible refine Kp.drew ?_ | with_reducible refine Kp.drewN ?_ _ | with_reducible refine Kp.alloc ?_ _ | ((with_reducible refine Kp.setCell ?_ ?_ _); rotate_left; (focus (first | omega | (simp; done) | (simp; omega)))) | with_reducible refine Kp.trans ?_ (by assumption))))⟩
      · exact bodyPost_ret (v := .agg #[.int .i64 h, .int .i64 0, .int .i64 0, .int .i64 0, .int .i64 s, .int .i64 r]) (by simp [results, Try.results71, go_sem]) rfl ⟨rfl, (by (repeat (first | with_reducible assumption | with_reducible exact Kp.refl _ | with_reducible refine Kp.drew ?_ | with_reducible refine Kp.drewN ?_ _ | with_reducible refine Kp.alloc ?_ _ | ((with_reducible refine Kp.setCell ?_ ?_ _); rotate_left; (focus (first | omega | (simp; done) | (simp; omega)))) | with_reducible refine Kp.trans ?_ (by assumption))))⟩
    · go_enter Try.func71, Try.ntmps71
      go_wp2
      exact bodyPost_ret (v := .agg #[.int .i64 h, .int .i64 0, .int .i64 0, .int .i64 0, .int .i64 0, .int .i64 r]) (by simp [results, Try.results71, go_sem]) rfl ⟨glue_out (by omega), (by (repeat (first | with_reducible assumption | with_reducible exact Kp.refl _ | with_reducible refine Kp.drew ?_ | with_reducible refine Kp.drewN ?_ _ | with_reducible refine Kp.alloc ?_ _ | ((with_reducible refine Kp.setCell ?_ ?_ _); rotate_left; (focus (first | omega | (simp; done) | (simp; omega)))) | with_reducible refine Kp.trans ?_ (by assumption))))⟩
  · go_enter Try.func71, Try.ntmps71
    go_wp2
    exact bodyPost_ret (v := .agg #[.int .i64 h, .int .i64 0, .int .i64 0, .int .i64 0, .int .i64 0, .int .i64 r]) (by simp [results, Try.results71, go_sem]) rfl ⟨glue_out (by omega), (by (repeat (first | with_reducible assumption | with_reducible exact Kp.refl _ | with_reducible refine Kp.drew ?_ | with_reducible refine Kp.drewN ?_ _ | with_reducible refine Kp.alloc ?_ _ | ((with_reducible refine Kp.setCell ?_ ?_ _); rotate_left; (focus (first | omega | (simp; done) | (simp; omega)))) | with_reducible refine Kp.trans ?_ (by assumption))))⟩
set_option maxHeartbeats 400000 in
theorem refGlue_any (h s o r : Int) (w : World) : Calls Try.prog 73 #[.int .i64 h, .int .i64 s, .int .i64 o, .int .i64 r] w fun e w' => e = .returned (.agg #[.int .i64 h, .int .i64 (strAt s o 0), .int .i64 (strAt s o 1), .int .i64 (strAt s o 2), .int .i64 (strAt s o 3), .int .i64 r]) ∧ Kp w w' := by
  by_cases h0 : 0 ≤ o
  · by_cases h4 : o < 4
    · have : o = 0 ∨ o = 1 ∨ o = 2 ∨ o = 3 := by omega
      rcases this with rfl | rfl | rfl | rfl
      all_goals
        go_enter Try.func73, Try.ntmps73
        go_wp2
      · exact bodyPost_ret (v := .agg #[.int .i64 h, .int .i64 s, .int .i64 0, .int .i64 0, .int .i64 0, .int .i64 r]) (by simp [results, Try.results73, go_sem]) rfl ⟨rfl, (by (repeat (first | with_reducible assumption | with_reducible exact Kp.refl _ | with_reducible refine Kp.drew ?_ | with_reducible refine Kp.drewN ?_ _ | with_reducible refine Kp.alloc ?_ _ | ((with_reducible refine Kp.setCell ?_ ?_ _); rotate_left; (focus (first | omega | (simp; done) | (simp; omega)))) | with_reducible refine Kp.trans ?_ (by assumption))))⟩
      · exact bodyPost_ret (v := .agg #[.int .i64 h, .int .i64 0, .int .i64 s, .int .i64 0, .int .i64 0, .int .i64 r]) (by simp [results, Try.results73, go_sem]) rfl ⟨rfl, (by (repeat (first | with_reducible assumption | with_reducible exact Kp.refl _ | with_reducible refine Kp.drew ?_ | with_reducible refine Kp.drewN ?_ _ | with_reducible refine Kp.alloc ?_ _ | ((with_reducible refine Kp.setCell ?_ ?_ _); rotate_left; (focus (first | omega | (simp; done) | (simp; omega)))) | with_reducible refine Kp.trans ?_ (by assumption))))⟩
      · exact bodyPost_ret (v := .agg #[.int .i64 h, .int .i64 0, .int .i64 0, .int .i64 s, .int .i64 0, .int .i64 r]) (by simp [results, Try.results73, go_sem]) rfl ⟨rfl, (by (repeat (first | with_reducible assumption | with_reducible exact Kp.refl _ | with_reducible refine Kp.drew ?_ | with_reducible refine Kp.drewN ?_ _ | with_reducible refine Kp.alloc ?_ _ | ((with_reducible refine Kp.setCell ?_ ?_ _); rotate_left; (focus (first | omega | (simp; done) | (simp; omega)))) | with_reducible refine Kp.trans ?_ (by assumption))))⟩
      · exact bodyPost_ret (v := .agg #[.int .i64 h, .int .i64 0, .int .i64 0, .int .i64 0, .int .i64 s, .int .i64 r]) (by simp [results, Try.results73, go_sem]) rfl ⟨rfl, (by (repeat (first | with_reducible assumption | with_reducible exact Kp.refl _ | with_reducible refine Kp.drew ?_ | with_reducible refine Kp.drewN ?_ _ | with_reducible refine Kp.alloc ?_ _ | ((with_reducible refine Kp.setCell ?_ ?_ _); rotate_left; (focus (first | omega | (simp; done) | (simp; omega)))) | with_reducible refine Kp.trans ?_ (by assumption))))⟩
    · go_enter Try.func73, Try.ntmps73
      go_wp2
      exact bodyPost_ret (v := .agg #[.int .i64 h, .int .i64 0, .int .i64 0, .int .i64 0, .int .i64 0, .int .i64 r]) (by simp [results, Try.results73, go_sem]) rfl ⟨glue_out (by omega), (by (repeat (first | with_reducible assumption | with_reducible exact Kp.refl _ | with_reducible refine Kp.drew ?_ | with_reducible refine Kp.drewN ?_ _ | with_reducible refine Kp.alloc ?_ _ | ((with_reducible refine Kp.setCell ?_ ?_ _); rotate_left; (focus (first | omega | (simp; done) | (simp; omega)))) | with_reducible refine Kp.trans ?_ (by assumption))))⟩
  · go_enter Try.func73, Try.ntmps73
    go_wp2
    exact bodyPost_ret (v := .agg #[.int .i64 h, .int .i64 0, .int .i64 0, .int .i64 0, .int .i64 0, .int .i64 r]) (by simp [results, Try.results73, go_sem]) rfl ⟨glue_out (by omega), (by (repeat (first | with_reducible assumption | with_reducible exact Kp.refl _ | with_reducible refine Kp.drew ?_ | with_reducible refine Kp.drewN ?_ _ | with_reducible refine Kp.alloc ?_ _ | ((with_reducible refine Kp.setCell ?_ ?_ _); rotate_left; (focus (first | omega | (simp; done) | (simp; omega)))) | with_reducible refine Kp.trans ?_ (by assumption))))⟩
end Go.Proofs.Ytepckgcbncdibaa
