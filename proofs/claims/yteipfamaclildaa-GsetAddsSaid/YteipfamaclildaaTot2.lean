/- Packages total and tympanref07: the walks of the smaller functions. -/
import Derived.Test.YteipfamaclildaaTotal

import Derived.Test.YteipfamaclildaaBlk2

namespace Go.Proofs.Yteipfamaclildaa

open Go.RowKit

set_option maxHeartbeats 400000 in
theorem totAdd_any (a0 a1 a2 a3 a4 a5 b0 b1 b2 b3 b4 b5 : Int) (w : World) (ha : (Tot.mk a0 a1 a2 a3 a4 a5).ok) (hb : (Tot.mk b0 b1 b2 b3 b4 b5).ok) :
    Calls Try.prog 46 #[.agg #[.int .i64 a0, .int .i64 a1, .int .i64 a2, .int .i64 a3, .int .i64 a4, .int .i64 a5], .agg #[.int .i64 b0, .int .i64 b1, .int .i64 b2, .int .i64 b3, .int .i64 b4, .int .i64 b5]] w
      fun e w' => e = .returned (.tuple #[.agg #[.int .i64 (Tot.sumAdd ⟨a0, a1, a2, a3, a4, a5⟩ ⟨b0, b1, b2, b3, b4, b5⟩).nat, .int .i64 (Tot.sumAdd ⟨a0, a1, a2, a3, a4, a5⟩ ⟨b0, b1, b2, b3, b4, b5⟩).s0, .int .i64 (Tot.sumAdd ⟨a0, a1, a2, a3, a4, a5⟩ ⟨b0, b1, b2, b3, b4, b5⟩).s1, .int .i64 (Tot.sumAdd ⟨a0, a1, a2, a3, a4, a5⟩ ⟨b0, b1, b2, b3, b4, b5⟩).s2, .int .i64 (Tot.sumAdd ⟨a0, a1, a2, a3, a4, a5⟩ ⟨b0, b1, b2, b3, b4, b5⟩).s3, .int .i64 (Tot.sumAdd ⟨a0, a1, a2, a3, a4, a5⟩ ⟨b0, b1, b2, b3, b4, b5⟩).shr], .bool (Tot.fitsAdd ⟨a0, a1, a2, a3, a4, a5⟩ ⟨b0, b1, b2, b3, b4, b5⟩)]) ∧ Kp w w' := by
  go_enter Try.func46, Try.ntmps46
  go_wp2_with fail
  refine (bothAdd_six _ _ _ _ _ _ _ _ _ _ _ _ _ ha hb).mono ?_
  rintro e w1 ⟨rfl, hk⟩
  simp only [Tot.v]
  have yr : Blk w1 (w.heap.size + 1 + 1) (ints [0, 0, 0, 0, 0, 0]) 31 := Blk.kp (by (repeat (first | with_reducible assumption | ((with_reducible refine Blk.newL ?_ ?_); (focus (first | (simp; done) | omega)); rfl) | with_reducible refine Blk.drew ?_ | with_reducible refine Blk.drewN ?_ _ | with_reducible refine Blk.alloc ?_ _ | ((with_reducible refine Blk.other ?_ ?_ _); rotate_left; (focus (first | with_reducible assumption | omega | (simp; done) | (simp; omega))))))) hk
  have f0 := yr.free 0; have f1 := yr.free 1; have f2 := yr.free 2; have f3 := yr.free 3; have f4 := yr.free 4; have f5 := yr.free 5
  have g0 := yr.cell 0 rfl; have g1 := yr.cell 1 rfl; have g2 := yr.cell 2 rfl; have g3 := yr.cell 3 rfl; have g4 := yr.cell 4 rfl; have g5 := yr.cell 5 rfl
  go_wp2
  refine ret_blkv (vs := [.int .i64 (Tot.sumAdd ⟨a0, a1, a2, a3, a4, a5⟩ ⟨b0, b1, b2, b3, b4, b5⟩).nat, .int .i64 (Tot.sumAdd ⟨a0, a1, a2, a3, a4, a5⟩ ⟨b0, b1, b2, b3, b4, b5⟩).s0, .int .i64 (Tot.sumAdd ⟨a0, a1, a2, a3, a4, a5⟩ ⟨b0, b1, b2, b3, b4, b5⟩).s1, .int .i64 (Tot.sumAdd ⟨a0, a1, a2, a3, a4, a5⟩ ⟨b0, b1, b2, b3, b4, b5⟩).s2, .int .i64 (Tot.sumAdd ⟨a0, a1, a2, a3, a4, a5⟩ ⟨b0, b1, b2, b3, b4, b5⟩).s3, .int .i64 (Tot.sumAdd ⟨a0, a1, a2, a3, a4, a5⟩ ⟨b0, b1, b2, b3, b4, b5⟩).shr]) (.tuple #[.agg #[.int .i64 (Tot.sumAdd ⟨a0, a1, a2, a3, a4, a5⟩ ⟨b0, b1, b2, b3, b4, b5⟩).nat, .int .i64 (Tot.sumAdd ⟨a0, a1, a2, a3, a4, a5⟩ ⟨b0, b1, b2, b3, b4, b5⟩).s0, .int .i64 (Tot.sumAdd ⟨a0, a1, a2, a3, a4, a5⟩ ⟨b0, b1, b2, b3, b4, b5⟩).s1, .int .i64 (Tot.sumAdd ⟨a0, a1, a2, a3, a4, a5⟩ ⟨b0, b1, b2, b3, b4, b5⟩).s2, .int .i64 (Tot.sumAdd ⟨a0, a1, a2, a3, a4, a5⟩ ⟨b0, b1, b2, b3, b4, b5⟩).s3, .int .i64 (Tot.sumAdd ⟨a0, a1, a2, a3, a4, a5⟩ ⟨b0, b1, b2, b3, b4, b5⟩).shr], .bool (Tot.fitsAdd ⟨a0, a1, a2, a3, a4, a5⟩ ⟨b0, b1, b2, b3, b4, b5⟩)]) (Blk.set (Blk.set (Blk.set (Blk.set (Blk.set (Blk.set yr 0 _) 1 _) 2 _) 3 _) 4 _) 5 _) ?_ rfl ⟨rfl, (by (repeat (first | with_reducible assumption | with_reducible exact Kp.refl _ | with_reducible refine Kp.drew ?_ | with_reducible refine Kp.drewN ?_ _ | with_reducible refine Kp.alloc ?_ _ | ((with_reducible refine Kp.setCell ?_ ?_ _); rotate_left; (focus (first | omega | (simp; done) | (simp; omega)))) | with_reducible refine Kp.trans ?_ (by assumption))))⟩; intro wz bz; have z0 := bz.cell 0 rfl; have z1 := bz.cell 1 rfl; have z2 := bz.cell 2 rfl; have z3 := bz.cell 3 rfl; have z4 := bz.cell 4 rfl; have z5 := bz.cell 5 rfl; simp [results, Try.results46, go_sem, z0, z1, z2, z3, z4, z5]

set_option maxHeartbeats 400000 in
theorem totSub_any (a0 a1 a2 a3 a4 a5 b0 b1 b2 b3 b4 b5 : Int) (w : World) (ha : (Tot.mk a0 a1 a2 a3 a4 a5).ok) (hb : (Tot.mk b0 b1 b2 b3 b4 b5).ok) :
    Calls Try.prog 50 #[.agg #[.int .i64 a0, .int .i64 a1, .int .i64 a2, .int .i64 a3, .int .i64 a4, .int .i64 a5], .agg #[.int .i64 b0, .int .i64 b1, .int .i64 b2, .int .i64 b3, .int .i64 b4, .int .i64 b5]] w
      fun e w' => e = .returned (.tuple #[.agg #[.int .i64 (Tot.sumSub ⟨a0, a1, a2, a3, a4, a5⟩ ⟨b0, b1, b2, b3, b4, b5⟩).nat, .int .i64 (Tot.sumSub ⟨a0, a1, a2, a3, a4, a5⟩ ⟨b0, b1, b2, b3, b4, b5⟩).s0, .int .i64 (Tot.sumSub ⟨a0, a1, a2, a3, a4, a5⟩ ⟨b0, b1, b2, b3, b4, b5⟩).s1, .int .i64 (Tot.sumSub ⟨a0, a1, a2, a3, a4, a5⟩ ⟨b0, b1, b2, b3, b4, b5⟩).s2, .int .i64 (Tot.sumSub ⟨a0, a1, a2, a3, a4, a5⟩ ⟨b0, b1, b2, b3, b4, b5⟩).s3, .int .i64 (Tot.sumSub ⟨a0, a1, a2, a3, a4, a5⟩ ⟨b0, b1, b2, b3, b4, b5⟩).shr], .bool (Tot.fitsSub ⟨a0, a1, a2, a3, a4, a5⟩ ⟨b0, b1, b2, b3, b4, b5⟩)]) ∧ Kp w w' := by
  go_enter Try.func50, Try.ntmps50
  go_wp2_with fail
  refine (bothSub_six _ _ _ _ _ _ _ _ _ _ _ _ _ ha hb).mono ?_
  rintro e w1 ⟨rfl, hk⟩
  simp only [Tot.v]
  have yr : Blk w1 (w.heap.size + 1 + 1) (ints [0, 0, 0, 0, 0, 0]) 31 := Blk.kp (by (repeat (first | with_reducible assumption | ((with_reducible refine Blk.newL ?_ ?_); (focus (first | (simp; done) | omega)); rfl) | with_reducible refine Blk.drew ?_ | with_reducible refine Blk.drewN ?_ _ | with_reducible refine Blk.alloc ?_ _ | ((with_reducible refine Blk.other ?_ ?_ _); rotate_left; (focus (first | with_reducible assumption | omega | (simp; done) | (simp; omega))))))) hk
  have f0 := yr.free 0; have f1 := yr.free 1; have f2 := yr.free 2; have f3 := yr.free 3; have f4 := yr.free 4; have f5 := yr.free 5
  have g0 := yr.cell 0 rfl; have g1 := yr.cell 1 rfl; have g2 := yr.cell 2 rfl; have g3 := yr.cell 3 rfl; have g4 := yr.cell 4 rfl; have g5 := yr.cell 5 rfl
  go_wp2
  refine ret_blkv (vs := [.int .i64 (Tot.sumSub ⟨a0, a1, a2, a3, a4, a5⟩ ⟨b0, b1, b2, b3, b4, b5⟩).nat, .int .i64 (Tot.sumSub ⟨a0, a1, a2, a3, a4, a5⟩ ⟨b0, b1, b2, b3, b4, b5⟩).s0, .int .i64 (Tot.sumSub ⟨a0, a1, a2, a3, a4, a5⟩ ⟨b0, b1, b2, b3, b4, b5⟩).s1, .int .i64 (Tot.sumSub ⟨a0, a1, a2, a3, a4, a5⟩ ⟨b0, b1, b2, b3, b4, b5⟩).s2, .int .i64 (Tot.sumSub ⟨a0, a1, a2, a3, a4, a5⟩ ⟨b0, b1, b2, b3, b4, b5⟩).s3, .int .i64 (Tot.sumSub ⟨a0, a1, a2, a3, a4, a5⟩ ⟨b0, b1, b2, b3, b4, b5⟩).shr]) (.tuple #[.agg #[.int .i64 (Tot.sumSub ⟨a0, a1, a2, a3, a4, a5⟩ ⟨b0, b1, b2, b3, b4, b5⟩).nat, .int .i64 (Tot.sumSub ⟨a0, a1, a2, a3, a4, a5⟩ ⟨b0, b1, b2, b3, b4, b5⟩).s0, .int .i64 (Tot.sumSub ⟨a0, a1, a2, a3, a4, a5⟩ ⟨b0, b1, b2, b3, b4, b5⟩).s1, .int .i64 (Tot.sumSub ⟨a0, a1, a2, a3, a4, a5⟩ ⟨b0, b1, b2, b3, b4, b5⟩).s2, .int .i64 (Tot.sumSub ⟨a0, a1, a2, a3, a4, a5⟩ ⟨b0, b1, b2, b3, b4, b5⟩).s3, .int .i64 (Tot.sumSub ⟨a0, a1, a2, a3, a4, a5⟩ ⟨b0, b1, b2, b3, b4, b5⟩).shr], .bool (Tot.fitsSub ⟨a0, a1, a2, a3, a4, a5⟩ ⟨b0, b1, b2, b3, b4, b5⟩)]) (Blk.set (Blk.set (Blk.set (Blk.set (Blk.set (Blk.set yr 0 _) 1 _) 2 _) 3 _) 4 _) 5 _) ?_ rfl ⟨rfl, (by (repeat (first | with_reducible assumption | with_reducible exact Kp.refl _ | with_reducible refine Kp.drew ?_ | with_reducible refine Kp.drewN ?_ _ | with_reducible refine Kp.alloc ?_ _ | ((with_reducible refine Kp.setCell ?_ ?_ _); rotate_left; (focus (first | omega | (simp; done) | (simp; omega)))) | with_reducible refine Kp.trans ?_ (by assumption))))⟩; intro wz bz; have z0 := bz.cell 0 rfl; have z1 := bz.cell 1 rfl; have z2 := bz.cell 2 rfl; have z3 := bz.cell 3 rfl; have z4 := bz.cell 4 rfl; have z5 := bz.cell 5 rfl; simp [results, Try.results50, go_sem, z0, z1, z2, z3, z4, z5]

set_option maxHeartbeats 400000 in
theorem totBox_any (h : Int) (w : World) : Calls Try.prog 69 #[.int .i64 h] w fun e w' => e = .returned (.agg #[.int .i64 h, .int .i64 0, .int .i64 0, .int .i64 0, .int .i64 0, .int .i64 0]) ∧ Kp w w' := by
  go_enter Try.func69, Try.ntmps69
  go_wp2
  exact bodyPost_ret (v := .agg #[.int .i64 h, .int .i64 0, .int .i64 0, .int .i64 0, .int .i64 0, .int .i64 0]) (by simp [results, Try.results69, go_sem]) rfl ⟨rfl, (by (repeat (first | with_reducible assumption | with_reducible exact Kp.refl _ | with_reducible refine Kp.drew ?_ | with_reducible refine Kp.drewN ?_ _ | with_reducible refine Kp.alloc ?_ _ | ((with_reducible refine Kp.setCell ?_ ?_ _); rotate_left; (focus (first | omega | (simp; done) | (simp; omega)))) | with_reducible refine Kp.trans ?_ (by assumption))))⟩
set_option maxHeartbeats 400000 in
theorem refBox_any (h : Int) (w : World) : Calls Try.prog 74 #[.int .i64 h] w fun e w' => e = .returned (.agg #[.int .i64 h, .int .i64 0, .int .i64 0, .int .i64 0, .int .i64 0, .int .i64 0]) ∧ Kp w w' := by
  go_enter Try.func74, Try.ntmps74
  go_wp2
  exact bodyPost_ret (v := .agg #[.int .i64 h, .int .i64 0, .int .i64 0, .int .i64 0, .int .i64 0, .int .i64 0]) (by simp [results, Try.results74, go_sem]) rfl ⟨rfl, (by (repeat (first | with_reducible assumption | with_reducible exact Kp.refl _ | with_reducible refine Kp.drew ?_ | with_reducible refine Kp.drewN ?_ _ | with_reducible refine Kp.alloc ?_ _ | ((with_reducible refine Kp.setCell ?_ ?_ _); rotate_left; (focus (first | omega | (simp; done) | (simp; omega)))) | with_reducible refine Kp.trans ?_ (by assumption))))⟩

/-- The stretch of an order. -/
def strAt (str ord k : Int) : Int := if ord = k then str else 0
theorem strAt_self (s k : Int) : strAt s k k = s := by simp [strAt]
theorem strAt_ne {s o k : Int} (h : o ≠ k) : strAt s o k = 0 := by simp [strAt, h]
theorem glue_out {h s o r : Int} (ho : o < 0 ∨ 3 < o) : Ending.returned (.agg #[.int .i64 h, .int .i64 0, .int .i64 0, .int .i64 0, .int .i64 0, .int .i64 r]) = .returned (.agg #[.int .i64 h, .int .i64 (strAt s o 0), .int .i64 (strAt s o 1), .int .i64 (strAt s o 2), .int .i64 (strAt s o 3), .int .i64 r]) := by
  rw [strAt_ne (by omega), strAt_ne (by omega), strAt_ne (by omega), strAt_ne (by omega)]
set_option maxHeartbeats 400000 in
theorem totGlue_any (h s o r : Int) (w : World) : Calls Try.prog 70 #[.int .i64 h, .int .i64 s, .int .i64 o, .int .i64 r] w fun e w' => e = .returned (.agg #[.int .i64 h, .int .i64 (strAt s o 0), .int .i64 (strAt s o 1), .int .i64 (strAt s o 2), .int .i64 (strAt s o 3), .int .i64 r]) ∧ Kp w w' := by
  by_cases h0 : 0 ≤ o
  · by_cases h4 : o < 4
    · have : o = 0 ∨ o = 1 ∨ o = 2 ∨ o = 3 := by omega
      rcases this with rfl | rfl | rfl | rfl
      all_goals
        go_enter Try.func70, Try.ntmps70
        go_wp2
      · exact bodyPost_ret (v := .agg #[.int .i64 h, .int .i64 s, .int .i64 0, .int .i64 0, .int .i64 0, .int .i64 r]) (by simp [results, Try.results70, go_sem]) rfl ⟨rfl, (by (repeat (first | with_reducible assumption | with_reducible exact Kp.refl _ | with_reducible refine Kp.drew ?_ | with_reducible refine Kp.drewN ?_ _ | with_reducible refine Kp.alloc ?_ _ | ((with_reducible refine Kp.setCell ?_ ?_ _); rotate_left; (focus (first | omega | (simp; done) | (simp; omega)))) | with_reducible refine Kp.trans ?_ (by assumption))))⟩
      · exact bodyPost_ret (v := .agg #[.int .i64 h, .int .i64 0, .int .i64 s, .int .i64 0, .int .i64 0, .int .i64 r]) (by simp [results, Try.results70, go_sem]) rfl ⟨rfl, (by (repeat (first | with_reducible assumption | with_reducible exact Kp.refl _ | with_reducible refine Kp.drew ?_ | with_reducible refine Kp.drewN ?_ _ | with_reducible refine Kp.alloc ?_ _ | ((with_reducible refine Kp.setCell ?_ ?_ _); rotate_left; (focus (first | omega | (simp; done) | (simp; omega)))) | with_reducible refine Kp.trans ?_ (by assumption))))⟩
      · exact bodyPost_ret (v := .agg #[.int .i64 h, .int .i64 0, .int .i64 0, .int .i64 s, .int .i64 0, .int .i64 r]) (by simp [results, Try.results70, go_sem]) rfl ⟨rfl, (by (repeat (first | with_reducible assumption | with_reducible exact Kp.refl _ | with_reducible refine Kp.drew ?_ | with_reducible refine Kp.drewN ?_ _ | with_reducible refine Kp.alloc ?_ _ | ((with_reducible refine Kp.setCell ?_ ?_ _); rotate_left; (focus (first | omega | (simp; done) | (simp; omega)))) | with_reducible refine Kp.trans ?_ (by assumption))))⟩
      · exact bodyPost_ret (v := .agg #[.int .i64 h, .int .i64 0, .int .i64 0, .int .i64 0, .int .i64 s, .int .i64 r]) (by simp [results, Try.results70, go_sem]) rfl ⟨rfl, (by (repeat (first | with_reducible assumption | with_reducible exact Kp.refl _ | with_reducible refine Kp.drew ?_ | with_reducible refine Kp.drewN ?_ _ | with_reducible refine Kp.alloc ?_ _ | ((with_reducible refine Kp.setCell ?_ ?_ _); rotate_left; (focus (first | omega | (simp; done) | (simp; omega)))) | with_reducible refine Kp.trans ?_ (by assumption))))⟩
    · go_enter Try.func70, Try.ntmps70
      go_wp2
      exact bodyPost_ret (v := .agg #[.int .i64 h, .int .i64 0, .int .i64 0, .int .i64 0, .int .i64 0, .int .i64 r]) (by simp [results, Try.results70, go_sem]) rfl ⟨glue_out (by omega), (by (repeat (first | with_reducible assumption | with_reducible exact Kp.refl _ | with_reducible refine Kp.drew ?_ | with_reducible refine Kp.drewN ?_ _ | with_reducible refine Kp.alloc ?_ _ | ((with_reducible refine Kp.setCell ?_ ?_ _); rotate_left; (focus (first | omega | (simp; done) | (simp; omega)))) | with_reducible refine Kp.trans ?_ (by assumption))))⟩
  · go_enter Try.func70, Try.ntmps70
    go_wp2
    exact bodyPost_ret (v := .agg #[.int .i64 h, .int .i64 0, .int .i64 0, .int .i64 0, .int .i64 0, .int .i64 r]) (by simp [results, Try.results70, go_sem]) rfl ⟨glue_out (by omega), (by (repeat (first | with_reducible assumption | with_reducible exact Kp.refl _ | with_reducible refine Kp.drew ?_ | with_reducible refine Kp.drewN ?_ _ | with_reducible refine Kp.alloc ?_ _ | ((with_reducible refine Kp.setCell ?_ ?_ _); rotate_left; (focus (first | omega | (simp; done) | (simp; omega)))) | with_reducible refine Kp.trans ?_ (by assumption))))⟩
set_option maxHeartbeats 400000 in
theorem refGlue_any (h s o r : Int) (w : World) : Calls Try.prog 75 #[.int .i64 h, .int .i64 s, .int .i64 o, .int .i64 r] w fun e w' => e = .returned (.agg #[.int .i64 h, .int .i64 (strAt s o 0), .int .i64 (strAt s o 1), .int .i64 (strAt s o 2), .int .i64 (strAt s o 3), .int .i64 r]) ∧ Kp w w' := by
  by_cases h0 : 0 ≤ o
  · by_cases h4 : o < 4
    · have : o = 0 ∨ o = 1 ∨ o = 2 ∨ o = 3 := by omega
      rcases this with rfl | rfl | rfl | rfl
      all_goals
        go_enter Try.func75, Try.ntmps75
        go_wp2
      · exact bodyPost_ret (v := .agg #[.int .i64 h, .int .i64 s, .int .i64 0, .int .i64 0, .int .i64 0, .int .i64 r]) (by simp [results, Try.results75, go_sem]) rfl ⟨rfl, (by (repeat (first | with_reducible assumption | with_reducible exact Kp.refl _ | with_reducible refine Kp.drew ?_ | with_reducible refine Kp.drewN ?_ _ | with_reducible refine Kp.alloc ?_ _ | ((with_reducible refine Kp.setCell ?_ ?_ _); rotate_left; (focus (first | omega | (simp; done) | (simp; omega)))) | with_reducible refine Kp.trans ?_ (by assumption))))⟩
      · exact bodyPost_ret (v := .agg #[.int .i64 h, .int .i64 0, .int .i64 s, .int .i64 0, .int .i64 0, .int .i64 r]) (by simp [results, Try.results75, go_sem]) rfl ⟨rfl, (by (repeat (first | with_reducible assumption | with_reducible exact Kp.refl _ | with_reducible refine Kp.drew ?_ | with_reducible refine Kp.drewN ?_ _ | with_reducible refine Kp.alloc ?_ _ | ((with_reducible refine Kp.setCell ?_ ?_ _); rotate_left; (focus (first | omega | (simp; done) | (simp; omega)))) | with_reducible refine Kp.trans ?_ (by assumption))))⟩
      · exact bodyPost_ret (v := .agg #[.int .i64 h, .int .i64 0, .int .i64 0, .int .i64 s, .int .i64 0, .int .i64 r]) (by simp [results, Try.results75, go_sem]) rfl ⟨rfl, (by (repeat (first | with_reducible assumption | with_reducible exact Kp.refl _ | with_reducible refine Kp.drew ?_ | with_reducible refine Kp.drewN ?_ _ | with_reducible refine Kp.alloc ?_ _ | ((with_reducible refine Kp.setCell ?_ ?_ _); rotate_left; (focus (first | omega | (simp; done) | (simp; omega)))) | with_reducible refine Kp.trans ?_ (by assumption))))⟩
      · exact bodyPost_ret (v := .agg #[.int .i64 h, .int .i64 0, .int .i64 0, .int .i64 0, .int .i64 s, .int .i64 r]) (by simp [results, Try.results75, go_sem]) rfl ⟨rfl, (by (repeat (first | with_reducible assumption | with_reducible exact Kp.refl _ | with_reducible refine Kp.drew ?_ | with_reducible refine Kp.drewN ?_ _ | with_reducible refine Kp.alloc ?_ _ | ((with_reducible refine Kp.setCell ?_ ?_ _); rotate_left; (focus (first | omega | (simp; done) | (simp; omega)))) | with_reducible refine Kp.trans ?_ (by assumption))))⟩
    · go_enter Try.func75, Try.ntmps75
      go_wp2
      exact bodyPost_ret (v := .agg #[.int .i64 h, .int .i64 0, .int .i64 0, .int .i64 0, .int .i64 0, .int .i64 r]) (by simp [results, Try.results75, go_sem]) rfl ⟨glue_out (by omega), (by (repeat (first | with_reducible assumption | with_reducible exact Kp.refl _ | with_reducible refine Kp.drew ?_ | with_reducible refine Kp.drewN ?_ _ | with_reducible refine Kp.alloc ?_ _ | ((with_reducible refine Kp.setCell ?_ ?_ _); rotate_left; (focus (first | omega | (simp; done) | (simp; omega)))) | with_reducible refine Kp.trans ?_ (by assumption))))⟩
  · go_enter Try.func75, Try.ntmps75
    go_wp2
    exact bodyPost_ret (v := .agg #[.int .i64 h, .int .i64 0, .int .i64 0, .int .i64 0, .int .i64 0, .int .i64 r]) (by simp [results, Try.results75, go_sem]) rfl ⟨glue_out (by omega), (by (repeat (first | with_reducible assumption | with_reducible exact Kp.refl _ | with_reducible refine Kp.drew ?_ | with_reducible refine Kp.drewN ?_ _ | with_reducible refine Kp.alloc ?_ _ | ((with_reducible refine Kp.setCell ?_ ?_ _); rotate_left; (focus (first | omega | (simp; done) | (simp; omega)))) | with_reducible refine Kp.trans ?_ (by assumption))))⟩

/-- The highest order with a stretch. -/
def order4 (s1 s2 s3 : Int) : Int := if s3 ≠ 0 then 3 else if s2 ≠ 0 then 2 else if s1 ≠ 0 then 1 else 0
theorem order4_bounds (s1 s2 s3 : Int) : 0 ≤ order4 s1 s2 s3 ∧ order4 s1 s2 s3 ≤ 3 := by
  unfold order4; split
  · omega
  · split
    · omega
    · split <;> omega
set_option maxHeartbeats 1000000 in
theorem totOrder_any (a0 a1 a2 a3 a4 a5 : Int) (w : World) : Calls Try.prog 62 #[.agg #[.int .i64 a0, .int .i64 a1, .int .i64 a2, .int .i64 a3, .int .i64 a4, .int .i64 a5]] w fun e w' => e = .returned (.int .i64 (order4 a2 a3 a4)) ∧ Kp w w' := by
  cases z1 : (a1 == 0) <;> cases z2 : (a2 == 0) <;> cases z3 : (a3 == 0) <;> cases z4 : (a4 == 0)
  all_goals
    have y1 := z1; have y2 := z2; have y3 := z3; have y4 := z4
    simp only [beq_iff_eq, beq_eq_false_iff_ne] at y1 y2 y3 y4
    have Y1 := Lib.hid y1; have Y2 := Lib.hid y2; have Y3 := Lib.hid y3; have Y4 := Lib.hid y4
    clear y1 y2 y3 y4
    have n1 : (a1 != 0) = !(a1 == 0) := rfl
    have n2 : (a2 != 0) = !(a2 == 0) := rfl
    have n3 : (a3 != 0) = !(a3 == 0) := rfl
    have n4 : (a4 != 0) = !(a4 == 0) := rfl
    rw [z1] at n1; rw [z2] at n2; rw [z3] at n3; rw [z4] at n4
    simp only [Bool.not_true, Bool.not_false] at n1 n2 n3 n4
    go_enter Try.func62, Try.ntmps62
    go_wp2
    go_rounds 4
    go_ret
    exact ⟨ret_int (by simp [order4, Y2.out, Y3.out, Y4.out]), (by (repeat (first | with_reducible assumption | with_reducible exact Kp.refl _ | with_reducible refine Kp.drew ?_ | with_reducible refine Kp.drewN ?_ _ | with_reducible refine Kp.alloc ?_ _ | ((with_reducible refine Kp.setCell ?_ ?_ _); rotate_left; (focus (first | omega | (simp; done) | (simp; omega)))) | with_reducible refine Kp.trans ?_ (by assumption))))⟩
set_option maxHeartbeats 1000000 in
theorem refOrder_any (a0 a1 a2 a3 a4 a5 : Int) (w : World) : Calls Try.prog 63 #[.agg #[.int .i64 a0, .int .i64 a1, .int .i64 a2, .int .i64 a3, .int .i64 a4, .int .i64 a5]] w fun e w' => e = .returned (.int .i64 (order4 a2 a3 a4)) ∧ Kp w w' := by
  cases z1 : (a1 == 0) <;> cases z2 : (a2 == 0) <;> cases z3 : (a3 == 0) <;> cases z4 : (a4 == 0)
  all_goals
    have y1 := z1; have y2 := z2; have y3 := z3; have y4 := z4
    simp only [beq_iff_eq, beq_eq_false_iff_ne] at y1 y2 y3 y4
    have Y1 := Lib.hid y1; have Y2 := Lib.hid y2; have Y3 := Lib.hid y3; have Y4 := Lib.hid y4
    clear y1 y2 y3 y4
    have n1 : (a1 != 0) = !(a1 == 0) := rfl
    have n2 : (a2 != 0) = !(a2 == 0) := rfl
    have n3 : (a3 != 0) = !(a3 == 0) := rfl
    have n4 : (a4 != 0) = !(a4 == 0) := rfl
    rw [z1] at n1; rw [z2] at n2; rw [z3] at n3; rw [z4] at n4
    simp only [Bool.not_true, Bool.not_false] at n1 n2 n3 n4
    go_enter Try.func63, Try.ntmps63
    go_wp2
    go_rounds 5
    go_ret
    exact ⟨ret_int (by simp [order4, Y2.out, Y3.out, Y4.out]), (by (repeat (first | with_reducible assumption | with_reducible exact Kp.refl _ | with_reducible refine Kp.drew ?_ | with_reducible refine Kp.drewN ?_ _ | with_reducible refine Kp.alloc ?_ _ | ((with_reducible refine Kp.setCell ?_ ?_ _); rotate_left; (focus (first | omega | (simp; done) | (simp; omega)))) | with_reducible refine Kp.trans ?_ (by assumption))))⟩

theorem Tot.sumAdd_ok (a b : Tot) : (Tot.sumAdd a b).ok := by
  unfold Tot.sumAdd; split
  · exact ⟨clip_bounds _, clip_bounds _, clip_bounds _, clip_bounds _, clip_bounds _, clip_bounds _⟩
  · exact ⟨⟨by decide, by decide⟩, ⟨by decide, by decide⟩, ⟨by decide, by decide⟩, ⟨by decide, by decide⟩, ⟨by decide, by decide⟩, ⟨by decide, by decide⟩⟩
theorem i64_small {x : Int} (h : -1000 ≤ x) (h' : x ≤ 1000) : I64 x := ⟨by omega, by omega⟩

end Go.Proofs.Yteipfamaclildaa
