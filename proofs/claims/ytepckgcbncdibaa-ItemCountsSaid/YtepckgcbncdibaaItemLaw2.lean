/- The laws ItemMakes and ItemCounts: the walks. -/
import Derived.Test.YtepckgcbncdibaaItemLaw
namespace Go.Proofs.Ytepckgcbncdibaa
open Go.ChangeShapes Go.WideShapes Go.ChangeAt Go.RowKit

theorem made1_any (x1 x2 x3 x4 x5 x6 : Int) (w : World) : Calls Try.prog 16 #[.agg #[.int .i64 1, .int .i64 x1, .int .i64 x2, .int .i64 x3, .int .i64 x4, .int .i64 x5, .int .i64 x6]] w fun e w' => e = .returned (.agg #[.int .i64 1, .int .i64 x1, .int .i64 x2, .int .i64 0, .int .i64 0, .int .i64 0, .int .i64 0]) ∧ Kp w w' := by
  go_enter Try.func16, Try.ntmps16
  go_wp2_with fail
  refine (box_any _ _ _).mono ?_
  rintro e w1 ⟨rfl, k1⟩
  have xr : Blk w1 (w.heap.size + 1) (ints [0, 0, 0, 0, 0, 0, 0]) 24 := Blk.kp (by (repeat (first | with_reducible assumption | ((with_reducible refine Blk.newL ?_ ?_); (focus (first | (simp; done) | omega)); rfl) | with_reducible refine Blk.drew ?_ | with_reducible refine Blk.drewN ?_ _ | with_reducible refine Blk.alloc ?_ _ | ((with_reducible refine Blk.other ?_ ?_ _); rotate_left; (focus (first | with_reducible assumption | omega | (simp; done) | (simp; omega))))))) k1; have xr_0 := xr.cell 0 rfl; have xr_1 := xr.cell 1 rfl; have xr_2 := xr.cell 2 rfl; have xr_3 := xr.cell 3 rfl; have xr_4 := xr.cell 4 rfl; have xr_5 := xr.cell 5 rfl; have xr_6 := xr.cell 6 rfl; have xr_ne := xr.lt; have xr_n1 := Nat.lt_add_one_of_lt xr_ne; have xr_n2 := Nat.lt_add_one_of_lt xr_n1; have xr_f0 := xr.free 0; have xr_f1 := xr.free 1; have xr_f2 := xr.free 2; have xr_f3 := xr.free 3; have xr_f4 := xr.free 4; have xr_f5 := xr.free 5; have xr_f6 := xr.free 6
  go_wp2
  refine ret_blk (vs := [.int .i64 1, .int .i64 x1, .int .i64 x2, .int .i64 0, .int .i64 0, .int .i64 0, .int .i64 0]) (Blk.set (Blk.set (Blk.set (Blk.set (Blk.set (Blk.set (Blk.set xr 0 _) 1 _) 2 _) 3 _) 4 _) 5 _) 6 _) ?_ rfl ⟨rfl, (by (repeat (first | with_reducible assumption | with_reducible exact Kp.refl _ | with_reducible refine Kp.drew ?_ | with_reducible refine Kp.drewN ?_ _ | with_reducible refine Kp.alloc ?_ _ | ((with_reducible refine Kp.setCell ?_ ?_ _); rotate_left; (focus (first | omega | (simp; done) | (simp; omega)))) | with_reducible refine Kp.trans ?_ (by assumption))))⟩; intro wz bz; have z0 := bz.cell 0 rfl; have z1 := bz.cell 1 rfl; have z2 := bz.cell 2 rfl; have z3 := bz.cell 3 rfl; have z4 := bz.cell 4 rfl; have z5 := bz.cell 5 rfl; have z6 := bz.cell 6 rfl; simp [results, Try.results16, go_sem, z0, z1, z2, z3, z4, z5, z6]
theorem made2_any (x1 x2 x3 x4 x5 x6 : Int) (w : World) : Calls Try.prog 16 #[.agg #[.int .i64 2, .int .i64 x1, .int .i64 x2, .int .i64 x3, .int .i64 x4, .int .i64 x5, .int .i64 x6]] w fun e w' => e = .returned (.agg #[.int .i64 2, .int .i64 x1, .int .i64 0, .int .i64 x3, .int .i64 x4, .int .i64 x5, .int .i64 0]) ∧ Kp w w' := by
  go_enter Try.func16, Try.ntmps16
  go_wp2_with fail
  refine (glue_any _ _ _ _ _).mono ?_
  rintro e w1 ⟨rfl, k1⟩
  have xr : Blk w1 (w.heap.size + 1) (ints [0, 0, 0, 0, 0, 0, 0]) 24 := Blk.kp (by (repeat (first | with_reducible assumption | ((with_reducible refine Blk.newL ?_ ?_); (focus (first | (simp; done) | omega)); rfl) | with_reducible refine Blk.drew ?_ | with_reducible refine Blk.drewN ?_ _ | with_reducible refine Blk.alloc ?_ _ | ((with_reducible refine Blk.other ?_ ?_ _); rotate_left; (focus (first | with_reducible assumption | omega | (simp; done) | (simp; omega))))))) k1; have xr_0 := xr.cell 0 rfl; have xr_1 := xr.cell 1 rfl; have xr_2 := xr.cell 2 rfl; have xr_3 := xr.cell 3 rfl; have xr_4 := xr.cell 4 rfl; have xr_5 := xr.cell 5 rfl; have xr_6 := xr.cell 6 rfl; have xr_ne := xr.lt; have xr_n1 := Nat.lt_add_one_of_lt xr_ne; have xr_n2 := Nat.lt_add_one_of_lt xr_n1; have xr_f0 := xr.free 0; have xr_f1 := xr.free 1; have xr_f2 := xr.free 2; have xr_f3 := xr.free 3; have xr_f4 := xr.free 4; have xr_f5 := xr.free 5; have xr_f6 := xr.free 6
  go_wp2
  refine ret_blk (vs := [.int .i64 2, .int .i64 x1, .int .i64 0, .int .i64 x3, .int .i64 x4, .int .i64 x5, .int .i64 0]) (Blk.set (Blk.set (Blk.set (Blk.set (Blk.set (Blk.set (Blk.set xr 0 _) 1 _) 2 _) 3 _) 4 _) 5 _) 6 _) ?_ rfl ⟨rfl, (by (repeat (first | with_reducible assumption | with_reducible exact Kp.refl _ | with_reducible refine Kp.drew ?_ | with_reducible refine Kp.drewN ?_ _ | with_reducible refine Kp.alloc ?_ _ | ((with_reducible refine Kp.setCell ?_ ?_ _); rotate_left; (focus (first | omega | (simp; done) | (simp; omega)))) | with_reducible refine Kp.trans ?_ (by assumption))))⟩; intro wz bz; have z0 := bz.cell 0 rfl; have z1 := bz.cell 1 rfl; have z2 := bz.cell 2 rfl; have z3 := bz.cell 3 rfl; have z4 := bz.cell 4 rfl; have z5 := bz.cell 5 rfl; have z6 := bz.cell 6 rfl; simp [results, Try.results16, go_sem, z0, z1, z2, z3, z4, z5, z6]
theorem made3_any (x1 x2 x3 x4 x5 x6 : Int) (w : World) : Calls Try.prog 16 #[.agg #[.int .i64 3, .int .i64 x1, .int .i64 x2, .int .i64 x3, .int .i64 x4, .int .i64 x5, .int .i64 x6]] w fun e w' => e = .returned (.agg #[.int .i64 3, .int .i64 0, .int .i64 0, .int .i64 0, .int .i64 0, .int .i64 0, .int .i64 x6]) ∧ Kp w w' := by
  go_enter Try.func16, Try.ntmps16
  go_wp2_with fail
  refine (pen_any _ _).mono ?_
  rintro e w1 ⟨rfl, k1⟩
  have xr : Blk w1 (w.heap.size + 1) (ints [0, 0, 0, 0, 0, 0, 0]) 24 := Blk.kp (by (repeat (first | with_reducible assumption | ((with_reducible refine Blk.newL ?_ ?_); (focus (first | (simp; done) | omega)); rfl) | with_reducible refine Blk.drew ?_ | with_reducible refine Blk.drewN ?_ _ | with_reducible refine Blk.alloc ?_ _ | ((with_reducible refine Blk.other ?_ ?_ _); rotate_left; (focus (first | with_reducible assumption | omega | (simp; done) | (simp; omega))))))) k1; have xr_0 := xr.cell 0 rfl; have xr_1 := xr.cell 1 rfl; have xr_2 := xr.cell 2 rfl; have xr_3 := xr.cell 3 rfl; have xr_4 := xr.cell 4 rfl; have xr_5 := xr.cell 5 rfl; have xr_6 := xr.cell 6 rfl; have xr_ne := xr.lt; have xr_n1 := Nat.lt_add_one_of_lt xr_ne; have xr_n2 := Nat.lt_add_one_of_lt xr_n1; have xr_f0 := xr.free 0; have xr_f1 := xr.free 1; have xr_f2 := xr.free 2; have xr_f3 := xr.free 3; have xr_f4 := xr.free 4; have xr_f5 := xr.free 5; have xr_f6 := xr.free 6
  go_wp2
  refine ret_blk (vs := [.int .i64 3, .int .i64 0, .int .i64 0, .int .i64 0, .int .i64 0, .int .i64 0, .int .i64 x6]) (Blk.set (Blk.set (Blk.set (Blk.set (Blk.set (Blk.set (Blk.set xr 0 _) 1 _) 2 _) 3 _) 4 _) 5 _) 6 _) ?_ rfl ⟨rfl, (by (repeat (first | with_reducible assumption | with_reducible exact Kp.refl _ | with_reducible refine Kp.drew ?_ | with_reducible refine Kp.drewN ?_ _ | with_reducible refine Kp.alloc ?_ _ | ((with_reducible refine Kp.setCell ?_ ?_ _); rotate_left; (focus (first | omega | (simp; done) | (simp; omega)))) | with_reducible refine Kp.trans ?_ (by assumption))))⟩; intro wz bz; have z0 := bz.cell 0 rfl; have z1 := bz.cell 1 rfl; have z2 := bz.cell 2 rfl; have z3 := bz.cell 3 rfl; have z4 := bz.cell 4 rfl; have z5 := bz.cell 5 rfl; have z6 := bz.cell 6 rfl; simp [results, Try.results16, go_sem, z0, z1, z2, z3, z4, z5, z6]
theorem made4_any (x1 x2 x3 x4 x5 x6 : Int) (w : World) : Calls Try.prog 16 #[.agg #[.int .i64 4, .int .i64 x1, .int .i64 x2, .int .i64 x3, .int .i64 x4, .int .i64 x5, .int .i64 x6]] w fun e w' => e = .returned (.agg #[.int .i64 4, .int .i64 0, .int .i64 0, .int .i64 0, .int .i64 0, .int .i64 0, .int .i64 x6]) ∧ Kp w w' := by
  go_enter Try.func16, Try.ntmps16
  go_wp2_with fail
  refine (mark_any _ _).mono ?_
  rintro e w1 ⟨rfl, k1⟩
  have xr : Blk w1 (w.heap.size + 1) (ints [0, 0, 0, 0, 0, 0, 0]) 24 := Blk.kp (by (repeat (first | with_reducible assumption | ((with_reducible refine Blk.newL ?_ ?_); (focus (first | (simp; done) | omega)); rfl) | with_reducible refine Blk.drew ?_ | with_reducible refine Blk.drewN ?_ _ | with_reducible refine Blk.alloc ?_ _ | ((with_reducible refine Blk.other ?_ ?_ _); rotate_left; (focus (first | with_reducible assumption | omega | (simp; done) | (simp; omega))))))) k1; have xr_0 := xr.cell 0 rfl; have xr_1 := xr.cell 1 rfl; have xr_2 := xr.cell 2 rfl; have xr_3 := xr.cell 3 rfl; have xr_4 := xr.cell 4 rfl; have xr_5 := xr.cell 5 rfl; have xr_6 := xr.cell 6 rfl; have xr_ne := xr.lt; have xr_n1 := Nat.lt_add_one_of_lt xr_ne; have xr_n2 := Nat.lt_add_one_of_lt xr_n1; have xr_f0 := xr.free 0; have xr_f1 := xr.free 1; have xr_f2 := xr.free 2; have xr_f3 := xr.free 3; have xr_f4 := xr.free 4; have xr_f5 := xr.free 5; have xr_f6 := xr.free 6
  go_wp2
  refine ret_blk (vs := [.int .i64 4, .int .i64 0, .int .i64 0, .int .i64 0, .int .i64 0, .int .i64 0, .int .i64 x6]) (Blk.set (Blk.set (Blk.set (Blk.set (Blk.set (Blk.set (Blk.set xr 0 _) 1 _) 2 _) 3 _) 4 _) 5 _) 6 _) ?_ rfl ⟨rfl, (by (repeat (first | with_reducible assumption | with_reducible exact Kp.refl _ | with_reducible refine Kp.drew ?_ | with_reducible refine Kp.drewN ?_ _ | with_reducible refine Kp.alloc ?_ _ | ((with_reducible refine Kp.setCell ?_ ?_ _); rotate_left; (focus (first | omega | (simp; done) | (simp; omega)))) | with_reducible refine Kp.trans ?_ (by assumption))))⟩; intro wz bz; have z0 := bz.cell 0 rfl; have z1 := bz.cell 1 rfl; have z2 := bz.cell 2 rfl; have z3 := bz.cell 3 rfl; have z4 := bz.cell 4 rfl; have z5 := bz.cell 5 rfl; have z6 := bz.cell 6 rfl; simp [results, Try.results16, go_sem, z0, z1, z2, z3, z4, z5, z6]
theorem made5_any (x1 x2 x3 x4 x5 x6 : Int) (w : World) : Calls Try.prog 16 #[.agg #[.int .i64 5, .int .i64 x1, .int .i64 x2, .int .i64 x3, .int .i64 x4, .int .i64 x5, .int .i64 x6]] w fun e w' => e = .returned (.agg #[.int .i64 5, .int .i64 0, .int .i64 0, .int .i64 0, .int .i64 0, .int .i64 0, .int .i64 x6]) ∧ Kp w w' := by
  go_enter Try.func16, Try.ntmps16
  go_wp2_with fail
  refine (note_any _ _).mono ?_
  rintro e w1 ⟨rfl, k1⟩
  have xr : Blk w1 (w.heap.size + 1) (ints [0, 0, 0, 0, 0, 0, 0]) 24 := Blk.kp (by (repeat (first | with_reducible assumption | ((with_reducible refine Blk.newL ?_ ?_); (focus (first | (simp; done) | omega)); rfl) | with_reducible refine Blk.drew ?_ | with_reducible refine Blk.drewN ?_ _ | with_reducible refine Blk.alloc ?_ _ | ((with_reducible refine Blk.other ?_ ?_ _); rotate_left; (focus (first | with_reducible assumption | omega | (simp; done) | (simp; omega))))))) k1; have xr_0 := xr.cell 0 rfl; have xr_1 := xr.cell 1 rfl; have xr_2 := xr.cell 2 rfl; have xr_3 := xr.cell 3 rfl; have xr_4 := xr.cell 4 rfl; have xr_5 := xr.cell 5 rfl; have xr_6 := xr.cell 6 rfl; have xr_ne := xr.lt; have xr_n1 := Nat.lt_add_one_of_lt xr_ne; have xr_n2 := Nat.lt_add_one_of_lt xr_n1; have xr_f0 := xr.free 0; have xr_f1 := xr.free 1; have xr_f2 := xr.free 2; have xr_f3 := xr.free 3; have xr_f4 := xr.free 4; have xr_f5 := xr.free 5; have xr_f6 := xr.free 6
  go_wp2
  refine ret_blk (vs := [.int .i64 5, .int .i64 0, .int .i64 0, .int .i64 0, .int .i64 0, .int .i64 0, .int .i64 x6]) (Blk.set (Blk.set (Blk.set (Blk.set (Blk.set (Blk.set (Blk.set xr 0 _) 1 _) 2 _) 3 _) 4 _) 5 _) 6 _) ?_ rfl ⟨rfl, (by (repeat (first | with_reducible assumption | with_reducible exact Kp.refl _ | with_reducible refine Kp.drew ?_ | with_reducible refine Kp.drewN ?_ _ | with_reducible refine Kp.alloc ?_ _ | ((with_reducible refine Kp.setCell ?_ ?_ _); rotate_left; (focus (first | omega | (simp; done) | (simp; omega)))) | with_reducible refine Kp.trans ?_ (by assumption))))⟩; intro wz bz; have z0 := bz.cell 0 rfl; have z1 := bz.cell 1 rfl; have z2 := bz.cell 2 rfl; have z3 := bz.cell 3 rfl; have z4 := bz.cell 4 rfl; have z5 := bz.cell 5 rfl; have z6 := bz.cell 6 rfl; simp [results, Try.results16, go_sem, z0, z1, z2, z3, z4, z5, z6]
theorem made6_any (x1 x2 x3 x4 x5 x6 : Int) (w : World) : Calls Try.prog 16 #[.agg #[.int .i64 6, .int .i64 x1, .int .i64 x2, .int .i64 x3, .int .i64 x4, .int .i64 x5, .int .i64 x6]] w fun e w' => e = .returned (.agg #[.int .i64 6, .int .i64 0, .int .i64 0, .int .i64 0, .int .i64 0, .int .i64 0, .int .i64 x6]) ∧ Kp w w' := by
  go_enter Try.func16, Try.ntmps16
  go_wp2_with fail
  refine (float_any _ _).mono ?_
  rintro e w1 ⟨rfl, k1⟩
  have xr : Blk w1 (w.heap.size + 1) (ints [0, 0, 0, 0, 0, 0, 0]) 24 := Blk.kp (by (repeat (first | with_reducible assumption | ((with_reducible refine Blk.newL ?_ ?_); (focus (first | (simp; done) | omega)); rfl) | with_reducible refine Blk.drew ?_ | with_reducible refine Blk.drewN ?_ _ | with_reducible refine Blk.alloc ?_ _ | ((with_reducible refine Blk.other ?_ ?_ _); rotate_left; (focus (first | with_reducible assumption | omega | (simp; done) | (simp; omega))))))) k1; have xr_0 := xr.cell 0 rfl; have xr_1 := xr.cell 1 rfl; have xr_2 := xr.cell 2 rfl; have xr_3 := xr.cell 3 rfl; have xr_4 := xr.cell 4 rfl; have xr_5 := xr.cell 5 rfl; have xr_6 := xr.cell 6 rfl; have xr_ne := xr.lt; have xr_n1 := Nat.lt_add_one_of_lt xr_ne; have xr_n2 := Nat.lt_add_one_of_lt xr_n1; have xr_f0 := xr.free 0; have xr_f1 := xr.free 1; have xr_f2 := xr.free 2; have xr_f3 := xr.free 3; have xr_f4 := xr.free 4; have xr_f5 := xr.free 5; have xr_f6 := xr.free 6
  go_wp2
  refine ret_blk (vs := [.int .i64 6, .int .i64 0, .int .i64 0, .int .i64 0, .int .i64 0, .int .i64 0, .int .i64 x6]) (Blk.set (Blk.set (Blk.set (Blk.set (Blk.set (Blk.set (Blk.set xr 0 _) 1 _) 2 _) 3 _) 4 _) 5 _) 6 _) ?_ rfl ⟨rfl, (by (repeat (first | with_reducible assumption | with_reducible exact Kp.refl _ | with_reducible refine Kp.drew ?_ | with_reducible refine Kp.drewN ?_ _ | with_reducible refine Kp.alloc ?_ _ | ((with_reducible refine Kp.setCell ?_ ?_ _); rotate_left; (focus (first | omega | (simp; done) | (simp; omega)))) | with_reducible refine Kp.trans ?_ (by assumption))))⟩; intro wz bz; have z0 := bz.cell 0 rfl; have z1 := bz.cell 1 rfl; have z2 := bz.cell 2 rfl; have z3 := bz.cell 3 rfl; have z4 := bz.cell 4 rfl; have z5 := bz.cell 5 rfl; have z6 := bz.cell 6 rfl; simp [results, Try.results16, go_sem, z0, z1, z2, z3, z4, z5, z6]
theorem made7_any (x1 x2 x3 x4 x5 x6 : Int) (w : World) : Calls Try.prog 16 #[.agg #[.int .i64 7, .int .i64 x1, .int .i64 x2, .int .i64 x3, .int .i64 x4, .int .i64 x5, .int .i64 x6]] w fun e w' => e = .returned (.agg #[.int .i64 7, .int .i64 0, .int .i64 0, .int .i64 0, .int .i64 0, .int .i64 0, .int .i64 0]) ∧ Kp w w' := by
  go_enter Try.func16, Try.ntmps16
  go_wp2_with fail
  refine (barrier_any _).mono ?_
  rintro e w1 ⟨rfl, k1⟩
  have xr : Blk w1 (w.heap.size + 1) (ints [0, 0, 0, 0, 0, 0, 0]) 24 := Blk.kp (by (repeat (first | with_reducible assumption | ((with_reducible refine Blk.newL ?_ ?_); (focus (first | (simp; done) | omega)); rfl) | with_reducible refine Blk.drew ?_ | with_reducible refine Blk.drewN ?_ _ | with_reducible refine Blk.alloc ?_ _ | ((with_reducible refine Blk.other ?_ ?_ _); rotate_left; (focus (first | with_reducible assumption | omega | (simp; done) | (simp; omega))))))) k1; have xr_0 := xr.cell 0 rfl; have xr_1 := xr.cell 1 rfl; have xr_2 := xr.cell 2 rfl; have xr_3 := xr.cell 3 rfl; have xr_4 := xr.cell 4 rfl; have xr_5 := xr.cell 5 rfl; have xr_6 := xr.cell 6 rfl; have xr_ne := xr.lt; have xr_n1 := Nat.lt_add_one_of_lt xr_ne; have xr_n2 := Nat.lt_add_one_of_lt xr_n1; have xr_f0 := xr.free 0; have xr_f1 := xr.free 1; have xr_f2 := xr.free 2; have xr_f3 := xr.free 3; have xr_f4 := xr.free 4; have xr_f5 := xr.free 5; have xr_f6 := xr.free 6
  go_wp2
  refine ret_blk (vs := [.int .i64 7, .int .i64 0, .int .i64 0, .int .i64 0, .int .i64 0, .int .i64 0, .int .i64 0]) (Blk.set (Blk.set (Blk.set (Blk.set (Blk.set (Blk.set (Blk.set xr 0 _) 1 _) 2 _) 3 _) 4 _) 5 _) 6 _) ?_ rfl ⟨rfl, (by (repeat (first | with_reducible assumption | with_reducible exact Kp.refl _ | with_reducible refine Kp.drew ?_ | with_reducible refine Kp.drewN ?_ _ | with_reducible refine Kp.alloc ?_ _ | ((with_reducible refine Kp.setCell ?_ ?_ _); rotate_left; (focus (first | omega | (simp; done) | (simp; omega)))) | with_reducible refine Kp.trans ?_ (by assumption))))⟩; intro wz bz; have z0 := bz.cell 0 rfl; have z1 := bz.cell 1 rfl; have z2 := bz.cell 2 rfl; have z3 := bz.cell 3 rfl; have z4 := bz.cell 4 rfl; have z5 := bz.cell 5 rfl; have z6 := bz.cell 6 rfl; simp [results, Try.results16, go_sem, z0, z1, z2, z3, z4, z5, z6]
theorem made_ok (k x1 x2 x3 x4 x5 x6 : Int) (h : itemOk k x1 x2 x3 x4 x5 x6 = true) (w : World) : Calls Try.prog 16 #[.agg #[.int .i64 k, .int .i64 x1, .int .i64 x2, .int .i64 x3, .int .i64 x4, .int .i64 x5, .int .i64 x6]] w fun e w' => e = .returned (.agg #[.int .i64 k, .int .i64 x1, .int .i64 x2, .int .i64 x3, .int .i64 x4, .int .i64 x5, .int .i64 x6]) ∧ Kp w w' := by
  unfold itemOk at h
  by_cases k1 : k = 1
  · subst k1
    rw [if_pos rfl] at h
    simp only [Bool.and_eq_true, beq_iff_eq] at h
    obtain ⟨⟨_, e1, e2, e3, e4, e5, e6⟩, _⟩ := h
    subst_vars
    exact made1_any _ _ _ _ _ _ w
  rw [if_neg k1] at h
  by_cases k2 : k = 2
  · subst k2
    rw [if_pos rfl] at h
    simp only [Bool.and_eq_true, beq_iff_eq] at h
    obtain ⟨⟨_, e1, e2, e3, e4, e5, e6⟩, _⟩ := h
    subst_vars
    exact made2_any _ _ _ _ _ _ w
  rw [if_neg k2] at h
  by_cases k3 : k = 3
  · subst k3
    rw [if_pos rfl] at h
    simp only [Bool.and_eq_true, beq_iff_eq] at h
    obtain ⟨⟨_, e1, e2, e3, e4, e5, e6⟩, _⟩ := h
    subst_vars
    exact made3_any _ _ _ _ _ _ w
  rw [if_neg k3] at h
  by_cases k4 : k = 4
  · subst k4
    rw [if_pos rfl] at h
    simp only [Bool.and_eq_true, beq_iff_eq] at h
    obtain ⟨⟨_, e1, e2, e3, e4, e5, e6⟩, _⟩ := h
    subst_vars
    exact made4_any _ _ _ _ _ _ w
  rw [if_neg k4] at h
  by_cases k5 : k = 5
  · subst k5
    rw [if_pos rfl] at h
    simp only [Bool.and_eq_true, beq_iff_eq] at h
    obtain ⟨⟨_, e1, e2, e3, e4, e5, e6⟩, _⟩ := h
    subst_vars
    exact made5_any _ _ _ _ _ _ w
  rw [if_neg k5] at h
  by_cases k6 : k = 6
  · subst k6
    rw [if_pos rfl] at h
    simp only [Bool.and_eq_true, beq_iff_eq] at h
    obtain ⟨⟨_, e1, e2, e3, e4, e5, e6⟩, _⟩ := h
    subst_vars
    exact made6_any _ _ _ _ _ _ w
  rw [if_neg k6] at h
  by_cases k7 : k = 7
  · subst k7
    rw [if_pos rfl] at h
    simp only [Bool.and_eq_true, beq_iff_eq] at h
    obtain ⟨⟨_, e1, e2, e3, e4, e5, e6⟩, _⟩ := h
    subst_vars
    exact made7_any _ _ _ _ _ _ w
  rw [if_neg k7] at h
  cases h

set_option maxRecDepth 100000 in
set_option maxHeartbeats 2000000 in
theorem itemMakes_any (x : Item) (_hx : x.ok) (w : World) : Calls Try.prog 3 #[x.v] w fun e w' => e = .returned (.bool true) ∧ Kp w w' := by
  obtain ⟨k, x1, x2, x3, x4, x5, x6⟩ := x
  simp only [Item.v]
  have c := check_any k x1 x2 x3 x4 x5 x6
  have eI := @eqItem
  cases hv : itemOk k x1 x2 x3 x4 x5 x6 with
  | false =>
    rw [hv] at c
    have C := Lib.hid c
    clear c hv
    go_enter Try.func3, Try.ntmps3
    go_wp2_with fail
    refine (C.out _).mono ?_
    rintro e w1 ⟨rfl, k1⟩
    go_wp2_with (go_at_call 15; go_must (refine (itemAwake_any _).mono ?_); rintro e w' ⟨rfl, kk⟩)
    go_ret
    exact ⟨rfl, (by (repeat (first | with_reducible assumption | with_reducible exact Kp.refl _ | with_reducible refine Kp.drew ?_ | with_reducible refine Kp.drewN ?_ _ | with_reducible refine Kp.alloc ?_ _ | ((with_reducible refine Kp.setCell ?_ ?_ _); rotate_left; (focus (first | omega | (simp; done) | (simp; omega)))) | with_reducible refine Kp.trans ?_ (by assumption))))⟩
  | true =>
    have M := Lib.hid (made_ok k x1 x2 x3 x4 x5 x6 hv)
    rw [hv] at c
    have C := Lib.hid c
    clear c hv
    go_enter Try.func3, Try.ntmps3
    go_wp2_with fail
    refine (C.out _).mono ?_
    rintro e w1 ⟨rfl, k1⟩
    have xa : Blk w1 w.heap.size (ints [k, x1, x2, x3, x4, x5, x6]) 24 := Blk.kp (by (repeat (first | with_reducible assumption | ((with_reducible refine Blk.newL ?_ ?_); (focus (first | (simp; done) | omega)); rfl) | with_reducible refine Blk.drew ?_ | with_reducible refine Blk.drewN ?_ _ | with_reducible refine Blk.alloc ?_ _ | ((with_reducible refine Blk.other ?_ ?_ _); rotate_left; (focus (first | with_reducible assumption | omega | (simp; done) | (simp; omega))))))) k1; have xa_0 := xa.cell 0 rfl; have xa_1 := xa.cell 1 rfl; have xa_2 := xa.cell 2 rfl; have xa_3 := xa.cell 3 rfl; have xa_4 := xa.cell 4 rfl; have xa_5 := xa.cell 5 rfl; have xa_6 := xa.cell 6 rfl; have xa_ne := xa.lt; have xa_n1 := Nat.lt_add_one_of_lt xa_ne; have xa_n2 := Nat.lt_add_one_of_lt xa_n1
    have kw1 : Kp w w1 := (by (repeat (first | with_reducible assumption | with_reducible exact Kp.refl _ | with_reducible refine Kp.drew ?_ | with_reducible refine Kp.drewN ?_ _ | with_reducible refine Kp.alloc ?_ _ | ((with_reducible refine Kp.setCell ?_ ?_ _); rotate_left; (focus (first | omega | (simp; done) | (simp; omega)))) | with_reducible refine Kp.trans ?_ (by assumption))))
    clear k1
    go_wp2_with fail
    (refine wp_region_held_drew (S := (fun w' => (∀ b o, b < w1.heap.size → w'.cell? ⟨b, o, none⟩ = w1.cell? ⟨b, o, none⟩) ∧ Kp w1 w')) (by kernel_rfl) ?_ (fun hHd => ?_); (focus ((try dsimp only); (first | with_reducible assumption | with_reducible exact held_start _ | with_reducible exact held_next (by assumption) (by assumption) | with_reducible exact held_alloc (by assumption) _ | with_reducible exact held_drew (by assumption) | ((with_reducible refine held_kp ?_); (repeat (first | with_reducible assumption | with_reducible exact Kp.refl _ | with_reducible refine Kp.drew ?_ | with_reducible refine Kp.drewN ?_ _ | with_reducible refine Kp.alloc ?_ _ | ((with_reducible refine Kp.setCell ?_ ?_ _); rotate_left; (focus (first | omega | (simp; done) | (simp; omega)))) | with_reducible refine Kp.trans ?_ (by assumption))))))))
    (refine takeH (i := 0) (oi := ?o1) (v := ?v1) ?h1 (by kernel_rfl) ?q1 (Or.inl ⟨?w1, ?y1⟩) (by assumption) ?r1; (case h1 => ((simp only [g1, g3]); rfl)); (case q1 => exact fun _ _ _ h => h); (case w1 => rfl); (case y1 => (intro w' hSw; (try dsimp only at hSw); go_simp; (try with_reducible rfl))); (try simp only [Act.put, s1, s2, s3]))
    (refine takeH (i := 2) (oi := ?o2) (v := ?v2) ?h2 (by kernel_rfl) ?q2 (Or.inl ⟨?w2, ?y2⟩) (by assumption) ?r2; (case h2 => ((simp only [g1, g2, g3]); rfl)); (case q2 => exact fun _ _ _ h => h); (case w2 => rfl); (case y2 => (intro w' hSw; (try dsimp only at hSw); go_simp; (try with_reducible rfl))); (try simp only [Act.put, s1, s2, s3]))
    (refine wpAnyH_ready (rs := [1]) (by kernel_rfl) (by simp) ?_; refine AllReadyH.cons (o := ?o3) ?h3 (fun K hK => ?s3) AllReadyH.nil; (case h3 => (first | ((simp only [g1, g2, g3]); rfl) | rfl)); go_simp; (first | (go_at_call 16; go_must (refine (M.out _).mono ?_); rintro e w' ⟨rfl, kk⟩) | (go_at_call 15; go_must (refine (itemAwake_any _).mono ?_); rintro e w' ⟨rfl, kk⟩)); (try go_wp2_with fail); refine hK.out _ _ ?_ (fun hHd => ?_); (focus ((try dsimp only); (first | with_reducible assumption | with_reducible exact held_next (by assumption) (by assumption) | with_reducible exact held_alloc (by assumption) _))); clear hK K; (try simp only [Act.put, s1, s2, s3]))
    (refine takeH (i := 3) (oi := ?o4) (v := ?v4) ?h4 (by kernel_rfl) ?q4 (Or.inl ⟨?w4, ?y4⟩) (by assumption) ?r4; (case h4 => ((simp only [g1, g2, g3]); rfl)); (case q4 => exact fun _ _ _ h => h); (case w4 => rfl); (case y4 => (intro w' hSw; (try dsimp only at hSw); go_simp; (try with_reducible rfl))); (try simp only [Act.put, s1, s2, s3]))
    (refine takeH (i := 4) (oi := ?o5) (v := ?v5) ?h5 (by kernel_rfl) ?q5 (Or.inl ⟨?w5, ?y5⟩) (by assumption) ?r5; (case h5 => ((simp only [g1, g2, g3]); rfl)); (case q5 => exact fun _ _ _ h => h); (case w5 => rfl); (case y5 => (intro w' hSw; (try dsimp only at hSw); go_simp; (try with_reducible rfl))); (try simp only [Act.put, s1, s2, s3]))
    (refine wpAnyH_ready (rs := [5]) (by kernel_rfl) (by simp) ?_; refine AllReadyH.cons (o := ?o6) ?h6 (fun K hK => ?s6) AllReadyH.nil; (case h6 => (first | ((simp only [g1, g2, g3]); rfl) | rfl)); go_simp; (first | (go_at_call 16; go_must (refine (M.out _).mono ?_); rintro e w' ⟨rfl, kk⟩) | (go_at_call 15; go_must (refine (itemAwake_any _).mono ?_); rintro e w' ⟨rfl, kk⟩)); (try go_wp2_with fail); refine hK.out _ _ ?_ (fun hHd => ?_); (focus ((try dsimp only); (first | with_reducible assumption | with_reducible exact held_next (by assumption) (by assumption) | with_reducible exact held_alloc (by assumption) _))); clear hK K; (try simp only [Act.put, s1, s2, s3]))
    (refine takeH (i := 6) (oi := ?o7) (v := ?v7) ?h7 (by kernel_rfl) ?q7 (Or.inl ⟨?w7, ?y7⟩) (by assumption) ?r7; (case h7 => ((simp only [g1, g2, g3]); rfl)); (case q7 => exact fun _ _ _ h => h); (case w7 => rfl); (case y7 => (intro w' hSw; (try dsimp only at hSw); go_simp; (try with_reducible rfl))); (try simp only [Act.put, s1, s2, s3]))
    (refine takeH (i := 7) (oi := ?o8) (v := ?v8) ?h8 (by kernel_rfl) ?q8 (Or.inl ⟨?w8, ?y8⟩) (by assumption) ?r8; (case h8 => ((simp only [g1, g2, g3]); rfl)); (case q8 => exact fun _ _ _ h => h); (case w8 => rfl); (case y8 => (intro w' hSw; (try dsimp only at hSw); go_simp; (try with_reducible rfl))); (try simp only [Act.put, s1, s2, s3]))
    refine wpAnyH_done (by kernel_rfl) ?_ _
    go_wp2
    go_ret
    exact ⟨rfl, (by (repeat (first | with_reducible assumption | with_reducible exact Kp.refl _ | with_reducible refine Kp.drew ?_ | with_reducible refine Kp.drewN ?_ _ | with_reducible refine Kp.alloc ?_ _ | ((with_reducible refine Kp.setCell ?_ ?_ _); rotate_left; (focus (first | omega | (simp; done) | (simp; omega)))) | with_reducible refine Kp.trans ?_ (by assumption))))⟩

/-- How many of a kind there are. -/
def cnt (l : List Item) (k : Int) : Nat := (l.filter fun x => x.k == k).length
theorem cnt_snoc {l : List Item} {j : Nat} {x : Item} (h : l[j]? = some x) (k : Int) : cnt (l.take (j + 1)) k = cnt (l.take j) k + (if x.k = k then 1 else 0) := by
  obtain ⟨hk, rfl⟩ := List.getElem?_eq_some_iff.1 h
  unfold cnt
  rw [List.take_succ_eq_append_getElem hk, List.filter_append, List.length_append]
  by_cases hx : l[j].k = k
  · simp [hx]
  · simp [hx]
theorem cnt_le (l : List Item) (j : Nat) (k : Int) : cnt (l.take j) k ≤ j := by
  unfold cnt
  have := List.length_filter_le (fun x : Item => x.k == k) (l.take j)
  rw [List.length_take] at this
  omega

set_option maxRecDepth 100000 in
set_option maxHeartbeats 1000000 in
theorem count_any (a : Option Addr) (len cap : Nat) (l : List Item) (k : Int) (w : World) (hl : SlOk w 7 Item.cells a len cap l) :
    Calls Try.prog 24 #[.slice a len cap, .int .i64 k] w fun e w' => e = .returned (.int .i64 (cnt l k)) ∧ Kp w w' := by
  have hm := hl.2.2.1
  have hc := hl.2.1
  unfold maxLen at hm
  go_enter Try.func24, Try.ntmps24
  go_wp2
  go_loopw [5, 10] (fun v5 v10 wr => ∃ j n : Nat, j ≤ len ∧ v10 = .int .i64 j ∧ v5 = .int .i64 n ∧ Kp w wr ∧ Hid (cnt (l.take j) k = n ∧ n ≤ j)) (fun _ v10 _ => len - (intOf v10).toNat)
  case atStart => exact ⟨0, 0, by omega, rfl, rfl, (by (repeat (first | with_reducible assumption | with_reducible exact Kp.refl _ | with_reducible refine Kp.drew ?_ | with_reducible refine Kp.drewN ?_ _ | with_reducible refine Kp.alloc ?_ _ | ((with_reducible refine Kp.setCell ?_ ?_ _); rotate_left; (focus (first | omega | (simp; done) | (simp; omega)))) | with_reducible refine Kp.trans ?_ (by assumption)))), rfl, by omega⟩
  case round =>
    obtain ⟨j, n, hj, rfl, rfl, xk, hs⟩ := hrel
    have xl := hl.kp xk
    have HL := Lib.hid xl.1
    by_cases hlt : j < len
    · obtain ⟨x, hx⟩ : ∃ x, l[j]? = some x := ⟨l[j]'(by rw [xl.1]; exact hlt), List.getElem?_eq_getElem _⟩
      have HX := Lib.hid hx; clear hx
      rcases xl.2.2.2 with e | ⟨b, off, rfl, hb, hrow⟩
      · exact absurd (by rw [← xl.1, e]; rfl) (Nat.ne_of_gt (Nat.lt_of_le_of_lt (Nat.zero_le j) hlt))
      · obtain ⟨x0, x1, x2, x3, x4, x5, x6⟩ := x
        have c0 : wr.cell? ⟨b, off + j * 7, none⟩ = some (.int .i64 x0) := hrow j _ HX.out 0 _ rfl
        have c1 : wr.cell? ⟨b, off + j * 7 + 1, none⟩ = some (.int .i64 x1) := hrow j _ HX.out 1 _ rfl
        have c2 : wr.cell? ⟨b, off + j * 7 + 2, none⟩ = some (.int .i64 x2) := hrow j _ HX.out 2 _ rfl
        have c3 : wr.cell? ⟨b, off + j * 7 + 3, none⟩ = some (.int .i64 x3) := hrow j _ HX.out 3 _ rfl
        have c4 : wr.cell? ⟨b, off + j * 7 + 4, none⟩ = some (.int .i64 x4) := hrow j _ HX.out 4 _ rfl
        have c5 : wr.cell? ⟨b, off + j * 7 + 5, none⟩ = some (.int .i64 x5) := hrow j _ HX.out 5 _ rfl
        have c6 : wr.cell? ⟨b, off + j * 7 + 6, none⟩ = some (.int .i64 x6) := hrow j _ HX.out 6 _ rfl
        have HN := Lib.hid (cnt_snoc HX.out k)
        clear hrow
        have nb := hs.out.2
        by_cases hk : x0 = k
        · subst hk
          go_wp2
          go_roundw
          case rel => exact ⟨j + 1, n + 1, by omega, by go_num, by go_num, (by (repeat (first | with_reducible assumption | with_reducible exact Kp.refl _ | with_reducible refine Kp.drew ?_ | with_reducible refine Kp.drewN ?_ _ | with_reducible refine Kp.alloc ?_ _ | ((with_reducible refine Kp.setCell ?_ ?_ _); rotate_left; (focus (first | omega | (simp; done) | (simp; omega)))) | with_reducible refine Kp.trans ?_ (by assumption)))), by rw [HN.out, hs.out.1]; simp, by omega⟩
          case measure => simp [intOf]; omega
        · have hkb : (x0 == k) = false := beq_eq_false_iff_ne.2 hk
          go_wp2
          go_roundw
          case rel => exact ⟨j + 1, n, by omega, by go_num, rfl, (by (repeat (first | with_reducible assumption | with_reducible exact Kp.refl _ | with_reducible refine Kp.drew ?_ | with_reducible refine Kp.drewN ?_ _ | with_reducible refine Kp.alloc ?_ _ | ((with_reducible refine Kp.setCell ?_ ?_ _); rotate_left; (focus (first | omega | (simp; done) | (simp; omega)))) | with_reducible refine Kp.trans ?_ (by assumption)))), by rw [HN.out, hs.out.1]; simp [hk], by omega⟩
          case measure => simp [intOf]; omega
    · obtain rfl : j = len := by omega
      have hlast := hs.out.1
      rw [List.take_of_length_le (Nat.le_of_eq HL.out)] at hlast
      have HE : Hid ((n : Int) = (cnt l k : Int)) := by rw [hlast]; exact Lib.hid rfl
      clear hlast hs xl
      go_wp2
      go_ret
      exact ⟨ret_int HE.out, (by (repeat (first | with_reducible assumption | with_reducible exact Kp.refl _ | with_reducible refine Kp.drew ?_ | with_reducible refine Kp.drewN ?_ _ | with_reducible refine Kp.alloc ?_ _ | ((with_reducible refine Kp.setCell ?_ ?_ _); rotate_left; (focus (first | omega | (simp; done) | (simp; omega)))) | with_reducible refine Kp.trans ?_ (by assumption))))⟩

set_option maxRecDepth 100000 in
set_option maxHeartbeats 1000000 in
theorem itemCounts_any (s : SlV Item) (k : Int) (w : World) (hs : SlOk w 7 Item.cells s.a s.len s.cap s.l ∧ ∀ y, y ∈ s.l → Item.ok y) (_hk : I64 k) :
    Calls Try.prog 5 #[s.v, .int .i64 k] w fun e w' => e = .returned (.bool true) ∧ Kp w w' := by
  obtain ⟨a, len, cap, l⟩ := s
  obtain ⟨hl, _⟩ := hs
  simp only [SlV.v] at *
  have hm := hl.2.2.1
  have hc := hl.2.1
  unfold maxLen at hm
  by_cases hlen : len > 200
  · go_enter Try.func5, Try.ntmps5
    go_wp2_with (go_at_call 15; refine (itemAwake_any _).mono ?_; rintro e w' ⟨rfl, kk⟩)
    go_ret
    exact ⟨rfl, (by (repeat (first | with_reducible assumption | with_reducible exact Kp.refl _ | with_reducible refine Kp.drew ?_ | with_reducible refine Kp.drewN ?_ _ | with_reducible refine Kp.alloc ?_ _ | ((with_reducible refine Kp.setCell ?_ ?_ _); rotate_left; (focus (first | omega | (simp; done) | (simp; omega)))) | with_reducible refine Kp.trans ?_ (by assumption))))⟩
  · go_enter Try.func5, Try.ntmps5
    go_wp2
    go_loopw [5, 6] (fun v5 v6 wr => ∃ j n : Nat, j ≤ len ∧ v6 = .int .i64 j ∧ v5 = .int .i64 n ∧ Kp w wr ∧ Hid (cnt (l.take j) k = n ∧ n ≤ j)) (fun _ v6 _ => len - (intOf v6).toNat)
    case atStart => exact ⟨0, 0, by omega, rfl, rfl, (by (repeat (first | with_reducible assumption | with_reducible exact Kp.refl _ | with_reducible refine Kp.drew ?_ | with_reducible refine Kp.drewN ?_ _ | with_reducible refine Kp.alloc ?_ _ | ((with_reducible refine Kp.setCell ?_ ?_ _); rotate_left; (focus (first | omega | (simp; done) | (simp; omega)))) | with_reducible refine Kp.trans ?_ (by assumption)))), rfl, by omega⟩
    case round =>
      obtain ⟨j, n, hj, rfl, rfl, xk, hs⟩ := hrel
      have xl := hl.kp xk
      have HL := Lib.hid xl.1
      by_cases hlt : j < len
      · obtain ⟨x, hx⟩ : ∃ x, l[j]? = some x := ⟨l[j]'(by rw [xl.1]; exact hlt), List.getElem?_eq_getElem _⟩
        have HX := Lib.hid hx; clear hx
        rcases xl.2.2.2 with e | ⟨b, off, rfl, hb, hrow⟩
        · exact absurd (by rw [← xl.1, e]; rfl) (Nat.ne_of_gt (Nat.lt_of_le_of_lt (Nat.zero_le j) hlt))
        · obtain ⟨x0, x1, x2, x3, x4, x5, x6⟩ := x
          have c0 : wr.cell? ⟨b, off + j * 7, none⟩ = some (.int .i64 x0) := hrow j _ HX.out 0 _ rfl
          have HN := Lib.hid (cnt_snoc HX.out k)
          clear hrow
          have nb := hs.out.2
          by_cases hk : x0 = k
          · subst hk
            go_wp2
            go_roundw
            case rel => exact ⟨j + 1, n + 1, by omega, by go_num, by go_num, (by (repeat (first | with_reducible assumption | with_reducible exact Kp.refl _ | with_reducible refine Kp.drew ?_ | with_reducible refine Kp.drewN ?_ _ | with_reducible refine Kp.alloc ?_ _ | ((with_reducible refine Kp.setCell ?_ ?_ _); rotate_left; (focus (first | omega | (simp; done) | (simp; omega)))) | with_reducible refine Kp.trans ?_ (by assumption)))), by rw [HN.out, hs.out.1]; simp, by omega⟩
            case measure => simp [intOf]; omega
          · have hkb : (x0 == k) = false := beq_eq_false_iff_ne.2 hk
            go_wp2
            go_roundw
            case rel => exact ⟨j + 1, n, by omega, by go_num, rfl, (by (repeat (first | with_reducible assumption | with_reducible exact Kp.refl _ | with_reducible refine Kp.drew ?_ | with_reducible refine Kp.drewN ?_ _ | with_reducible refine Kp.alloc ?_ _ | ((with_reducible refine Kp.setCell ?_ ?_ _); rotate_left; (focus (first | omega | (simp; done) | (simp; omega)))) | with_reducible refine Kp.trans ?_ (by assumption)))), by rw [HN.out, hs.out.1]; simp [hk], by omega⟩
            case measure => simp [intOf]; omega
      · obtain rfl : j = len := by omega
        have hlast := hs.out.1
        rw [List.take_of_length_le (Nat.le_of_eq HL.out)] at hlast
        have C := fun w hl => count_any a j cap l k w hl
        rw [hlast] at C
        have CH := Lib.hid C
        have Z := Lib.hid (fun w => count_any none 0 0 [] k w ⟨rfl, Nat.le_refl _, Nat.zero_le _, .inl rfl⟩)
        clear hlast hs C
        go_wp2_with fail
        refine (CH.out _ xl).mono ?_
        rintro e w1 ⟨rfl, k1⟩
        go_wp2_with fail
        refine (Z.out _).mono ?_
        rintro e w2 ⟨rfl, k2⟩
        have zz : cnt [] k = 0 := rfl
        rw [zz]
        go_wp2_with (go_at_call 15; refine (itemAwake_any _).mono ?_; rintro e w' ⟨rfl, kk⟩)
        go_ret
        exact ⟨rfl, (by (repeat (first | with_reducible assumption | with_reducible exact Kp.refl _ | with_reducible refine Kp.drew ?_ | with_reducible refine Kp.drewN ?_ _ | with_reducible refine Kp.alloc ?_ _ | ((with_reducible refine Kp.setCell ?_ ?_ _); rotate_left; (focus (first | omega | (simp; done) | (simp; omega)))) | with_reducible refine Kp.trans ?_ (by assumption))))⟩
end Go.Proofs.Ytepckgcbncdibaa
