/- The total of an item: the walks. -/
import Derived.Test.YteipfamaclildaaTot2

import Derived.Test.YteipfamaclildaaItem

namespace Go.Proofs.Yteipfamaclildaa

open Go.RowKit

theorem total1_any (x1 x2 x3 x4 x5 x6 : Int) (w : World) : Calls Try.prog 44 #[.agg #[.int .i64 1, .int .i64 x1, .int .i64 x2, .int .i64 x3, .int .i64 x4, .int .i64 x5, .int .i64 x6]] w fun e w' => e = .returned (.agg #[.int .i64 x1, .int .i64 0, .int .i64 0, .int .i64 0, .int .i64 0, .int .i64 0]) ∧ Kp w w' := by
  go_enter Try.func44, Try.ntmps44
  go_wp2_with fail
  refine (totBox_any _ _).mono ?_
  rintro e w1 ⟨rfl, k1⟩
  have xr : Blk w1 (w.heap.size + 1) (ints [0, 0, 0, 0, 0, 0]) 31 := Blk.kp (by (repeat (first | with_reducible assumption | ((with_reducible refine Blk.newL ?_ ?_); (focus (first | (simp; done) | omega)); rfl) | with_reducible refine Blk.drew ?_ | with_reducible refine Blk.drewN ?_ _ | with_reducible refine Blk.alloc ?_ _ | ((with_reducible refine Blk.other ?_ ?_ _); rotate_left; (focus (first | with_reducible assumption | omega | (simp; done) | (simp; omega))))))) k1; have xr_0 := xr.cell 0 rfl; have xr_1 := xr.cell 1 rfl; have xr_2 := xr.cell 2 rfl; have xr_3 := xr.cell 3 rfl; have xr_4 := xr.cell 4 rfl; have xr_5 := xr.cell 5 rfl; have xr_ne := xr.lt; have xr_n1 := Nat.lt_add_one_of_lt xr_ne; have xr_n2 := Nat.lt_add_one_of_lt xr_n1; have xr_f0 := xr.free 0; have xr_f1 := xr.free 1; have xr_f2 := xr.free 2; have xr_f3 := xr.free 3; have xr_f4 := xr.free 4; have xr_f5 := xr.free 5
  go_wp2
  refine ret_blk (vs := [.int .i64 x1, .int .i64 0, .int .i64 0, .int .i64 0, .int .i64 0, .int .i64 0]) (Blk.set (Blk.set (Blk.set (Blk.set (Blk.set (Blk.set xr 0 _) 1 _) 2 _) 3 _) 4 _) 5 _) ?_ rfl ⟨rfl, (by (repeat (first | with_reducible assumption | with_reducible exact Kp.refl _ | with_reducible refine Kp.drew ?_ | with_reducible refine Kp.drewN ?_ _ | with_reducible refine Kp.alloc ?_ _ | ((with_reducible refine Kp.setCell ?_ ?_ _); rotate_left; (focus (first | omega | (simp; done) | (simp; omega)))) | with_reducible refine Kp.trans ?_ (by assumption))))⟩; intro wz bz; have z0 := bz.cell 0 rfl; have z1 := bz.cell 1 rfl; have z2 := bz.cell 2 rfl; have z3 := bz.cell 3 rfl; have z4 := bz.cell 4 rfl; have z5 := bz.cell 5 rfl; simp [results, Try.results44, go_sem, z0, z1, z2, z3, z4, z5]
theorem total2_any (x1 x2 x3 x4 x5 x6 : Int) (w : World) : Calls Try.prog 44 #[.agg #[.int .i64 2, .int .i64 x1, .int .i64 x2, .int .i64 x3, .int .i64 x4, .int .i64 x5, .int .i64 x6]] w fun e w' => e = .returned (.agg #[.int .i64 x1, .int .i64 (strAt x3 x4 0), .int .i64 (strAt x3 x4 1), .int .i64 (strAt x3 x4 2), .int .i64 (strAt x3 x4 3), .int .i64 x5]) ∧ Kp w w' := by
  have c := totGlue_any x1 x3 x4 x5
  obtain ⟨s0, h0⟩ : ∃ s, strAt x3 x4 0 = s := ⟨_, rfl⟩
  obtain ⟨s1', h1⟩ : ∃ s, strAt x3 x4 1 = s := ⟨_, rfl⟩
  obtain ⟨s2', h2⟩ : ∃ s, strAt x3 x4 2 = s := ⟨_, rfl⟩
  obtain ⟨s3', h3⟩ : ∃ s, strAt x3 x4 3 = s := ⟨_, rfl⟩
  rw [h0, h1, h2, h3] at c ⊢
  clear h0 h1 h2 h3
  go_enter Try.func44, Try.ntmps44
  go_wp2_with fail
  refine (c _).mono ?_
  rintro e w1 ⟨rfl, k1⟩
  have xr : Blk w1 (w.heap.size + 1) (ints [0, 0, 0, 0, 0, 0]) 31 := Blk.kp (by (repeat (first | with_reducible assumption | ((with_reducible refine Blk.newL ?_ ?_); (focus (first | (simp; done) | omega)); rfl) | with_reducible refine Blk.drew ?_ | with_reducible refine Blk.drewN ?_ _ | with_reducible refine Blk.alloc ?_ _ | ((with_reducible refine Blk.other ?_ ?_ _); rotate_left; (focus (first | with_reducible assumption | omega | (simp; done) | (simp; omega))))))) k1; have xr_0 := xr.cell 0 rfl; have xr_1 := xr.cell 1 rfl; have xr_2 := xr.cell 2 rfl; have xr_3 := xr.cell 3 rfl; have xr_4 := xr.cell 4 rfl; have xr_5 := xr.cell 5 rfl; have xr_ne := xr.lt; have xr_n1 := Nat.lt_add_one_of_lt xr_ne; have xr_n2 := Nat.lt_add_one_of_lt xr_n1; have xr_f0 := xr.free 0; have xr_f1 := xr.free 1; have xr_f2 := xr.free 2; have xr_f3 := xr.free 3; have xr_f4 := xr.free 4; have xr_f5 := xr.free 5
  go_wp2
  refine ret_blk (vs := [.int .i64 x1, .int .i64 s0, .int .i64 s1', .int .i64 s2', .int .i64 s3', .int .i64 x5]) (Blk.set (Blk.set (Blk.set (Blk.set (Blk.set (Blk.set xr 0 _) 1 _) 2 _) 3 _) 4 _) 5 _) ?_ rfl ⟨rfl, (by (repeat (first | with_reducible assumption | with_reducible exact Kp.refl _ | with_reducible refine Kp.drew ?_ | with_reducible refine Kp.drewN ?_ _ | with_reducible refine Kp.alloc ?_ _ | ((with_reducible refine Kp.setCell ?_ ?_ _); rotate_left; (focus (first | omega | (simp; done) | (simp; omega)))) | with_reducible refine Kp.trans ?_ (by assumption))))⟩; intro wz bz; have z0 := bz.cell 0 rfl; have z1 := bz.cell 1 rfl; have z2 := bz.cell 2 rfl; have z3 := bz.cell 3 rfl; have z4 := bz.cell 4 rfl; have z5 := bz.cell 5 rfl; simp [results, Try.results44, go_sem, z0, z1, z2, z3, z4, z5]
theorem total0_any (k x1 x2 x3 x4 x5 x6 : Int) (h1 : k ≠ 1) (h2 : k ≠ 2) (w : World) : Calls Try.prog 44 #[.agg #[.int .i64 k, .int .i64 x1, .int .i64 x2, .int .i64 x3, .int .i64 x4, .int .i64 x5, .int .i64 x6]] w fun e w' => e = .returned (.agg #[.int .i64 0, .int .i64 0, .int .i64 0, .int .i64 0, .int .i64 0, .int .i64 0]) ∧ Kp w w' := by
  have n1 : (k == 1) = false := beq_eq_false_iff_ne.2 h1
  have n2 : (k == 2) = false := beq_eq_false_iff_ne.2 h2
  go_enter Try.func44, Try.ntmps44
  go_wp2
  exact bodyPost_ret (v := .agg #[.int .i64 0, .int .i64 0, .int .i64 0, .int .i64 0, .int .i64 0, .int .i64 0]) (by simp [results, Try.results44, go_sem]) rfl ⟨rfl, (by (repeat (first | with_reducible assumption | with_reducible exact Kp.refl _ | with_reducible refine Kp.drew ?_ | with_reducible refine Kp.drewN ?_ _ | with_reducible refine Kp.alloc ?_ _ | ((with_reducible refine Kp.setCell ?_ ?_ _); rotate_left; (focus (first | omega | (simp; done) | (simp; omega)))) | with_reducible refine Kp.trans ?_ (by assumption))))⟩
theorem refTotal1_any (x1 x2 x3 x4 x5 x6 : Int) (w : World) : Calls Try.prog 48 #[.agg #[.int .i64 1, .int .i64 x1, .int .i64 x2, .int .i64 x3, .int .i64 x4, .int .i64 x5, .int .i64 x6]] w fun e w' => e = .returned (.agg #[.int .i64 x1, .int .i64 0, .int .i64 0, .int .i64 0, .int .i64 0, .int .i64 0]) ∧ Kp w w' := by
  go_enter Try.func48, Try.ntmps48
  go_wp2_with fail
  refine (refBox_any _ _).mono ?_
  rintro e w1 ⟨rfl, k1⟩
  have xr : Blk w1 (w.heap.size + 1) (ints [0, 0, 0, 0, 0, 0]) 31 := Blk.kp (by (repeat (first | with_reducible assumption | ((with_reducible refine Blk.newL ?_ ?_); (focus (first | (simp; done) | omega)); rfl) | with_reducible refine Blk.drew ?_ | with_reducible refine Blk.drewN ?_ _ | with_reducible refine Blk.alloc ?_ _ | ((with_reducible refine Blk.other ?_ ?_ _); rotate_left; (focus (first | with_reducible assumption | omega | (simp; done) | (simp; omega))))))) k1; have xr_0 := xr.cell 0 rfl; have xr_1 := xr.cell 1 rfl; have xr_2 := xr.cell 2 rfl; have xr_3 := xr.cell 3 rfl; have xr_4 := xr.cell 4 rfl; have xr_5 := xr.cell 5 rfl; have xr_ne := xr.lt; have xr_n1 := Nat.lt_add_one_of_lt xr_ne; have xr_n2 := Nat.lt_add_one_of_lt xr_n1; have xr_f0 := xr.free 0; have xr_f1 := xr.free 1; have xr_f2 := xr.free 2; have xr_f3 := xr.free 3; have xr_f4 := xr.free 4; have xr_f5 := xr.free 5
  go_wp2
  refine ret_blk (vs := [.int .i64 x1, .int .i64 0, .int .i64 0, .int .i64 0, .int .i64 0, .int .i64 0]) (Blk.set (Blk.set (Blk.set (Blk.set (Blk.set (Blk.set xr 0 _) 1 _) 2 _) 3 _) 4 _) 5 _) ?_ rfl ⟨rfl, (by (repeat (first | with_reducible assumption | with_reducible exact Kp.refl _ | with_reducible refine Kp.drew ?_ | with_reducible refine Kp.drewN ?_ _ | with_reducible refine Kp.alloc ?_ _ | ((with_reducible refine Kp.setCell ?_ ?_ _); rotate_left; (focus (first | omega | (simp; done) | (simp; omega)))) | with_reducible refine Kp.trans ?_ (by assumption))))⟩; intro wz bz; have z0 := bz.cell 0 rfl; have z1 := bz.cell 1 rfl; have z2 := bz.cell 2 rfl; have z3 := bz.cell 3 rfl; have z4 := bz.cell 4 rfl; have z5 := bz.cell 5 rfl; simp [results, Try.results48, go_sem, z0, z1, z2, z3, z4, z5]
theorem refTotal2_any (x1 x2 x3 x4 x5 x6 : Int) (w : World) : Calls Try.prog 48 #[.agg #[.int .i64 2, .int .i64 x1, .int .i64 x2, .int .i64 x3, .int .i64 x4, .int .i64 x5, .int .i64 x6]] w fun e w' => e = .returned (.agg #[.int .i64 x1, .int .i64 (strAt x3 x4 0), .int .i64 (strAt x3 x4 1), .int .i64 (strAt x3 x4 2), .int .i64 (strAt x3 x4 3), .int .i64 x5]) ∧ Kp w w' := by
  have c := refGlue_any x1 x3 x4 x5
  obtain ⟨s0, h0⟩ : ∃ s, strAt x3 x4 0 = s := ⟨_, rfl⟩
  obtain ⟨s1', h1⟩ : ∃ s, strAt x3 x4 1 = s := ⟨_, rfl⟩
  obtain ⟨s2', h2⟩ : ∃ s, strAt x3 x4 2 = s := ⟨_, rfl⟩
  obtain ⟨s3', h3⟩ : ∃ s, strAt x3 x4 3 = s := ⟨_, rfl⟩
  rw [h0, h1, h2, h3] at c ⊢
  clear h0 h1 h2 h3
  go_enter Try.func48, Try.ntmps48
  go_wp2_with fail
  refine (c _).mono ?_
  rintro e w1 ⟨rfl, k1⟩
  have xr : Blk w1 (w.heap.size + 1) (ints [0, 0, 0, 0, 0, 0]) 31 := Blk.kp (by (repeat (first | with_reducible assumption | ((with_reducible refine Blk.newL ?_ ?_); (focus (first | (simp; done) | omega)); rfl) | with_reducible refine Blk.drew ?_ | with_reducible refine Blk.drewN ?_ _ | with_reducible refine Blk.alloc ?_ _ | ((with_reducible refine Blk.other ?_ ?_ _); rotate_left; (focus (first | with_reducible assumption | omega | (simp; done) | (simp; omega))))))) k1; have xr_0 := xr.cell 0 rfl; have xr_1 := xr.cell 1 rfl; have xr_2 := xr.cell 2 rfl; have xr_3 := xr.cell 3 rfl; have xr_4 := xr.cell 4 rfl; have xr_5 := xr.cell 5 rfl; have xr_ne := xr.lt; have xr_n1 := Nat.lt_add_one_of_lt xr_ne; have xr_n2 := Nat.lt_add_one_of_lt xr_n1; have xr_f0 := xr.free 0; have xr_f1 := xr.free 1; have xr_f2 := xr.free 2; have xr_f3 := xr.free 3; have xr_f4 := xr.free 4; have xr_f5 := xr.free 5
  go_wp2
  refine ret_blk (vs := [.int .i64 x1, .int .i64 s0, .int .i64 s1', .int .i64 s2', .int .i64 s3', .int .i64 x5]) (Blk.set (Blk.set (Blk.set (Blk.set (Blk.set (Blk.set xr 0 _) 1 _) 2 _) 3 _) 4 _) 5 _) ?_ rfl ⟨rfl, (by (repeat (first | with_reducible assumption | with_reducible exact Kp.refl _ | with_reducible refine Kp.drew ?_ | with_reducible refine Kp.drewN ?_ _ | with_reducible refine Kp.alloc ?_ _ | ((with_reducible refine Kp.setCell ?_ ?_ _); rotate_left; (focus (first | omega | (simp; done) | (simp; omega)))) | with_reducible refine Kp.trans ?_ (by assumption))))⟩; intro wz bz; have z0 := bz.cell 0 rfl; have z1 := bz.cell 1 rfl; have z2 := bz.cell 2 rfl; have z3 := bz.cell 3 rfl; have z4 := bz.cell 4 rfl; have z5 := bz.cell 5 rfl; simp [results, Try.results48, go_sem, z0, z1, z2, z3, z4, z5]
theorem refTotal0_any (k x1 x2 x3 x4 x5 x6 : Int) (h1 : k ≠ 1) (h2 : k ≠ 2) (w : World) : Calls Try.prog 48 #[.agg #[.int .i64 k, .int .i64 x1, .int .i64 x2, .int .i64 x3, .int .i64 x4, .int .i64 x5, .int .i64 x6]] w fun e w' => e = .returned (.agg #[.int .i64 0, .int .i64 0, .int .i64 0, .int .i64 0, .int .i64 0, .int .i64 0]) ∧ Kp w w' := by
  have n1 : (k == 1) = false := beq_eq_false_iff_ne.2 h1
  have n2 : (k == 2) = false := beq_eq_false_iff_ne.2 h2
  go_enter Try.func48, Try.ntmps48
  go_wp2
  exact bodyPost_ret (v := .agg #[.int .i64 0, .int .i64 0, .int .i64 0, .int .i64 0, .int .i64 0, .int .i64 0]) (by simp [results, Try.results48, go_sem]) rfl ⟨rfl, (by (repeat (first | with_reducible assumption | with_reducible exact Kp.refl _ | with_reducible refine Kp.drew ?_ | with_reducible refine Kp.drewN ?_ _ | with_reducible refine Kp.alloc ?_ _ | ((with_reducible refine Kp.setCell ?_ ?_ _); rotate_left; (focus (first | omega | (simp; done) | (simp; omega)))) | with_reducible refine Kp.trans ?_ (by assumption))))⟩

/-- The total of an item. -/
def totI (x : Item) : Tot := if x.k = 1 then ⟨x.h, 0, 0, 0, 0, 0⟩ else if x.k = 2 then ⟨x.h, strAt x.str x.ord 0, strAt x.str x.ord 1, strAt x.str x.ord 2, strAt x.str x.ord 3, x.shr⟩ else Tot.zero
theorem itemTot_any (x : Item) (w : World) : Calls Try.prog 44 #[x.v] w fun e w' => e = .returned (totI x).v ∧ Kp w w' := by
  obtain ⟨k, x1, x2, x3, x4, x5, x6⟩ := x
  unfold totI
  by_cases h1 : k = 1
  · subst h1; exact total1_any x1 x2 x3 x4 x5 x6 w
  · by_cases h2 : k = 2
    · subst h2; exact total2_any x1 x2 x3 x4 x5 x6 w
    · simp only [h1, h2, if_false]
      exact total0_any k x1 x2 x3 x4 x5 x6 h1 h2 w
theorem refItemTot_any (x : Item) (w : World) : Calls Try.prog 48 #[x.v] w fun e w' => e = .returned (totI x).v ∧ Kp w w' := by
  obtain ⟨k, x1, x2, x3, x4, x5, x6⟩ := x
  unfold totI
  by_cases h1 : k = 1
  · subst h1; exact refTotal1_any x1 x2 x3 x4 x5 x6 w
  · by_cases h2 : k = 2
    · subst h2; exact refTotal2_any x1 x2 x3 x4 x5 x6 w
    · simp only [h1, h2, if_false]
      exact refTotal0_any k x1 x2 x3 x4 x5 x6 h1 h2 w
end Go.Proofs.Yteipfamaclildaa
