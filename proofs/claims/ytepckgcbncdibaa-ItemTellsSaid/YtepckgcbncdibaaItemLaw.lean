/- item.Check of any item; the small functions of items. -/
import Derived.Test.YtepckgcbncdibaaItemK1
import Derived.Test.YtepckgcbncdibaaItemK2
import Derived.Test.YtepckgcbncdibaaItemK3
import Derived.Test.YtepckgcbncdibaaItemK4
import Derived.Test.YtepckgcbncdibaaItemK5
import Derived.Test.YtepckgcbncdibaaItemK6
import Derived.Test.YtepckgcbncdibaaItemK7
import Derived.Test.YtepckgcbncdibaaBoxGlue
import Derived.Test.YtepckgcbncdibaaFld
namespace Go.Proofs.Ytepckgcbncdibaa
open Go.RowKit

/-- May an item be? -/
def itemOk (k x1 x2 x3 x4 x5 x6 : Int) : Bool :=
  if k = 1 then ((1 : Int) == 1 && ((x1 : Int) == x1 && ((x2 : Int) == x2 && ((0 : Int) == x3 && ((0 : Int) == x4 && ((0 : Int) == x5 && ((0 : Int) == x6))))))) && (upto 0 x6 && (long3 x1 x3 x5 && (upto 3 x2 && upto 3 x4)))
  else if k = 2 then ((2 : Int) == 2 && ((x1 : Int) == x1 && ((0 : Int) == x2 && ((x3 : Int) == x3 && ((x4 : Int) == x4 && ((x5 : Int) == x5 && ((0 : Int) == x6))))))) && (upto 0 x6 && (long3 x1 x3 x5 && (upto 3 x2 && (upto 3 x4 && !decide (x1 < x5)))))
  else if k = 3 then ((3 : Int) == 3 && ((0 : Int) == x1 && ((0 : Int) == x2 && ((0 : Int) == x3 && ((0 : Int) == x4 && ((0 : Int) == x5 && ((x6 : Int) == x6))))))) && (penOk x6 && (long3 x1 x3 x5 && (upto 3 x2 && upto 3 x4)))
  else if k = 4 then ((4 : Int) == 4 && ((0 : Int) == x1 && ((0 : Int) == x2 && ((0 : Int) == x3 && ((0 : Int) == x4 && ((0 : Int) == x5 && ((x6 : Int) == x6))))))) && (upto 1048576 x6 && (long3 x1 x3 x5 && (upto 3 x2 && upto 3 x4)))
  else if k = 5 then ((5 : Int) == 5 && ((0 : Int) == x1 && ((0 : Int) == x2 && ((0 : Int) == x3 && ((0 : Int) == x4 && ((0 : Int) == x5 && ((x6 : Int) == x6))))))) && (upto 511 x6 && (long3 x1 x3 x5 && (upto 3 x2 && upto 3 x4)))
  else if k = 6 then ((6 : Int) == 6 && ((0 : Int) == x1 && ((0 : Int) == x2 && ((0 : Int) == x3 && ((0 : Int) == x4 && ((0 : Int) == x5 && ((x6 : Int) == x6))))))) && (upto 255 x6 && (long3 x1 x3 x5 && (upto 3 x2 && upto 3 x4)))
  else if k = 7 then ((7 : Int) == 7 && ((0 : Int) == x1 && ((0 : Int) == x2 && ((0 : Int) == x3 && ((0 : Int) == x4 && ((0 : Int) == x5 && ((0 : Int) == x6))))))) && (upto 0 x6 && (long3 x1 x3 x5 && (upto 3 x2 && upto 3 x4)))
  else false
set_option maxRecDepth 100000 in
theorem check_any (k x1 x2 x3 x4 x5 x6 : Int) (w : World) : Calls Try.prog 14 #[.agg #[.int .i64 k, .int .i64 x1, .int .i64 x2, .int .i64 x3, .int .i64 x4, .int .i64 x5, .int .i64 x6]] w fun e w' => e = .returned (.int .i64 (if itemOk k x1 x2 x3 x4 x5 x6 = true then 0 else 8)) ∧ Kp w w' := by
  by_cases h : k < 1 ∨ 7 < k
  · have hv : itemOk k x1 x2 x3 x4 x5 x6 = false := by
      unfold itemOk
      rw [if_neg (by omega), if_neg (by omega), if_neg (by omega), if_neg (by omega), if_neg (by omega), if_neg (by omega), if_neg (by omega)]
    rw [hv]
    clear hv
    by_cases h1 : k < 1
    · go_enter Try.func14, Try.ntmps14
      go_wp2
      go_ret
      exact ⟨rfl, (by (repeat (first | with_reducible assumption | with_reducible exact Kp.refl _ | with_reducible refine Kp.drew ?_ | with_reducible refine Kp.drewN ?_ _ | with_reducible refine Kp.alloc ?_ _ | ((with_reducible refine Kp.setCell ?_ ?_ _); rotate_left; (focus (first | omega | (simp; done) | (simp; omega)))) | with_reducible refine Kp.trans ?_ (by assumption))))⟩
    · have h2 : 7 < k := by omega
      go_enter Try.func14, Try.ntmps14
      go_wp2
      go_ret
      exact ⟨rfl, (by (repeat (first | with_reducible assumption | with_reducible exact Kp.refl _ | with_reducible refine Kp.drew ?_ | with_reducible refine Kp.drewN ?_ _ | with_reducible refine Kp.alloc ?_ _ | ((with_reducible refine Kp.setCell ?_ ?_ _); rotate_left; (focus (first | omega | (simp; done) | (simp; omega)))) | with_reducible refine Kp.trans ?_ (by assumption))))⟩
  · have hk : k = 1 ∨ k = 2 ∨ k = 3 ∨ k = 4 ∨ k = 5 ∨ k = 6 ∨ k = 7 := by omega
    rcases hk with rfl | rfl | rfl | rfl | rfl | rfl | rfl
    · exact check1_any x1 x2 x3 x4 x5 x6 _ _ _ _ _ w rfl rfl rfl rfl rfl
    · exact check2_any x1 x2 x3 x4 x5 x6 _ _ _ _ _ w rfl rfl rfl rfl rfl
    · exact check3_any x1 x2 x3 x4 x5 x6 _ _ _ _ _ w rfl rfl rfl rfl rfl
    · exact check4_any x1 x2 x3 x4 x5 x6 _ _ _ _ _ w rfl rfl rfl rfl rfl
    · exact check5_any x1 x2 x3 x4 x5 x6 _ _ _ _ _ w rfl rfl rfl rfl rfl
    · exact check6_any x1 x2 x3 x4 x5 x6 _ _ _ _ _ w rfl rfl rfl rfl rfl
    · exact check7_any x1 x2 x3 x4 x5 x6 _ _ _ _ _ w rfl rfl rfl rfl rfl

def loose (k : Int) : Bool := k == 2 || k == 3
theorem loose_any (k x1 x2 x3 x4 x5 x6 : Int) (w : World) : Calls Try.prog 18 #[.agg #[.int .i64 k, .int .i64 x1, .int .i64 x2, .int .i64 x3, .int .i64 x4, .int .i64 x5, .int .i64 x6]] w fun e w' => e = .returned (.bool (loose k)) ∧ Kp w w' := by
  unfold loose
  by_cases h : k = 2
  · subst h
    go_enter Try.func18, Try.ntmps18
    go_wp2
    go_ret
    exact ⟨rfl, (by (repeat (first | with_reducible assumption | with_reducible exact Kp.refl _ | with_reducible refine Kp.drew ?_ | with_reducible refine Kp.drewN ?_ _ | with_reducible refine Kp.alloc ?_ _ | ((with_reducible refine Kp.setCell ?_ ?_ _); rotate_left; (focus (first | omega | (simp; done) | (simp; omega)))) | with_reducible refine Kp.trans ?_ (by assumption))))⟩
  · have h1 : (k == 2) = false := beq_eq_false_iff_ne.2 h
    by_cases h3 : k = 3
    · subst h3
      go_enter Try.func18, Try.ntmps18
      go_wp2
      go_ret
      exact ⟨rfl, (by (repeat (first | with_reducible assumption | with_reducible exact Kp.refl _ | with_reducible refine Kp.drew ?_ | with_reducible refine Kp.drewN ?_ _ | with_reducible refine Kp.alloc ?_ _ | ((with_reducible refine Kp.setCell ?_ ?_ _); rotate_left; (focus (first | omega | (simp; done) | (simp; omega)))) | with_reducible refine Kp.trans ?_ (by assumption))))⟩
    · have h4 : (k == 3) = false := beq_eq_false_iff_ne.2 h3
      rw [h1, h4]
      go_enter Try.func18, Try.ntmps18
      go_wp2
      go_ret
      exact ⟨ret_bool (by first | rfl | simp [h1, h4]), (by (repeat (first | with_reducible assumption | with_reducible exact Kp.refl _ | with_reducible refine Kp.drew ?_ | with_reducible refine Kp.drewN ?_ _ | with_reducible refine Kp.alloc ?_ _ | ((with_reducible refine Kp.setCell ?_ ?_ _); rotate_left; (focus (first | omega | (simp; done) | (simp; omega)))) | with_reducible refine Kp.trans ?_ (by assumption))))⟩
theorem forces_any (k x1 x2 x3 x4 x5 x6 : Int) (w : World) : Calls Try.prog 20 #[.agg #[.int .i64 k, .int .i64 x1, .int .i64 x2, .int .i64 x3, .int .i64 x4, .int .i64 x5, .int .i64 x6]] w fun e w' => e = .returned (.bool (k == 3 && decide (x6 ≤ -10000))) ∧ Kp w w' := by
  by_cases h3 : k = 3
  · subst h3
    go_enter Try.func20, Try.ntmps20
    go_wp2
    go_ret
    exact ⟨ret_bool (by first | rfl | simp), (by (repeat (first | with_reducible assumption | with_reducible exact Kp.refl _ | with_reducible refine Kp.drew ?_ | with_reducible refine Kp.drewN ?_ _ | with_reducible refine Kp.alloc ?_ _ | ((with_reducible refine Kp.setCell ?_ ?_ _); rotate_left; (focus (first | omega | (simp; done) | (simp; omega)))) | with_reducible refine Kp.trans ?_ (by assumption))))⟩
  · have h4 : (k == 3) = false := beq_eq_false_iff_ne.2 h3
    rw [h4]
    go_enter Try.func20, Try.ntmps20
    go_wp2
    go_ret
    exact ⟨ret_bool (by first | rfl | simp [h4]), (by (repeat (first | with_reducible assumption | with_reducible exact Kp.refl _ | with_reducible refine Kp.drew ?_ | with_reducible refine Kp.drewN ?_ _ | with_reducible refine Kp.alloc ?_ _ | ((with_reducible refine Kp.setCell ?_ ?_ _); rotate_left; (focus (first | omega | (simp; done) | (simp; omega)))) | with_reducible refine Kp.trans ?_ (by assumption))))⟩
theorem total_box_any (x1 x2 x3 x4 x5 x6 : Int) (w : World) : Calls Try.prog 22 #[.agg #[.int .i64 1, .int .i64 x1, .int .i64 x2, .int .i64 x3, .int .i64 x4, .int .i64 x5, .int .i64 x6]] w fun e w' => e = .returned (.agg #[.int .i64 x1, .int .i64 0, .int .i64 0, .int .i64 0, .int .i64 0, .int .i64 0]) ∧ Kp w w' := by
  go_enter Try.func22, Try.ntmps22
  go_wp2_with fail
  refine (totBox_any _ _).mono ?_
  rintro e w1 ⟨rfl, k1⟩
  have xr : Blk w1 (w.heap.size + 1) (ints [0, 0, 0, 0, 0, 0]) 32 := Blk.kp (by (repeat (first | with_reducible assumption | ((with_reducible refine Blk.newL ?_ ?_); (focus (first | (simp; done) | omega)); rfl) | with_reducible refine Blk.drew ?_ | with_reducible refine Blk.drewN ?_ _ | with_reducible refine Blk.alloc ?_ _ | ((with_reducible refine Blk.other ?_ ?_ _); rotate_left; (focus (first | with_reducible assumption | omega | (simp; done) | (simp; omega))))))) k1; have xr_0 := xr.cell 0 rfl; have xr_1 := xr.cell 1 rfl; have xr_2 := xr.cell 2 rfl; have xr_3 := xr.cell 3 rfl; have xr_4 := xr.cell 4 rfl; have xr_5 := xr.cell 5 rfl; have xr_ne := xr.lt; have xr_n1 := Nat.lt_add_one_of_lt xr_ne; have xr_n2 := Nat.lt_add_one_of_lt xr_n1; have xr_f0 := xr.free 0; have xr_f1 := xr.free 1; have xr_f2 := xr.free 2; have xr_f3 := xr.free 3; have xr_f4 := xr.free 4; have xr_f5 := xr.free 5
  go_wp2
  refine ret_blk (vs := [.int .i64 x1, .int .i64 0, .int .i64 0, .int .i64 0, .int .i64 0, .int .i64 0]) (Blk.set (Blk.set (Blk.set (Blk.set (Blk.set (Blk.set xr 0 _) 1 _) 2 _) 3 _) 4 _) 5 _) ?_ rfl ⟨rfl, (by (repeat (first | with_reducible assumption | with_reducible exact Kp.refl _ | with_reducible refine Kp.drew ?_ | with_reducible refine Kp.drewN ?_ _ | with_reducible refine Kp.alloc ?_ _ | ((with_reducible refine Kp.setCell ?_ ?_ _); rotate_left; (focus (first | omega | (simp; done) | (simp; omega)))) | with_reducible refine Kp.trans ?_ (by assumption))))⟩; intro wz bz; have z0 := bz.cell 0 rfl; have z1 := bz.cell 1 rfl; have z2 := bz.cell 2 rfl; have z3 := bz.cell 3 rfl; have z4 := bz.cell 4 rfl; have z5 := bz.cell 5 rfl; simp [results, Try.results22, go_sem, z0, z1, z2, z3, z4, z5]
theorem field_nat (a0 a1 a2 a3 a4 a5 : Int) (w : World) : (Instr.field 32 (.agg #[.int .i64 a0, .int .i64 a1, .int .i64 a2, .int .i64 a3, .int .i64 a4, .int .i64 a5]) 0).run Try.prog w = .ok (.int .i64 a0) w := by
  have hb := Try.isAgg22
  simp [Instr.field, go_sem, hb, part, asAgg]

set_option maxRecDepth 100000 in
set_option maxHeartbeats 2000000 in
theorem itemAwake_any (w : World) : Calls Try.prog 15 #[] w fun e w' => e = .returned (.bool true) ∧ Kp w w' := by
  have fn := field_nat
  have c1 := check_any 1 10 1 0 0 0 0
  have c2 := check_any 1 0 0 0 0 0 1
  have v1 : itemOk 1 10 1 0 0 0 0 = true := by decide
  have v2 : itemOk 1 0 0 0 0 0 1 = false := by decide
  rw [v1] at c1; rw [v2] at c2
  have C1 := Lib.hid c1; have C2 := Lib.hid c2
  clear c1 c2 v1 v2
  go_enter Try.func15, Try.ntmps15
  go_wp2_with fail
  refine (box_any _ _ _).mono ?_
  rintro e w1 ⟨rfl, k1⟩
  go_wp2_with fail
  refine (glue_any _ _ _ _ _).mono ?_
  rintro e w2 ⟨rfl, k2⟩
  go_wp2_with fail
  refine (pen_any _ _).mono ?_
  rintro e w3 ⟨rfl, k3⟩
  have kw3 : Kp w w3 := (by (repeat (first | with_reducible assumption | with_reducible exact Kp.refl _ | with_reducible refine Kp.drew ?_ | with_reducible refine Kp.drewN ?_ _ | with_reducible refine Kp.alloc ?_ _ | ((with_reducible refine Kp.setCell ?_ ?_ _); rotate_left; (focus (first | omega | (simp; done) | (simp; omega)))) | with_reducible refine Kp.trans ?_ (by assumption))))
  clear k1 k2 k3
  go_wp2_with fail
  refine (C1.out _).mono ?_
  rintro e w4 ⟨rfl, k4⟩
  have xa : Blk w4 w3.heap.size (ints [1, 10, 1, 0, 0, 0, 0]) 24 := Blk.kp (by (repeat (first | with_reducible assumption | ((with_reducible refine Blk.newL ?_ ?_); (focus (first | (simp; done) | omega)); rfl) | with_reducible refine Blk.drew ?_ | with_reducible refine Blk.drewN ?_ _ | with_reducible refine Blk.alloc ?_ _ | ((with_reducible refine Blk.other ?_ ?_ _); rotate_left; (focus (first | with_reducible assumption | omega | (simp; done) | (simp; omega))))))) k4; have xa_0 := xa.cell 0 rfl; have xa_1 := xa.cell 1 rfl; have xa_2 := xa.cell 2 rfl; have xa_3 := xa.cell 3 rfl; have xa_4 := xa.cell 4 rfl; have xa_5 := xa.cell 5 rfl; have xa_6 := xa.cell 6 rfl; have xa_ne := xa.lt; have xa_n1 := Nat.lt_add_one_of_lt xa_ne; have xa_n2 := Nat.lt_add_one_of_lt xa_n1
  have xb : Blk w4 (w3.heap.size + 1) (ints [2, 3, 0, 1, 0, 1, 0]) 24 := Blk.kp (by (repeat (first | with_reducible assumption | ((with_reducible refine Blk.newL ?_ ?_); (focus (first | (simp; done) | omega)); rfl) | with_reducible refine Blk.drew ?_ | with_reducible refine Blk.drewN ?_ _ | with_reducible refine Blk.alloc ?_ _ | ((with_reducible refine Blk.other ?_ ?_ _); rotate_left; (focus (first | with_reducible assumption | omega | (simp; done) | (simp; omega))))))) k4; have xb_0 := xb.cell 0 rfl; have xb_1 := xb.cell 1 rfl; have xb_2 := xb.cell 2 rfl; have xb_3 := xb.cell 3 rfl; have xb_4 := xb.cell 4 rfl; have xb_5 := xb.cell 5 rfl; have xb_6 := xb.cell 6 rfl; have xb_ne := xb.lt; have xb_n1 := Nat.lt_add_one_of_lt xb_ne; have xb_n2 := Nat.lt_add_one_of_lt xb_n1
  have xc : Blk w4 (w3.heap.size + 1 + 1) (ints [3, 0, 0, 0, 0, 0, -10000]) 24 := Blk.kp (by (repeat (first | with_reducible assumption | ((with_reducible refine Blk.newL ?_ ?_); (focus (first | (simp; done) | omega)); rfl) | with_reducible refine Blk.drew ?_ | with_reducible refine Blk.drewN ?_ _ | with_reducible refine Blk.alloc ?_ _ | ((with_reducible refine Blk.other ?_ ?_ _); rotate_left; (focus (first | with_reducible assumption | omega | (simp; done) | (simp; omega))))))) k4; have xc_0 := xc.cell 0 rfl; have xc_1 := xc.cell 1 rfl; have xc_2 := xc.cell 2 rfl; have xc_3 := xc.cell 3 rfl; have xc_4 := xc.cell 4 rfl; have xc_5 := xc.cell 5 rfl; have xc_6 := xc.cell 6 rfl; have xc_ne := xc.lt; have xc_n1 := Nat.lt_add_one_of_lt xc_ne; have xc_n2 := Nat.lt_add_one_of_lt xc_n1
  have kw4 : Kp w w4 := (by (repeat (first | with_reducible assumption | with_reducible exact Kp.refl _ | with_reducible refine Kp.drew ?_ | with_reducible refine Kp.drewN ?_ _ | with_reducible refine Kp.alloc ?_ _ | ((with_reducible refine Kp.setCell ?_ ?_ _); rotate_left; (focus (first | omega | (simp; done) | (simp; omega)))) | with_reducible refine Kp.trans ?_ (by assumption))))
  go_wp2_with fail
  refine (C2.out _).mono ?_
  rintro e w5 ⟨rfl, k5⟩
  have t_xa : Blk w5 w3.heap.size (ints [1, 10, 1, 0, 0, 0, 0]) 24 := Blk.kp (by (repeat (first | with_reducible assumption | ((with_reducible refine Blk.newL ?_ ?_); (focus (first | (simp; done) | omega)); rfl) | with_reducible refine Blk.drew ?_ | with_reducible refine Blk.drewN ?_ _ | with_reducible refine Blk.alloc ?_ _ | ((with_reducible refine Blk.other ?_ ?_ _); rotate_left; (focus (first | with_reducible assumption | omega | (simp; done) | (simp; omega))))))) k5; have t_xb : Blk w5 (w3.heap.size + 1) (ints [2, 3, 0, 1, 0, 1, 0]) 24 := Blk.kp (by (repeat (first | with_reducible assumption | ((with_reducible refine Blk.newL ?_ ?_); (focus (first | (simp; done) | omega)); rfl) | with_reducible refine Blk.drew ?_ | with_reducible refine Blk.drewN ?_ _ | with_reducible refine Blk.alloc ?_ _ | ((with_reducible refine Blk.other ?_ ?_ _); rotate_left; (focus (first | with_reducible assumption | omega | (simp; done) | (simp; omega))))))) k5; have t_xc : Blk w5 (w3.heap.size + 1 + 1) (ints [3, 0, 0, 0, 0, 0, -10000]) 24 := Blk.kp (by (repeat (first | with_reducible assumption | ((with_reducible refine Blk.newL ?_ ?_); (focus (first | (simp; done) | omega)); rfl) | with_reducible refine Blk.drew ?_ | with_reducible refine Blk.drewN ?_ _ | with_reducible refine Blk.alloc ?_ _ | ((with_reducible refine Blk.other ?_ ?_ _); rotate_left; (focus (first | with_reducible assumption | omega | (simp; done) | (simp; omega))))))) k5; clear xa_0 xa_1 xa_2 xa_3 xa_4 xa_5 xa_6 xa_ne xa_n1 xa_n2 xa; have xa := t_xa; clear t_xa; have xa_0 := xa.cell 0 rfl; have xa_1 := xa.cell 1 rfl; have xa_2 := xa.cell 2 rfl; have xa_3 := xa.cell 3 rfl; have xa_4 := xa.cell 4 rfl; have xa_5 := xa.cell 5 rfl; have xa_6 := xa.cell 6 rfl; have xa_ne := xa.lt; have xa_n1 := Nat.lt_add_one_of_lt xa_ne; have xa_n2 := Nat.lt_add_one_of_lt xa_n1; clear xb_0 xb_1 xb_2 xb_3 xb_4 xb_5 xb_6 xb_ne xb_n1 xb_n2 xb; have xb := t_xb; clear t_xb; have xb_0 := xb.cell 0 rfl; have xb_1 := xb.cell 1 rfl; have xb_2 := xb.cell 2 rfl; have xb_3 := xb.cell 3 rfl; have xb_4 := xb.cell 4 rfl; have xb_5 := xb.cell 5 rfl; have xb_6 := xb.cell 6 rfl; have xb_ne := xb.lt; have xb_n1 := Nat.lt_add_one_of_lt xb_ne; have xb_n2 := Nat.lt_add_one_of_lt xb_n1; clear xc_0 xc_1 xc_2 xc_3 xc_4 xc_5 xc_6 xc_ne xc_n1 xc_n2 xc; have xc := t_xc; clear t_xc; have xc_0 := xc.cell 0 rfl; have xc_1 := xc.cell 1 rfl; have xc_2 := xc.cell 2 rfl; have xc_3 := xc.cell 3 rfl; have xc_4 := xc.cell 4 rfl; have xc_5 := xc.cell 5 rfl; have xc_6 := xc.cell 6 rfl; have xc_ne := xc.lt; have xc_n1 := Nat.lt_add_one_of_lt xc_ne; have xc_n2 := Nat.lt_add_one_of_lt xc_n1
  go_wp2_with fail
  refine (loose_any _ _ _ _ _ _ _ _).mono ?_
  rintro e w6 ⟨rfl, k6⟩
  have t_xa : Blk w6 w3.heap.size (ints [1, 10, 1, 0, 0, 0, 0]) 24 := Blk.kp (by (repeat (first | with_reducible assumption | ((with_reducible refine Blk.newL ?_ ?_); (focus (first | (simp; done) | omega)); rfl) | with_reducible refine Blk.drew ?_ | with_reducible refine Blk.drewN ?_ _ | with_reducible refine Blk.alloc ?_ _ | ((with_reducible refine Blk.other ?_ ?_ _); rotate_left; (focus (first | with_reducible assumption | omega | (simp; done) | (simp; omega))))))) k6; have t_xb : Blk w6 (w3.heap.size + 1) (ints [2, 3, 0, 1, 0, 1, 0]) 24 := Blk.kp (by (repeat (first | with_reducible assumption | ((with_reducible refine Blk.newL ?_ ?_); (focus (first | (simp; done) | omega)); rfl) | with_reducible refine Blk.drew ?_ | with_reducible refine Blk.drewN ?_ _ | with_reducible refine Blk.alloc ?_ _ | ((with_reducible refine Blk.other ?_ ?_ _); rotate_left; (focus (first | with_reducible assumption | omega | (simp; done) | (simp; omega))))))) k6; have t_xc : Blk w6 (w3.heap.size + 1 + 1) (ints [3, 0, 0, 0, 0, 0, -10000]) 24 := Blk.kp (by (repeat (first | with_reducible assumption | ((with_reducible refine Blk.newL ?_ ?_); (focus (first | (simp; done) | omega)); rfl) | with_reducible refine Blk.drew ?_ | with_reducible refine Blk.drewN ?_ _ | with_reducible refine Blk.alloc ?_ _ | ((with_reducible refine Blk.other ?_ ?_ _); rotate_left; (focus (first | with_reducible assumption | omega | (simp; done) | (simp; omega))))))) k6; clear xa_0 xa_1 xa_2 xa_3 xa_4 xa_5 xa_6 xa_ne xa_n1 xa_n2 xa; have xa := t_xa; clear t_xa; have xa_0 := xa.cell 0 rfl; have xa_1 := xa.cell 1 rfl; have xa_2 := xa.cell 2 rfl; have xa_3 := xa.cell 3 rfl; have xa_4 := xa.cell 4 rfl; have xa_5 := xa.cell 5 rfl; have xa_6 := xa.cell 6 rfl; have xa_ne := xa.lt; have xa_n1 := Nat.lt_add_one_of_lt xa_ne; have xa_n2 := Nat.lt_add_one_of_lt xa_n1; clear xb_0 xb_1 xb_2 xb_3 xb_4 xb_5 xb_6 xb_ne xb_n1 xb_n2 xb; have xb := t_xb; clear t_xb; have xb_0 := xb.cell 0 rfl; have xb_1 := xb.cell 1 rfl; have xb_2 := xb.cell 2 rfl; have xb_3 := xb.cell 3 rfl; have xb_4 := xb.cell 4 rfl; have xb_5 := xb.cell 5 rfl; have xb_6 := xb.cell 6 rfl; have xb_ne := xb.lt; have xb_n1 := Nat.lt_add_one_of_lt xb_ne; have xb_n2 := Nat.lt_add_one_of_lt xb_n1; clear xc_0 xc_1 xc_2 xc_3 xc_4 xc_5 xc_6 xc_ne xc_n1 xc_n2 xc; have xc := t_xc; clear t_xc; have xc_0 := xc.cell 0 rfl; have xc_1 := xc.cell 1 rfl; have xc_2 := xc.cell 2 rfl; have xc_3 := xc.cell 3 rfl; have xc_4 := xc.cell 4 rfl; have xc_5 := xc.cell 5 rfl; have xc_6 := xc.cell 6 rfl; have xc_ne := xc.lt; have xc_n1 := Nat.lt_add_one_of_lt xc_ne; have xc_n2 := Nat.lt_add_one_of_lt xc_n1
  go_wp2_with fail
  refine (forces_any _ _ _ _ _ _ _ _).mono ?_
  rintro e w7 ⟨rfl, k7⟩
  have t_xa : Blk w7 w3.heap.size (ints [1, 10, 1, 0, 0, 0, 0]) 24 := Blk.kp (by (repeat (first | with_reducible assumption | ((with_reducible refine Blk.newL ?_ ?_); (focus (first | (simp; done) | omega)); rfl) | with_reducible refine Blk.drew ?_ | with_reducible refine Blk.drewN ?_ _ | with_reducible refine Blk.alloc ?_ _ | ((with_reducible refine Blk.other ?_ ?_ _); rotate_left; (focus (first | with_reducible assumption | omega | (simp; done) | (simp; omega))))))) k7; have t_xb : Blk w7 (w3.heap.size + 1) (ints [2, 3, 0, 1, 0, 1, 0]) 24 := Blk.kp (by (repeat (first | with_reducible assumption | ((with_reducible refine Blk.newL ?_ ?_); (focus (first | (simp; done) | omega)); rfl) | with_reducible refine Blk.drew ?_ | with_reducible refine Blk.drewN ?_ _ | with_reducible refine Blk.alloc ?_ _ | ((with_reducible refine Blk.other ?_ ?_ _); rotate_left; (focus (first | with_reducible assumption | omega | (simp; done) | (simp; omega))))))) k7; have t_xc : Blk w7 (w3.heap.size + 1 + 1) (ints [3, 0, 0, 0, 0, 0, -10000]) 24 := Blk.kp (by (repeat (first | with_reducible assumption | ((with_reducible refine Blk.newL ?_ ?_); (focus (first | (simp; done) | omega)); rfl) | with_reducible refine Blk.drew ?_ | with_reducible refine Blk.drewN ?_ _ | with_reducible refine Blk.alloc ?_ _ | ((with_reducible refine Blk.other ?_ ?_ _); rotate_left; (focus (first | with_reducible assumption | omega | (simp; done) | (simp; omega))))))) k7; clear xa_0 xa_1 xa_2 xa_3 xa_4 xa_5 xa_6 xa_ne xa_n1 xa_n2 xa; have xa := t_xa; clear t_xa; have xa_0 := xa.cell 0 rfl; have xa_1 := xa.cell 1 rfl; have xa_2 := xa.cell 2 rfl; have xa_3 := xa.cell 3 rfl; have xa_4 := xa.cell 4 rfl; have xa_5 := xa.cell 5 rfl; have xa_6 := xa.cell 6 rfl; have xa_ne := xa.lt; have xa_n1 := Nat.lt_add_one_of_lt xa_ne; have xa_n2 := Nat.lt_add_one_of_lt xa_n1; clear xb_0 xb_1 xb_2 xb_3 xb_4 xb_5 xb_6 xb_ne xb_n1 xb_n2 xb; have xb := t_xb; clear t_xb; have xb_0 := xb.cell 0 rfl; have xb_1 := xb.cell 1 rfl; have xb_2 := xb.cell 2 rfl; have xb_3 := xb.cell 3 rfl; have xb_4 := xb.cell 4 rfl; have xb_5 := xb.cell 5 rfl; have xb_6 := xb.cell 6 rfl; have xb_ne := xb.lt; have xb_n1 := Nat.lt_add_one_of_lt xb_ne; have xb_n2 := Nat.lt_add_one_of_lt xb_n1; clear xc_0 xc_1 xc_2 xc_3 xc_4 xc_5 xc_6 xc_ne xc_n1 xc_n2 xc; have xc := t_xc; clear t_xc; have xc_0 := xc.cell 0 rfl; have xc_1 := xc.cell 1 rfl; have xc_2 := xc.cell 2 rfl; have xc_3 := xc.cell 3 rfl; have xc_4 := xc.cell 4 rfl; have xc_5 := xc.cell 5 rfl; have xc_6 := xc.cell 6 rfl; have xc_ne := xc.lt; have xc_n1 := Nat.lt_add_one_of_lt xc_ne; have xc_n2 := Nat.lt_add_one_of_lt xc_n1
  go_wp2_with fail
  refine (total_box_any _ _ _ _ _ _ _).mono ?_
  rintro e w8 ⟨rfl, k8⟩
  go_wp2
  go_ret
  exact ⟨rfl, (by (repeat (first | with_reducible assumption | with_reducible exact Kp.refl _ | with_reducible refine Kp.drew ?_ | with_reducible refine Kp.drewN ?_ _ | with_reducible refine Kp.alloc ?_ _ | ((with_reducible refine Kp.setCell ?_ ?_ _); rotate_left; (focus (first | omega | (simp; done) | (simp; omega)))) | with_reducible refine Kp.trans ?_ (by assumption))))⟩
end Go.Proofs.Ytepckgcbncdibaa
