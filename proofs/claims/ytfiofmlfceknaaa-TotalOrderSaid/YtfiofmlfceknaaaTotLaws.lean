/- The laws of package total: the walks. -/
import Derived.Test.YtfiofmlfceknaaaTot2
import Derived.Test.YtfiofmlfceknaaaRefTotAdd
import Derived.Test.YtfiofmlfceknaaaRefTotSub
import Derived.Test.YtfiofmlfceknaaaEq
import Derived.Test.YtfiofmlfceknaaaHeld
namespace Go.Proofs.Ytfiofmlfceknaaa
open Go.RowKit

set_option maxRecDepth 100000 in
set_option maxHeartbeats 1000000 in
theorem totAwake_any (w : World) : Calls Try.prog 33 #[] w fun e w' => e = .returned (.bool true) ∧ Kp w w' := by
  have es : Tot.sumAdd ⟨10, 0, 0, 0, 0, 0⟩ ⟨5, strAt 2 1 0, strAt 2 1 1, strAt 2 1 2, strAt 2 1 3, 3⟩ = ⟨15, 0, 2, 0, 0, 3⟩ := by rfl
  have ef : Tot.fitsAdd ⟨10, 0, 0, 0, 0, 0⟩ ⟨5, strAt 2 1 0, strAt 2 1 1, strAt 2 1 2, strAt 2 1 3, 3⟩ = true := by decide
  have ec : clip (15 - 3) = 12 := by decide
  have eg : fits (15 - 3) = true := by decide
  have eo : order4 2 0 0 = 1 := by decide
  go_enter Try.func33, Try.ntmps33
  go_wp2_with fail
  refine (totBox_any _ _).mono ?_
  rintro e w1 ⟨rfl, k1⟩
  go_wp2_with fail
  refine (totGlue_any _ _ _ _ _).mono ?_
  rintro e w2 ⟨rfl, k2⟩
  go_wp2_with fail
  refine (totAdd_any _ _ _ _ _ _ _ _ _ _ _ _ _ ?_ ?_).mono ?_
  · exact ⟨i64_small (by decide) (by decide), i64_small (by decide) (by decide), i64_small (by decide) (by decide), i64_small (by decide) (by decide), i64_small (by decide) (by decide), i64_small (by decide) (by decide)⟩
  · exact ⟨i64_small (by decide) (by decide), i64_small (by decide) (by decide), i64_small (by decide) (by decide), i64_small (by decide) (by decide), i64_small (by decide) (by decide), i64_small (by decide) (by decide)⟩
  rintro e w3 ⟨rfl, k3⟩
  rw [es, ef]
  go_wp2_with fail
  refine (totLeast_any _ _ _ _ _ _ _ ?_).mono ?_
  · exact ⟨i64_small (by decide) (by decide), i64_small (by decide) (by decide), i64_small (by decide) (by decide), i64_small (by decide) (by decide), i64_small (by decide) (by decide), i64_small (by decide) (by decide)⟩
  rintro e w4 ⟨rfl, k4⟩
  rw [ec, eg]
  have yr : Blk w4 w3.heap.size (ints [15, 0, 2, 0, 0, 3]) 32 := Blk.kp (by (repeat (first | with_reducible assumption | ((with_reducible refine Blk.newL ?_ ?_); (focus (first | (simp; done) | omega)); rfl) | with_reducible refine Blk.drew ?_ | with_reducible refine Blk.drewN ?_ _ | with_reducible refine Blk.alloc ?_ _ | ((with_reducible refine Blk.other ?_ ?_ _); rotate_left; (focus (first | with_reducible assumption | omega | (simp; done) | (simp; omega))))))) k4; have yr_0 := yr.cell 0 rfl; have yr_1 := yr.cell 1 rfl; have yr_2 := yr.cell 2 rfl; have yr_3 := yr.cell 3 rfl; have yr_4 := yr.cell 4 rfl; have yr_5 := yr.cell 5 rfl; have yr_ne := yr.lt; have yr_n1 := Nat.lt_add_one_of_lt yr_ne; have yr_n2 := Nat.lt_add_one_of_lt yr_n1
  have eT := @eqTot
  go_wp2_with fail
  refine (totOrder_any _ _ _ _ _ _ _).mono ?_
  rintro e w5 ⟨rfl, k5⟩
  rw [eo]
  go_wp2
  go_ret
  exact ⟨rfl, (by (repeat (first | with_reducible assumption | with_reducible exact Kp.refl _ | with_reducible refine Kp.drew ?_ | with_reducible refine Kp.drewN ?_ _ | with_reducible refine Kp.alloc ?_ _ | ((with_reducible refine Kp.setCell ?_ ?_ _); rotate_left; (focus (first | omega | (simp; done) | (simp; omega)))) | with_reducible refine Kp.trans ?_ (by assumption))))⟩

set_option maxRecDepth 100000 in
set_option maxHeartbeats 2000000 in
theorem totalAdds_any (a b : Tot) (o : Int) (ha : a.ok) (hb : b.ok) (ho : -9223372036854775808 ≤ o ∧ o ≤ 9223372036854775807) (w : World) :
    Calls Try.prog 6 #[a.v, b.v, .int .i64 o] w fun e w' => e = .returned (.bool true) ∧ Kp w w' := by
  obtain ⟨a0, a1, a2, a3, a4, a5⟩ := a
  obtain ⟨b0, b1, b2, b3, b4, b5⟩ := b
  obtain ⟨o1, o2⟩ := ho
  simp only [Tot.v]
  obtain ⟨⟨p0, q0⟩, -, -, -, -, ⟨p5, q5⟩⟩ := id ha
  simp only at p0 q0 p5 q5
  have HA := Lib.hid ha; have HB := Lib.hid hb; clear ha hb
  generalize hS : Tot.sumAdd ⟨a0, a1, a2, a3, a4, a5⟩ ⟨b0, b1, b2, b3, b4, b5⟩ = S
  generalize hD : Tot.sumSub ⟨a0, a1, a2, a3, a4, a5⟩ ⟨b0, b1, b2, b3, b4, b5⟩ = D
  have HS := Lib.hid hS; have HD := Lib.hid hD; clear hS hD
  obtain ⟨s0, s1, s2, s3, s4, s5⟩ := S
  obtain ⟨d0, d1, d2, d3, d4, d5⟩ := D
  go_enter Try.func6, Try.ntmps6
  go_wp2_with fail
  refine (totAdd_any _ _ _ _ _ _ _ _ _ _ _ _ _ HA.out HB.out).mono ?_
  rintro e w1 ⟨rfl, k1⟩
  rw [HS.out]
  have xa : Blk w1 w.heap.size (ints [a0, a1, a2, a3, a4, a5]) 32 := Blk.kp (by (repeat (first | with_reducible assumption | ((with_reducible refine Blk.newL ?_ ?_); (focus (first | (simp; done) | omega)); rfl) | with_reducible refine Blk.drew ?_ | with_reducible refine Blk.drewN ?_ _ | with_reducible refine Blk.alloc ?_ _ | ((with_reducible refine Blk.other ?_ ?_ _); rotate_left; (focus (first | with_reducible assumption | omega | (simp; done) | (simp; omega))))))) k1; have xa_0 := xa.cell 0 rfl; have xa_1 := xa.cell 1 rfl; have xa_2 := xa.cell 2 rfl; have xa_3 := xa.cell 3 rfl; have xa_4 := xa.cell 4 rfl; have xa_5 := xa.cell 5 rfl; have xa_ne := xa.lt; have xa_n1 := Nat.lt_add_one_of_lt xa_ne; have xa_n2 := Nat.lt_add_one_of_lt xa_n1
  have xb : Blk w1 (w.heap.size + 1) (ints [b0, b1, b2, b3, b4, b5]) 32 := Blk.kp (by (repeat (first | with_reducible assumption | ((with_reducible refine Blk.newL ?_ ?_); (focus (first | (simp; done) | omega)); rfl) | with_reducible refine Blk.drew ?_ | with_reducible refine Blk.drewN ?_ _ | with_reducible refine Blk.alloc ?_ _ | ((with_reducible refine Blk.other ?_ ?_ _); rotate_left; (focus (first | with_reducible assumption | omega | (simp; done) | (simp; omega))))))) k1; have xb_0 := xb.cell 0 rfl; have xb_1 := xb.cell 1 rfl; have xb_2 := xb.cell 2 rfl; have xb_3 := xb.cell 3 rfl; have xb_4 := xb.cell 4 rfl; have xb_5 := xb.cell 5 rfl; have xb_ne := xb.lt; have xb_n1 := Nat.lt_add_one_of_lt xb_ne; have xb_n2 := Nat.lt_add_one_of_lt xb_n1
  have eT := @eqTot
  go_wp2_with fail
  refine (totSub_any _ _ _ _ _ _ _ _ _ _ _ _ _ HA.out HB.out).mono ?_
  rintro e w2 ⟨rfl, k2⟩
  rw [HD.out]
  have t_xa : Blk w2 w.heap.size (ints [a0, a1, a2, a3, a4, a5]) 32 := Blk.kp (by (repeat (first | with_reducible assumption | ((with_reducible refine Blk.newL ?_ ?_); (focus (first | (simp; done) | omega)); rfl) | with_reducible refine Blk.drew ?_ | with_reducible refine Blk.drewN ?_ _ | with_reducible refine Blk.alloc ?_ _ | ((with_reducible refine Blk.other ?_ ?_ _); rotate_left; (focus (first | with_reducible assumption | omega | (simp; done) | (simp; omega))))))) k2; have t_xb : Blk w2 (w.heap.size + 1) (ints [b0, b1, b2, b3, b4, b5]) 32 := Blk.kp (by (repeat (first | with_reducible assumption | ((with_reducible refine Blk.newL ?_ ?_); (focus (first | (simp; done) | omega)); rfl) | with_reducible refine Blk.drew ?_ | with_reducible refine Blk.drewN ?_ _ | with_reducible refine Blk.alloc ?_ _ | ((with_reducible refine Blk.other ?_ ?_ _); rotate_left; (focus (first | with_reducible assumption | omega | (simp; done) | (simp; omega))))))) k2; clear xa_0 xa_1 xa_2 xa_3 xa_4 xa_5 xa_ne xa_n1 xa_n2 xa; have xa := t_xa; clear t_xa; have xa_0 := xa.cell 0 rfl; have xa_1 := xa.cell 1 rfl; have xa_2 := xa.cell 2 rfl; have xa_3 := xa.cell 3 rfl; have xa_4 := xa.cell 4 rfl; have xa_5 := xa.cell 5 rfl; have xa_ne := xa.lt; have xa_n1 := Nat.lt_add_one_of_lt xa_ne; have xa_n2 := Nat.lt_add_one_of_lt xa_n1; clear xb_0 xb_1 xb_2 xb_3 xb_4 xb_5 xb_ne xb_n1 xb_n2 xb; have xb := t_xb; clear t_xb; have xb_0 := xb.cell 0 rfl; have xb_1 := xb.cell 1 rfl; have xb_2 := xb.cell 2 rfl; have xb_3 := xb.cell 3 rfl; have xb_4 := xb.cell 4 rfl; have xb_5 := xb.cell 5 rfl; have xb_ne := xb.lt; have xb_n1 := Nat.lt_add_one_of_lt xb_ne; have xb_n2 := Nat.lt_add_one_of_lt xb_n1
  have xs : Blk w2 w1.heap.size (ints [s0, s1, s2, s3, s4, s5]) 32 := Blk.kp (by (repeat (first | with_reducible assumption | ((with_reducible refine Blk.newL ?_ ?_); (focus (first | (simp; done) | omega)); rfl) | with_reducible refine Blk.drew ?_ | with_reducible refine Blk.drewN ?_ _ | with_reducible refine Blk.alloc ?_ _ | ((with_reducible refine Blk.other ?_ ?_ _); rotate_left; (focus (first | with_reducible assumption | omega | (simp; done) | (simp; omega))))))) k2; have xs_0 := xs.cell 0 rfl; have xs_1 := xs.cell 1 rfl; have xs_2 := xs.cell 2 rfl; have xs_3 := xs.cell 3 rfl; have xs_4 := xs.cell 4 rfl; have xs_5 := xs.cell 5 rfl; have xs_ne := xs.lt; have xs_n1 := Nat.lt_add_one_of_lt xs_ne; have xs_n2 := Nat.lt_add_one_of_lt xs_n1
  go_wp2_with fail
  refine (totLeast_any _ _ _ _ _ _ _ HA.out).mono ?_
  rintro e w3 ⟨rfl, k3⟩
  have t_xa : Blk w3 w.heap.size (ints [a0, a1, a2, a3, a4, a5]) 32 := Blk.kp (by (repeat (first | with_reducible assumption | ((with_reducible refine Blk.newL ?_ ?_); (focus (first | (simp; done) | omega)); rfl) | with_reducible refine Blk.drew ?_ | with_reducible refine Blk.drewN ?_ _ | with_reducible refine Blk.alloc ?_ _ | ((with_reducible refine Blk.other ?_ ?_ _); rotate_left; (focus (first | with_reducible assumption | omega | (simp; done) | (simp; omega))))))) k3; have t_xb : Blk w3 (w.heap.size + 1) (ints [b0, b1, b2, b3, b4, b5]) 32 := Blk.kp (by (repeat (first | with_reducible assumption | ((with_reducible refine Blk.newL ?_ ?_); (focus (first | (simp; done) | omega)); rfl) | with_reducible refine Blk.drew ?_ | with_reducible refine Blk.drewN ?_ _ | with_reducible refine Blk.alloc ?_ _ | ((with_reducible refine Blk.other ?_ ?_ _); rotate_left; (focus (first | with_reducible assumption | omega | (simp; done) | (simp; omega))))))) k3; have t_xs : Blk w3 w1.heap.size (ints [s0, s1, s2, s3, s4, s5]) 32 := Blk.kp (by (repeat (first | with_reducible assumption | ((with_reducible refine Blk.newL ?_ ?_); (focus (first | (simp; done) | omega)); rfl) | with_reducible refine Blk.drew ?_ | with_reducible refine Blk.drewN ?_ _ | with_reducible refine Blk.alloc ?_ _ | ((with_reducible refine Blk.other ?_ ?_ _); rotate_left; (focus (first | with_reducible assumption | omega | (simp; done) | (simp; omega))))))) k3; clear xa_0 xa_1 xa_2 xa_3 xa_4 xa_5 xa_ne xa_n1 xa_n2 xa; have xa := t_xa; clear t_xa; have xa_0 := xa.cell 0 rfl; have xa_1 := xa.cell 1 rfl; have xa_2 := xa.cell 2 rfl; have xa_3 := xa.cell 3 rfl; have xa_4 := xa.cell 4 rfl; have xa_5 := xa.cell 5 rfl; have xa_ne := xa.lt; have xa_n1 := Nat.lt_add_one_of_lt xa_ne; have xa_n2 := Nat.lt_add_one_of_lt xa_n1; clear xb_0 xb_1 xb_2 xb_3 xb_4 xb_5 xb_ne xb_n1 xb_n2 xb; have xb := t_xb; clear t_xb; have xb_0 := xb.cell 0 rfl; have xb_1 := xb.cell 1 rfl; have xb_2 := xb.cell 2 rfl; have xb_3 := xb.cell 3 rfl; have xb_4 := xb.cell 4 rfl; have xb_5 := xb.cell 5 rfl; have xb_ne := xb.lt; have xb_n1 := Nat.lt_add_one_of_lt xb_ne; have xb_n2 := Nat.lt_add_one_of_lt xb_n1; clear xs_0 xs_1 xs_2 xs_3 xs_4 xs_5 xs_ne xs_n1 xs_n2 xs; have xs := t_xs; clear t_xs; have xs_0 := xs.cell 0 rfl; have xs_1 := xs.cell 1 rfl; have xs_2 := xs.cell 2 rfl; have xs_3 := xs.cell 3 rfl; have xs_4 := xs.cell 4 rfl; have xs_5 := xs.cell 5 rfl; have xs_ne := xs.lt; have xs_n1 := Nat.lt_add_one_of_lt xs_ne; have xs_n2 := Nat.lt_add_one_of_lt xs_n1
  have xd : Blk w3 w2.heap.size (ints [d0, d1, d2, d3, d4, d5]) 32 := Blk.kp (by (repeat (first | with_reducible assumption | ((with_reducible refine Blk.newL ?_ ?_); (focus (first | (simp; done) | omega)); rfl) | with_reducible refine Blk.drew ?_ | with_reducible refine Blk.drewN ?_ _ | with_reducible refine Blk.alloc ?_ _ | ((with_reducible refine Blk.other ?_ ?_ _); rotate_left; (focus (first | with_reducible assumption | omega | (simp; done) | (simp; omega))))))) k3; have xd_0 := xd.cell 0 rfl; have xd_1 := xd.cell 1 rfl; have xd_2 := xd.cell 2 rfl; have xd_3 := xd.cell 3 rfl; have xd_4 := xd.cell 4 rfl; have xd_5 := xd.cell 5 rfl; have xd_ne := xd.lt; have xd_n1 := Nat.lt_add_one_of_lt xd_ne; have xd_n2 := Nat.lt_add_one_of_lt xd_n1
  go_wp2_with fail
  refine (refSub_any _ _ _ (by omega) (by omega) (by omega) (by omega)).mono ?_
  rintro e w4 ⟨rfl, rfl⟩
  go_wp2_with fail
  
  refine named_world (F := fun w5 => Blk w5 w.heap.size (ints [a0, a1, a2, a3, a4, a5]) 32 ∧ Blk w5 (w.heap.size + 1) (ints [b0, b1, b2, b3, b4, b5]) 32 ∧ Blk w5 w1.heap.size (ints [s0, s1, s2, s3, s4, s5]) 32 ∧ Blk w5 w2.heap.size (ints [d0, d1, d2, d3, d4, d5]) 32 ∧ Blk w5 (w3.heap.size + 1) [.int .i64 (clip (a0 - a5)), .bool (fits (a0 - a5))] 38 ∧ Kp w w5) ⟨(by (repeat (first | with_reducible assumption | ((with_reducible refine Blk.newL ?_ ?_); (focus (first | (simp; done) | omega)); rfl) | with_reducible refine Blk.drew ?_ | with_reducible refine Blk.drewN ?_ _ | with_reducible refine Blk.alloc ?_ _ | ((with_reducible refine Blk.other ?_ ?_ _); rotate_left; (focus (first | with_reducible assumption | omega | (simp; done) | (simp; omega))))))), (by (repeat (first | with_reducible assumption | ((with_reducible refine Blk.newL ?_ ?_); (focus (first | (simp; done) | omega)); rfl) | with_reducible refine Blk.drew ?_ | with_reducible refine Blk.drewN ?_ _ | with_reducible refine Blk.alloc ?_ _ | ((with_reducible refine Blk.other ?_ ?_ _); rotate_left; (focus (first | with_reducible assumption | omega | (simp; done) | (simp; omega))))))), (by (repeat (first | with_reducible assumption | ((with_reducible refine Blk.newL ?_ ?_); (focus (first | (simp; done) | omega)); rfl) | with_reducible refine Blk.drew ?_ | with_reducible refine Blk.drewN ?_ _ | with_reducible refine Blk.alloc ?_ _ | ((with_reducible refine Blk.other ?_ ?_ _); rotate_left; (focus (first | with_reducible assumption | omega | (simp; done) | (simp; omega))))))), (by (repeat (first | with_reducible assumption | ((with_reducible refine Blk.newL ?_ ?_); (focus (first | (simp; done) | omega)); rfl) | with_reducible refine Blk.drew ?_ | with_reducible refine Blk.drewN ?_ _ | with_reducible refine Blk.alloc ?_ _ | ((with_reducible refine Blk.other ?_ ?_ _); rotate_left; (focus (first | with_reducible assumption | omega | (simp; done) | (simp; omega))))))), (by (repeat (first | with_reducible assumption | ((with_reducible refine Blk.newL ?_ ?_); (focus (first | (simp; done) | omega)); rfl) | with_reducible refine Blk.drew ?_ | with_reducible refine Blk.drewN ?_ _ | with_reducible refine Blk.alloc ?_ _ | ((with_reducible refine Blk.other ?_ ?_ _); rotate_left; (focus (first | with_reducible assumption | omega | (simp; done) | (simp; omega))))))), (by (repeat (first | with_reducible assumption | with_reducible exact Kp.refl _ | with_reducible refine Kp.drew ?_ | with_reducible refine Kp.drewN ?_ _ | with_reducible refine Kp.alloc ?_ _ | ((with_reducible refine Kp.setCell ?_ ?_ _); rotate_left; (focus (first | omega | (simp; done) | (simp; omega)))) | with_reducible refine Kp.trans ?_ (by assumption))))⟩ ?_; clear xa xa_0 xa_1 xa_2 xa_3 xa_4 xa_5 xa_ne xa_n1 xa_n2 xb xb_0 xb_1 xb_2 xb_3 xb_4 xb_5 xb_ne xb_n1 xb_n2 xs xs_0 xs_1 xs_2 xs_3 xs_4 xs_5 xs_ne xs_n1 xs_n2 xd xd_0 xd_1 xd_2 xd_3 xd_4 xd_5 xd_ne xd_n1 xd_n2; rintro w5 ⟨xa, xb, xs, xd, xr, kw5⟩; have xa_0 := xa.cell 0 rfl; have xa_1 := xa.cell 1 rfl; have xa_2 := xa.cell 2 rfl; have xa_3 := xa.cell 3 rfl; have xa_4 := xa.cell 4 rfl; have xa_5 := xa.cell 5 rfl; have xa_ne := xa.lt; have xa_n1 := Nat.lt_add_one_of_lt xa_ne; have xa_n2 := Nat.lt_add_one_of_lt xa_n1; have xb_0 := xb.cell 0 rfl; have xb_1 := xb.cell 1 rfl; have xb_2 := xb.cell 2 rfl; have xb_3 := xb.cell 3 rfl; have xb_4 := xb.cell 4 rfl; have xb_5 := xb.cell 5 rfl; have xb_ne := xb.lt; have xb_n1 := Nat.lt_add_one_of_lt xb_ne; have xb_n2 := Nat.lt_add_one_of_lt xb_n1; have xs_0 := xs.cell 0 rfl; have xs_1 := xs.cell 1 rfl; have xs_2 := xs.cell 2 rfl; have xs_3 := xs.cell 3 rfl; have xs_4 := xs.cell 4 rfl; have xs_5 := xs.cell 5 rfl; have xs_ne := xs.lt; have xs_n1 := Nat.lt_add_one_of_lt xs_ne; have xs_n2 := Nat.lt_add_one_of_lt xs_n1; have xd_0 := xd.cell 0 rfl; have xd_1 := xd.cell 1 rfl; have xd_2 := xd.cell 2 rfl; have xd_3 := xd.cell 3 rfl; have xd_4 := xd.cell 4 rfl; have xd_5 := xd.cell 5 rfl; have xd_ne := xd.lt; have xd_n1 := Nat.lt_add_one_of_lt xd_ne; have xd_n2 := Nat.lt_add_one_of_lt xd_n1; have xr_0 := xr.cell 0 rfl; have xr_1 := xr.cell 1 rfl; have xr_ne := xr.lt; have xr_n1 := Nat.lt_add_one_of_lt xr_ne; have xr_n2 := Nat.lt_add_one_of_lt xr_n1
  dsimp only [List.append]
  go_region_held3 (fun w' => (∀ b o, b < w5.heap.size → w'.cell? ⟨b, o, none⟩ = w5.cell? ⟨b, o, none⟩) ∧ Kp w5 w') (first | exact held_start _ | exact held_next (by assumption) (by assumption) | exact held_alloc (by assumption) _ | exact held_drew (by assumption) | exact held_store (by assumption) (by simp) _) (first
    | (go_at_call 25; go_must (refine (refTotAdd_any _ _ _ _ _ _ _ _ _ _ _ _ _ HA.out HB.out).mono ?_); rintro e w' ⟨rfl, kk⟩; rw [HS.out])
    | (go_at_call 26; go_must (refine (refTotSub_any _ _ _ _ _ _ _ _ _ _ _ _ _ HA.out HB.out).mono ?_); rintro e w' ⟨rfl, kk⟩; rw [HD.out])
    | (go_at_call 27; go_must (refine (totOrder_any _ _ _ _ _ _ _).mono ?_); rintro e w' ⟨rfl, kk⟩)
    | (go_at_call 28; go_must (refine (refOrder_any _ _ _ _ _ _ _).mono ?_); rintro e w' ⟨rfl, kk⟩)
    | (go_at_call 29; go_must (refine (totGlue_any _ _ _ _ _).mono ?_); rintro e w' ⟨rfl, kk⟩)
    | (go_at_call 30; go_must (refine (refGlue_any _ _ _ _ _).mono ?_); rintro e w' ⟨rfl, kk⟩)
    | (go_at_call 31; go_must (refine (totBox_any _ _).mono ?_); rintro e w' ⟨rfl, kk⟩)
    | (go_at_call 32; go_must (refine (refBox_any _ _).mono ?_); rintro e w' ⟨rfl, kk⟩)
    | (go_at_call 33; go_must (refine (totAwake_any _).mono ?_); rintro e w' ⟨rfl, kk⟩))
  go_wp2
  go_ret
  exact ⟨rfl, (by (repeat (first | with_reducible assumption | with_reducible exact Kp.refl _ | with_reducible refine Kp.drew ?_ | with_reducible refine Kp.drewN ?_ _ | with_reducible refine Kp.alloc ?_ _ | ((with_reducible refine Kp.setCell ?_ ?_ _); rotate_left; (focus (first | omega | (simp; done) | (simp; omega)))) | with_reducible refine Kp.trans ?_ (by assumption))))⟩
end Go.Proofs.Ytfiofmlfceknaaa
