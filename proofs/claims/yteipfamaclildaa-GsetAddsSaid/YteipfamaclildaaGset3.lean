/- How a total is set, as the document says it: the walk. -/
import Derived.Test.YteipfamaclildaaGset2

namespace Go.Proofs.Yteipfamaclildaa

open Go.RowKit

set_option maxRecDepth 100000 in
set_option maxHeartbeats 4000000 in
theorem refSetOf_any (a0 a1 a2 a3 a4 a5 high : Int) (last : Bool) (w : World) :
    Calls Try.prog 37 #[.agg #[.int .i64 a0, .int .i64 a1, .int .i64 a2, .int .i64 a3, .int .i64 a4, .int .i64 a5], .int .i64 high, .bool last] w fun e w' => e = .returned (setOf ⟨a0, a1, a2, a3, a4, a5⟩ high last).v ∧ Kp w w' := by
  have cR := refRight9_any a0 a1 a2 a3 a4 a5 high
  have cO := refOrder_any a0 a1 a2 a3 a4 a5
  cases hr : rightT ⟨a0, a1, a2, a3, a4, a5⟩ high with
  | false =>
    have hS : setOf ⟨a0, a1, a2, a3, a4, a5⟩ high last = ⟨0, 0, 0, 0, 0⟩ := by unfold setOf; rw [hr]; rfl
    rw [hr] at cR
    have CR := Lib.hid cR
    have HS := Lib.hid hS
    clear cR hS hr cO
    go_enter Try.func37, Try.ntmps37
    go_wp2_with fail
    refine (CR.out _).mono ?_
    rintro e w2 ⟨rfl, kk⟩
    have x6 : Blk w2 (w.heap.size + 1) (ints [0, 0, 0, 0, 0]) 69 := Blk.kp (by (repeat (first | with_reducible assumption | ((with_reducible refine Blk.newL ?_ ?_); (focus (first | (simp; done) | omega)); rfl) | with_reducible refine Blk.drew ?_ | with_reducible refine Blk.drewN ?_ _ | with_reducible refine Blk.alloc ?_ _ | ((with_reducible refine Blk.other ?_ ?_ _); rotate_left; (focus (first | with_reducible assumption | omega | (simp; done) | (simp; omega))))))) kk
    have f0 := x6.free 0; have f1 := x6.free 1; have f2 := x6.free 2; have f3 := x6.free 3; have f4 := x6.free 4
    have g0 := x6.cell 0 rfl; have g1 := x6.cell 1 rfl; have g2 := x6.cell 2 rfl; have g3 := x6.cell 3 rfl; have g4 := x6.cell 4 rfl
    go_wp2
    refine ret_blk (vs := [.int .i64 0, .int .i64 0, .int .i64 0, .int .i64 0, .int .i64 0]) (Blk.set (Blk.set (Blk.set (Blk.set (Blk.set x6 0 _) 1 _) 2 _) 3 _) 4 _) ?_ rfl ⟨by rw [HS.out]; rfl, (by (repeat (first | with_reducible assumption | with_reducible exact Kp.refl _ | with_reducible refine Kp.drew ?_ | with_reducible refine Kp.drewN ?_ _ | with_reducible refine Kp.alloc ?_ _ | ((with_reducible refine Kp.setCell ?_ ?_ _); rotate_left; (focus (first | omega | (simp; done) | (simp; omega)))) | with_reducible refine Kp.trans ?_ (by assumption))))⟩; intro wz bz; have z0 := bz.cell 0 rfl; have z1 := bz.cell 1 rfl; have z2 := bz.cell 2 rfl; have z3 := bz.cell 3 rfl; have z4 := bz.cell 4 rfl; simp [results, Try.results37, go_sem, z0, z1, z2, z3, z4]
  | true =>
    obtain ⟨⟨n0, n1⟩, ⟨p0, p1⟩, ⟨q0, q1⟩, ⟨r0, r1⟩, ⟨s0, s1'⟩, ⟨t0, t1⟩, u0, u1⟩ := right_bounds hr
    simp only at n0 n1 p0 p1 q0 q1 r0 r1 s0 s1' t0 t1 u0 u1
    have hob := order4_bounds a2 a3 a4
    have hso := strO_order (t := ⟨a0, a1, a2, a3, a4, a5⟩) q0 r0 s0
    have hS := fun (x : Sett) (h : (if high - a0 = 0 then (⟨0, 0, 0, 0, 0⟩ : Sett)
      else if 0 < high - a0 then
        if 0 < strO ⟨a0, a1, a2, a3, a4, a5⟩ (order4 a2 a3 a4).toNat ∧ ¬ (last = true ∧ order4 a2 a3 a4 = 0) then ⟨1, order4 a2 a3 a4, high - a0, strO ⟨a0, a1, a2, a3, a4, a5⟩ (order4 a2 a3 a4).toNat, 0⟩ else ⟨0, 0, 0, 0, high - a0⟩
      else if 0 ≤ a5 + (high - a0) then ⟨2, 0, -(high - a0), a5, 0⟩ else ⟨3, 0, a5, a5, a5 + (high - a0)⟩) = x) => show setOf ⟨a0, a1, a2, a3, a4, a5⟩ high last = x by unfold setOf; rw [if_pos hr]; exact h
    obtain ⟨o, ho⟩ := Int.eq_ofNat_of_zero_le hob.1
    rw [ho] at hS hso hob cO
    simp only [Int.toNat_natCast] at hS hso
    obtain ⟨so, hsv⟩ : ∃ x, strO ⟨a0, a1, a2, a3, a4, a5⟩ o = x := ⟨_, rfl⟩
    rw [hsv] at hS hso
    have ho4 : o < 4 := by omega
    have hcell : (ints [a0, a1, a2, a3, a4, a5])[1 + o]? = some (.int .i64 so) := by
      have h := ints_get (l := [a0, a1, a2, a3, a4, a5]) (k := 1 + o) (by simp; omega)
      rw [h, ← hsv]
      obtain rfl | rfl | rfl | rfl : o = 0 ∨ o = 1 ∨ o = 2 ∨ o = 3 := by omega
      all_goals rfl
    have CO := Lib.hid cO
    have HS := Lib.hid hS
    have HSO := Lib.hid hso
    have HC := Lib.hid hcell
    have HSV := Lib.hid hsv
    rw [hr] at cR
    have CR := Lib.hid cR
    clear cR hS hr cO hso hsv ho hob hcell
    go_enter Try.func37, Try.ntmps37
    go_wp2_with fail
    refine (CR.out _).mono ?_
    rintro e w2 ⟨rfl, kk⟩
    have x3 : Blk w2 w.heap.size (ints [a0, a1, a2, a3, a4, a5]) 31 := Blk.kp (by (repeat (first | with_reducible assumption | ((with_reducible refine Blk.newL ?_ ?_); (focus (first | (simp; done) | omega)); rfl) | with_reducible refine Blk.drew ?_ | with_reducible refine Blk.drewN ?_ _ | with_reducible refine Blk.alloc ?_ _ | ((with_reducible refine Blk.other ?_ ?_ _); rotate_left; (focus (first | with_reducible assumption | omega | (simp; done) | (simp; omega))))))) kk
    have x6 : Blk w2 (w.heap.size + 1) (ints [0, 0, 0, 0, 0]) 69 := Blk.kp (by (repeat (first | with_reducible assumption | ((with_reducible refine Blk.newL ?_ ?_); (focus (first | (simp; done) | omega)); rfl) | with_reducible refine Blk.drew ?_ | with_reducible refine Blk.drewN ?_ _ | with_reducible refine Blk.alloc ?_ _ | ((with_reducible refine Blk.other ?_ ?_ _); rotate_left; (focus (first | with_reducible assumption | omega | (simp; done) | (simp; omega))))))) kk
    have xk : Kp w w2 := ((by (repeat (first | with_reducible assumption | with_reducible exact Kp.refl _ | with_reducible refine Kp.drew ?_ | with_reducible refine Kp.drewN ?_ _ | with_reducible refine Kp.alloc ?_ _ | ((with_reducible refine Kp.setCell ?_ ?_ _); rotate_left; (focus (first | omega | (simp; done) | (simp; omega)))) | with_reducible refine Kp.trans ?_ (by assumption)))) : Kp w _).trans kk
    have c0 := x3.cell 0 rfl; have c1 := x3.cell 1 rfl; have c2 := x3.cell 2 rfl; have c3 := x3.cell 3 rfl; have c4 := x3.cell 4 rfl; have c5 := x3.cell 5 rfl
    have n3 := x3.lt
    clear kk
    go_wp2_with fail
    refine (CO.out _).mono ?_
    rintro e w5 ⟨rfl, kk⟩
    have k5 : Kp w2 w5 := ((by (repeat (first | with_reducible assumption | with_reducible exact Kp.refl _ | with_reducible refine Kp.drew ?_ | with_reducible refine Kp.drewN ?_ _ | with_reducible refine Kp.alloc ?_ _ | ((with_reducible refine Kp.setCell ?_ ?_ _); rotate_left; (focus (first | omega | (simp; done) | (simp; omega)))) | with_reducible refine Kp.trans ?_ (by assumption)))) : Kp w2 _).trans kk
    have y3 := x3.kp k5
    have y6 := x6.kp k5
    have yk := xk.trans k5
    have co := y3.cell (1 + o) HC.out
    clear c0 c1 c2 c3 c4 c5 n3 kk k5 x3 x6 xk HC CO CR
    have c0 := y3.cell 0 rfl; have c1 := y3.cell 1 rfl; have c2 := y3.cell 2 rfl; have c3 := y3.cell 3 rfl; have c4 := y3.cell 4 rfl; have c5 := y3.cell 5 rfl
    have f0 := y6.free 0; have f1 := y6.free 1; have f2 := y6.free 2; have f3 := y6.free 3; have f4 := y6.free 4
    have g0 := y6.cell 0 rfl; have g1 := y6.cell 1 rfl; have g2 := y6.cell 2 rfl; have g3 := y6.cell 3 rfl; have g4 := y6.cell 4 rfl
    obtain ⟨N, hN⟩ : ∃ N, high - a0 = N := ⟨_, rfl⟩
    have hs2 := HS.out
    rw [hN] at hs2
    rw [hN]
    have hN0 : -2251799813685248 ≤ N := by omega
    have hN1 : N ≤ 2251799813685248 := by omega
    have HS2 := Lib.hid hs2
    clear hs2 HS hN u0 u1
    by_cases e0 : N = 0
    · subst e0
      have HX := Lib.hid (HS2.out _ (if_pos rfl))
      clear HS2 HSO
      go_wp2
      refine ret_blk (vs := [.int .i64 0, .int .i64 0, .int .i64 0, .int .i64 0, .int .i64 0]) (Blk.set (Blk.set (Blk.set (Blk.set (Blk.set y6 0 _) 1 _) 2 _) 3 _) 4 _) ?_ rfl ⟨by rw [HX.out]; rfl, (by (repeat (first | with_reducible assumption | with_reducible exact Kp.refl _ | with_reducible refine Kp.drew ?_ | with_reducible refine Kp.drewN ?_ _ | with_reducible refine Kp.alloc ?_ _ | ((with_reducible refine Kp.setCell ?_ ?_ _); rotate_left; (focus (first | omega | (simp; done) | (simp; omega)))) | with_reducible refine Kp.trans ?_ (by assumption))))⟩; intro wz bz; have z0 := bz.cell 0 rfl; have z1 := bz.cell 1 rfl; have z2 := bz.cell 2 rfl; have z3 := bz.cell 3 rfl; have z4 := bz.cell 4 rfl; simp [results, Try.results37, go_sem, z0, z1, z2, z3, z4]
    · have j0 : (N == 0) = false := beq_eq_false_iff_ne.2 e0
      by_cases e1 : 0 < N
      · have j1 : decide (0 < N) = true := decide_eq_true e1
        by_cases e3 : 0 < o
        · have j2 : decide ((0 : Int) < (o : Int)) = true := decide_eq_true (by omega)
          have e2 : 0 < so := HSO.out (by omega)
          have HX := Lib.hid (HS2.out ⟨1, o, N, so, 0⟩ (by rw [if_neg e0, if_pos e1, if_pos ⟨e2, fun h => by have := h.2; omega⟩]))
          clear HS2 HSO e0 e2
          go_wp2
          refine ret_blk (vs := [.int .i64 1, .int .i64 o, .int .i64 N, .int .i64 so, .int .i64 0]) (Blk.set (Blk.set (Blk.set (Blk.set (Blk.set y6 0 _) 1 _) 2 _) 3 _) 4 _) ?_ rfl ⟨by rw [HX.out]; rfl, (by (repeat (first | with_reducible assumption | with_reducible exact Kp.refl _ | with_reducible refine Kp.drew ?_ | with_reducible refine Kp.drewN ?_ _ | with_reducible refine Kp.alloc ?_ _ | ((with_reducible refine Kp.setCell ?_ ?_ _); rotate_left; (focus (first | omega | (simp; done) | (simp; omega)))) | with_reducible refine Kp.trans ?_ (by assumption))))⟩; intro wz bz; have z0 := bz.cell 0 rfl; have z1 := bz.cell 1 rfl; have z2 := bz.cell 2 rfl; have z3 := bz.cell 3 rfl; have z4 := bz.cell 4 rfl; simp [results, Try.results37, go_sem, z0, z1, z2, z3, z4]
        · obtain rfl : o = 0 := by omega
          obtain rfl : a1 = so := HSV.out
          by_cases e2 : 0 < a1
          · have j2 : decide (0 < a1) = true := decide_eq_true e2
            cases last with
            | false =>
              have HX := Lib.hid (HS2.out ⟨1, 0, N, a1, 0⟩ (by rw [if_neg e0, if_pos e1, if_pos ⟨e2, fun h => by cases h.1⟩]; rfl))
              clear HS2 HSO e0
              go_wp2
              refine ret_blk (vs := [.int .i64 1, .int .i64 0, .int .i64 N, .int .i64 a1, .int .i64 0]) (Blk.set (Blk.set (Blk.set (Blk.set (Blk.set y6 0 _) 1 _) 2 _) 3 _) 4 _) ?_ rfl ⟨by rw [HX.out]; rfl, (by (repeat (first | with_reducible assumption | with_reducible exact Kp.refl _ | with_reducible refine Kp.drew ?_ | with_reducible refine Kp.drewN ?_ _ | with_reducible refine Kp.alloc ?_ _ | ((with_reducible refine Kp.setCell ?_ ?_ _); rotate_left; (focus (first | omega | (simp; done) | (simp; omega)))) | with_reducible refine Kp.trans ?_ (by assumption))))⟩; intro wz bz; have z0 := bz.cell 0 rfl; have z1 := bz.cell 1 rfl; have z2 := bz.cell 2 rfl; have z3 := bz.cell 3 rfl; have z4 := bz.cell 4 rfl; simp [results, Try.results37, go_sem, z0, z1, z2, z3, z4]
            | true =>
              have HX := Lib.hid (HS2.out ⟨0, 0, 0, 0, N⟩ (by rw [if_neg e0, if_pos e1, if_neg (fun h => h.2 ⟨rfl, rfl⟩)]))
              clear HS2 HSO e0
              go_wp2
              refine ret_blk (vs := [.int .i64 0, .int .i64 0, .int .i64 0, .int .i64 0, .int .i64 N]) (Blk.set (Blk.set (Blk.set (Blk.set (Blk.set y6 0 _) 1 _) 2 _) 3 _) 4 _) ?_ rfl ⟨by rw [HX.out]; rfl, (by (repeat (first | with_reducible assumption | with_reducible exact Kp.refl _ | with_reducible refine Kp.drew ?_ | with_reducible refine Kp.drewN ?_ _ | with_reducible refine Kp.alloc ?_ _ | ((with_reducible refine Kp.setCell ?_ ?_ _); rotate_left; (focus (first | omega | (simp; done) | (simp; omega)))) | with_reducible refine Kp.trans ?_ (by assumption))))⟩; intro wz bz; have z0 := bz.cell 0 rfl; have z1 := bz.cell 1 rfl; have z2 := bz.cell 2 rfl; have z3 := bz.cell 3 rfl; have z4 := bz.cell 4 rfl; simp [results, Try.results37, go_sem, z0, z1, z2, z3, z4]
          · have j2 : decide (0 < a1) = false := decide_eq_false e2
            have HX := Lib.hid (HS2.out ⟨0, 0, 0, 0, N⟩ (by rw [if_neg e0, if_pos e1, if_neg (fun h => e2 h.1)]))
            clear HS2 HSO e0
            go_wp2
            refine ret_blk (vs := [.int .i64 0, .int .i64 0, .int .i64 0, .int .i64 0, .int .i64 N]) (Blk.set (Blk.set (Blk.set (Blk.set (Blk.set y6 0 _) 1 _) 2 _) 3 _) 4 _) ?_ rfl ⟨by rw [HX.out]; rfl, (by (repeat (first | with_reducible assumption | with_reducible exact Kp.refl _ | with_reducible refine Kp.drew ?_ | with_reducible refine Kp.drewN ?_ _ | with_reducible refine Kp.alloc ?_ _ | ((with_reducible refine Kp.setCell ?_ ?_ _); rotate_left; (focus (first | omega | (simp; done) | (simp; omega)))) | with_reducible refine Kp.trans ?_ (by assumption))))⟩; intro wz bz; have z0 := bz.cell 0 rfl; have z1 := bz.cell 1 rfl; have z2 := bz.cell 2 rfl; have z3 := bz.cell 3 rfl; have z4 := bz.cell 4 rfl; simp [results, Try.results37, go_sem, z0, z1, z2, z3, z4]
      · have j1 : decide (0 < N) = false := decide_eq_false e1
        by_cases e2 : 0 ≤ a5 + N
        · have j2 : decide (-N ≤ a5) = true := decide_eq_true (by omega)
          have HX := Lib.hid (HS2.out ⟨2, 0, -N, a5, 0⟩ (by rw [if_neg e0, if_neg e1, if_pos e2]))
          clear HS2 HSO e0
          go_wp2
          refine ret_blk (vs := [.int .i64 2, .int .i64 0, .int .i64 (-N), .int .i64 a5, .int .i64 0]) (Blk.set (Blk.set (Blk.set (Blk.set (Blk.set y6 0 _) 1 _) 2 _) 3 _) 4 _) ?_ rfl ⟨by rw [HX.out]; rfl, (by (repeat (first | with_reducible assumption | with_reducible exact Kp.refl _ | with_reducible refine Kp.drew ?_ | with_reducible refine Kp.drewN ?_ _ | with_reducible refine Kp.alloc ?_ _ | ((with_reducible refine Kp.setCell ?_ ?_ _); rotate_left; (focus (first | omega | (simp; done) | (simp; omega)))) | with_reducible refine Kp.trans ?_ (by assumption))))⟩; intro wz bz; have z0 := bz.cell 0 rfl; have z1 := bz.cell 1 rfl; have z2 := bz.cell 2 rfl; have z3 := bz.cell 3 rfl; have z4 := bz.cell 4 rfl; simp [results, Try.results37, go_sem, z0, z1, z2, z3, z4]
        · have j2 : decide (-N ≤ a5) = false := decide_eq_false (by omega)
          have HX := Lib.hid (HS2.out ⟨3, 0, a5, a5, N + a5⟩ (by rw [if_neg e0, if_neg e1, if_neg e2, Int.add_comm]))
          clear HS2 HSO e0
          go_wp2
          refine ret_blk (vs := [.int .i64 3, .int .i64 0, .int .i64 a5, .int .i64 a5, .int .i64 (N + a5)]) (Blk.set (Blk.set (Blk.set (Blk.set (Blk.set y6 0 _) 1 _) 2 _) 3 _) 4 _) ?_ rfl ⟨by rw [HX.out]; rfl, (by (repeat (first | with_reducible assumption | with_reducible exact Kp.refl _ | with_reducible refine Kp.drew ?_ | with_reducible refine Kp.drewN ?_ _ | with_reducible refine Kp.alloc ?_ _ | ((with_reducible refine Kp.setCell ?_ ?_ _); rotate_left; (focus (first | omega | (simp; done) | (simp; omega)))) | with_reducible refine Kp.trans ?_ (by assumption))))⟩; intro wz bz; have z0 := bz.cell 0 rfl; have z1 := bz.cell 1 rfl; have z2 := bz.cell 2 rfl; have z3 := bz.cell 3 rfl; have z4 := bz.cell 4 rfl; simp [results, Try.results37, go_sem, z0, z1, z2, z3, z4]
end Go.Proofs.Yteipfamaclildaa
