/- How a total is set: the walk of gset.Of. -/
import Derived.Test.YteipfamaclildaaGset1

import Derived.Test.YteipfamaclildaaEq

namespace Go.Proofs.Yteipfamaclildaa

open Go.RowKit

/-- The stretch of an order. -/
def strO (t : Tot) (o : Nat) : Int := nth [t.s0, t.s1, t.s2, t.s3] o
/-- How a total is set. -/
def setOf (t : Tot) (high : Int) (last : Bool) : Sett :=
  if rightT t high = true then
    if high - t.nat = 0 then ⟨0, 0, 0, 0, 0⟩
    else if 0 < high - t.nat then
      if 0 < strO t (order4 t.s1 t.s2 t.s3).toNat ∧ ¬ (last = true ∧ order4 t.s1 t.s2 t.s3 = 0) then ⟨1, order4 t.s1 t.s2 t.s3, high - t.nat, strO t (order4 t.s1 t.s2 t.s3).toNat, 0⟩ else ⟨0, 0, 0, 0, high - t.nat⟩
    else if 0 ≤ t.shr + (high - t.nat) then ⟨2, 0, -(high - t.nat), t.shr, 0⟩ else ⟨3, 0, t.shr, t.shr, t.shr + (high - t.nat)⟩
  else ⟨0, 0, 0, 0, 0⟩
theorem right_bounds {t : Tot} {high : Int} (h : rightT t high = true) : (0 ≤ t.nat ∧ t.nat ≤ 1125899906842624) ∧ (0 ≤ t.s0 ∧ t.s0 ≤ 1125899906842624) ∧ (0 ≤ t.s1 ∧ t.s1 ≤ 1125899906842624) ∧ (0 ≤ t.s2 ∧ t.s2 ≤ 1125899906842624) ∧ (0 ≤ t.s3 ∧ t.s3 ≤ 1125899906842624) ∧ (0 ≤ t.shr ∧ t.shr ≤ 1125899906842624) ∧ -1125899906842624 ≤ high ∧ high ≤ 1125899906842624 := by
  unfold rightT at h
  simp only [Bool.and_eq_true, decide_eq_true_eq] at h
  obtain ⟨hf, h1, h2⟩ := h
  obtain ⟨g0, g1, g2, g3, g4, g5⟩ := fldT_iff.1 hf
  exact ⟨inF_iff.1 g0, inF_iff.1 g1, inF_iff.1 g2, inF_iff.1 g3, inF_iff.1 g4, inF_iff.1 g5, h1, h2⟩
/-- The highest order has a stretch, if it is above 0. -/
theorem strO_order {t : Tot} (h1 : 0 ≤ t.s1) (h2 : 0 ≤ t.s2) (h3 : 0 ≤ t.s3) (h : order4 t.s1 t.s2 t.s3 ≠ 0) : 0 < strO t (order4 t.s1 t.s2 t.s3).toNat := by
  unfold strO order4 at *
  split
  · show 0 < t.s3; omega
  · split
    · show 0 < t.s2; omega
    · split
      · show 0 < t.s1; omega
      · rename_i a b c
        rw [if_neg a, if_neg b, if_neg c] at h
        exact absurd rfl h

set_option maxRecDepth 100000 in
set_option maxHeartbeats 4000000 in
theorem gsetOf_any (a0 a1 a2 a3 a4 a5 high : Int) (last : Bool) (w : World) :
    Calls Try.prog 36 #[.agg #[.int .i64 a0, .int .i64 a1, .int .i64 a2, .int .i64 a3, .int .i64 a4, .int .i64 a5], .int .i64 high, .bool last] w fun e w' => e = .returned (setOf ⟨a0, a1, a2, a3, a4, a5⟩ high last).v ∧ Kp w w' := by
  have cR := gright_any a0 a1 a2 a3 a4 a5 high
  have cO := totOrder_any a0 a1 a2 a3 a4 a5
  cases hr : rightT ⟨a0, a1, a2, a3, a4, a5⟩ high with
  | false =>
    have hS : setOf ⟨a0, a1, a2, a3, a4, a5⟩ high last = ⟨0, 0, 0, 0, 0⟩ := by unfold setOf; rw [hr]; rfl
    rw [hr] at cR
    have CR := Lib.hid cR
    have HS := Lib.hid hS
    clear cR hS hr cO
    go_enter Try.func36, Try.ntmps36
    go_wp2_with fail
    refine (CR.out _).mono ?_
    rintro e w2 ⟨rfl, kk⟩
    have x6 : Blk w2 (w.heap.size + 1) (ints [0, 0, 0, 0, 0]) 69 := Blk.kp (by (repeat (first | with_reducible assumption | ((with_reducible refine Blk.newL ?_ ?_); (focus (first | (simp; done) | omega)); rfl) | with_reducible refine Blk.drew ?_ | with_reducible refine Blk.drewN ?_ _ | with_reducible refine Blk.alloc ?_ _ | ((with_reducible refine Blk.other ?_ ?_ _); rotate_left; (focus (first | with_reducible assumption | omega | (simp; done) | (simp; omega))))))) kk
    have f0 := x6.free 0; have f1 := x6.free 1; have f2 := x6.free 2; have f3 := x6.free 3; have f4 := x6.free 4
    have g0 := x6.cell 0 rfl; have g1 := x6.cell 1 rfl; have g2 := x6.cell 2 rfl; have g3 := x6.cell 3 rfl; have g4 := x6.cell 4 rfl
    go_wp2
    refine ret_blk (vs := [.int .i64 0, .int .i64 0, .int .i64 0, .int .i64 0, .int .i64 0]) (Blk.set (Blk.set (Blk.set (Blk.set (Blk.set x6 0 _) 1 _) 2 _) 3 _) 4 _) ?_ rfl ⟨by rw [HS.out]; rfl, (by (repeat (first | with_reducible assumption | with_reducible exact Kp.refl _ | with_reducible refine Kp.drew ?_ | with_reducible refine Kp.drewN ?_ _ | with_reducible refine Kp.alloc ?_ _ | ((with_reducible refine Kp.setCell ?_ ?_ _); rotate_left; (focus (first | omega | (simp; done) | (simp; omega)))) | with_reducible refine Kp.trans ?_ (by assumption))))⟩; intro wz bz; have z0 := bz.cell 0 rfl; have z1 := bz.cell 1 rfl; have z2 := bz.cell 2 rfl; have z3 := bz.cell 3 rfl; have z4 := bz.cell 4 rfl; simp [results, Try.results36, go_sem, z0, z1, z2, z3, z4]
  | true =>
    obtain ⟨⟨n0, n1⟩, ⟨p0, p1⟩, ⟨q0, q1⟩, ⟨r0, r1⟩, ⟨s0, s1'⟩, ⟨t0, t1⟩, u0, u1⟩ := right_bounds hr
    simp only at n0 n1 p0 p1 q0 q1 r0 r1 s0 s1' t0 t1 u0 u1
    have hob := order4_bounds a2 a3 a4
    have hso := strO_order (t := ⟨a0, a1, a2, a3, a4, a5⟩) q0 r0 s0
    have hS := fun (x : Sett) (h : (if high - a0 = 0 then (⟨0, 0, 0, 0, 0⟩ : Sett)
      else if 0 < high - a0 then
        if 0 < strO ⟨a0, a1, a2, a3, a4, a5⟩ (order4 a2 a3 a4).toNat ∧ ¬ (last = true ∧ order4 a2 a3 a4 = 0) then ⟨1, order4 a2 a3 a4, high - a0, strO ⟨a0, a1, a2, a3, a4, a5⟩ (order4 a2 a3 a4).toNat, 0⟩ else ⟨0, 0, 0, 0, high - a0⟩
      else if 0 ≤ a5 + (high - a0) then ⟨2, 0, -(high - a0), a5, 0⟩ else ⟨3, 0, a5, a5, a5 + (high - a0)⟩) = x) => show setOf ⟨a0, a1, a2, a3, a4, a5⟩ high last = x by unfold setOf; rw [if_pos hr]; exact h
    obtain ⟨o, ho⟩ := Int.eq_ofNat_of_zero_le hob.1
    rw [ho] at hS hso hob cO
    simp only [Int.toNat_natCast] at hS hso
    obtain ⟨so, hsv⟩ : ∃ x, strO ⟨a0, a1, a2, a3, a4, a5⟩ o = x := ⟨_, rfl⟩
    rw [hsv] at hS hso
    have ho4 : o < 4 := by omega
    have hcell : (ints [a0, a1, a2, a3, a4, a5])[1 + o]? = some (.int .i64 so) := by
      have h := ints_get (l := [a0, a1, a2, a3, a4, a5]) (k := 1 + o) (by simp; omega)
      rw [h, ← hsv]
      obtain rfl | rfl | rfl | rfl : o = 0 ∨ o = 1 ∨ o = 2 ∨ o = 3 := by omega
      all_goals rfl
    have CO := Lib.hid cO
    have HS := Lib.hid hS
    have HSO := Lib.hid hso
    have HC := Lib.hid hcell
    have HSV := Lib.hid hsv
    rw [hr] at cR
    have CR := Lib.hid cR
    clear cR hS hr cO hso hsv ho hob hcell
    go_enter Try.func36, Try.ntmps36
    go_wp2_with fail
    refine (CR.out _).mono ?_
    rintro e w2 ⟨rfl, kk⟩
    have x3 : Blk w2 w.heap.size (ints [a0, a1, a2, a3, a4, a5]) 31 := Blk.kp (by (repeat (first | with_reducible assumption | ((with_reducible refine Blk.newL ?_ ?_); (focus (first | (simp; done) | omega)); rfl) | with_reducible refine Blk.drew ?_ | with_reducible refine Blk.drewN ?_ _ | with_reducible refine Blk.alloc ?_ _ | ((with_reducible refine Blk.other ?_ ?_ _); rotate_left; (focus (first | with_reducible assumption | omega | (simp; done) | (simp; omega))))))) kk
    have x6 : Blk w2 (w.heap.size + 1) (ints [0, 0, 0, 0, 0]) 69 := Blk.kp (by (repeat (first | with_reducible assumption | ((with_reducible refine Blk.newL ?_ ?_); (focus (first | (simp; done) | omega)); rfl) | with_reducible refine Blk.drew ?_ | with_reducible refine Blk.drewN ?_ _ | with_reducible refine Blk.alloc ?_ _ | ((with_reducible refine Blk.other ?_ ?_ _); rotate_left; (focus (first | with_reducible assumption | omega | (simp; done) | (simp; omega))))))) kk
    have xk : Kp w w2 := ((by (repeat (first | with_reducible assumption | with_reducible exact Kp.refl _ | with_reducible refine Kp.drew ?_ | with_reducible refine Kp.drewN ?_ _ | with_reducible refine Kp.alloc ?_ _ | ((with_reducible refine Kp.setCell ?_ ?_ _); rotate_left; (focus (first | omega | (simp; done) | (simp; omega)))) | with_reducible refine Kp.trans ?_ (by assumption)))) : Kp w _).trans kk
    have c0 := x3.cell 0 rfl; have c1 := x3.cell 1 rfl; have c2 := x3.cell 2 rfl; have c3 := x3.cell 3 rfl; have c4 := x3.cell 4 rfl; have c5 := x3.cell 5 rfl
    have n3 := x3.lt
    clear kk
    go_wp2
    (refine wp_region_held_drew (S := (fun w' => (∀ b o, b < w2.heap.size → w'.cell? ⟨b, o, none⟩ = w2.cell? ⟨b, o, none⟩) ∧ Kp w2 w')) (by kernel_rfl) ?_ (fun hHd => ?_); (focus ((try dsimp only); (first | with_reducible assumption | with_reducible exact held_start _ | with_reducible exact held_next (by assumption) (by assumption) | with_reducible exact held_alloc (by assumption) _ | with_reducible exact held_drew (by assumption) | ((with_reducible refine held_kp ?_); (repeat (first | with_reducible assumption | with_reducible exact Kp.refl _ | with_reducible refine Kp.drew ?_ | with_reducible refine Kp.drewN ?_ _ | with_reducible refine Kp.alloc ?_ _ | ((with_reducible refine Kp.setCell ?_ ?_ _); rotate_left; (focus (first | omega | (simp; done) | (simp; omega)))) | with_reducible refine Kp.trans ?_ (by assumption))))))))
    (refine takeH (i := 0) (oi := ?o1) (v := ?v1) ?h1 (by kernel_rfl) ?q1 (Or.inl ⟨?w1, ?y1⟩) (by assumption) ?r1; (case h1 => ((simp only [g1, g3]); rfl)); (case q1 => exact fun _ _ _ h => h); (case w1 => rfl); (case y1 => (intro w' hSw; (try dsimp only at hSw); go_simp; (try with_reducible rfl))); (try simp only [Act.put, s1, s2, s3]))
    (refine takeH (i := 1) (oi := ?o2) (v := ?v2) ?h2 (by kernel_rfl) ?q2 (Or.inl ⟨?w2, ?y2⟩) (by assumption) ?r2; (case h2 => ((simp only [g1, g2, g3]); rfl)); (case q2 => exact fun _ _ _ h => h); (case w2 => rfl); (case y2 => (intro w' hSw; (try dsimp only at hSw); go_simp; (try with_reducible rfl))); (try simp only [Act.put, s1, s2, s3]))
    (refine takeH (i := 2) (oi := ?o3) (v := ?v3) ?h3 (by kernel_rfl) ?q3 (Or.inl ⟨?w3, ?y3⟩) (by assumption) ?r3; (case h3 => ((simp only [g1, g2, g3]); rfl)); (case q3 => exact fun _ _ _ h => h); (case w3 => rfl); (case y3 => (intro w' hSw; (try dsimp only at hSw); go_simp; (try with_reducible rfl))); (try simp only [Act.put, s1, s2, s3]))
    (refine takeH (i := 3) (oi := ?o4) (v := ?v4) ?h4 (by kernel_rfl) ?q4 (Or.inl ⟨?w4, ?y4⟩) (by assumption) ?r4; (case h4 => ((simp only [g1, g2, g3]); rfl)); (case q4 => exact fun _ _ _ h => h); (case w4 => rfl); (case y4 => (intro w' hSw; (try dsimp only at hSw); go_simp; (try with_reducible rfl))); (try simp only [Act.put, s1, s2, s3]))
    (refine takeH (i := 4) (oi := ?o5) (v := ?v5) ?h5 (by kernel_rfl) ?q5 (Or.inl ⟨?w5, ?y5⟩) (by assumption) ?r5; (case h5 => ((simp only [g1, g2, g3]); rfl)); (case q5 => exact fun _ _ _ h => h); (case w5 => rfl); (case y5 => (intro w' hSw; (try dsimp only at hSw); go_simp; (try with_reducible rfl))); (try simp only [Act.put, s1, s2, s3]))
    (refine wpAnyH_ready (rs := [5]) (by kernel_rfl) (by simp) ?_; refine AllReadyH.cons (o := ?o6) ?h6 (fun K hK => ?s6) AllReadyH.nil; (case h6 => (first | ((simp only [g1, g2, g3]); rfl) | rfl)); go_simp; (first | (go_at_call 62; go_must (refine (CO.out _).mono ?_); rintro e w5 ⟨rfl, kk⟩)); (try dsimp only); refine hK.out _ _ ?_ (fun hHd => ?_); (focus ((try dsimp only); (first | with_reducible assumption | with_reducible exact held_next (by assumption) (by assumption) | with_reducible exact held_alloc (by assumption) _))); clear hK K; (try simp only [Act.put, s1, s2, s3]))
    (refine takeH (i := 6) (oi := ?o7) (v := ?v7) ?h7 (by kernel_rfl) ?q7 (Or.inl ⟨?w7, ?y7⟩) (by assumption) ?r7; (case h7 => ((simp only [g1, g2, g3]); rfl)); (case q7 => exact fun _ _ _ h => h); (case w7 => rfl); (case y7 => (intro w' hSw; (try dsimp only at hSw); go_simp; (try with_reducible rfl))); (try simp only [Act.put, s1, s2, s3]))
    (refine takeH (i := 7) (oi := ?o8) (v := ?v8) ?h8 (by kernel_rfl) ?q8 (Or.inl ⟨?w8, ?y8⟩) (by assumption) ?r8; (case h8 => ((simp only [g1, g2, g3]); rfl)); (case q8 => exact fun _ _ _ h => h); (case w8 => rfl); (case y8 => (intro w' hSw; (try dsimp only at hSw); go_simp; (try with_reducible rfl))); (try simp only [Act.put, s1, s2, s3]))
    refine wpAnyH_done (by kernel_rfl) ?_ _
    have k5 : Kp w2 w5 := ((by (repeat (first | with_reducible assumption | with_reducible exact Kp.refl _ | with_reducible refine Kp.drew ?_ | with_reducible refine Kp.drewN ?_ _ | with_reducible refine Kp.alloc ?_ _ | ((with_reducible refine Kp.setCell ?_ ?_ _); rotate_left; (focus (first | omega | (simp; done) | (simp; omega)))) | with_reducible refine Kp.trans ?_ (by assumption)))) : Kp w2 _).trans kk
    have y3 := x3.kp k5
    have y6 := x6.kp k5
    have yk := xk.trans k5
    have co := y3.cell (1 + o) HC.out
    clear c0 c1 c2 c3 c4 c5 n3 hHd kk k5 x3 x6 xk HC CO CR
    have c0 := y3.cell 0 rfl; have c1 := y3.cell 1 rfl; have c2 := y3.cell 2 rfl; have c3 := y3.cell 3 rfl; have c4 := y3.cell 4 rfl; have c5 := y3.cell 5 rfl
    have f0 := y6.free 0; have f1 := y6.free 1; have f2 := y6.free 2; have f3 := y6.free 3; have f4 := y6.free 4
    have g0 := y6.cell 0 rfl; have g1 := y6.cell 1 rfl; have g2 := y6.cell 2 rfl; have g3 := y6.cell 3 rfl; have g4 := y6.cell 4 rfl
    obtain ⟨N, hN⟩ : ∃ N, high - a0 = N := ⟨_, rfl⟩
    have hs2 := HS.out
    rw [hN] at hs2
    rw [hN]
    have hN0 : -2251799813685248 ≤ N := by omega
    have hN1 : N ≤ 2251799813685248 := by omega
    have HS2 := Lib.hid hs2
    clear hs2 HS hN u0 u1
    by_cases e0 : N = 0
    · subst e0
      have HX := Lib.hid (HS2.out _ (if_pos rfl))
      clear HS2 HSO
      go_wp2
      refine ret_blk (vs := [.int .i64 0, .int .i64 0, .int .i64 0, .int .i64 0, .int .i64 0]) (Blk.set (Blk.set (Blk.set (Blk.set (Blk.set y6 0 _) 1 _) 2 _) 3 _) 4 _) ?_ rfl ⟨by rw [HX.out]; rfl, (by (repeat (first | with_reducible assumption | with_reducible exact Kp.refl _ | with_reducible refine Kp.drew ?_ | with_reducible refine Kp.drewN ?_ _ | with_reducible refine Kp.alloc ?_ _ | ((with_reducible refine Kp.setCell ?_ ?_ _); rotate_left; (focus (first | omega | (simp; done) | (simp; omega)))) | with_reducible refine Kp.trans ?_ (by assumption))))⟩; intro wz bz; have z0 := bz.cell 0 rfl; have z1 := bz.cell 1 rfl; have z2 := bz.cell 2 rfl; have z3 := bz.cell 3 rfl; have z4 := bz.cell 4 rfl; simp [results, Try.results36, go_sem, z0, z1, z2, z3, z4]
    · have j0 : (N == 0) = false := beq_eq_false_iff_ne.2 e0
      by_cases e1 : 0 < N
      · have j1 : decide (0 < N) = true := decide_eq_true e1
        by_cases e2 : 0 < so
        · have j2 : decide (0 < so) = true := decide_eq_true e2
          by_cases e3 : last = true ∧ o = 0
          · obtain ⟨rfl, rfl⟩ := e3
            obtain rfl : a1 = so := HSV.out
            have HX := Lib.hid (HS2.out ⟨0, 0, 0, 0, N⟩ (by rw [if_neg e0, if_pos e1, if_neg (by simp)]))
            clear HS2 HSO e0
            go_wp2
            refine ret_blk (vs := [.int .i64 0, .int .i64 0, .int .i64 0, .int .i64 0, .int .i64 N]) (Blk.set (Blk.set (Blk.set (Blk.set (Blk.set y6 0 _) 1 _) 2 _) 3 _) 4 _) ?_ rfl ⟨by rw [HX.out]; rfl, (by (repeat (first | with_reducible assumption | with_reducible exact Kp.refl _ | with_reducible refine Kp.drew ?_ | with_reducible refine Kp.drewN ?_ _ | with_reducible refine Kp.alloc ?_ _ | ((with_reducible refine Kp.setCell ?_ ?_ _); rotate_left; (focus (first | omega | (simp; done) | (simp; omega)))) | with_reducible refine Kp.trans ?_ (by assumption))))⟩; intro wz bz; have z0 := bz.cell 0 rfl; have z1 := bz.cell 1 rfl; have z2 := bz.cell 2 rfl; have z3 := bz.cell 3 rfl; have z4 := bz.cell 4 rfl; simp [results, Try.results36, go_sem, z0, z1, z2, z3, z4]
          · have HX := Lib.hid (HS2.out ⟨1, o, N, so, 0⟩ (by rw [if_neg e0, if_pos e1, if_pos ⟨e2, fun h => e3 ⟨h.1, by have := h.2; omega⟩⟩]))
            clear HS2 HSO e0
            cases last with
            | false =>
              clear e3
              go_wp2
              refine ret_blk (vs := [.int .i64 1, .int .i64 o, .int .i64 N, .int .i64 so, .int .i64 0]) (Blk.set (Blk.set (Blk.set (Blk.set (Blk.set y6 0 _) 1 _) 2 _) 3 _) 4 _) ?_ rfl ⟨by rw [HX.out]; rfl, (by (repeat (first | with_reducible assumption | with_reducible exact Kp.refl _ | with_reducible refine Kp.drew ?_ | with_reducible refine Kp.drewN ?_ _ | with_reducible refine Kp.alloc ?_ _ | ((with_reducible refine Kp.setCell ?_ ?_ _); rotate_left; (focus (first | omega | (simp; done) | (simp; omega)))) | with_reducible refine Kp.trans ?_ (by assumption))))⟩; intro wz bz; have z0 := bz.cell 0 rfl; have z1 := bz.cell 1 rfl; have z2 := bz.cell 2 rfl; have z3 := bz.cell 3 rfl; have z4 := bz.cell 4 rfl; simp [results, Try.results36, go_sem, z0, z1, z2, z3, z4]
            | true =>
              have e4 : ¬ o = 0 := fun h => e3 ⟨rfl, h⟩
              have j3 : ((o : Int) == 0) = false := beq_eq_false_iff_ne.2 (by omega)
              clear e3
              go_wp2
              refine ret_blk (vs := [.int .i64 1, .int .i64 o, .int .i64 N, .int .i64 so, .int .i64 0]) (Blk.set (Blk.set (Blk.set (Blk.set (Blk.set y6 0 _) 1 _) 2 _) 3 _) 4 _) ?_ rfl ⟨by rw [HX.out]; rfl, (by (repeat (first | with_reducible assumption | with_reducible exact Kp.refl _ | with_reducible refine Kp.drew ?_ | with_reducible refine Kp.drewN ?_ _ | with_reducible refine Kp.alloc ?_ _ | ((with_reducible refine Kp.setCell ?_ ?_ _); rotate_left; (focus (first | omega | (simp; done) | (simp; omega)))) | with_reducible refine Kp.trans ?_ (by assumption))))⟩; intro wz bz; have z0 := bz.cell 0 rfl; have z1 := bz.cell 1 rfl; have z2 := bz.cell 2 rfl; have z3 := bz.cell 3 rfl; have z4 := bz.cell 4 rfl; simp [results, Try.results36, go_sem, z0, z1, z2, z3, z4]
        · have j2 : decide (0 < so) = false := decide_eq_false e2
          have HX := Lib.hid (HS2.out ⟨0, 0, 0, 0, N⟩ (by rw [if_neg e0, if_pos e1, if_neg (fun h => e2 h.1)]))
          clear HS2 HSO e0
          go_wp2
          refine ret_blk (vs := [.int .i64 0, .int .i64 0, .int .i64 0, .int .i64 0, .int .i64 N]) (Blk.set (Blk.set (Blk.set (Blk.set (Blk.set y6 0 _) 1 _) 2 _) 3 _) 4 _) ?_ rfl ⟨by rw [HX.out]; rfl, (by (repeat (first | with_reducible assumption | with_reducible exact Kp.refl _ | with_reducible refine Kp.drew ?_ | with_reducible refine Kp.drewN ?_ _ | with_reducible refine Kp.alloc ?_ _ | ((with_reducible refine Kp.setCell ?_ ?_ _); rotate_left; (focus (first | omega | (simp; done) | (simp; omega)))) | with_reducible refine Kp.trans ?_ (by assumption))))⟩; intro wz bz; have z0 := bz.cell 0 rfl; have z1 := bz.cell 1 rfl; have z2 := bz.cell 2 rfl; have z3 := bz.cell 3 rfl; have z4 := bz.cell 4 rfl; simp [results, Try.results36, go_sem, z0, z1, z2, z3, z4]
      · have j1 : decide (0 < N) = false := decide_eq_false e1
        by_cases e2 : 0 ≤ a5 + N
        · have j2 : decide (0 ≤ a5 + N) = true := decide_eq_true e2
          have HX := Lib.hid (HS2.out ⟨2, 0, -N, a5, 0⟩ (by rw [if_neg e0, if_neg e1, if_pos e2]))
          clear HS2 HSO e0
          go_wp2
          refine ret_blk (vs := [.int .i64 2, .int .i64 0, .int .i64 (-N), .int .i64 a5, .int .i64 0]) (Blk.set (Blk.set (Blk.set (Blk.set (Blk.set y6 0 _) 1 _) 2 _) 3 _) 4 _) ?_ rfl ⟨by rw [HX.out]; rfl, (by (repeat (first | with_reducible assumption | with_reducible exact Kp.refl _ | with_reducible refine Kp.drew ?_ | with_reducible refine Kp.drewN ?_ _ | with_reducible refine Kp.alloc ?_ _ | ((with_reducible refine Kp.setCell ?_ ?_ _); rotate_left; (focus (first | omega | (simp; done) | (simp; omega)))) | with_reducible refine Kp.trans ?_ (by assumption))))⟩; intro wz bz; have z0 := bz.cell 0 rfl; have z1 := bz.cell 1 rfl; have z2 := bz.cell 2 rfl; have z3 := bz.cell 3 rfl; have z4 := bz.cell 4 rfl; simp [results, Try.results36, go_sem, z0, z1, z2, z3, z4]
        · have j2 : decide (0 ≤ a5 + N) = false := decide_eq_false e2
          have HX := Lib.hid (HS2.out ⟨3, 0, a5, a5, a5 + N⟩ (by rw [if_neg e0, if_neg e1, if_neg e2]))
          clear HS2 HSO e0
          go_wp2
          refine ret_blk (vs := [.int .i64 3, .int .i64 0, .int .i64 a5, .int .i64 a5, .int .i64 (a5 + N)]) (Blk.set (Blk.set (Blk.set (Blk.set (Blk.set y6 0 _) 1 _) 2 _) 3 _) 4 _) ?_ rfl ⟨by rw [HX.out]; rfl, (by (repeat (first | with_reducible assumption | with_reducible exact Kp.refl _ | with_reducible refine Kp.drew ?_ | with_reducible refine Kp.drewN ?_ _ | with_reducible refine Kp.alloc ?_ _ | ((with_reducible refine Kp.setCell ?_ ?_ _); rotate_left; (focus (first | omega | (simp; done) | (simp; omega)))) | with_reducible refine Kp.trans ?_ (by assumption))))⟩; intro wz bz; have z0 := bz.cell 0 rfl; have z1 := bz.cell 1 rfl; have z2 := bz.cell 2 rfl; have z3 := bz.cell 3 rfl; have z4 := bz.cell 4 rfl; simp [results, Try.results36, go_sem, z0, z1, z2, z3, z4]
end Go.Proofs.Yteipfamaclildaa
