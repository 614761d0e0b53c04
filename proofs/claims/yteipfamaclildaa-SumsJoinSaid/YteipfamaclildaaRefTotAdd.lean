/- Package tympanref07: the walk of Add. -/
import Derived.Test.YteipfamaclildaaRefTot

namespace Go.Proofs.Yteipfamaclildaa

open Go.RowKit

theorem fitsAdd_no {a0 a1 a2 a3 a4 a5 b0 b1 b2 b3 b4 b5 : Int} {k : Nat} (hk : k < 6) (h : fits (nth [a0, a1, a2, a3, a4, a5] k + nth [b0, b1, b2, b3, b4, b5] k) = false) : Tot.fitsAdd ⟨a0, a1, a2, a3, a4, a5⟩ ⟨b0, b1, b2, b3, b4, b5⟩ = false := by
  have : k = 0 ∨ k = 1 ∨ k = 2 ∨ k = 3 ∨ k = 4 ∨ k = 5 := by omega
  rcases this with rfl | rfl | rfl | rfl | rfl | rfl <;> (simp only [nth, List.getD_cons_zero, List.getD_cons_succ] at h; simp [Tot.fitsAdd, h])
theorem fitsAdd_yes {a0 a1 a2 a3 a4 a5 b0 b1 b2 b3 b4 b5 : Int} (h : ∀ j, j < 6 → fits (nth [a0, a1, a2, a3, a4, a5] j + nth [b0, b1, b2, b3, b4, b5] j) = true) : Tot.fitsAdd ⟨a0, a1, a2, a3, a4, a5⟩ ⟨b0, b1, b2, b3, b4, b5⟩ = true := by
  have h0 := h 0 (by omega); have h1 := h 1 (by omega); have h2 := h 2 (by omega); have h3 := h 3 (by omega); have h4 := h 4 (by omega); have h5 := h 5 (by omega)
  simp only [nth, List.getD_cons_zero, List.getD_cons_succ] at h0 h1 h2 h3 h4 h5
  simp [Tot.fitsAdd, h0, h1, h2, h3, h4, h5]
theorem sumAdd_no {a b : Tot} (h : Tot.fitsAdd a b = false) : Ending.returned (.agg #[.int .i64 0, .int .i64 0, .int .i64 0, .int .i64 0, .int .i64 0, .int .i64 0, .bool false]) = .returned (.agg #[.int .i64 (Tot.sumAdd a b).nat, .int .i64 (Tot.sumAdd a b).s0, .int .i64 (Tot.sumAdd a b).s1, .int .i64 (Tot.sumAdd a b).s2, .int .i64 (Tot.sumAdd a b).s3, .int .i64 (Tot.sumAdd a b).shr, .bool (Tot.fitsAdd a b)]) := by
  unfold Tot.sumAdd; rw [h]; rfl
theorem sumAdd_yes {a b : Tot} (h : Tot.fitsAdd a b = true) : Ending.returned (.agg #[.int .i64 (Tot.rawAdd a b).nat, .int .i64 (Tot.rawAdd a b).s0, .int .i64 (Tot.rawAdd a b).s1, .int .i64 (Tot.rawAdd a b).s2, .int .i64 (Tot.rawAdd a b).s3, .int .i64 (Tot.rawAdd a b).shr, .bool true]) = .returned (.agg #[.int .i64 (Tot.sumAdd a b).nat, .int .i64 (Tot.sumAdd a b).s0, .int .i64 (Tot.sumAdd a b).s1, .int .i64 (Tot.sumAdd a b).s2, .int .i64 (Tot.sumAdd a b).s3, .int .i64 (Tot.sumAdd a b).shr, .bool (Tot.fitsAdd a b)]) := by
  unfold Tot.sumAdd; rw [h]; rfl

def at6Add (a b : List Int) (k : Nat) : Int := clip (nth a k + nth b k)

set_option maxHeartbeats 2000000 in
theorem refTotAdd_any (a0 a1 a2 a3 a4 a5 b0 b1 b2 b3 b4 b5 : Int) (w : World) (ha : (Tot.mk a0 a1 a2 a3 a4 a5).ok) (hb : (Tot.mk b0 b1 b2 b3 b4 b5).ok) :
    Calls Try.prog 23 #[.agg #[.int .i64 a0, .int .i64 a1, .int .i64 a2, .int .i64 a3, .int .i64 a4, .int .i64 a5], .agg #[.int .i64 b0, .int .i64 b1, .int .i64 b2, .int .i64 b3, .int .i64 b4, .int .i64 b5]] w
      fun e w' => e = .returned (.agg #[.int .i64 (Tot.sumAdd ⟨a0, a1, a2, a3, a4, a5⟩ ⟨b0, b1, b2, b3, b4, b5⟩).nat, .int .i64 (Tot.sumAdd ⟨a0, a1, a2, a3, a4, a5⟩ ⟨b0, b1, b2, b3, b4, b5⟩).s0, .int .i64 (Tot.sumAdd ⟨a0, a1, a2, a3, a4, a5⟩ ⟨b0, b1, b2, b3, b4, b5⟩).s1, .int .i64 (Tot.sumAdd ⟨a0, a1, a2, a3, a4, a5⟩ ⟨b0, b1, b2, b3, b4, b5⟩).s2, .int .i64 (Tot.sumAdd ⟨a0, a1, a2, a3, a4, a5⟩ ⟨b0, b1, b2, b3, b4, b5⟩).s3, .int .i64 (Tot.sumAdd ⟨a0, a1, a2, a3, a4, a5⟩ ⟨b0, b1, b2, b3, b4, b5⟩).shr, .bool (Tot.fitsAdd ⟨a0, a1, a2, a3, a4, a5⟩ ⟨b0, b1, b2, b3, b4, b5⟩)]) ∧ Kp w w' := by
  go_enter Try.func23, Try.ntmps23
  go_wp2
  go_cut [5, 6] (fun v5 v6 wc => Laid6 w [a0, a1, a2, a3, a4, a5] [b0, b1, b2, b3, b4, b5] v5 v6 wc)
  case first =>
    go_region_held3 (fun w' => w'.cell? ⟨w.heap.size, 0, none⟩ = some (.int .i64 a0) ∧ w'.cell? ⟨w.heap.size, 1, none⟩ = some (.int .i64 a1) ∧ w'.cell? ⟨w.heap.size, 2, none⟩ = some (.int .i64 a2) ∧ w'.cell? ⟨w.heap.size, 3, none⟩ = some (.int .i64 a3) ∧ w'.cell? ⟨w.heap.size, 4, none⟩ = some (.int .i64 a4) ∧ w'.cell? ⟨w.heap.size, 5, none⟩ = some (.int .i64 a5) ∧ w'.cell? ⟨w.heap.size + 1, 0, none⟩ = some (.int .i64 b0) ∧ w'.cell? ⟨w.heap.size + 1, 1, none⟩ = some (.int .i64 b1) ∧ w'.cell? ⟨w.heap.size + 1, 2, none⟩ = some (.int .i64 b2) ∧ w'.cell? ⟨w.heap.size + 1, 3, none⟩ = some (.int .i64 b3) ∧ w'.cell? ⟨w.heap.size + 1, 4, none⟩ = some (.int .i64 b4) ∧ w'.cell? ⟨w.heap.size + 1, 5, none⟩ = some (.int .i64 b5)) (go_simp) (first
      | (go_at_call 51; go_must (refine (nums_any _ _ _ _ _ _ _).mono ?_); rintro e w' ⟨rfl, rfl⟩))
    all_goals
      go_wp2
      go_meet
      case rel =>
        refine ⟨_, _, rfl, rfl, (by (repeat (first | with_reducible assumption | ((with_reducible refine Blk.newL ?_ ?_); (focus (first | (simp; done) | omega)); rfl) | with_reducible refine Blk.drew ?_ | with_reducible refine Blk.drewN ?_ _ | with_reducible refine Blk.alloc ?_ _ | ((with_reducible refine Blk.other ?_ ?_ _); rotate_left; (focus (first | with_reducible assumption | omega | (simp; done) | (simp; omega))))))), (by (repeat (first | with_reducible assumption | ((with_reducible refine Blk.newL ?_ ?_); (focus (first | (simp; done) | omega)); rfl) | with_reducible refine Blk.drew ?_ | with_reducible refine Blk.drewN ?_ _ | with_reducible refine Blk.alloc ?_ _ | ((with_reducible refine Blk.other ?_ ?_ _); rotate_left; (focus (first | with_reducible assumption | omega | (simp; done) | (simp; omega))))))), (by (repeat (first | with_reducible assumption | ((with_reducible refine Blk.newL ?_ ?_); (focus (first | (simp; done) | omega)); rfl) | with_reducible refine Blk.drew ?_ | with_reducible refine Blk.drewN ?_ _ | with_reducible refine Blk.alloc ?_ _ | ((with_reducible refine Blk.other ?_ ?_ _); rotate_left; (focus (first | with_reducible assumption | omega | (simp; done) | (simp; omega))))))), (by (repeat (first | with_reducible assumption | with_reducible exact Kp.refl _ | with_reducible refine Kp.drew ?_ | with_reducible refine Kp.drewN ?_ _ | with_reducible refine Kp.alloc ?_ _ | ((with_reducible refine Kp.setCell ?_ ?_ _); rotate_left; (focus (first | omega | (simp; done) | (simp; omega)))) | with_reducible refine Kp.trans ?_ (by assumption)))), by omega, by omega⟩
  case rest =>
    obtain ⟨p, q, rfl, rfl, hp, hq, hr, hk, hpr, hqr⟩ := hcut
    go_wp2
    go_loopw [8] (fun v8 wr => ∃ k : Nat, k ≤ 6 ∧ v8 = .int .i64 k ∧ Blk wr p (ints [a0, a1, a2, a3, a4, a5]) 87 ∧ Blk wr q (ints [b0, b1, b2, b3, b4, b5]) 87 ∧
        Blk wr (w.heap.size + 1 + 1) (ints [0, 0, 0, 0, 0, 0] ++ [.bool false]) 44 ∧ Blk wr wc.heap.size (ints (filled (at6Add [a0, a1, a2, a3, a4, a5] [b0, b1, b2, b3, b4, b5]) 6 k)) 87 ∧ Kp w wr ∧
        Hid (∀ j, j < k → fits (nth [a0, a1, a2, a3, a4, a5] j + nth [b0, b1, b2, b3, b4, b5] j) = true)) (fun v8 _ => 6 - (intOf v8).toNat)
    case atStart => exact ⟨0, by omega, rfl, (by (repeat (first | with_reducible assumption | ((with_reducible refine Blk.newL ?_ ?_); (focus (first | (simp; done) | omega)); rfl) | with_reducible refine Blk.drew ?_ | with_reducible refine Blk.drewN ?_ _ | with_reducible refine Blk.alloc ?_ _ | ((with_reducible refine Blk.other ?_ ?_ _); rotate_left; (focus (first | with_reducible assumption | omega | (simp; done) | (simp; omega))))))), (by (repeat (first | with_reducible assumption | ((with_reducible refine Blk.newL ?_ ?_); (focus (first | (simp; done) | omega)); rfl) | with_reducible refine Blk.drew ?_ | with_reducible refine Blk.drewN ?_ _ | with_reducible refine Blk.alloc ?_ _ | ((with_reducible refine Blk.other ?_ ?_ _); rotate_left; (focus (first | with_reducible assumption | omega | (simp; done) | (simp; omega))))))), (by (repeat (first | with_reducible assumption | ((with_reducible refine Blk.newL ?_ ?_); (focus (first | (simp; done) | omega)); rfl) | with_reducible refine Blk.drew ?_ | with_reducible refine Blk.drewN ?_ _ | with_reducible refine Blk.alloc ?_ _ | ((with_reducible refine Blk.other ?_ ?_ _); rotate_left; (focus (first | with_reducible assumption | omega | (simp; done) | (simp; omega))))))), (by (repeat (first | with_reducible assumption | ((with_reducible refine Blk.newL ?_ ?_); (focus (first | (simp; done) | omega)); rfl) | with_reducible refine Blk.drew ?_ | with_reducible refine Blk.drewN ?_ _ | with_reducible refine Blk.alloc ?_ _ | ((with_reducible refine Blk.other ?_ ?_ _); rotate_left; (focus (first | with_reducible assumption | omega | (simp; done) | (simp; omega))))))), (by (repeat (first | with_reducible assumption | with_reducible exact Kp.refl _ | with_reducible refine Kp.drew ?_ | with_reducible refine Kp.drewN ?_ _ | with_reducible refine Kp.alloc ?_ _ | ((with_reducible refine Kp.setCell ?_ ?_ _); rotate_left; (focus (first | omega | (simp; done) | (simp; omega)))) | with_reducible refine Kp.trans ?_ (by assumption)))), fun j hj => absurd hj (Nat.not_lt_zero j)⟩
    case round =>
      have n1 := hp.lt; have n2 := hq.lt; have n3 := hr.lt
      clear hp hq hr
      obtain ⟨k, hk6, rfl, xp, xq, xr, xo, xk, xf⟩ := hrel
      have e0 := hk.size
      have e1 := xo.lt
      have e2 : w.heap.size + 1 + 1 ≠ wr.heap.size := Nat.ne_of_lt xr.lt
      have e3 : wc.heap.size ≠ wr.heap.size := Nat.ne_of_lt xo.lt
      have e4 : p ≠ wr.heap.size := Nat.ne_of_lt xp.lt
      have e5 : q ≠ wr.heap.size := Nat.ne_of_lt xq.lt
      by_cases hlt : k < 6
      · have c1 := xp.int k hlt
        have c2 := xq.int k hlt
        obtain ⟨d1, d2⟩ := i64_nth ha hlt
        obtain ⟨d3, d4⟩ := i64_nth hb hlt
        go_wp2
        go_cut [9] (fun v9 wx => ∃ s, v9 = .pointer (some ⟨s, 0, none⟩) ∧ Blk wx s [.int .i64 (clip (nth [a0, a1, a2, a3, a4, a5] k + nth [b0, b1, b2, b3, b4, b5] k)), .bool (fits (nth [a0, a1, a2, a3, a4, a5] k + nth [b0, b1, b2, b3, b4, b5] k))] 53 ∧ Blk wx p (ints [a0, a1, a2, a3, a4, a5]) 87 ∧ Blk wx q (ints [b0, b1, b2, b3, b4, b5]) 87 ∧
          Blk wx (w.heap.size + 1 + 1) (ints [0, 0, 0, 0, 0, 0] ++ [.bool false]) 44 ∧ Blk wx wc.heap.size (ints (filled (at6Add [a0, a1, a2, a3, a4, a5] [b0, b1, b2, b3, b4, b5]) 6 k)) 87 ∧ Kp w wx)
        case first =>
          go_region_held3 (fun w' => w'.cell? ⟨p, k, none⟩ = some (.int .i64 (nth [a0, a1, a2, a3, a4, a5] k)) ∧ w'.cell? ⟨q, k, none⟩ = some (.int .i64 (nth [b0, b1, b2, b3, b4, b5] k))) (first | (go_simp; done) | (go_keep; done)) (first
            | (go_at_call 52; go_must (refine (refAdd_any _ _ _ (by omega) (by omega) (by omega) (by omega)).mono ?_); rintro e w' ⟨rfl, rfl⟩))
          all_goals
            go_wp2
            go_meet
            case rel => exact ⟨_, rfl, (by (repeat (first | with_reducible assumption | ((with_reducible refine Blk.newL ?_ ?_); (focus (first | (simp; done) | omega)); rfl) | with_reducible refine Blk.drew ?_ | with_reducible refine Blk.drewN ?_ _ | with_reducible refine Blk.alloc ?_ _ | ((with_reducible refine Blk.other ?_ ?_ _); rotate_left; (focus (first | with_reducible assumption | omega | (simp; done) | (simp; omega))))))), (by (repeat (first | with_reducible assumption | ((with_reducible refine Blk.newL ?_ ?_); (focus (first | (simp; done) | omega)); rfl) | with_reducible refine Blk.drew ?_ | with_reducible refine Blk.drewN ?_ _ | with_reducible refine Blk.alloc ?_ _ | ((with_reducible refine Blk.other ?_ ?_ _); rotate_left; (focus (first | with_reducible assumption | omega | (simp; done) | (simp; omega))))))), (by (repeat (first | with_reducible assumption | ((with_reducible refine Blk.newL ?_ ?_); (focus (first | (simp; done) | omega)); rfl) | with_reducible refine Blk.drew ?_ | with_reducible refine Blk.drewN ?_ _ | with_reducible refine Blk.alloc ?_ _ | ((with_reducible refine Blk.other ?_ ?_ _); rotate_left; (focus (first | with_reducible assumption | omega | (simp; done) | (simp; omega))))))), (by (repeat (first | with_reducible assumption | ((with_reducible refine Blk.newL ?_ ?_); (focus (first | (simp; done) | omega)); rfl) | with_reducible refine Blk.drew ?_ | with_reducible refine Blk.drewN ?_ _ | with_reducible refine Blk.alloc ?_ _ | ((with_reducible refine Blk.other ?_ ?_ _); rotate_left; (focus (first | with_reducible assumption | omega | (simp; done) | (simp; omega))))))), (by (repeat (first | with_reducible assumption | ((with_reducible refine Blk.newL ?_ ?_); (focus (first | (simp; done) | omega)); rfl) | with_reducible refine Blk.drew ?_ | with_reducible refine Blk.drewN ?_ _ | with_reducible refine Blk.alloc ?_ _ | ((with_reducible refine Blk.other ?_ ?_ _); rotate_left; (focus (first | with_reducible assumption | omega | (simp; done) | (simp; omega))))))), (by (repeat (first | with_reducible assumption | with_reducible exact Kp.refl _ | with_reducible refine Kp.drew ?_ | with_reducible refine Kp.drewN ?_ _ | with_reducible refine Kp.alloc ?_ _ | ((with_reducible refine Kp.setCell ?_ ?_ _); rotate_left; (focus (first | omega | (simp; done) | (simp; omega)))) | with_reducible refine Kp.trans ?_ (by assumption))))⟩
        case rest =>
          clear c1 c2 xp xq xr xo
          obtain ⟨s, rfl, ys, yp, yq, yr, yo, yk⟩ := hcut
          have c1 := ys.cell 0 rfl
          have c2 := ys.cell 1 rfl
          cases hf : fits (nth [a0, a1, a2, a3, a4, a5] k + nth [b0, b1, b2, b3, b4, b5] k) with
          | false =>
            rw [hf] at c2
            have hend := sumAdd_no (fitsAdd_no hlt hf)
            have HE := Lib.hid hend; clear hend
            clear hf
            have f0 := yr.free 0; have f1 := yr.free 1; have f2 := yr.free 2; have f3 := yr.free 3; have f4 := yr.free 4; have f5 := yr.free 5; have f6 := yr.free 6
            have g0 := yr.cell 0 rfl; have g1 := yr.cell 1 rfl; have g2 := yr.cell 2 rfl; have g3 := yr.cell 3 rfl; have g4 := yr.cell 4 rfl; have g5 := yr.cell 5 rfl; have g6 := yr.cell 6 rfl
            go_wp2
            refine ret_blk (vs := [.int .i64 0, .int .i64 0, .int .i64 0, .int .i64 0, .int .i64 0, .int .i64 0, .bool false]) (Blk.set (Blk.set (Blk.set (Blk.set (Blk.set (Blk.set (Blk.set yr 0 _) 1 _) 2 _) 3 _) 4 _) 5 _) 6 _) ?_ rfl ⟨HE.out, (by (repeat (first | with_reducible assumption | with_reducible exact Kp.refl _ | with_reducible refine Kp.drew ?_ | with_reducible refine Kp.drewN ?_ _ | with_reducible refine Kp.alloc ?_ _ | ((with_reducible refine Kp.setCell ?_ ?_ _); rotate_left; (focus (first | omega | (simp; done) | (simp; omega)))) | with_reducible refine Kp.trans ?_ (by assumption))))⟩; intro wz bz; have z0 := bz.cell 0 rfl; have z1 := bz.cell 1 rfl; have z2 := bz.cell 2 rfl; have z3 := bz.cell 3 rfl; have z4 := bz.cell 4 rfl; have z5 := bz.cell 5 rfl; have z6 := bz.cell 6 rfl; simp [results, Try.results23, go_sem, z0, z1, z2, z3, z4, z5, z6]
          | true =>
            rw [hf] at c2
            have c3 := yo.free k
            have c4 := yo.int k (by rw [filled_length]; exact hlt)
            have HF := Lib.hid hf; clear hf
            go_wp2
            go_roundw
            case rel =>
              refine ⟨k + 1, by omega, by go_num, (by (repeat (first | with_reducible assumption | ((with_reducible refine Blk.newL ?_ ?_); (focus (first | (simp; done) | omega)); rfl) | with_reducible refine Blk.drew ?_ | with_reducible refine Blk.drewN ?_ _ | with_reducible refine Blk.alloc ?_ _ | ((with_reducible refine Blk.other ?_ ?_ _); rotate_left; (focus (first | with_reducible assumption | omega | (simp; done) | (simp; omega))))))), (by (repeat (first | with_reducible assumption | ((with_reducible refine Blk.newL ?_ ?_); (focus (first | (simp; done) | omega)); rfl) | with_reducible refine Blk.drew ?_ | with_reducible refine Blk.drewN ?_ _ | with_reducible refine Blk.alloc ?_ _ | ((with_reducible refine Blk.other ?_ ?_ _); rotate_left; (focus (first | with_reducible assumption | omega | (simp; done) | (simp; omega))))))), (by (repeat (first | with_reducible assumption | ((with_reducible refine Blk.newL ?_ ?_); (focus (first | (simp; done) | omega)); rfl) | with_reducible refine Blk.drew ?_ | with_reducible refine Blk.drewN ?_ _ | with_reducible refine Blk.alloc ?_ _ | ((with_reducible refine Blk.other ?_ ?_ _); rotate_left; (focus (first | with_reducible assumption | omega | (simp; done) | (simp; omega))))))), ?_, (by (repeat (first | with_reducible assumption | with_reducible exact Kp.refl _ | with_reducible refine Kp.drew ?_ | with_reducible refine Kp.drewN ?_ _ | with_reducible refine Kp.alloc ?_ _ | ((with_reducible refine Kp.setCell ?_ ?_ _); rotate_left; (focus (first | omega | (simp; done) | (simp; omega)))) | with_reducible refine Kp.trans ?_ (by assumption)))), ?_⟩
              · rw [← filled_succ _ hlt, ← ints_set]; exact yo.set k _
              · intro j hj
                by_cases e : j = k
                · subst e; exact HF.out
                · exact xf.out j (by omega)
            case measure => simp [intOf]; omega
      · obtain rfl : k = 6 := by omega
        have hend := sumAdd_yes (fitsAdd_yes xf.out)
        have HE := Lib.hid hend; clear hend
        have o0 := xo.cell 0 rfl; have o1 := xo.cell 1 rfl; have o2 := xo.cell 2 rfl; have o3 := xo.cell 3 rfl; have o4 := xo.cell 4 rfl; have o5 := xo.cell 5 rfl
        go_wp2_with fail
        refine (of6_any _ _ _ _ _ _ _).mono ?_
        rintro e w1 ⟨rfl, hkk⟩
        have yr := xr.kp hkk
        clear o0 o1 o2 o3 o4 o5
        have f0 := yr.free 0; have f1 := yr.free 1; have f2 := yr.free 2; have f3 := yr.free 3; have f4 := yr.free 4; have f5 := yr.free 5; have f6 := yr.free 6
        have g0 := yr.cell 0 rfl; have g1 := yr.cell 1 rfl; have g2 := yr.cell 2 rfl; have g3 := yr.cell 3 rfl; have g4 := yr.cell 4 rfl; have g5 := yr.cell 5 rfl; have g6 := yr.cell 6 rfl
        go_wp2
        refine ret_blk (vs := [.int .i64 (at6Add [a0, a1, a2, a3, a4, a5] [b0, b1, b2, b3, b4, b5] 0), .int .i64 (at6Add [a0, a1, a2, a3, a4, a5] [b0, b1, b2, b3, b4, b5] 1), .int .i64 (at6Add [a0, a1, a2, a3, a4, a5] [b0, b1, b2, b3, b4, b5] 2), .int .i64 (at6Add [a0, a1, a2, a3, a4, a5] [b0, b1, b2, b3, b4, b5] 3), .int .i64 (at6Add [a0, a1, a2, a3, a4, a5] [b0, b1, b2, b3, b4, b5] 4), .int .i64 (at6Add [a0, a1, a2, a3, a4, a5] [b0, b1, b2, b3, b4, b5] 5), .bool true]) (Blk.set (Blk.set (Blk.set (Blk.set (Blk.set (Blk.set (Blk.set yr 0 _) 1 _) 2 _) 3 _) 4 _) 5 _) 6 _) ?_ rfl ⟨HE.out, (by (repeat (first | with_reducible assumption | with_reducible exact Kp.refl _ | with_reducible refine Kp.drew ?_ | with_reducible refine Kp.drewN ?_ _ | with_reducible refine Kp.alloc ?_ _ | ((with_reducible refine Kp.setCell ?_ ?_ _); rotate_left; (focus (first | omega | (simp; done) | (simp; omega)))) | with_reducible refine Kp.trans ?_ (by assumption))))⟩; intro wz bz; have z0 := bz.cell 0 rfl; have z1 := bz.cell 1 rfl; have z2 := bz.cell 2 rfl; have z3 := bz.cell 3 rfl; have z4 := bz.cell 4 rfl; have z5 := bz.cell 5 rfl; have z6 := bz.cell 6 rfl; simp [results, Try.results23, go_sem, z0, z1, z2, z3, z4, z5, z6]
end Go.Proofs.Yteipfamaclildaa
