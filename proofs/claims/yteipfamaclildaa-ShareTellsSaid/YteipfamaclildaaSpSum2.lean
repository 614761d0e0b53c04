/- The law SpSums: the walk. -/
import Derived.Test.YteipfamaclildaaSpSums

import Derived.IntWalk

namespace Go.Proofs.Yteipfamaclildaa

open Go.ChangeShapes Go.WideShapes Go.ChangeAt Go.RowKit

set_option maxRecDepth 100000 in
set_option maxHeartbeats 1000000 in
theorem refSpSum_any (a : Option Addr) (len cap : Nat) (l : List Int) (w : World) (hl : SlOk w 1 enc1 a len cap l) (hok : ∀ x, x ∈ l → I64 x) :
    Calls Try.prog 26 #[.slice a len cap] w
      fun e w' => e = .returned (.agg #[.int .i64 ((runs 0 l).getD 0), .bool (runs 0 l).isSome]) ∧ Kp w w' := by
  have hm := hl.2.2.1
  have hc := hl.2.1
  unfold maxLen at hm
  have HO := Lib.hid hok; clear hok
  go_enter Try.func26, Try.ntmps26
  go_wp2
  go_loopw [4] (fun v4 wr => ∃ (k : Nat) (s : Int) (o : Bool), k ≤ len ∧ v4 = .int .i64 k ∧ Blk wr w.heap.size (met 0 false) 53 ∧ Blk wr (w.heap.size + 1) (met s o) 53 ∧ Kp w wr ∧ Hid (o = (runs 0 (l.take k)).isSome ∧ (runs 0 (l.take k)).getD 0 = s)) (fun v4 _ => len - (intOf v4).toNat)
  case atStart => exact ⟨0, 0, true, by omega, rfl, (by (repeat (first | with_reducible assumption | ((with_reducible refine Blk.newL ?_ ?_); (focus (first | (simp; done) | omega)); rfl) | with_reducible refine Blk.drew ?_ | with_reducible refine Blk.drewN ?_ _ | with_reducible refine Blk.alloc ?_ _ | ((with_reducible refine Blk.other ?_ ?_ _); rotate_left; (focus (first | with_reducible assumption | omega | (simp; done) | (simp; omega))))))), (by (repeat (first | with_reducible assumption | ((with_reducible refine Blk.newL ?_ ?_); (focus (first | (simp; done) | omega)); rfl) | with_reducible refine Blk.drew ?_ | with_reducible refine Blk.drewN ?_ _ | with_reducible refine Blk.alloc ?_ _ | ((with_reducible refine Blk.other ?_ ?_ _); rotate_left; (focus (first | with_reducible assumption | omega | (simp; done) | (simp; omega))))))), (by (repeat (first | with_reducible assumption | with_reducible exact Kp.refl _ | with_reducible refine Kp.drew ?_ | with_reducible refine Kp.drewN ?_ _ | with_reducible refine Kp.alloc ?_ _ | ((with_reducible refine Kp.setCell ?_ ?_ _); rotate_left; (focus (first | omega | (simp; done) | (simp; omega)))) | with_reducible refine Kp.trans ?_ (by assumption)))), rfl, rfl⟩
  case round =>
    obtain ⟨k, s, o, hk, rfl, xr, xs, xk, hs⟩ := hrel
    have xl := hl.kp xk
    have HL := Lib.hid xl.1
    have y0 := xs.cell 0 rfl; have y1 := xs.cell 1 rfl
    cases o with
    | false =>
      have hn : runs 0 l = none ∧ s = 0 := by
        obtain ⟨h1, h2⟩ := hs.out
        cases h : runs 0 (l.take k) with
        | none =>
          have h3 := runs_none _ (l.drop k) _ h
          rw [h] at h2
          exact ⟨by rwa [List.take_append_drop] at h3, h2.symm⟩
        | some _ => rw [h] at h1; cases h1
      have HE : Hid (Ending.returned (.agg #[.int .i64 s, .bool false]) = .returned (.agg #[.int .i64 ((runs 0 l).getD 0), .bool (runs 0 l).isSome])) := by
        rw [hn.1, hn.2]; rfl
      clear hn hs
      have f0 := xr.free 0; have f1 := xr.free 1
      have g0 := xr.cell 0 rfl; have g1 := xr.cell 1 rfl
      by_cases hlt : k < len
      all_goals
        go_wp2
        refine ret_blk (vs := [.int .i64 s, .bool false]) (Blk.set (Blk.set xr 0 _) 1 _) ?_ rfl ⟨HE.out, (by (repeat (first | with_reducible assumption | with_reducible exact Kp.refl _ | with_reducible refine Kp.drew ?_ | with_reducible refine Kp.drewN ?_ _ | with_reducible refine Kp.alloc ?_ _ | ((with_reducible refine Kp.setCell ?_ ?_ _); rotate_left; (focus (first | omega | (simp; done) | (simp; omega)))) | with_reducible refine Kp.trans ?_ (by assumption))))⟩; intro wz bz; have z0 := bz.cell 0 rfl; have z1 := bz.cell 1 rfl; simp [results, Try.results26, go_sem, z0, z1]
    | true =>
      have hsome : runs 0 (l.take k) = some s := by
        obtain ⟨h1, h2⟩ := hs.out
        cases h : runs 0 (l.take k) with
        | none => rw [h] at h1; cases h1
        | some y => rw [h] at h2; exact congrArg some h2
      have HM := Lib.hid hsome; clear hsome hs
      by_cases hlt : k < len
      · obtain ⟨x, hx⟩ : ∃ x, l[k]? = some x := ⟨l[k]'(by rw [xl.1]; exact hlt), List.getElem?_eq_getElem _⟩
        have HX := Lib.hid hx; clear hx
        rcases xl.2.2.2 with e | ⟨b, off, rfl, hb, hrow⟩
        · exact absurd (by rw [← xl.1, e]; rfl) (Nat.ne_of_gt (Nat.lt_of_le_of_lt (Nat.zero_le k) hlt))
        · have c0 : wr.cell? ⟨b, off + k, none⟩ = some (.int .i64 x) := by
            have h := hrow k _ HX.out 0 _ rfl
            rw [Nat.mul_one] at h; exact h
          have HT := Lib.hid (take_snocI HX.out)
          have HXI := Lib.hid (HO.out _ (List.mem_of_getElem? HX.out))
          have HSI := Lib.hid (runs_i64 _ _ _ ⟨by decide, by decide⟩ HM.out)
          have hnext := runs_append (l.take k) x 0
          rw [HM.out, ← HT.out] at hnext
          simp only [Option.bind_some] at hnext
          have HN := Lib.hid hnext; clear hnext hrow
          go_wp2
          go_region_with (first
            | (go_at_call 52; refine (refAdd_any _ _ _ HSI.out.1 HSI.out.2 HXI.out.1 HXI.out.2).mono ?_; rintro e w' ⟨rfl, hw⟩; have kk := (Kp.refl wr.drew).alloc (.cells #[.int .i64 (clip (s + x)), .bool (fits (s + x))] 53); rw [← hw] at kk; clear hw; have zs := Blk.kp (xs.drew) kk; have z0 := zs.cell 0 rfl; have z1 := zs.cell 1 rfl; have f0 := zs.free 0; have f1 := zs.free 1))
          all_goals
            have zr := Blk.kp (xr.drew) kk
            have zk := Kp.trans (xk.drew) kk
            clear c0
            go_wp2
            go_roundw
            case rel =>
              refine ⟨k + 1, clip (s + x), fits (s + x), by omega, by go_num, ?_, (zs.set 0 _).set 1 _, (by (repeat (first | with_reducible assumption | with_reducible exact Kp.refl _ | with_reducible refine Kp.drew ?_ | with_reducible refine Kp.drewN ?_ _ | with_reducible refine Kp.alloc ?_ _ | ((with_reducible refine Kp.setCell ?_ ?_ _); rotate_left; (focus (first | omega | (simp; done) | (simp; omega)))) | with_reducible refine Kp.trans ?_ (by assumption)))), ?_, ?_⟩
              · (repeat (first | with_reducible assumption | ((with_reducible refine Blk.newL ?_ ?_); (focus (first | (simp; done) | omega)); rfl) | with_reducible refine Blk.drew ?_ | with_reducible refine Blk.drewN ?_ _ | with_reducible refine Blk.alloc ?_ _ | ((with_reducible refine Blk.other ?_ ?_ _); rotate_left; (focus (first | with_reducible assumption | omega | (simp; done) | (simp; omega))))))
              · rw [HN.out]; cases fits (s + x) <;> rfl
              · rw [HN.out]; cases h : fits (s + x)
                · rw [clip_no h]; rfl
                · rw [clip_yes h]; rfl
            case measure => simp [intOf]; omega
      · obtain rfl : k = len := by omega
        have hlast := HM.out
        rw [List.take_of_length_le (Nat.le_of_eq HL.out)] at hlast
        have HE : Hid (Ending.returned (.agg #[.int .i64 s, .bool true]) = .returned (.agg #[.int .i64 ((runs 0 l).getD 0), .bool (runs 0 l).isSome])) := by rw [hlast]; rfl
        clear hlast xl
        have f0 := xr.free 0; have f1 := xr.free 1
        have g0 := xr.cell 0 rfl; have g1 := xr.cell 1 rfl
        go_wp2
        refine ret_blk (vs := [.int .i64 s, .bool true]) (Blk.set (Blk.set xr 0 _) 1 _) ?_ rfl ⟨HE.out, (by (repeat (first | with_reducible assumption | with_reducible exact Kp.refl _ | with_reducible refine Kp.drew ?_ | with_reducible refine Kp.drewN ?_ _ | with_reducible refine Kp.alloc ?_ _ | ((with_reducible refine Kp.setCell ?_ ?_ _); rotate_left; (focus (first | omega | (simp; done) | (simp; omega)))) | with_reducible refine Kp.trans ?_ (by assumption))))⟩; intro wz bz; have z0 := bz.cell 0 rfl; have z1 := bz.cell 1 rfl; simp [results, Try.results26, go_sem, z0, z1]

end Go.Proofs.Yteipfamaclildaa
