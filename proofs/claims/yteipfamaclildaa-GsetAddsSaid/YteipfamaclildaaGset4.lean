/- How bad a setting is: the walks. -/
import Derived.Test.YteipfamaclildaaGset3

import Derived.Test.YteipfamaclildaaBad

namespace Go.Proofs.Yteipfamaclildaa

open Go.RowKit

def moreS (spare : Int) : Int := if spare < 0 then 0 else if 1125899906842624 < spare then 1125899906842624 else spare
/-- How bad a setting is. -/
def setBad (s : Sett) (spare : Int) (last : Bool) : Int :=
  if s.how = 0 then (if s.left = 0 ∨ last = true then 0 else badOf s.left (moreS spare))
  else if s.how = 1 then (if 0 < s.ord then 0 else badOf s.amt (s.full + moreS spare))
  else if s.how = 2 then badOf s.amt s.full else 10000
theorem more_cases (spare : Int) : (spare < 0 ∧ moreS spare = 0) ∨ (0 ≤ spare ∧ 1125899906842624 < spare ∧ moreS spare = 1125899906842624) ∨ (0 ≤ spare ∧ spare ≤ 1125899906842624 ∧ moreS spare = spare) := by
  unfold moreS
  by_cases h : spare < 0
  · exact .inl ⟨h, if_pos h⟩
  · by_cases h2 : 1125899906842624 < spare
    · exact .inr (.inl ⟨by omega, h2, by rw [if_neg h, if_pos h2]⟩)
    · exact .inr (.inr ⟨by omega, by omega, by rw [if_neg h, if_neg h2]⟩)

set_option maxRecDepth 100000 in
set_option maxHeartbeats 4000000 in
theorem gsetBad_any (s0 s1 s2 s3 s4 spare : Int) (last : Bool) (w : World) (h2 : I64 s2) (h3 : I64 s3) (h4 : I64 s4) (h60 : s3 ≤ 1152921504606846976) :
    Calls Try.prog 39 #[.agg #[.int .i64 s0, .int .i64 s1, .int .i64 s2, .int .i64 s3, .int .i64 s4], .int .i64 spare, .bool last] w fun e w' => e = .returned (.int .i64 (setBad ⟨s0, s1, s2, s3, s4⟩ spare last)) ∧ Kp w w' := by
  obtain ⟨h20, h21⟩ := h2
  obtain ⟨h30, h31⟩ := h3
  obtain ⟨h40, h41⟩ := h4
  rcases more_cases spare with ⟨p1, hm⟩ | ⟨p0, p1, hm⟩ | ⟨p0, p1, hm⟩
  all_goals
    have HM := Lib.hid hm
    clear hm
    by_cases e0 : s0 = 0
    · subst e0
      by_cases e1 : s4 = 0
      · have HX : Hid (setBad ⟨0, s1, s2, s3, s4⟩ spare last = 0) := Lib.hid (by unfold setBad; rw [if_pos rfl, if_pos (.inl e1)])
        subst e1
        go_enter Try.func39, Try.ntmps39
        go_wp2
        go_ret
        exact ⟨ret_int HX.out.symm, (by (repeat (first | with_reducible assumption | with_reducible exact Kp.refl _ | with_reducible refine Kp.drew ?_ | with_reducible refine Kp.drewN ?_ _ | with_reducible refine Kp.alloc ?_ _ | ((with_reducible refine Kp.setCell ?_ ?_ _); rotate_left; (focus (first | omega | (simp; done) | (simp; omega)))) | with_reducible refine Kp.trans ?_ (by assumption))))⟩
      · have j1 : (s4 == 0) = false := beq_eq_false_iff_ne.2 e1
        cases last with
        | true =>
          have HX : Hid (setBad ⟨0, s1, s2, s3, s4⟩ spare true = 0) := Lib.hid (by unfold setBad; rw [if_pos rfl, if_pos (.inr rfl)])
          clear e1
          go_enter Try.func39, Try.ntmps39
          go_wp2
          go_ret
          exact ⟨ret_int HX.out.symm, (by (repeat (first | with_reducible assumption | with_reducible exact Kp.refl _ | with_reducible refine Kp.drew ?_ | with_reducible refine Kp.drewN ?_ _ | with_reducible refine Kp.alloc ?_ _ | ((with_reducible refine Kp.setCell ?_ ?_ _); rotate_left; (focus (first | omega | (simp; done) | (simp; omega)))) | with_reducible refine Kp.trans ?_ (by assumption))))⟩
        | false =>
          have HX : Hid (setBad ⟨0, s1, s2, s3, s4⟩ spare false = badOf s4 (moreS spare)) := Lib.hid (by unfold setBad; rw [if_pos rfl, if_neg (by simp; exact e1)])
          clear e1
          go_enter Try.func39, Try.ntmps39
          go_wp2_with (go_at_call 64; go_must (refine (of_any _ _ _ (by omega) (by omega) (by omega) (by omega)).mono ?_); rintro e w' ⟨rfl, kk⟩)
          go_ret
          exact ⟨ret_int (by rw [HX.out, HM.out]), (by (repeat (first | with_reducible assumption | with_reducible exact Kp.refl _ | with_reducible refine Kp.drew ?_ | with_reducible refine Kp.drewN ?_ _ | with_reducible refine Kp.alloc ?_ _ | ((with_reducible refine Kp.setCell ?_ ?_ _); rotate_left; (focus (first | omega | (simp; done) | (simp; omega)))) | with_reducible refine Kp.trans ?_ (by assumption))))⟩
    · have j0 : (s0 == 0) = false := beq_eq_false_iff_ne.2 e0
      by_cases e1 : s0 = 1
      · subst e1
        by_cases e2 : 0 < s1
        · have HX : Hid (setBad ⟨1, s1, s2, s3, s4⟩ spare last = 0) := Lib.hid (by unfold setBad; rw [if_neg e0, if_pos rfl, if_pos e2])
          clear j0 e0
          go_enter Try.func39, Try.ntmps39
          go_wp2
          go_ret
          exact ⟨ret_int HX.out.symm, (by (repeat (first | with_reducible assumption | with_reducible exact Kp.refl _ | with_reducible refine Kp.drew ?_ | with_reducible refine Kp.drewN ?_ _ | with_reducible refine Kp.alloc ?_ _ | ((with_reducible refine Kp.setCell ?_ ?_ _); rotate_left; (focus (first | omega | (simp; done) | (simp; omega)))) | with_reducible refine Kp.trans ?_ (by assumption))))⟩
        · have j2 : decide (0 < s1) = false := decide_eq_false e2
          have HX : Hid (setBad ⟨1, s1, s2, s3, s4⟩ spare last = badOf s2 (s3 + moreS spare)) := Lib.hid (by unfold setBad; rw [if_neg e0, if_pos rfl, if_neg e2])
          clear j0 e0 e2
          go_enter Try.func39, Try.ntmps39
          go_wp2_with (go_at_call 64; go_must (refine (of_any _ _ _ (by omega) (by omega) (by omega) (by omega)).mono ?_); rintro e w' ⟨rfl, kk⟩)
          go_ret
          exact ⟨ret_int (by rw [HX.out, HM.out]; try simp), (by (repeat (first | with_reducible assumption | with_reducible exact Kp.refl _ | with_reducible refine Kp.drew ?_ | with_reducible refine Kp.drewN ?_ _ | with_reducible refine Kp.alloc ?_ _ | ((with_reducible refine Kp.setCell ?_ ?_ _); rotate_left; (focus (first | omega | (simp; done) | (simp; omega)))) | with_reducible refine Kp.trans ?_ (by assumption))))⟩
      · have j1 : (s0 == 1) = false := beq_eq_false_iff_ne.2 e1
        by_cases e2 : s0 = 2
        · subst e2
          have HX : Hid (setBad ⟨2, s1, s2, s3, s4⟩ spare last = badOf s2 s3) := Lib.hid (by unfold setBad; rw [if_neg e0, if_neg e1, if_pos rfl])
          clear j0 j1 e0 e1
          go_enter Try.func39, Try.ntmps39
          go_wp2_with (go_at_call 64; go_must (refine (of_any _ _ _ (by omega) (by omega) (by omega) (by omega)).mono ?_); rintro e w' ⟨rfl, kk⟩)
          go_ret
          exact ⟨ret_int HX.out.symm, (by (repeat (first | with_reducible assumption | with_reducible exact Kp.refl _ | with_reducible refine Kp.drew ?_ | with_reducible refine Kp.drewN ?_ _ | with_reducible refine Kp.alloc ?_ _ | ((with_reducible refine Kp.setCell ?_ ?_ _); rotate_left; (focus (first | omega | (simp; done) | (simp; omega)))) | with_reducible refine Kp.trans ?_ (by assumption))))⟩
        · have j2 : (s0 == 2) = false := beq_eq_false_iff_ne.2 e2
          have HX : Hid (setBad ⟨s0, s1, s2, s3, s4⟩ spare last = 10000) := Lib.hid (by unfold setBad; rw [if_neg e0, if_neg e1, if_neg e2])
          clear e0 e1 e2
          go_enter Try.func39, Try.ntmps39
          go_wp2
          go_ret
          exact ⟨ret_int HX.out.symm, (by (repeat (first | with_reducible assumption | with_reducible exact Kp.refl _ | with_reducible refine Kp.drew ?_ | with_reducible refine Kp.drewN ?_ _ | with_reducible refine Kp.alloc ?_ _ | ((with_reducible refine Kp.setCell ?_ ?_ _); rotate_left; (focus (first | omega | (simp; done) | (simp; omega)))) | with_reducible refine Kp.trans ?_ (by assumption))))⟩
set_option maxRecDepth 100000 in
set_option maxHeartbeats 4000000 in
theorem refSetBad_any (s0 s1 s2 s3 s4 spare : Int) (last : Bool) (w : World) (h2 : I64 s2) (h3 : I64 s3) (h4 : I64 s4) (h60 : s3 ≤ 1152921504606846976) :
    Calls Try.prog 40 #[.agg #[.int .i64 s0, .int .i64 s1, .int .i64 s2, .int .i64 s3, .int .i64 s4], .int .i64 spare, .bool last] w fun e w' => e = .returned (.int .i64 (setBad ⟨s0, s1, s2, s3, s4⟩ spare last)) ∧ Kp w w' := by
  obtain ⟨h20, h21⟩ := h2
  obtain ⟨h30, h31⟩ := h3
  obtain ⟨h40, h41⟩ := h4
  rcases more_cases spare with ⟨p1, hm⟩ | ⟨p0, p1, hm⟩ | ⟨p0, p1, hm⟩
  all_goals
    have HM := Lib.hid hm
    clear hm
    by_cases e0 : s0 = 0
    · subst e0
      by_cases e1 : s4 = 0
      · have HX : Hid (setBad ⟨0, s1, s2, s3, s4⟩ spare last = 0) := Lib.hid (by unfold setBad; rw [if_pos rfl, if_pos (.inl e1)])
        subst e1
        go_enter Try.func40, Try.ntmps40
        go_wp2
        all_goals
          go_ret
          exact ⟨ret_int HX.out.symm, (by (repeat (first | with_reducible assumption | with_reducible exact Kp.refl _ | with_reducible refine Kp.drew ?_ | with_reducible refine Kp.drewN ?_ _ | with_reducible refine Kp.alloc ?_ _ | ((with_reducible refine Kp.setCell ?_ ?_ _); rotate_left; (focus (first | omega | (simp; done) | (simp; omega)))) | with_reducible refine Kp.trans ?_ (by assumption))))⟩
      · have j1 : (s4 == 0) = false := beq_eq_false_iff_ne.2 e1
        cases last with
        | true =>
          have HX : Hid (setBad ⟨0, s1, s2, s3, s4⟩ spare true = 0) := Lib.hid (by unfold setBad; rw [if_pos rfl, if_pos (.inr rfl)])
          clear e1
          go_enter Try.func40, Try.ntmps40
          go_wp2
          all_goals
            go_ret
            exact ⟨ret_int HX.out.symm, (by (repeat (first | with_reducible assumption | with_reducible exact Kp.refl _ | with_reducible refine Kp.drew ?_ | with_reducible refine Kp.drewN ?_ _ | with_reducible refine Kp.alloc ?_ _ | ((with_reducible refine Kp.setCell ?_ ?_ _); rotate_left; (focus (first | omega | (simp; done) | (simp; omega)))) | with_reducible refine Kp.trans ?_ (by assumption))))⟩
        | false =>
          have HX : Hid (setBad ⟨0, s1, s2, s3, s4⟩ spare false = badOf s4 (moreS spare)) := Lib.hid (by unfold setBad; rw [if_pos rfl, if_neg (by simp; exact e1)])
          clear e1
          go_enter Try.func40, Try.ntmps40
          go_wp2_with (go_at_call 65; go_must (refine (refof_any _ _ _ (by omega) (by omega) (by omega) (by omega)).mono ?_); rintro e w' ⟨rfl, rfl⟩)
          all_goals
            go_ret
            exact ⟨ret_int (by rw [HX.out, HM.out]; try first | rfl | (congr 1; omega) | simp), (by (repeat (first | with_reducible assumption | with_reducible exact Kp.refl _ | with_reducible refine Kp.drew ?_ | with_reducible refine Kp.drewN ?_ _ | with_reducible refine Kp.alloc ?_ _ | ((with_reducible refine Kp.setCell ?_ ?_ _); rotate_left; (focus (first | omega | (simp; done) | (simp; omega)))) | with_reducible refine Kp.trans ?_ (by assumption))))⟩
    · have j0 : (s0 == 0) = false := beq_eq_false_iff_ne.2 e0
      by_cases e1 : s0 = 1
      · subst e1
        by_cases e2 : 0 < s1
        · have HX : Hid (setBad ⟨1, s1, s2, s3, s4⟩ spare last = 0) := Lib.hid (by unfold setBad; rw [if_neg e0, if_pos rfl, if_pos e2])
          clear j0 e0
          go_enter Try.func40, Try.ntmps40
          go_wp2
          all_goals
            go_ret
            exact ⟨ret_int HX.out.symm, (by (repeat (first | with_reducible assumption | with_reducible exact Kp.refl _ | with_reducible refine Kp.drew ?_ | with_reducible refine Kp.drewN ?_ _ | with_reducible refine Kp.alloc ?_ _ | ((with_reducible refine Kp.setCell ?_ ?_ _); rotate_left; (focus (first | omega | (simp; done) | (simp; omega)))) | with_reducible refine Kp.trans ?_ (by assumption))))⟩
        · have j2 : decide (0 < s1) = false := decide_eq_false e2
          have HX : Hid (setBad ⟨1, s1, s2, s3, s4⟩ spare last = badOf s2 (s3 + moreS spare)) := Lib.hid (by unfold setBad; rw [if_neg e0, if_pos rfl, if_neg e2])
          clear j0 e0 e2
          go_enter Try.func40, Try.ntmps40
          go_wp2_with (go_at_call 65; go_must (refine (refof_any _ _ _ (by omega) (by omega) (by omega) (by omega)).mono ?_); rintro e w' ⟨rfl, rfl⟩)
          all_goals
            go_ret
            exact ⟨ret_int (by rw [HX.out, HM.out]; try first | rfl | (congr 1; omega) | simp), (by (repeat (first | with_reducible assumption | with_reducible exact Kp.refl _ | with_reducible refine Kp.drew ?_ | with_reducible refine Kp.drewN ?_ _ | with_reducible refine Kp.alloc ?_ _ | ((with_reducible refine Kp.setCell ?_ ?_ _); rotate_left; (focus (first | omega | (simp; done) | (simp; omega)))) | with_reducible refine Kp.trans ?_ (by assumption))))⟩
      · have j1 : (s0 == 1) = false := beq_eq_false_iff_ne.2 e1
        by_cases e2 : s0 = 2
        · subst e2
          have HX : Hid (setBad ⟨2, s1, s2, s3, s4⟩ spare last = badOf s2 s3) := Lib.hid (by unfold setBad; rw [if_neg e0, if_neg e1, if_pos rfl])
          clear j0 j1 e0 e1
          go_enter Try.func40, Try.ntmps40
          go_wp2_with (go_at_call 65; go_must (refine (refof_any _ _ _ (by omega) (by omega) (by omega) (by omega)).mono ?_); rintro e w' ⟨rfl, rfl⟩)
          all_goals
            go_ret
            exact ⟨ret_int HX.out.symm, (by (repeat (first | with_reducible assumption | with_reducible exact Kp.refl _ | with_reducible refine Kp.drew ?_ | with_reducible refine Kp.drewN ?_ _ | with_reducible refine Kp.alloc ?_ _ | ((with_reducible refine Kp.setCell ?_ ?_ _); rotate_left; (focus (first | omega | (simp; done) | (simp; omega)))) | with_reducible refine Kp.trans ?_ (by assumption))))⟩
        · have j2 : (s0 == 2) = false := beq_eq_false_iff_ne.2 e2
          have HX : Hid (setBad ⟨s0, s1, s2, s3, s4⟩ spare last = 10000) := Lib.hid (by unfold setBad; rw [if_neg e0, if_neg e1, if_neg e2])
          clear e0 e1 e2
          go_enter Try.func40, Try.ntmps40
          go_wp2
          all_goals
            go_ret
            exact ⟨ret_int HX.out.symm, (by (repeat (first | with_reducible assumption | with_reducible exact Kp.refl _ | with_reducible refine Kp.drew ?_ | with_reducible refine Kp.drewN ?_ _ | with_reducible refine Kp.alloc ?_ _ | ((with_reducible refine Kp.setCell ?_ ?_ _); rotate_left; (focus (first | omega | (simp; done) | (simp; omega)))) | with_reducible refine Kp.trans ?_ (by assumption))))⟩
end Go.Proofs.Yteipfamaclildaa
