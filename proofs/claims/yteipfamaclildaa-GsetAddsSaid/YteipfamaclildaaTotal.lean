/- Package total: the walks. -/
import Derived.Test.YteipfamaclildaaSp

import Derived.Test.YteipfamaclildaaTypesA

import Derived.Deep.RegionHeld3

import Derived.Deep.QuietTactic

import Derived.BigQuiet

import Derived.Deep.DeepCutAuto

namespace Go.Proofs.Yteipfamaclildaa

open Go.RowKit

def Tot.zero : Tot := ⟨0, 0, 0, 0, 0, 0⟩
def Tot.fitsAdd (a b : Tot) : Bool := fits (a.nat + b.nat) && fits (a.shr + b.shr) && fits (a.s0 + b.s0) && fits (a.s1 + b.s1) && fits (a.s2 + b.s2) && fits (a.s3 + b.s3)
def Tot.rawAdd (a b : Tot) : Tot := ⟨clip (a.nat + b.nat), clip (a.s0 + b.s0), clip (a.s1 + b.s1), clip (a.s2 + b.s2), clip (a.s3 + b.s3), clip (a.shr + b.shr)⟩
def Tot.sumAdd (a b : Tot) : Tot := if a.fitsAdd b = true then a.rawAdd b else Tot.zero
def Tot.fitsSub (a b : Tot) : Bool := fits (a.nat - b.nat) && fits (a.shr - b.shr) && fits (a.s0 - b.s0) && fits (a.s1 - b.s1) && fits (a.s2 - b.s2) && fits (a.s3 - b.s3)
def Tot.rawSub (a b : Tot) : Tot := ⟨clip (a.nat - b.nat), clip (a.s0 - b.s0), clip (a.s1 - b.s1), clip (a.s2 - b.s2), clip (a.s3 - b.s3), clip (a.shr - b.shr)⟩
def Tot.sumSub (a b : Tot) : Tot := if a.fitsSub b = true then a.rawSub b else Tot.zero

theorem six_no {p q r s t u : Bool} (h : (((((!p) = true ∨ (!q) = true) ∨ (!r) = true) ∨ (!s) = true) ∨ (!t) = true) ∨ (!u) = true) : (p && q && r && s && t && u) = false := by
  revert h; cases p <;> cases q <;> cases r <;> cases s <;> cases t <;> cases u <;> simp
theorem six_yes {p q r s t u : Bool} (h : (((((!p) = false ∧ (!q) = false) ∧ (!r) = false) ∧ (!s) = false) ∧ (!t) = false) ∧ (!u) = false) : (p && q && r && s && t && u) = true := by
  revert h; cases p <;> cases q <;> cases r <;> cases s <;> cases t <;> cases u <;> simp
theorem totAdd_no {a b : Tot} (h : Tot.fitsAdd a b = false) : Ending.returned (.tuple #[.agg #[.int .i64 0, .int .i64 0, .int .i64 0, .int .i64 0, .int .i64 0, .int .i64 0], .bool false]) = .returned (.tuple #[(Tot.sumAdd a b).v, .bool (Tot.fitsAdd a b)]) := by
  unfold Tot.sumAdd; rw [h]; rfl
theorem totAdd_yes {a b : Tot} (h : Tot.fitsAdd a b = true) : Ending.returned (.tuple #[(Tot.rawAdd a b).v, .bool true]) = .returned (.tuple #[(Tot.sumAdd a b).v, .bool (Tot.fitsAdd a b)]) := by
  unfold Tot.sumAdd; rw [h]; rfl
theorem totSub_no {a b : Tot} (h : Tot.fitsSub a b = false) : Ending.returned (.tuple #[.agg #[.int .i64 0, .int .i64 0, .int .i64 0, .int .i64 0, .int .i64 0, .int .i64 0], .bool false]) = .returned (.tuple #[(Tot.sumSub a b).v, .bool (Tot.fitsSub a b)]) := by
  unfold Tot.sumSub; rw [h]; rfl
theorem totSub_yes {a b : Tot} (h : Tot.fitsSub a b = true) : Ending.returned (.tuple #[(Tot.rawSub a b).v, .bool true]) = .returned (.tuple #[(Tot.sumSub a b).v, .bool (Tot.fitsSub a b)]) := by
  unfold Tot.sumSub; rw [h]; rfl

set_option maxHeartbeats 400000 in
theorem oneAdd_any (x y : Int) (ph pa : Addr) (all : Bool) (w : World) (h0 : -9223372036854775808 ≤ x) (h1 : x ≤ 9223372036854775807) (h2 : -9223372036854775808 ≤ y) (h3 : y ≤ 9223372036854775807)
    (hh : w.cell? ph = some (.func (Fn.func 73) #[] #[])) (ha : w.cell? pa = some (.bool all)) (hf : w.frozen? pa = false) :
    Calls Try.prog 91 #[.int .i64 x, .int .i64 y, .pointer (some ph), .pointer (some pa)] w fun e w' => e = .returned (.int .i64 (clip (x + y))) ∧ w' = w.setCell pa (.bool (all && fits (x + y))) := by
  cases all
  all_goals
    go_enter Try.func91, Try.ntmps91
    go_wp2_with (go_at_call 73; refine (spAdd_any _ _ _ (by omega) (by omega) (by omega) (by omega)).mono ?_; rintro e w' ⟨rfl, rfl⟩)
    go_ret
    exact ⟨rfl, by simp⟩

set_option maxHeartbeats 2000000 in
theorem bothAdd_six (a0 a1 a2 a3 a4 a5 b0 b1 b2 b3 b4 b5 : Int) (w : World) (ha : (Tot.mk a0 a1 a2 a3 a4 a5).ok) (hb : (Tot.mk b0 b1 b2 b3 b4 b5).ok) :
    Calls Try.prog 72 #[.agg #[.int .i64 a0, .int .i64 a1, .int .i64 a2, .int .i64 a3, .int .i64 a4, .int .i64 a5], .agg #[.int .i64 b0, .int .i64 b1, .int .i64 b2, .int .i64 b3, .int .i64 b4, .int .i64 b5], .func (Fn.func 73) #[] #[]] w
      fun e w' => e = .returned (.tuple #[(Tot.sumAdd ⟨a0, a1, a2, a3, a4, a5⟩ ⟨b0, b1, b2, b3, b4, b5⟩).v, .bool (Tot.fitsAdd ⟨a0, a1, a2, a3, a4, a5⟩ ⟨b0, b1, b2, b3, b4, b5⟩)]) ∧ Kp w w' := by
  obtain ⟨⟨p0, q0⟩, ⟨p1, q1⟩, ⟨p2, q2⟩, ⟨p3, q3⟩, ⟨p4, q4⟩, ⟨p5, q5⟩⟩ := ha
  obtain ⟨⟨r0, s0⟩, ⟨r1, s1⟩, ⟨r2, s2⟩, ⟨r3, s3⟩, ⟨r4, s4⟩, ⟨r5, s5⟩⟩ := hb
  simp only at *
  go_enter Try.func72, Try.ntmps72
  go_wp2
  go_cut [10] (fun v10 wc => v10 = .pointer (some ⟨w.heap.size + 1 + 1 + 1 + 1 + 1, 0, none⟩) ∧ wc = (w.alloc (Obj.cells #[.int .i64 a0, .int .i64 a1, .int .i64 a2, .int .i64 a3, .int .i64 a4, .int .i64 a5] 31)
    |>.alloc (Obj.cells #[.int .i64 b0, .int .i64 b1, .int .i64 b2, .int .i64 b3, .int .i64 b4, .int .i64 b5] 31) |>.alloc (Obj.cells #[Value.func (Fn.func 73) #[] #[]] 112)
    |>.alloc (Obj.cells #[.int .i64 0, .int .i64 0, .int .i64 0, .int .i64 0, .int .i64 0, .int .i64 0] 31) |>.alloc (Obj.cells #[.bool (fits (a0 + b0) && fits (a5 + b5))] 4)
    |>.alloc (Obj.cells #[.int .i64 (clip (a0 + b0)), .int .i64 0, .int .i64 0, .int .i64 0, .int .i64 0, .int .i64 (clip (a5 + b5))] 31)).drew)
  case first =>
    go_region_held3 (fun w' => w'.cell? ⟨w.heap.size, 0, none⟩ = some (.int .i64 a0) ∧ w'.cell? ⟨w.heap.size, 5, none⟩ = some (.int .i64 a5) ∧ w'.cell? ⟨w.heap.size + 1, 0, none⟩ = some (.int .i64 b0) ∧ w'.cell? ⟨w.heap.size + 1, 5, none⟩ = some (.int .i64 b5) ∧ w'.cell? ⟨w.heap.size + 1 + 1, 0, none⟩ = some (.func (Fn.func 73) #[] #[])) (go_simp) (first
    | (go_at_call 91; go_must (refine (oneAdd_any _ _ _ _ _ _ (by omega) (by omega) (by omega) (by omega) (by go_simp) (by go_simp; rfl) (by go_simp)).mono ?_); rintro e w' ⟨rfl, rfl⟩))
    all_goals
      go_wp2
      go_meet
      case rel => exact ⟨rfl, rfl⟩
  case rest =>
    obtain ⟨rfl, rfl⟩ := hcut
    go_wp2
    refine wp_loop_rounds 5 ?_
    rw [rounds_succ]; go_wp2
    go_region_held3 (fun w' => w'.cell? ⟨w.heap.size, 1, none⟩ = some (.int .i64 a1) ∧ w'.cell? ⟨w.heap.size + 1, 1, none⟩ = some (.int .i64 b1) ∧ w'.cell? ⟨w.heap.size + 1 + 1, 0, none⟩ = some (.func (Fn.func 73) #[] #[])) (go_simp) (first
    | (go_at_call 91; go_must (refine (oneAdd_any _ _ _ _ _ _ (by omega) (by omega) (by omega) (by omega) (by go_simp) (by go_simp; rfl) (by go_simp)).mono ?_); rintro e w' ⟨rfl, rfl⟩))
    go_wp2
    rw [rounds_succ]; go_wp2
    go_region_held3 (fun w' => w'.cell? ⟨w.heap.size, 2, none⟩ = some (.int .i64 a2) ∧ w'.cell? ⟨w.heap.size + 1, 2, none⟩ = some (.int .i64 b2) ∧ w'.cell? ⟨w.heap.size + 1 + 1, 0, none⟩ = some (.func (Fn.func 73) #[] #[])) (go_simp) (first
    | (go_at_call 91; go_must (refine (oneAdd_any _ _ _ _ _ _ (by omega) (by omega) (by omega) (by omega) (by go_simp) (by go_simp; rfl) (by go_simp)).mono ?_); rintro e w' ⟨rfl, rfl⟩))
    go_wp2
    rw [rounds_succ]; go_wp2
    go_region_held3 (fun w' => w'.cell? ⟨w.heap.size, 3, none⟩ = some (.int .i64 a3) ∧ w'.cell? ⟨w.heap.size + 1, 3, none⟩ = some (.int .i64 b3) ∧ w'.cell? ⟨w.heap.size + 1 + 1, 0, none⟩ = some (.func (Fn.func 73) #[] #[])) (go_simp) (first
    | (go_at_call 91; go_must (refine (oneAdd_any _ _ _ _ _ _ (by omega) (by omega) (by omega) (by omega) (by go_simp) (by go_simp; rfl) (by go_simp)).mono ?_); rintro e w' ⟨rfl, rfl⟩))
    go_wp2
    rw [rounds_succ]; go_wp2
    go_region_held3 (fun w' => w'.cell? ⟨w.heap.size, 4, none⟩ = some (.int .i64 a4) ∧ w'.cell? ⟨w.heap.size + 1, 4, none⟩ = some (.int .i64 b4) ∧ w'.cell? ⟨w.heap.size + 1 + 1, 0, none⟩ = some (.func (Fn.func 73) #[] #[])) (go_simp) (first
    | (go_at_call 91; go_must (refine (oneAdd_any _ _ _ _ _ _ (by omega) (by omega) (by omega) (by omega) (by go_simp) (by go_simp; rfl) (by go_simp)).mono ?_); rintro e w' ⟨rfl, rfl⟩))
    go_wp2
    rw [rounds_succ]; go_wp2
    all_goals first
      | (have hno : Tot.fitsAdd ⟨a0, a1, a2, a3, a4, a5⟩ ⟨b0, b1, b2, b3, b4, b5⟩ = false := six_no (by assumption)
         exact bodyPost_ret (v := .tuple #[.agg #[.int .i64 0, .int .i64 0, .int .i64 0, .int .i64 0, .int .i64 0, .int .i64 0], .bool false]) (by simp [results, Try.results72, go_sem]) rfl ⟨totAdd_no hno, (by (repeat (first | with_reducible assumption | with_reducible exact Kp.refl _ | with_reducible refine Kp.drew ?_ | with_reducible refine Kp.drewN ?_ _ | with_reducible refine Kp.alloc ?_ _ | ((with_reducible refine Kp.setCell ?_ ?_ _); rotate_left; (focus (first | omega | (simp; done) | (simp; omega)))) | with_reducible refine Kp.trans ?_ (by assumption))))⟩)
      | (have hno : Tot.fitsAdd ⟨a0, a1, a2, a3, a4, a5⟩ ⟨b0, b1, b2, b3, b4, b5⟩ = true := six_yes (by assumption)
         exact bodyPost_ret (v := .tuple #[.agg #[.int .i64 (clip (a0 + b0)), .int .i64 (clip (a1 + b1)), .int .i64 (clip (a2 + b2)), .int .i64 (clip (a3 + b3)), .int .i64 (clip (a4 + b4)), .int .i64 (clip (a5 + b5))], .bool true]) (by simp [results, Try.results72, go_sem]) rfl ⟨totAdd_yes hno, (by (repeat (first | with_reducible assumption | with_reducible exact Kp.refl _ | with_reducible refine Kp.drew ?_ | with_reducible refine Kp.drewN ?_ _ | with_reducible refine Kp.alloc ?_ _ | ((with_reducible refine Kp.setCell ?_ ?_ _); rotate_left; (focus (first | omega | (simp; done) | (simp; omega)))) | with_reducible refine Kp.trans ?_ (by assumption))))⟩)


set_option maxHeartbeats 400000 in
theorem oneSub_any (x y : Int) (ph pa : Addr) (all : Bool) (w : World) (h0 : -9223372036854775808 ≤ x) (h1 : x ≤ 9223372036854775807) (h2 : -9223372036854775808 ≤ y) (h3 : y ≤ 9223372036854775807)
    (hh : w.cell? ph = some (.func (Fn.func 76) #[] #[])) (ha : w.cell? pa = some (.bool all)) (hf : w.frozen? pa = false) :
    Calls Try.prog 91 #[.int .i64 x, .int .i64 y, .pointer (some ph), .pointer (some pa)] w fun e w' => e = .returned (.int .i64 (clip (x - y))) ∧ w' = w.setCell pa (.bool (all && fits (x - y))) := by
  cases all
  all_goals
    go_enter Try.func91, Try.ntmps91
    go_wp2_with (go_at_call 76; refine (spSub_any _ _ _ (by omega) (by omega) (by omega) (by omega)).mono ?_; rintro e w' ⟨rfl, rfl⟩)
    go_ret
    exact ⟨rfl, by simp⟩

set_option maxHeartbeats 2000000 in
theorem bothSub_six (a0 a1 a2 a3 a4 a5 b0 b1 b2 b3 b4 b5 : Int) (w : World) (ha : (Tot.mk a0 a1 a2 a3 a4 a5).ok) (hb : (Tot.mk b0 b1 b2 b3 b4 b5).ok) :
    Calls Try.prog 72 #[.agg #[.int .i64 a0, .int .i64 a1, .int .i64 a2, .int .i64 a3, .int .i64 a4, .int .i64 a5], .agg #[.int .i64 b0, .int .i64 b1, .int .i64 b2, .int .i64 b3, .int .i64 b4, .int .i64 b5], .func (Fn.func 76) #[] #[]] w
      fun e w' => e = .returned (.tuple #[(Tot.sumSub ⟨a0, a1, a2, a3, a4, a5⟩ ⟨b0, b1, b2, b3, b4, b5⟩).v, .bool (Tot.fitsSub ⟨a0, a1, a2, a3, a4, a5⟩ ⟨b0, b1, b2, b3, b4, b5⟩)]) ∧ Kp w w' := by
  obtain ⟨⟨p0, q0⟩, ⟨p1, q1⟩, ⟨p2, q2⟩, ⟨p3, q3⟩, ⟨p4, q4⟩, ⟨p5, q5⟩⟩ := ha
  obtain ⟨⟨r0, s0⟩, ⟨r1, s1⟩, ⟨r2, s2⟩, ⟨r3, s3⟩, ⟨r4, s4⟩, ⟨r5, s5⟩⟩ := hb
  simp only at *
  go_enter Try.func72, Try.ntmps72
  go_wp2
  go_cut [10] (fun v10 wc => v10 = .pointer (some ⟨w.heap.size + 1 + 1 + 1 + 1 + 1, 0, none⟩) ∧ wc = (w.alloc (Obj.cells #[.int .i64 a0, .int .i64 a1, .int .i64 a2, .int .i64 a3, .int .i64 a4, .int .i64 a5] 31)
    |>.alloc (Obj.cells #[.int .i64 b0, .int .i64 b1, .int .i64 b2, .int .i64 b3, .int .i64 b4, .int .i64 b5] 31) |>.alloc (Obj.cells #[Value.func (Fn.func 76) #[] #[]] 112)
    |>.alloc (Obj.cells #[.int .i64 0, .int .i64 0, .int .i64 0, .int .i64 0, .int .i64 0, .int .i64 0] 31) |>.alloc (Obj.cells #[.bool (fits (a0 - b0) && fits (a5 - b5))] 4)
    |>.alloc (Obj.cells #[.int .i64 (clip (a0 - b0)), .int .i64 0, .int .i64 0, .int .i64 0, .int .i64 0, .int .i64 (clip (a5 - b5))] 31)).drew)
  case first =>
    go_region_held3 (fun w' => w'.cell? ⟨w.heap.size, 0, none⟩ = some (.int .i64 a0) ∧ w'.cell? ⟨w.heap.size, 5, none⟩ = some (.int .i64 a5) ∧ w'.cell? ⟨w.heap.size + 1, 0, none⟩ = some (.int .i64 b0) ∧ w'.cell? ⟨w.heap.size + 1, 5, none⟩ = some (.int .i64 b5) ∧ w'.cell? ⟨w.heap.size + 1 + 1, 0, none⟩ = some (.func (Fn.func 76) #[] #[])) (go_simp) (first
    | (go_at_call 91; go_must (refine (oneSub_any _ _ _ _ _ _ (by omega) (by omega) (by omega) (by omega) (by go_simp) (by go_simp; rfl) (by go_simp)).mono ?_); rintro e w' ⟨rfl, rfl⟩))
    all_goals
      go_wp2
      go_meet
      case rel => exact ⟨rfl, rfl⟩
  case rest =>
    obtain ⟨rfl, rfl⟩ := hcut
    go_wp2
    refine wp_loop_rounds 5 ?_
    rw [rounds_succ]; go_wp2
    go_region_held3 (fun w' => w'.cell? ⟨w.heap.size, 1, none⟩ = some (.int .i64 a1) ∧ w'.cell? ⟨w.heap.size + 1, 1, none⟩ = some (.int .i64 b1) ∧ w'.cell? ⟨w.heap.size + 1 + 1, 0, none⟩ = some (.func (Fn.func 76) #[] #[])) (go_simp) (first
    | (go_at_call 91; go_must (refine (oneSub_any _ _ _ _ _ _ (by omega) (by omega) (by omega) (by omega) (by go_simp) (by go_simp; rfl) (by go_simp)).mono ?_); rintro e w' ⟨rfl, rfl⟩))
    go_wp2
    rw [rounds_succ]; go_wp2
    go_region_held3 (fun w' => w'.cell? ⟨w.heap.size, 2, none⟩ = some (.int .i64 a2) ∧ w'.cell? ⟨w.heap.size + 1, 2, none⟩ = some (.int .i64 b2) ∧ w'.cell? ⟨w.heap.size + 1 + 1, 0, none⟩ = some (.func (Fn.func 76) #[] #[])) (go_simp) (first
    | (go_at_call 91; go_must (refine (oneSub_any _ _ _ _ _ _ (by omega) (by omega) (by omega) (by omega) (by go_simp) (by go_simp; rfl) (by go_simp)).mono ?_); rintro e w' ⟨rfl, rfl⟩))
    go_wp2
    rw [rounds_succ]; go_wp2
    go_region_held3 (fun w' => w'.cell? ⟨w.heap.size, 3, none⟩ = some (.int .i64 a3) ∧ w'.cell? ⟨w.heap.size + 1, 3, none⟩ = some (.int .i64 b3) ∧ w'.cell? ⟨w.heap.size + 1 + 1, 0, none⟩ = some (.func (Fn.func 76) #[] #[])) (go_simp) (first
    | (go_at_call 91; go_must (refine (oneSub_any _ _ _ _ _ _ (by omega) (by omega) (by omega) (by omega) (by go_simp) (by go_simp; rfl) (by go_simp)).mono ?_); rintro e w' ⟨rfl, rfl⟩))
    go_wp2
    rw [rounds_succ]; go_wp2
    go_region_held3 (fun w' => w'.cell? ⟨w.heap.size, 4, none⟩ = some (.int .i64 a4) ∧ w'.cell? ⟨w.heap.size + 1, 4, none⟩ = some (.int .i64 b4) ∧ w'.cell? ⟨w.heap.size + 1 + 1, 0, none⟩ = some (.func (Fn.func 76) #[] #[])) (go_simp) (first
    | (go_at_call 91; go_must (refine (oneSub_any _ _ _ _ _ _ (by omega) (by omega) (by omega) (by omega) (by go_simp) (by go_simp; rfl) (by go_simp)).mono ?_); rintro e w' ⟨rfl, rfl⟩))
    go_wp2
    rw [rounds_succ]; go_wp2
    all_goals first
      | (have hno : Tot.fitsSub ⟨a0, a1, a2, a3, a4, a5⟩ ⟨b0, b1, b2, b3, b4, b5⟩ = false := six_no (by assumption)
         exact bodyPost_ret (v := .tuple #[.agg #[.int .i64 0, .int .i64 0, .int .i64 0, .int .i64 0, .int .i64 0, .int .i64 0], .bool false]) (by simp [results, Try.results72, go_sem]) rfl ⟨totSub_no hno, (by (repeat (first | with_reducible assumption | with_reducible exact Kp.refl _ | with_reducible refine Kp.drew ?_ | with_reducible refine Kp.drewN ?_ _ | with_reducible refine Kp.alloc ?_ _ | ((with_reducible refine Kp.setCell ?_ ?_ _); rotate_left; (focus (first | omega | (simp; done) | (simp; omega)))) | with_reducible refine Kp.trans ?_ (by assumption))))⟩)
      | (have hno : Tot.fitsSub ⟨a0, a1, a2, a3, a4, a5⟩ ⟨b0, b1, b2, b3, b4, b5⟩ = true := six_yes (by assumption)
         exact bodyPost_ret (v := .tuple #[.agg #[.int .i64 (clip (a0 - b0)), .int .i64 (clip (a1 - b1)), .int .i64 (clip (a2 - b2)), .int .i64 (clip (a3 - b3)), .int .i64 (clip (a4 - b4)), .int .i64 (clip (a5 - b5))], .bool true]) (by simp [results, Try.results72, go_sem]) rfl ⟨totSub_yes hno, (by (repeat (first | with_reducible assumption | with_reducible exact Kp.refl _ | with_reducible refine Kp.drew ?_ | with_reducible refine Kp.drewN ?_ _ | with_reducible refine Kp.alloc ?_ _ | ((with_reducible refine Kp.setCell ?_ ?_ _); rotate_left; (focus (first | omega | (simp; done) | (simp; omega)))) | with_reducible refine Kp.trans ?_ (by assumption))))⟩)

end Go.Proofs.Yteipfamaclildaa
