/- The law CostOrder: plain facts and the walk. -/
import Derived.Test.YtfiofmlfceknaaaCostLeast
namespace Go.Proofs.Ytfiofmlfceknaaa
open Go.RowKit

theorem slok2C {w : World} {b : Nat} {x y : Cost} {t : TypeId} (h : Blk w b (x.cells ++ y.cells) t) : SlOk w 2 Cost.cells (some ⟨b, 0, none⟩) 2 2 [x, y] := by
  refine ⟨rfl, Nat.le_refl _, by unfold maxLen; omega, .inr ⟨b, 0, rfl, h.lt, fun i u hu j v hv => ?_⟩⟩
  refine h.cell (0 + i * 2 + j) ?_
  have hj : j < 2 := (List.getElem?_eq_some_iff.1 hv).1
  have hi : i < 2 := (List.getElem?_eq_some_iff.1 hu).1
  have : i = 0 ∨ i = 1 := by omega
  rcases this with rfl | rfl
  · simp only [List.getElem?_cons_zero, Option.some.injEq] at hu; subst hu
    rw [List.getElem?_append_left (by simp [Cost.cells]; omega)]
    simpa using hv
  · simp only [List.getElem?_cons_succ, List.getElem?_cons_zero, Option.some.injEq] at hu; subst hu
    rw [List.getElem?_append_right (by simp [Cost.cells])]
    have : 0 + 1 * 2 + j - x.cells.length = j := by simp [Cost.cells]
    rw [this]; exact hv

set_option maxRecDepth 100000 in
set_option maxHeartbeats 1000000 in
theorem costAwake_any (w : World) : Calls Try.prog 39 #[] w fun e w' => e = .returned (.bool true) ∧ Kp w w' := by
  have e0 : add1 1 0 = 1 := by decide
  have e1 : add1 5 7 = 12 := by decide
  have e2 : cmpC 0 99 1 0 = -1 := by decide
  have e3 : leastTo [⟨1, 0⟩, ⟨0, 9⟩] 2 = 1 := by decide
  have eC := @eqCost
  have E0 := Lib.hid e0; have E1 := Lib.hid e1; have E2 := Lib.hid e2; have E3 := Lib.hid e3; clear e0 e1 e2 e3
  go_enter Try.func39, Try.ntmps39
  go_wp2_with fail
  refine (costAdd_any _ _ _ _ _).mono ?_
  rintro e w1 ⟨rfl, k1⟩
  rw [E0.out, E1.out]
  go_wp2_with fail
  refine (costLess_any _ _ _ _ _).mono ?_
  rintro e w2 ⟨rfl, k2⟩
  rw [E2.out]
  go_wp2_with fail
  refine (costLeast_any _ _ _ [⟨1, 0⟩, ⟨0, 9⟩] _ (slok2C (by (repeat (first | with_reducible assumption | ((with_reducible refine Blk.newL ?_ ?_); (focus (first | (simp; done) | omega)); rfl) | with_reducible refine Blk.drew ?_ | with_reducible refine Blk.drewN ?_ _ | with_reducible refine Blk.alloc ?_ _ | ((with_reducible refine Blk.other ?_ ?_ _); rotate_left; (focus (first | with_reducible assumption | omega | (simp; done) | (simp; omega))))))))).mono ?_
  rintro e w3 ⟨rfl, k3⟩
  rw [show ([⟨1, 0⟩, ⟨0, 9⟩] : List Cost).length = 2 from rfl, E3.out]
  go_wp2
  go_ret
  exact ⟨rfl, (by (repeat (first | with_reducible assumption | with_reducible exact Kp.refl _ | with_reducible refine Kp.drew ?_ | with_reducible refine Kp.drewN ?_ _ | with_reducible refine Kp.alloc ?_ _ | ((with_reducible refine Kp.setCell ?_ ?_ _); rotate_left; (focus (first | omega | (simp; done) | (simp; omega)))) | with_reducible refine Kp.trans ?_ (by assumption))))⟩

/-! plain facts -/
theorem add1_eq {a b : Int} (ha : 0 ≤ a ∧ a ≤ 1125899906842624) (hb : 0 ≤ b ∧ b ≤ 1125899906842624) : (1125899906842624 < a + b ∧ add1 a b = 1125899906842624) ∨ (a + b ≤ 1125899906842624 ∧ add1 a b = a + b) := by
  unfold add1; rw [held_in ha.1 ha.2, held_in hb.1 hb.2]
  by_cases h : 1125899906842624 < a + b
  · exact .inl ⟨h, held_high h⟩
  · exact .inr ⟨by omega, held_in (by omega) (by omega)⟩
theorem add1_turn {a b c : Int} (ha : 0 ≤ a ∧ a ≤ 1125899906842624) (hb : 0 ≤ b ∧ b ≤ 1125899906842624) (hc : 0 ≤ c ∧ c ≤ 1125899906842624) : add1 (add1 a b) c = add1 a (add1 c b) := by
  have h1 := add1_eq ha hb; have h2 := add1_eq hc hb
  have b1 := add1_bounds a b; have b2 := add1_bounds c b
  have h3 := add1_eq b1 hc; have h4 := add1_eq ha b2
  omega
theorem add1_up {a b c : Int} (ha : 0 ≤ a ∧ a ≤ 1125899906842624) (hb : 0 ≤ b ∧ b ≤ 1125899906842624) (hc : 0 ≤ c ∧ c ≤ 1125899906842624) : a ≤ add1 (add1 a b) c := by
  have h1 := add1_eq ha hb
  have b1 := add1_bounds a b
  have h3 := add1_eq b1 hc
  omega
theorem cmpC_cases (a0 a1 b0 b1 : Int) : (cmpC a0 a1 b0 b1 = -1 ∧ (a0 < b0 ∨ (a0 = b0 ∧ a1 < b1))) ∨ (cmpC a0 a1 b0 b1 = 0 ∧ a0 = b0 ∧ a1 = b1) ∨ (cmpC a0 a1 b0 b1 = 1 ∧ (b0 < a0 ∨ (a0 = b0 ∧ b1 < a1))) := by
  rw [cmpC_eq]
  by_cases h : a0 < b0 ∨ (a0 = b0 ∧ a1 < b1)
  · rw [if_pos h]; exact .inl ⟨rfl, h⟩
  · rw [if_neg h]
    by_cases h' : a0 = b0 ∧ a1 = b1
    · rw [if_pos h']; exact .inr (.inl ⟨rfl, h'⟩)
    · rw [if_neg h']; exact .inr (.inr ⟨rfl, by omega⟩)
theorem cmpC_neg (a0 a1 b0 b1 : Int) : cmpC a0 a1 b0 b1 = -cmpC b0 b1 a0 a1 := by
  have h1 := cmpC_cases a0 a1 b0 b1; have h2 := cmpC_cases b0 b1 a0 a1; omega
theorem cmpC_zero (a0 a1 b0 b1 : Int) : (cmpC a0 a1 b0 b1 == 0) = (a0 == b0 && a1 == b1) := by
  have h1 := cmpC_cases a0 a1 b0 b1
  rw [Bool.eq_iff_iff]; simp only [Bool.and_eq_true, beq_iff_eq]; omega
theorem cmpC_trans {a0 a1 b0 b1 c0 c1 : Int} (h1 : cmpC a0 a1 b0 b1 ≤ 0) (h2 : cmpC b0 b1 c0 c1 ≤ 0) : cmpC a0 a1 c0 c1 ≤ 0 := by
  have g1 := cmpC_cases a0 a1 b0 b1; have g2 := cmpC_cases b0 b1 c0 c1; have g3 := cmpC_cases a0 a1 c0 c1; omega
theorem cmpC_le {a0 a1 b0 b1 : Int} (h0 : a0 ≤ b0) (h1 : a1 ≤ b1) : cmpC a0 a1 b0 b1 ≤ 0 := by
  have g1 := cmpC_cases a0 a1 b0 b1; omega
theorem cmpC_add {a0 a1 b0 b1 c0 c1 : Int} (ha : rightC a0 a1 = true) (hb : rightC b0 b1 = true) (hc : rightC c0 c1 = true) (r1 : a0 + c0 < 1125899906842624) (r2 : b0 + c0 < 1125899906842624) (h : cmpC a0 a1 b0 b1 ≤ 0) :
    cmpC (add1 a0 c0) (add1 a1 c1) (add1 b0 c0) (add1 b1 c1) ≤ 0 := by
  unfold rightC at ha hb hc
  rw [decide_eq_true_eq] at ha hb hc
  have g1 := cmpC_cases a0 a1 b0 b1
  have g2 := cmpC_cases (add1 a0 c0) (add1 a1 c1) (add1 b0 c0) (add1 b1 c1)
  have p1 := add1_eq ha.1 hc.1; have p2 := add1_eq ha.2 hc.2; have p3 := add1_eq hb.1 hc.1; have p4 := add1_eq hb.2 hc.2
  omega
theorem right_bounds {a0 a1 : Int} (h : rightC a0 a1 = true) : (0 ≤ a0 ∧ a0 ≤ 1125899906842624) ∧ (0 ≤ a1 ∧ a1 ≤ 1125899906842624) := by
  unfold rightC at h; rwa [decide_eq_true_eq] at h

set_option maxHeartbeats 400000 in
theorem costAdd_exact (a0 a1 b0 b1 : Int) (w : World) : Calls Try.prog 40 #[.agg #[.int .i64 a0, .int .i64 a1], .agg #[.int .i64 b0, .int .i64 b1]] w fun e w' => e = .returned (.agg #[.int .i64 (add1 a0 b0), .int .i64 (add1 a1 b1)]) ∧ w' = (((w.alloc (.cells #[.int .i64 a0, .int .i64 a1] 54)).alloc (.cells #[.int .i64 b0, .int .i64 b1] 54)).alloc (.cells #[.int .i64 (add1 a0 b0), .int .i64 (add1 a1 b1)] 54)).drew := by
  go_enter Try.func40, Try.ntmps40
  go_wp2
  go_region_held3 (fun w' => w'.cell? ⟨w.heap.size, 0, none⟩ = some (.int .i64 a0) ∧ w'.cell? ⟨w.heap.size, 1, none⟩ = some (.int .i64 a1) ∧ w'.cell? ⟨w.heap.size + 1, 0, none⟩ = some (.int .i64 b0) ∧ w'.cell? ⟨w.heap.size + 1, 1, none⟩ = some (.int .i64 b1)) (first | with_reducible assumption | (go_simp; done)) (first
    | (go_at_call 67; go_must (refine (addI_any _ _ _).mono ?_); rintro e w' ⟨rfl, rfl⟩)
    | (go_at_call 68; go_must (refine (addJ_any _ _ _).mono ?_); rintro e w' ⟨rfl, rfl⟩))
  all_goals
    go_wp2
    exact bodyPost_ret (v := .agg #[.int .i64 (add1 a0 b0), .int .i64 (add1 a1 b1)]) (by simp [results, Try.results40, go_sem]) rfl ⟨rfl, rfl⟩
end Go.Proofs.Ytfiofmlfceknaaa
