/- The law SumsNone: the walk. -/
import Derived.Test.YteipfamaclildaaSumsAwake

namespace Go.Proofs.Yteipfamaclildaa

open Go.RowKit

theorem Open.bounds_u16 {x : Int} (h : (Lit.int .u16 x).wf = true) : 0 ≤ x ∧ x ≤ 65535 := by
  simp only [Lit.wf, Bool.and_eq_true, decide_eq_true_eq] at h; exact h
def zeroItem : Item := ⟨0, 0, 0, 0, 0, 0, 0⟩
theorem make_items (n : Nat) (hn : n ≤ 5000) (w : World) : (Instr.makeSlice 22 (.int .i64 (n : Int)) (.int .i64 (n : Int))).run Try.prog w = .ok (.slice (some ⟨w.heap.size, 0, none⟩) n n) (w.alloc (.cells (intsF (n * 7) fun _ => 0).toArray 78)) := by
  obtain ⟨i0, hi, hz0, hz1, hz2⟩ := info_parts infoItem
  have h := run_make_rowN (P := Try.prog) 22 78 i0 _ Try.underlying22 hi hz0 .i64 .i64 n n (Nat.le_refl _) (by rw [hz2]; omega) (by omega) w
  rw [hz1, made_ints _ _ (fun j hj => by
    have hj' : j < 7 := hj
    have : j = 0 ∨ j = 1 ∨ j = 2 ∨ j = 3 ∨ j = 4 ∨ j = 5 ∨ j = 6 := by omega
    rcases this with rfl | rfl | rfl | rfl | rfl | rfl | rfl <;> rfl) (by decide) (fun _ => 0) (fun _ _ => rfl)] at h
  exact h
theorem zero_items {w : World} {b n : Nat} {t : TypeId} (h : Blk w b (intsF (n * 7) fun _ => 0) t) (hn : n ≤ 5000) : SlOk w 7 Item.cells (some ⟨b, 0, none⟩) n n (List.replicate n zeroItem) := by
  refine ⟨List.length_replicate, Nat.le_refl _, by unfold maxLen; omega, .inr ⟨b, 0, rfl, h.lt, fun i x hx j v hv => ?_⟩⟩
  have hi : i < n := by have := (List.getElem?_eq_some_iff.1 hx).1; rwa [List.length_replicate] at this
  rw [List.getElem?_replicate, if_pos hi, Option.some.injEq] at hx
  subst hx
  have hj : j < 7 := (List.getElem?_eq_some_iff.1 hv).1
  have hv' : v = .int .i64 0 := by
    have : j = 0 ∨ j = 1 ∨ j = 2 ∨ j = 3 ∨ j = 4 ∨ j = 5 ∨ j = 6 := by omega
    rcases this with rfl | rfl | rfl | rfl | rfl | rfl | rfl <;> exact (Option.some.inj hv).symm
  rw [hv', Nat.zero_add]
  exact h.at (i * 7 + j) (by omega)
theorem zero_fair (n : Nat) : fairL (List.replicate n zeroItem) = true := by
  unfold fairL
  rw [List.all_eq_true]
  intro x hx
  rw [(List.mem_replicate.1 hx).2]
  decide

set_option maxRecDepth 100000 in
set_option maxHeartbeats 4000000 in
theorem sumsNone_any (x y many : Int) (_hx : -9223372036854775808 ≤ x ∧ x ≤ 9223372036854775807) (_hy : -9223372036854775808 ≤ y ∧ y ≤ 9223372036854775807) (hm : 0 ≤ many ∧ many ≤ 65535) (w : World) :
    Calls Try.prog 5 #[.int .i64 x, .int .i64 y, .int .u16 many] w fun e w' => e = .returned (.bool true) ∧ Kp w w' := by
  obtain ⟨m, rfl⟩ := Int.eq_ofNat_of_zero_le hm.1
  obtain ⟨n, hn⟩ : ∃ n, m % 5000 = n := ⟨_, rfl⟩
  have hrem : (m : Int).tmod 5000 = (n : Int) := by rw [← hn]; rw [Int.tmod_eq_emod_of_nonneg (by omega)]; omega
  have hn5 : n < 5000 := by rw [← hn]; exact Nat.mod_lt _ (by decide)
  have hmk := fun W => make_items n (by omega) W
  have eT := @eqTot
  have m1 : (m : Int) ≤ 65535 := hm.2
  clear hm hn
  by_cases h4 : n ≤ 4096
  · have hl := fun (W : World) => zero_items (w := W.alloc (.cells (intsF (n * 7) fun _ => 0).toArray 78)) (n := n) (Blk.new W _ 78) (by omega)
    have h41 : (n : Int) ≤ 4096 := by omega
    go_enter Try.func5, Try.ntmps5
    go_wp2_with fail
    refine Calls.mono (new_main _ n n (List.replicate n zeroItem) _ (hl w) h4) ?_
    rintro e w1 ⟨k1, hor⟩
    rcases hor with ⟨hno, _⟩ | ⟨_, p, rfl, a', cap', ba, bb, hS⟩
    · rw [zero_fair] at hno; cases hno
    · have cL := fun (w' : World) (k : Kp w1 w') => len_any (hS.kp k)
      rw [List.length_replicate] at cL
      have xk : Kp w w1 := ((by (repeat (first | with_reducible assumption | with_reducible exact Kp.refl _ | with_reducible refine Kp.drew ?_ | with_reducible refine Kp.drewN ?_ _ | with_reducible refine Kp.alloc ?_ _ | ((with_reducible refine Kp.setCell ?_ ?_ _); rotate_left; (focus (first | omega | (simp; done) | (simp; omega)))) | with_reducible refine Kp.trans ?_ (by assumption)))) : Kp w _).trans k1
      clear hS k1 hl
      go_wp2_with (first
        | ((go_at_call_of 22 (Value.pointer none)); go_must (refine (len_nil _).mono ?_); rintro e w' ⟨rfl, rfl⟩)
        | (go_at_call 15; go_must (refine (of_nil _ _ _).mono ?_); rintro e w' ⟨rfl, kk⟩)
        | (go_at_call 18; go_must (refine (glues_nil _ _ _).mono ?_); rintro e w' ⟨rfl, rfl⟩)
        | (go_at_call 20; go_must (refine (boxes_nil _ _ _).mono ?_); rintro e w' ⟨rfl, rfl⟩)
        | (go_at_call 22; go_must (refine (cL _ (by assumption)).mono ?_); rintro e w' ⟨rfl, rfl⟩)
        | (go_at_call 12; go_must (refine (sumsAwake_any _).mono ?_); rintro e w' ⟨rfl, kk2⟩))
      go_ret
      exact ⟨ret_bool (by first | rfl | simp), (by (repeat (first | with_reducible assumption | with_reducible exact Kp.refl _ | with_reducible refine Kp.drew ?_ | with_reducible refine Kp.drewN ?_ _ | with_reducible refine Kp.alloc ?_ _ | ((with_reducible refine Kp.setCell ?_ ?_ _); rotate_left; (focus (first | omega | (simp; done) | (simp; omega)))) | with_reducible refine Kp.trans ?_ (by assumption))))⟩
  · have h41 : decide ((n : Int) ≤ 4096) = false := decide_eq_false (by omega)
    go_enter Try.func5, Try.ntmps5
    go_wp2_with fail
    refine Calls.mono (new_long _ n n _ (by omega)) ?_
    rintro e w1 ⟨rfl, k1⟩
    have xk : Kp w w1 := ((by (repeat (first | with_reducible assumption | with_reducible exact Kp.refl _ | with_reducible refine Kp.drew ?_ | with_reducible refine Kp.drewN ?_ _ | with_reducible refine Kp.alloc ?_ _ | ((with_reducible refine Kp.setCell ?_ ?_ _); rotate_left; (focus (first | omega | (simp; done) | (simp; omega)))) | with_reducible refine Kp.trans ?_ (by assumption)))) : Kp w _).trans k1
    clear k1
    go_wp2_with (first
      | (go_at_call 22; go_must (refine (len_nil _).mono ?_); rintro e w' ⟨rfl, rfl⟩)
      | (go_at_call 15; go_must (refine (of_nil _ _ _).mono ?_); rintro e w' ⟨rfl, kk⟩)
      | (go_at_call 18; go_must (refine (glues_nil _ _ _).mono ?_); rintro e w' ⟨rfl, rfl⟩)
      | (go_at_call 20; go_must (refine (boxes_nil _ _ _).mono ?_); rintro e w' ⟨rfl, rfl⟩)
      | (go_at_call 12; go_must (refine (sumsAwake_any _).mono ?_); rintro e w' ⟨rfl, kk2⟩))
    go_ret
    exact ⟨ret_bool (by first | rfl | simp), (by (repeat (first | with_reducible assumption | with_reducible exact Kp.refl _ | with_reducible refine Kp.drew ?_ | with_reducible refine Kp.drewN ?_ _ | with_reducible refine Kp.alloc ?_ _ | ((with_reducible refine Kp.setCell ?_ ?_ _); rotate_left; (focus (first | omega | (simp; done) | (simp; omega)))) | with_reducible refine Kp.trans ?_ (by assumption))))⟩
end Go.Proofs.Yteipfamaclildaa
