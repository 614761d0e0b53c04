/- The law SumsTells: the walk. -/
import Derived.Test.YteipfamaclildaaSumsAwake

namespace Go.Proofs.Yteipfamaclildaa

open Go.RowKit

set_option maxRecDepth 100000 in
set_option maxHeartbeats 4000000 in
theorem sumsTells_any (L : SlV Item) (x y : Int) (w : World) (hL : SlOk w 7 Item.cells L.a L.len L.cap L.l ∧ ∀ z, z ∈ L.l → Item.ok z) (_hx : -9223372036854775808 ≤ x ∧ x ≤ 9223372036854775807) (_hy : -9223372036854775808 ≤ y ∧ y ≤ 9223372036854775807) :
    Calls Try.prog 3 #[L.v, .int .i64 x, .int .i64 y] w fun e w' => e = .returned (.bool true) ∧ Kp w w' := by
  obtain ⟨a, len, cap, l⟩ := L
  obtain ⟨hl, _⟩ := hL
  simp only [SlV.v] at *
  have hlen : l.length = len := hl.1
  subst hlen
  by_cases h200 : 200 < l.length
  · have h1 : decide ((200 : Int) < l.length) = true := decide_eq_true (by omega)
    clear hl
    go_enter Try.func3, Try.ntmps3
    go_wp2_with (go_at_call 12; go_must (refine (sumsAwake_any _).mono ?_); rintro e w' ⟨rfl, kk⟩)
    go_ret
    exact ⟨rfl, (by (repeat (first | with_reducible assumption | with_reducible exact Kp.refl _ | with_reducible refine Kp.drew ?_ | with_reducible refine Kp.drewN ?_ _ | with_reducible refine Kp.alloc ?_ _ | ((with_reducible refine Kp.setCell ?_ ?_ _); rotate_left; (focus (first | omega | (simp; done) | (simp; omega)))) | with_reducible refine Kp.trans ?_ (by assumption))))⟩
  · have h1 : decide ((200 : Int) < l.length) = false := decide_eq_false (by omega)
    have h4 : l.length ≤ 4096 := by omega
    have h5 : (glues (piece l x y)).length ≤ 5000 := by
      have e1 := glues_length (piece l x y)
      have e2 : (piece l x y).length ≤ l.length := by unfold piece; rw [List.length_drop, List.length_take]; omega
      omega
    have cN := new_main a l.length cap l w hl h4
    go_enter Try.func3, Try.ntmps3
    go_wp2_with fail
    refine Calls.mono cN ?_
    rintro e w1 ⟨k1, hor⟩
    have cF := refFairL_any a cap l w1 (hl.kp k1) h4
    rcases hor with ⟨hno, rfl⟩ | ⟨hf, p, rfl, a', cap', ba, bb, hS⟩
    · rw [hno] at cF
      go_wp2_with (first
        | (go_at_call 14; go_must (refine cF.mono ?_); rintro e w' ⟨rfl, kk⟩)
        | (go_at_call 12; go_must (refine (sumsAwake_any _).mono ?_); rintro e w' ⟨rfl, kk2⟩))
      go_ret
      exact ⟨rfl, (by (repeat (first | with_reducible assumption | with_reducible exact Kp.refl _ | with_reducible refine Kp.drew ?_ | with_reducible refine Kp.drewN ?_ _ | with_reducible refine Kp.alloc ?_ _ | ((with_reducible refine Kp.setCell ?_ ?_ _); rotate_left; (focus (first | omega | (simp; done) | (simp; omega)))) | with_reducible refine Kp.trans ?_ (by assumption))))⟩
    · rw [hf] at cF
      have eT := @eqTot
      go_wp2_with fail
      refine cF.mono ?_
      rintro e w2 ⟨rfl, k2⟩
      have S2 := hS.kp k2
      have l2 := (hl.kp k1).kp k2
      have xk := k1.trans k2
      have cO := of_any x y S2 hf h4
      have cRO := fun (w' : World) (k : Kp w2 w') => refOf_tot a cap l x y w' (l2.kp k) h4 hf
      obtain ⟨⟨u0, u1, u2, u3, u4, u5⟩, hu⟩ : ∃ u, psum (piece l x y) = u := ⟨_, rfl⟩
      rw [hu] at cO cRO
      simp only [Tot.v] at cO cRO
      clear hS k1 k2 cF cN hl
      go_wp2_with fail
      refine cO.mono ?_
      rintro e w3 ⟨rfl, k3⟩
      go_wp2_with fail
      refine (cRO _ k3).mono ?_
      rintro e w4 ⟨rfl, k4⟩
      have S4 := (S2.kp k3).kp k4
      have l4 := (l2.kp k3).kp k4
      have yk := (xk.trans k3).trans k4
      have cG := glues_any x y S4 h4
      clear S2 l2 xk cO cRO k3 k4
      go_wp2_with fail
      refine cG.mono ?_
      rintro e w5 ⟨v5, rfl, r5, k5⟩
      have cRG := refGlues_any a cap l x y w5 (l4.kp k5) h4
      go_wp2_with fail
      refine cRG.mono ?_
      rintro e w6 ⟨v6, rfl, r6, k6⟩
      obtain ⟨a5, c5, rfl, s5'⟩ := (r5.kp k6).sl (fun _ => rfl)
      obtain ⟨a6, c6, rfl, s6'⟩ := r6.sl (fun _ => rfl)
      have cS := same_yes a5 a6 c5 c6 _ w6 s5' s6' h5
      have S6 := (S4.kp k5).kp k6
      have l6 := (l4.kp k5).kp k6
      have xk := (yk.trans k5).trans k6
      clear S4 l4 yk cG cRG r5 r6 k5 k6 s5' s6'
      go_wp2_with fail
      refine cS.mono ?_
      rintro e w7 ⟨rfl, k7⟩
      have S7 := S6.kp k7
      have l7 := l6.kp k7
      have yk := xk.trans k7
      have cB := boxes_any x y S7 hf h4
      clear S6 l6 xk cS k7
      go_wp2_with fail
      refine cB.mono ?_
      rintro e w8 ⟨rfl, k8⟩
      have cRB := refBoxes_any a cap l x y w8 (l7.kp k8) h4 hf
      have S8 := S7.kp k8
      go_wp2_with fail
      refine cRB.mono ?_
      rintro e w9 ⟨rfl, k9⟩
      have cL := len_any (S8.kp k9)
      have zk := (yk.trans k8).trans k9
      clear S7 S8 l7 cB cRB k8 k9 yk
      go_wp2_with (first
        | (go_at_call 22; go_must (refine cL.mono ?_); rintro e w' ⟨rfl, rfl⟩)
        | (go_at_call 12; go_must (refine (sumsAwake_any _).mono ?_); rintro e w' ⟨rfl, kk2⟩))
      go_ret
      exact ⟨ret_bool (by first | rfl | simp), (by (repeat (first | with_reducible assumption | with_reducible exact Kp.refl _ | with_reducible refine Kp.drew ?_ | with_reducible refine Kp.drewN ?_ _ | with_reducible refine Kp.alloc ?_ _ | ((with_reducible refine Kp.setCell ?_ ?_ _); rotate_left; (focus (first | omega | (simp; done) | (simp; omega)))) | with_reducible refine Kp.trans ?_ (by assumption))))⟩
end Go.Proofs.Yteipfamaclildaa
