/- The program sums at all: the walk. -/
import Derived.Test.YteipfamaclildaaSumsSame

namespace Go.Proofs.Yteipfamaclildaa

open Go.RowKit

def awL : List Item := [⟨1, 3, 0, 0, 0, 0, 0⟩, ⟨2, 2, 0, 0, 0, 1, 0⟩, ⟨1, 4, 0, 0, 0, 0, 0⟩]
theorem SlOk.ofBlk {w : World} {b : Nat} {l : List Item} {t : TypeId} (h : Blk w b (l.flatMap Item.cells) t) (hm : l.length ≤ maxLen) : SlOk w 7 Item.cells (some ⟨b, 0, none⟩) l.length l.length l :=
  ⟨rfl, Nat.le_refl _, hm, .inr ⟨b, 0, rfl, h.lt, fun i x hx j v hv => by rw [Nat.zero_add]; exact h.cell (i * 7 + j) (flatMap_get Item.cells_length l i x j v hx hv)⟩⟩

set_option maxRecDepth 100000 in
set_option maxHeartbeats 4000000 in
theorem sumsAwake_any (w : World) : Calls Try.prog 12 #[] w fun e w' => e = .returned (.bool true) ∧ Kp w w' := by
  have hf : fairL awL = true := by decide
  have v1 : psum (piece awL 0 3) = ⟨9, 0, 0, 0, 0, 1⟩ := by rfl
  have v2 : bsum (piece awL 0 3) = 7 := by decide
  have v3 : (glues (piece awL 1 2)).length = 1 := by decide
  go_enter Try.func12, Try.ntmps12
  go_wp2_with fail
  refine Calls.mono (new_main (some ⟨w.heap.size, 0, none⟩) 3 3 awL _ (SlOk.ofBlk (t := 78) (Blk.newL rfl rfl) (by decide)) (by decide)) ?_
  rintro e w1 ⟨k1, hor⟩
  rcases hor with ⟨hno, _⟩ | ⟨_, p, rfl, a, cap, ba, bb, hS⟩
  · rw [hf] at hno; cases hno
  · have xk : Kp w w1 := ((by (repeat (first | with_reducible assumption | with_reducible exact Kp.refl _ | with_reducible refine Kp.drew ?_ | with_reducible refine Kp.drewN ?_ _ | with_reducible refine Kp.alloc ?_ _ | ((with_reducible refine Kp.setCell ?_ ?_ _); rotate_left; (focus (first | omega | (simp; done) | (simp; omega)))) | with_reducible refine Kp.trans ?_ (by assumption)))) : Kp w _).trans k1
    have n1 := hS.head.lt
    have cO := of_any 0 3 hS hf (by decide)
    rw [v1] at cO
    simp only [Tot.v] at cO
    clear k1
    go_wp2_with fail
    refine cO.mono ?_
    rintro e w2 ⟨rfl, k2⟩
    have yS := (hS.kp k2).kp ((by (repeat (first | with_reducible assumption | with_reducible exact Kp.refl _ | with_reducible refine Kp.drew ?_ | with_reducible refine Kp.drewN ?_ _ | with_reducible refine Kp.alloc ?_ _ | ((with_reducible refine Kp.setCell ?_ ?_ _); rotate_left; (focus (first | omega | (simp; done) | (simp; omega)))) | with_reducible refine Kp.trans ?_ (by assumption)))) : Kp w2 (w2.alloc (.cells #[.int .i64 9, .int .i64 0, .int .i64 0, .int .i64 0, .int .i64 0, .int .i64 1] 31)))
    have yk : Kp w (w2.alloc (.cells #[.int .i64 9, .int .i64 0, .int .i64 0, .int .i64 0, .int .i64 0, .int .i64 1] 31)) := (xk.trans k2).alloc _
    have cB := boxes_any 0 3 yS hf (by decide)
    rw [v2] at cB
    clear hS k2 xk cO
    go_wp2_with fail
    refine cB.mono ?_
    rintro e w3 ⟨rfl, k3⟩
    have zS := yS.kp k3
    have zk := yk.trans k3
    have cG := glues_any 1 2 zS (by decide)
    clear yS yk k3 cB
    go_wp2_with fail
    refine cG.mono ?_
    rintro e w4 ⟨v, rfl, hr, k4⟩
    obtain ⟨a4, c4, rfl, hs4⟩ := hr.sl (fun _ => rfl)
    rw [v3]
    have cL := len_any (zS.kp k4)
    have ek := zk.trans k4
    clear hr hs4 zS k4 cG zk
    go_wp2_with fail
    refine cL.mono ?_
    rintro e w5 ⟨rfl, rfl⟩
    go_wp2
    go_ret
    exact ⟨ret_bool (by first | rfl | decide), ek⟩
end Go.Proofs.Yteipfamaclildaa
