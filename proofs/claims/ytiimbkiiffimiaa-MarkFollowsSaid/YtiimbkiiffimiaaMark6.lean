/- Marks: the program finds marks at all. -/
import Derived.Test.YtiimbkiiffimiaaMark5

import Derived.Laws.StructEq

namespace Go.Proofs.Ytiimbkiiffimiaa

open Go.ChangeShapes Go.WideShapes Go.ChangeAt Go.RowKit Go.Shelf

theorem cellsI_length (x : Item) : x.cells.length = 7 := rfl
theorem cellsC_length (x : Col) : x.cells.length = 6 := rfl
theorem SlOk.ofRow {α : Type} {n : Nat} {enc : α → List Value} {w : World} {b : Nat} {l : List α} {t : TypeId} (hn : ∀ x, (enc x).length = n) (h : Blk w b (l.flatMap enc) t) (hm : l.length ≤ maxLen) : SlOk w n enc (some ⟨b, 0, none⟩) l.length l.length l :=
  ⟨rfl, Nat.le_refl _, hm, .inr ⟨b, 0, rfl, h.lt, fun i x hx j v hv => by rw [Nat.zero_add]; exact h.cell (i * n + j) (flatMap_get hn l i x j v hx hv)⟩⟩
set_option maxHeartbeats 1000000 in
theorem eqMk (d : Nat) (w : World) (a0 a1 a2 b0 b1 b2 : Int) :
    (Op.equalIn (d + 3) 30 (.agg #[.int .i64 a0, .int .i64 a1, .int .i64 a2]) (.agg #[.int .i64 b0, .int .i64 b1, .int .i64 b2])).run Try.prog w = .ok (a0 == b0 && (a1 == b1 && a2 == b2)) w := by
  have hu := Try.underlying30
  go_simp
  clear hu
  by_cases h0 : a0 = b0 <;> by_cases h1 : a1 = b1 <;> by_cases h2 : a2 = b2 <;> simp_all
def awI : List Item := [⟨4, 0, 0, 0, 0, 0, 3⟩, ⟨1, 0, 0, 0, 0, 0, 0⟩, ⟨4, 0, 0, 0, 0, 0, 4⟩, ⟨1, 0, 0, 0, 0, 0, 0⟩]
def awC : List Col := [⟨1, 0, 2, none, 0, 0, none, 0, 0, none, 0, 0⟩, ⟨1, 2, 3, none, 0, 0, none, 0, 0, none, 0, 0⟩, ⟨1, 3, 4, none, 0, 0, none, 0, 0, none, 0, 0⟩]
set_option maxRecDepth 100000 in
set_option maxHeartbeats 2000000 in
theorem markAwake_any (w : World) : Calls Try.prog 5 #[] w fun e w' => e = .returned (.bool true) ∧ Kp w w' := by
  have v1 : ofL awI awC 2 = [⟨-1, 3, 4⟩, ⟨4, 4, 4⟩] := by kernel_rfl
  have cM := fun (W : World) h1 h2 => markOf_yes (some ⟨w.heap.size, 0, none⟩) (some ⟨w.heap.size + 1, 0, none⟩) 4 3 awI awC 2 W h1 h2 (by decide) (by decide) (by decide) (by decide)
  rw [v1] at cM
  have CM := Lib.hid cM
  have eM := @eqMk
  clear cM v1
  go_enter Try.func5, Try.ntmps5
  go_wp2_with fail
  refine Calls.mono (CM.out _ ?s1 ?s2) ?_
  case s1 => exact SlOk.ofRow cellsI_length (Blk.alloc (Blk.newL (t := 42) rfl rfl) _) (by decide)
  case s2 =>
    exact SlOk.ofRow cellsC_length (Blk.newL (t := 37) (by simp) rfl) (by decide)
  rintro e w1 ⟨v, rfl, hv, k1⟩
  have xk : Kp w w1 := ((by (repeat (first | with_reducible assumption | with_reducible exact Kp.refl _ | with_reducible refine Kp.drew ?_ | with_reducible refine Kp.drewN ?_ _ | with_reducible refine Kp.alloc ?_ _ | ((with_reducible refine Kp.setCell ?_ ?_ _); rotate_left; (focus (first | omega | (simp; done) | (simp; omega)))) | with_reducible refine Kp.trans ?_ (by assumption)))) : Kp w _).trans k1
  obtain ⟨a1, c1, rfl, s1⟩ := hv.sl (fun _ => rfl)
  rcases s1.2.2.2 with e | ⟨g, o, rfl, hg, hrow⟩
  · cases e
  have d0 := hrow 0 _ rfl 0 _ rfl; have d1 := hrow 0 _ rfl 1 _ rfl; have d2 := hrow 0 _ rfl 2 _ rfl
  have d3 := hrow 1 _ rfl 0 _ rfl; have d4 := hrow 1 _ rfl 1 _ rfl; have d5 := hrow 1 _ rfl 2 _ rfl
  simp only [Nat.zero_mul, Nat.one_mul, Nat.add_zero] at d0 d1 d2 d3 d4 d5
  clear hrow s1 hv k1 CM
  go_wp2
  go_ret
  exact ⟨ret_bool (by first | rfl | decide), xk⟩
end Go.Proofs.Ytiimbkiiffimiaa
