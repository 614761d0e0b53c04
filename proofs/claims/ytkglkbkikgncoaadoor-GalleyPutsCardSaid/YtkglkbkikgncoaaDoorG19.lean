/- A galley: texts are read at all. -/
import Derived.Test.YtkglkbkikgncoaaDoorG18

import Derived.Laws.StructEq

namespace Go.Proofs.YtkglkbkikgncoaaDoor

open Go.ChangeShapes Go.WideShapes Go.ChangeAt Go.RowKit Go.Shelf

set_option maxHeartbeats 1000000 in
theorem eqPt (d : Nat) (w : World) (a0 a1 a2 a3 a4 b0 b1 b2 b3 b4 : Int) :
    (Op.equalIn (d + 3) 33 (.agg #[.int .i64 a0, .int .i64 a1, .int .i64 a2, .int .i64 a3, .int .i64 a4]) (.agg #[.int .i64 b0, .int .i64 b1, .int .i64 b2, .int .i64 b3, .int .i64 b4])).run Tryd.prog w = .ok (a0 == b0 && (a1 == b1 && (a2 == b2 && (a3 == b3 && a4 == b4)))) w := by
  have hu := Tryd.underlying33
  go_simp
  clear hu
  by_cases h0 : a0 = b0 <;> by_cases h1 : a1 = b1 <;> by_cases h2 : a2 = b2 <;> by_cases h3 : a3 = b3 <;> by_cases h4 : a4 = b4 <;> simp_all
abbrev aw4 : List UInt8 := [114, 117, 108, 101, 32, 52, 32, 49]
theorem awP4 : putP aw4 = some ⟨3, 0, 0, 4, 1⟩ := by
  have e : aw4 = lineL wRule [4, 1] := by simp [lineL, numL, ig4, ig1]
  unfold putP
  rw [e, parseP_line (by decide) (by unfold I64; decide)]
  rfl
def lines1 : Nat → List UInt8
  | 0 => aw1
  | 1 => aw2
  | _ => aw3
def rests1 : Nat → List UInt8
  | 0 => [112, 97, 103, 101, 32, 48, 32, 45, 49, 32, 53, 32, 53, 10, 108, 97, 110, 101, 32, 51, 10, 98, 111, 120, 32, 50, 32, 48, 32, 51, 10]
  | 1 => [108, 97, 110, 101, 32, 51, 10, 98, 111, 120, 32, 50, 32, 48, 32, 51, 10]
  | 2 => [98, 111, 120, 32, 50, 32, 48, 32, 51, 10]
  | _ => []
def lines2 : Nat → List UInt8 := fun _ => aw1
def rests2 : Nat → List UInt8
  | 0 => [112, 97, 103, 101, 32, 48, 32, 45, 49, 32, 53, 32, 53, 10, 98, 111, 120, 32, 50, 32, 48, 32, 51, 10]
  | _ => [98, 111, 120, 32, 50, 32, 48, 32, 51, 10]
theorem chain1 (W : World) (he : Env W) : Chain W 3 lines1 rests1 (AwT W.heap.size) := by
  refine ⟨fun _ _ _ _ _ k h => h.kp k, fun _ _ _ _ _ _ _ hB h => h.bool hB, fun _ _ _ _ h => ⟨h.1, h.sl⟩, fun k hk => ?_, fun k => ?_, fun k O v w1 S hk _ k1 hA hS => ?_⟩
  · obtain rfl | rfl | rfl : k = 0 ∨ k = 1 ∨ k = 2 := by omega
    · exact ⟨by decide, by decide⟩
    · exact ⟨by decide, by decide⟩
    · exact ⟨by decide, by decide⟩
  · unfold rests1; split <;> decide
  · obtain rfl | rfl | rfl : k = 0 ∨ k = 1 ∨ k = 2 := by omega
    · exact step0 W O S v w1 he k1 hA hS
    · exact step1 W O S v w1 he k1 hA hS
    · exact step2 W O S v w1 he k1 hA hS
theorem chain2 (W : World) (he : Env W) : Chain W 1 lines2 rests2 (AwT W.heap.size) := by
  refine ⟨fun _ _ _ _ _ k h => h.kp k, fun _ _ _ _ _ _ _ hB h => h.bool hB, fun _ _ _ _ h => ⟨h.1, h.sl⟩, fun k hk => ?_, fun k => ?_, fun k O v w1 S hk _ k1 hA hS => ?_⟩
  · obtain rfl : k = 0 := by omega
    exact ⟨by decide, by decide⟩
  · unfold rests2; split <;> decide
  · obtain rfl : k = 0 := by omega
    exact step0 W O S v w1 he k1 hA hS
theorem aw_start (W : World) (O : Nat) (w1 : World) (hO : W.heap.size ≤ O) (k1 : Kp W w1) (hB : Blk w1 O [.slice none 0 0] 23) : AwT W.heap.size 0 O (.slice none 0 0) w1 := ⟨hB, k1.size, hO, rfl⟩
theorem aw_read1 (W : World) (he : Env W) : Calls Tryd.prog 7 #[sv (rests1 0)] W fun e w' => Kp W w' ∧ ∃ O v, e = .returned (.tuple #[v, .int .i64 0]) ∧ AwT W.heap.size 3 O v w' :=
  read_done W 3 lines1 rests1 _ (chain1 W he) he (by decide) rfl (fun O w1 h1 h2 h3 => aw_start W O w1 h1 h2 h3)
theorem aw_read2 (W : World) (he : Env W) : Calls Tryd.prog 7 #[sv (rests2 0)] W fun e w' => e = .returned (.tuple #[.slice none 0 0, .int .i64 2]) ∧ Kp W w' :=
  read_bad W 1 lines2 rests2 _ (chain2 W he) he (by decide) aw3 [] (by decide) (by decide) (fun O v w1 S _ k1 hA hS => stepBad W O S v w1 he k1 hA hS) (fun O w1 h1 h2 h3 => aw_start W O w1 h1 h2 h3)
set_option maxRecDepth 100000 in
set_option maxHeartbeats 8000000 in
theorem awake51_any (w : World) (he : Env w) : Calls Tryd.prog 6 #[] w fun e w' => e = .returned (.bool true) ∧ Kp w w' := by
  have HE := Lib.hid he
  have eP := @eqPt
  clear he
  go_enter Tryd.func6, Tryd.ntmps6
  go_wp2_with fail
  refine Calls.mono (aw_read1 _ HE.out) ?_
  rintro e w1 ⟨k1, O, v, rfl, hA⟩
  go_wp2_with fail
  refine Calls.mono (aw_read2 _ (HE.out.kp k1)) ?_
  rintro e w2 ⟨rfl, k2⟩
  have kw2 := k1.trans k2
  go_wp2_with fail
  refine Calls.mono (galleyPut_any aw4 (by decide) _ (HE.out.kp kw2)) ?_
  rintro e w3 ⟨k3, hh⟩
  obtain rfl : e = .returned (.tuple #[.agg #[.int .i64 3, .int .i64 0, .int .i64 0, .int .i64 4, .int .i64 1], .bool true]) := by
    rcases hh with ⟨p, hp, e1⟩ | ⟨hp, _⟩
    · rw [awP4] at hp
      cases hp
      exact e1
    · rw [awP4] at hp
      cases hp
  have kw3 := kw2.trans k3
  obtain ⟨_, _, _, hA3⟩ := hA.kp (k2.trans k3)
  obtain ⟨g, c, h, lc, j, pc, rfl, r1, r2, r3⟩ : ∃ g c h lc j pc, v = .slice (some ⟨g, 0, none⟩) 1 c ∧ Row w3 w.heap.size 49 4 Page.cells v [pg (some ⟨h, 0, none⟩) 1 lc []] ∧ Row w3 w.heap.size 46 2 Lane.cells (.slice (some ⟨h, 0, none⟩) 1 lc) [ln (some ⟨j, 0, none⟩) 1 pc []] ∧ Row w3 w.heap.size 33 5 Put.cells (.slice (some ⟨j, 0, none⟩) 1 pc) [⟨1, 2, 0, 0, 3⟩] := hA3
  obtain ⟨-, q1, q1m⟩ := r1.shape1 (by simp)
  obtain ⟨-, q2, q2m⟩ := r2.shape1 (by simp)
  obtain ⟨-, q3, q3m⟩ := r3.shape1 (by simp)
  unfold maxLen at q1m q2m q3m
  have d0 : w3.cell? ⟨g, 0, none⟩ = some (.slice (some ⟨h, 0, none⟩) 1 lc) := Row.cellN (enc := Page.cells) (fun _ => rfl) r1 rfl (k := 0) rfl (j := 0) rfl
  have d1 : w3.cell? ⟨h, 1, none⟩ = some (.slice (some ⟨j, 0, none⟩) 1 pc) := Row.cellN (enc := Lane.cells) (fun _ => rfl) r2 rfl (k := 0) rfl (j := 1) rfl
  have d2 : w3.cell? ⟨j, 1, none⟩ = some (.int .i64 2) := Row.cellN (enc := Put.cells) (fun _ => rfl) r3 rfl (k := 0) rfl (j := 1) rfl
  have b1 := (r1.lt g rfl).2
  have b2 := (r2.lt h rfl).2
  have b3 := (r3.lt j rfl).2
  clear hA r1 r2 r3 hh k1 k2 k3
  go_wp2_with fail
  (try go_ret)
  exact ⟨by first | rfl | (rw [ret_bool]; decide), (by (repeat (first | with_reducible assumption | with_reducible exact Kp.refl _ | with_reducible refine Kp.drew ?_ | with_reducible refine Kp.drewN ?_ _ | with_reducible refine Kp.alloc ?_ _ | ((with_reducible refine Kp.setCell ?_ ?_ _); rotate_left; (focus (first | omega | (simp; done) | (simp; omega)))) | with_reducible refine Kp.trans ?_ (by assumption))))⟩
end Go.Proofs.YtkglkbkikgncoaaDoor
