/- A sum that is watched. -/
import Derived.Test.YteipfamaclildaaSpC

import Derived.Test.YteipfamaclildaaBlk2

namespace Go.Proofs.Yteipfamaclildaa

open Go.RowKit

/-- A meter's cells. -/
def met (s : Int) (o : Bool) : List Value := [.int .i64 s, .bool o]
theorem spNew_any (w : World) : Calls Try.prog 77 #[] w fun e w' => e = .returned (.pointer (some ⟨w.heap.size, 0, none⟩)) ∧ w' = w.alloc (.cells #[.int .i64 0, .bool false] 132) := by
  go_enter Try.func77, Try.ntmps77
  go_wp2
  go_ret
  exact ⟨rfl, rfl⟩

theorem byAdd2 (p : Nat) (s a u : Int) (v : Bool) (w : World) (y0 : w.cell? ⟨p, 0, none⟩ = some (.int .i64 s)) (y1 : w.cell? ⟨p, 1, none⟩ = some (.bool false)) (f0 : w.frozen? ⟨p, 0, none⟩ = false) (f1 : w.frozen? ⟨p, 1, none⟩ = false)
    (AD : Hid (∀ w : World, Calls Try.prog 73 #[.int .i64 s, .int .i64 a] w fun e w' => e = .returned (.tuple #[.int .i64 u, .bool v]) ∧ w = w')) :
    Calls Try.prog 92 #[.pointer (some ⟨p, 0, none⟩), .int .i64 a, .func (Fn.func 73) #[] #[]] w fun e w' => e = .returned (.bool v) ∧ w' = (w.setCell ⟨p, 0, none⟩ (.int .i64 u)).setCell ⟨p, 1, none⟩ (.bool (!v)) := by
  go_enter Try.func92, Try.ntmps92
  go_wp2_with (go_at_call 73; go_must (refine (AD.out _).mono ?_); rintro e w' ⟨rfl, rfl⟩)
  go_ret
  exact ⟨rfl, rfl⟩

theorem byAdd_any (p : Nat) (s a : Int) (w : World) (hp : Blk w p (met s false) 132) (hs : I64 s) (ha : I64 a) :
    Calls Try.prog 78 #[.pointer (some ⟨p, 0, none⟩), .int .i64 a] w fun e w' => e = .returned (.bool (fits (s + a))) ∧ w' = (w.setCell ⟨p, 0, none⟩ (.int .i64 (clip (s + a)))).setCell ⟨p, 1, none⟩ (.bool (!fits (s + a))) := by
  have ad := fun w => spAdd_any s a w hs.1 hs.2 ha.1 ha.2
  obtain ⟨u, hu⟩ : ∃ u, clip (s + a) = u := ⟨_, rfl⟩
  obtain ⟨v, hv⟩ : ∃ v, fits (s + a) = v := ⟨_, rfl⟩
  rw [hu, hv] at ad ⊢
  have AD := Lib.hid ad
  clear ad hu hv hs ha
  have y0 : w.cell? ⟨p, 0, none⟩ = some (.int .i64 s) := hp.cell 0 rfl
  have y1 : w.cell? ⟨p, 1, none⟩ = some (.bool false) := hp.cell 1 rfl
  have f0 := hp.free 0
  have f1 := hp.free 1
  go_enter Try.func78, Try.ntmps78
  go_wp2_with fail
  refine Calls.mono (byAdd2 p s a u v w y0 y1 f0 f1 AD) ?_
  rintro e w1 ⟨rfl, hw⟩
  go_wp2
  go_ret
  exact ⟨rfl, rfl⟩
theorem byAdd_spoilt (p : Nat) (a : Int) (w : World) (y1 : w.cell? ⟨p, 1, none⟩ = some (.bool true)) :
    Calls Try.prog 78 #[.pointer (some ⟨p, 0, none⟩), .int .i64 a] w fun e w' => e = .returned (.bool false) ∧ w' = w := by
  go_enter Try.func78, Try.ntmps78
  go_wp2
  go_ret
  exact ⟨rfl, rfl⟩
theorem byAdd_nil (a : Int) (w : World) :
    Calls Try.prog 78 #[.pointer none, .int .i64 a] w fun e w' => e = .returned (.bool false) ∧ w' = w := by
  go_enter Try.func78, Try.ntmps78
  go_wp2
  go_ret
  exact ⟨rfl, rfl⟩

theorem bySub2 (p : Nat) (s a u : Int) (v : Bool) (w : World) (y0 : w.cell? ⟨p, 0, none⟩ = some (.int .i64 s)) (y1 : w.cell? ⟨p, 1, none⟩ = some (.bool false)) (f0 : w.frozen? ⟨p, 0, none⟩ = false) (f1 : w.frozen? ⟨p, 1, none⟩ = false)
    (AD : Hid (∀ w : World, Calls Try.prog 76 #[.int .i64 s, .int .i64 a] w fun e w' => e = .returned (.tuple #[.int .i64 u, .bool v]) ∧ w = w')) :
    Calls Try.prog 92 #[.pointer (some ⟨p, 0, none⟩), .int .i64 a, .func (Fn.func 76) #[] #[]] w fun e w' => e = .returned (.bool v) ∧ w' = (w.setCell ⟨p, 0, none⟩ (.int .i64 u)).setCell ⟨p, 1, none⟩ (.bool (!v)) := by
  go_enter Try.func92, Try.ntmps92
  go_wp2_with (go_at_call 76; go_must (refine (AD.out _).mono ?_); rintro e w' ⟨rfl, rfl⟩)
  go_ret
  exact ⟨rfl, rfl⟩

theorem value_any (p : Nat) (s : Int) (w : World) (y0 : w.cell? ⟨p, 0, none⟩ = some (.int .i64 s)) (y1 : w.cell? ⟨p, 1, none⟩ = some (.bool false)) :
    Calls Try.prog 79 #[.pointer (some ⟨p, 0, none⟩)] w fun e w' => e = .returned (.tuple #[.int .i64 s, .bool true]) ∧ w' = w := by
  go_enter Try.func79, Try.ntmps79
  go_wp2
  go_ret2
  exact ⟨rfl, rfl⟩
theorem value_spoilt (p : Nat) (w : World) (y1 : w.cell? ⟨p, 1, none⟩ = some (.bool true)) :
    Calls Try.prog 79 #[.pointer (some ⟨p, 0, none⟩)] w fun e w' => e = .returned (.tuple #[.int .i64 0, .bool false]) ∧ w' = w := by
  go_enter Try.func79, Try.ntmps79
  go_wp2
  go_ret2
  exact ⟨rfl, rfl⟩
theorem value_nil (w : World) :
    Calls Try.prog 79 #[.pointer none] w fun e w' => e = .returned (.tuple #[.int .i64 0, .bool false]) ∧ w' = w := by
  go_enter Try.func79, Try.ntmps79
  go_wp2
  go_ret2
  exact ⟨rfl, rfl⟩
end Go.Proofs.Yteipfamaclildaa
