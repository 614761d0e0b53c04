/- Small words for the walks: 'Kp W w': of what was there in W nothing has turned in w (new blocks alone). -/
import Derived.Test.YtaekeogaakogbaaGreatDoorRows

import Derived.WalkKit

import Derived.WalkSpells

import Derived.WalkLawsBesides

import Derived.Handy

import Derived.Lib.Hide

import Derived.WalkSmall

import Derived.Laws.EntriesVeiled

namespace Go.Proofs.YtaekeogaakogbaaGreatDoor

open Go.RowKit

theorem ret_int {k : IntKind} {a b : Int} (h : a = b) : Ending.returned (.int k a) = .returned (.int k b) := by rw [h]
theorem ret_bool {a b : Bool} (h : a = b) : Ending.returned (.bool a) = .returned (.bool b) := by rw [h]

/-- What was there in W is in w as it was. -/
def Kp (W w : World) : Prop := Below W.heap.size W w
theorem Kp.refl (w : World) : Kp w w := Below.refl _ _
theorem Kp.size {W w : World} (h : Kp W w) : W.heap.size ≤ w.heap.size := Below.size h
theorem Kp.trans {a b c : World} (h : Kp a b) (k : Kp b c) : Kp a c := Below.trans h (Below.mono k h.size)
theorem Kp.drew {W w : World} (h : Kp W w) : Kp W w.drew := Below.drew h
theorem Kp.drewN {W w : World} (h : Kp W w) (n : Nat) : Kp W (w.drewN n) := below_drewN h n
theorem Kp.alloc {W w : World} (h : Kp W w) (o : Obj) : Kp W (w.alloc o) := Below.alloc h h.size o
theorem Kp.setCell {W w : World} (h : Kp W w) {p : Addr} (hp : W.heap.size ≤ p.block) (u : Value) : Kp W (w.setCell p u) := Below.setCell h hp u
theorem Kp.cell {W w : World} (h : Kp W w) {p : Addr} (hp : p.block < W.heap.size) : w.cell? p = W.cell? p := Below.cell h hp
theorem Kp.grown {W w : World} (h : Kp W w) (may : MemPlace → Prop) : W.keptBut w may := Below.frame h may
end Go.Proofs.YtaekeogaakogbaaGreatDoor
