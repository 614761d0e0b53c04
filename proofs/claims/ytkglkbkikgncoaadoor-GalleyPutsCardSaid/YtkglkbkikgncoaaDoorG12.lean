/- A galley's Read: line by line, along a chain of states. -/
import Derived.Test.YtkglkbkikgncoaaDoorG7

namespace Go.Proofs.YtkglkbkikgncoaaDoor

open Go.ChangeShapes Go.WideShapes Go.ChangeAt Go.RowKit Go.Shelf

set_option maxRecDepth 100000 in
set_option maxHeartbeats 2000000 in
theorem caught_read (caps : Array Value) (w : World) (Q : Ending → World → Prop) (hq : ∀ e w2, Q e w2 → (e = .returned (.tuple #[]) ∨ e = .panicked gone) ∧ Blk w2 w.heap.size [.bool false] 4)
    (hc : Calls Tryd.prog 20 caps (w.alloc (.cells #[.bool false] 4)) Q) :
    Calls Tryd.prog 19 #[.func (.func 20) #[] caps] w (Caught w.heap.size Q) := by
  have hmf : ∀ (fn : Fn) (first cap : Array Value) (w : World), (Instr.makeFunc fn first cap).run Tryd.prog w = .ok (.func fn first cap) w := fun _ _ _ _ => rfl
  have HC := Lib.hid hc
  have HQ := Lib.hid hq
  clear hc hq
  go_enter_defers Tryd.func19, Tryd.ntmps19
  go_wp2_with fail
  refine HC.out.mono ?_
  intro e w2 hq2
  obtain ⟨he, hb⟩ := HQ.out e w2 hq2
  have hb0 := hb.cell 0 rfl
  have hbf := hb.free 0
  have hbl := hb.lt
  rcases he with rfl | rfl
  · go_wp2_with fail
    refine leaves_cons (f := 40) (args := #[.pointer (some ⟨w.heap.size, 0, none⟩)]) (by simp) (by simp [go_sem]) ?_
    refine (catch_idle w.heap.size _).mono ?_
    rintro e u' w'' ⟨rfl, rfl, rfl⟩
    have q0 := (hb.set 0 (.bool false)).cell 0 rfl
    simp [Leaves, settle, results, Tryd.results19, go_sem, q0]
    exact ⟨_, _, hq2, .inl ⟨rfl, rfl, rfl⟩⟩
  · go_wp2_with fail
    refine leaves_cons (f := 40) (args := #[.pointer (some ⟨w.heap.size, 0, none⟩)]) (by simp) (by simp [go_sem]) ?_
    refine (catch_gone w.heap.size false _ hb).mono ?_
    rintro e u' w'' ⟨rfl, rfl, rfl⟩
    have q0 := ((hb.set 0 (.bool true)).alloc (.cells #[] 83)).cell 0 rfl
    simp [Leaves, settle, results, Tryd.results19, go_sem, q0]
    exact ⟨_, _, hq2, .inr ⟨rfl, rfl, rfl⟩⟩
/-- States of what is read so far: number k, the value v in block O. -/
structure Chain (w : World) (N : Nat) (lines rests : Nat → List UInt8) (St : Nat → Nat → Value → World → Prop) : Prop where
  kp : ∀ k O v w1 w2, Kp w1 w2 → St k O v w1 → St k O v w2
  bool : ∀ k O v w1 B b u, Blk w1 B [.bool b] 4 → St k O v w1 → St k O v (w1.setCell ⟨B, 0, none⟩ u)
  out : ∀ k O v w1, St k O v w1 → Blk w1 O [v] 23 ∧ ∃ a n c, v = .slice a n c
  cut : ∀ k, k < N → rests k ≠ [] ∧ Lib.cut (rests k) [10] = (lines k, rests (k + 1), true)
  short : ∀ k, (rests k).length ≤ 100000
  step : ∀ k O v w1 S, k < N → w.heap.size ≤ O → Kp w w1 → St k O v w1 → Blk w1 S [sv (lines k)] 9 → Calls Tryd.prog 20 #[.pointer (some ⟨O, 0, none⟩), .pointer (some ⟨S, 0, none⟩)] w1 fun e w2 =>
    e = .returned (.tuple #[]) ∧ (∃ v2, St (k + 1) O v2 w2) ∧ Kp w w2 ∧ ∀ B b, Blk w1 B [.bool b] 4 → Blk w2 B [.bool b] 4
theorem cut_run (s : List UInt8) (hs : s.length ≤ 100000) (w : World) (he : Env w) :
    Calls Tryd.prog 18 #[sv s, .string ⟨#[10]⟩] w fun e w' => e = .returned (.tuple #[sv (Lib.cut s [10]).1, sv (Lib.cut s [10]).2.1, .bool (Lib.cut s [10]).2.2]) ∧ Kp w w' := by
  obtain ⟨m, t, f, hh⟩ := he.maxl
  refine (Tryd.strings_Cut ⟨s.toArray⟩ ⟨#[10]⟩ m w (by rw [size_sv]; omega) (by simp [World.cell?, hh])).mono ?_
  rintro e w' ⟨rfl, n, rfl⟩
  exact ⟨rfl, (by (repeat (first | with_reducible assumption | with_reducible exact Kp.refl _ | with_reducible refine Kp.drew ?_ | with_reducible refine Kp.drewN ?_ _ | with_reducible refine Kp.alloc ?_ _ | ((with_reducible refine Kp.setCell ?_ ?_ _); rotate_left; (focus (first | omega | (simp; done) | (simp; omega)))) | with_reducible refine Kp.trans ?_ (by assumption))))⟩
end Go.Proofs.YtkglkbkikgncoaaDoor
