/- A galley's lines: a line's thing, or the way out; what catches it. -/
import Derived.Test.YtkglkbkikgncoaaDoorG5

import Derived.Recover

import Derived.Laws.Pointers

namespace Go.Proofs.YtkglkbkikgncoaaDoor

open Go.ChangeShapes Go.WideShapes Go.ChangeAt Go.RowKit Go.Shelf

theorem len2 {l : List Int} (h : l.length = 2) : ∃ a b, l = [a, b] := by
  obtain _ | ⟨a, _ | ⟨b, _ | ⟨c, l⟩⟩⟩ := l <;> simp at h
  exact ⟨a, b, rfl⟩
theorem len3 {l : List Int} (h : l.length = 3) : ∃ a b c, l = [a, b, c] := by
  obtain _ | ⟨a, l⟩ := l
  · cases h
  · obtain ⟨b, c, rfl⟩ := len2 (l := l) (by simpa using h)
    exact ⟨a, b, c, rfl⟩
theorem len4 {l : List Int} (h : l.length = 4) : ∃ a b c d, l = [a, b, c, d] := by
  obtain _ | ⟨a, l⟩ := l
  · cases h
  · obtain ⟨b, c, d, rfl⟩ := len3 (l := l) (by simpa using h)
    exact ⟨a, b, c, d, rfl⟩
theorem len5 {l : List Int} (h : l.length = 5) : ∃ a b c d e, l = [a, b, c, d, e] := by
  obtain _ | ⟨a, l⟩ := l
  · cases h
  · obtain ⟨b, c, d, e, rfl⟩ := len4 (l := l) (by simpa using h)
    exact ⟨a, b, c, d, e, rfl⟩
theorem putOf_box {ns : List Int} (h : ns.length ≠ 3) : putOf wBox ns = none := by
  unfold putOf; rw [if_pos rfl]; split
  · exact absurd rfl h
  · rfl
theorem putOf_float {ns : List Int} (h : ns.length ≠ 3) : putOf wFloat ns = none := by
  unfold putOf; rw [if_neg (by decide), if_pos rfl]; split
  · exact absurd rfl h
  · rfl
theorem putOf_rule {ns : List Int} (h : ns.length ≠ 2) : putOf wRule ns = none := by
  unfold putOf; rw [if_neg (by decide), if_neg (by decide), if_pos rfl]; split
  · exact absurd rfl h
  · rfl
theorem putOf_line {ns : List Int} (h : ns.length ≠ 4) : putOf wLine ns = none := by
  unfold putOf; rw [if_neg (by decide), if_neg (by decide), if_neg (by decide), if_pos rfl]; split
  · exact absurd rfl h
  · rfl
theorem putOf_thing {ns : List Int} (h : ns.length ≠ 5) : putOf wThing ns = none := by
  unfold putOf; rw [if_neg (by decide), if_neg (by decide), if_neg (by decide), if_neg (by decide), if_pos rfl]; split
  · exact absurd rfl h
  · rfl
def PutEnd (w : World) (wd : List UInt8) (ns : List Int) (e : Ending) (w' : World) : Prop := Kp w w' ∧ ((∃ p, putOf wd ns = some p ∧ e = .returned (.agg p.cells.toArray)) ∨ (putOf wd ns = none ∧ e = .panicked gone))
theorem putc_any (wd : List UInt8) (ns : List Int) (a : Option Addr) (c : Nat) (w : World) (hl : SlOk w 1 enc1 a ns.length c ns) :
    Calls Tryd.prog 26 #[.agg #[sv wd, .slice a ns.length c]] w (PutEnd w wd ns) := by
  by_cases e1 : wd = wBox
  · subst e1
    by_cases h : ns.length = 3
    · obtain ⟨n, y, x, rfl⟩ := len3 h
      exact (putBox_yes a c n y x w hl).mono fun e w' hh => ⟨hh.2, .inl ⟨_, rfl, hh.1⟩⟩
    · exact (putBox_many a _ c w h).mono fun e w' hh => ⟨hh.2, .inr ⟨putOf_box h, hh.1⟩⟩
  by_cases e2 : wd = wFloat
  · subst e2
    by_cases h : ns.length = 3
    · obtain ⟨n, y, x, rfl⟩ := len3 h
      exact (putFloat_yes a c n y x w hl).mono fun e w' hh => ⟨hh.2, .inl ⟨_, rfl, hh.1⟩⟩
    · exact (putFloat_many a _ c w h).mono fun e w' hh => ⟨hh.2, .inr ⟨putOf_float h, hh.1⟩⟩
  by_cases e3 : wd = wRule
  · subst e3
    by_cases h : ns.length = 2
    · obtain ⟨y, x, rfl⟩ := len2 h
      exact (putRule_yes a c y x w hl).mono fun e w' hh => ⟨hh.2, .inl ⟨_, rfl, hh.1⟩⟩
    · exact (putRule_many a _ c w h).mono fun e w' hh => ⟨hh.2, .inr ⟨putOf_rule h, hh.1⟩⟩
  by_cases e4 : wd = wLine
  · subst e4
    by_cases h : ns.length = 4
    · obtain ⟨n, l, y, x, rfl⟩ := len4 h
      exact (putLine_yes a c n l y x w hl).mono fun e w' hh => ⟨hh.2, .inl ⟨_, rfl, hh.1⟩⟩
    · exact (putLine_many a _ c w h).mono fun e w' hh => ⟨hh.2, .inr ⟨putOf_line h, hh.1⟩⟩
  by_cases e5 : wd = wThing
  · subst e5
    by_cases h : ns.length = 5
    · obtain ⟨k, n, l, y, x, rfl⟩ := len5 h
      have hk : putOf wThing [k, n, l, y, x] = if k < 1 ∨ 4 < k then some ⟨k, n, l, y, x⟩ else none := rfl
      by_cases h1 : k < 1
      · exact (putThing_low a c k n l y x w hl h1).mono fun e w' hh => ⟨hh.2, .inl ⟨_, by rw [hk, if_pos (.inl h1)], hh.1⟩⟩
      by_cases h2 : 4 < k
      · exact (putThing_high a c k n l y x w hl h1 h2).mono fun e w' hh => ⟨hh.2, .inl ⟨_, by rw [hk, if_pos (.inr h2)], hh.1⟩⟩
      exact (putThing_no a c k n l y x w hl h1 h2).mono fun e w' hh => ⟨hh.2, .inr ⟨by rw [hk, if_neg (by omega)], hh.1⟩⟩
    · exact (putThing_many a _ c w h).mono fun e w' hh => ⟨hh.2, .inr ⟨putOf_thing h, hh.1⟩⟩
  · exact (putOther_no wd a _ c w e1 e2 e3 e4 e5).mono fun e w' hh => ⟨hh.2, .inr ⟨by unfold putOf; rw [if_neg e1, if_neg e2, if_neg e3, if_neg e4, if_neg e5], hh.1⟩⟩
theorem tmps40 (p x : Value) : #[p] ++ ((Array.replicate 14 undef).setIfInBounds 3 x).setIfInBounds 0 x = #[p, x, undef, undef, x, undef, undef, undef, undef, undef, undef, undef, undef, undef, undef] := rfl
abbrev caughtM : FrameMode := .panicking [{ v := .iface 83 (.agg #[]), recovered := true }]
set_option maxRecDepth 100000 in
set_option maxHeartbeats 1000000 in
theorem catch_gone (B : Nat) (b : Bool) (w : World) (hb : Blk w B [.bool b] 4) :
    CallsD Tryd.prog 40 #[.pointer (some ⟨B, 0, none⟩)] (.panicking gone) w fun e u' w' =>
      e = .returned (.tuple #[]) ∧ u' = caughtM ∧ w' = (w.setCell ⟨B, 0, none⟩ (.bool true)).alloc (.cells #[] 83) := by
  have hta : ∀ w : World, (Instr.typeAssert (.iface 83 (.agg #[])) 20 83 true).run Tryd.prog w = .ok (.tuple #[.agg #[], .bool true]) w := fun _ => by kernel_rfl
  have hc := hb.cell 0 rfl
  have hp := hb.lt
  have hz := (hb.alloc (.cells #[] 83)).free 0
  refine callsD_of_wpS Tryd.func40 rfl fun c₀ cs hu => ?_
  apply wpS_seq
  apply wpS_region
  simp [wpOpsS, go_sem, recoverD, hu, Tryd.ntmps40, Exit.thenS]
  refine wpS_of_wp ?_
  rw [tmps40]
  go_wp2_with fail
  simp [bodyPostS, results, Tryd.results40, go_sem]
set_option maxRecDepth 100000 in
set_option maxHeartbeats 1000000 in
theorem catch_idle (B : Nat) (w : World) :
    CallsD Tryd.prog 40 #[.pointer (some ⟨B, 0, none⟩)] .returning w fun e u' w' => e = .returned (.tuple #[]) ∧ u' = .returning ∧ w' = w := by
  refine callsD_of_wpS Tryd.func40 rfl fun c₀ cs hu => ?_
  apply wpS_seq
  apply wpS_region
  simp [wpOpsS, go_sem, recoverD, hu, Tryd.ntmps40, Exit.thenS]
  refine wpS_of_wp ?_
  rw [tmps40]
  go_wp2_with fail
  cases c₀
  simp_all [bodyPostS, results, Tryd.results40, go_sem]
/-- What 'caught' makes of what its closure does. -/
def Caught (B : Nat) (Q : Ending → World → Prop) (e : Ending) (w' : World) : Prop :=
  ∃ e2 w2, Q e2 w2 ∧ ((e2 = .returned (.tuple #[]) ∧ e = .returned (.bool false) ∧ w' = w2.setCell ⟨B, 0, none⟩ (.bool false)) ∨ (e2 = .panicked gone ∧ e = .returned (.bool true) ∧ w' = (w2.setCell ⟨B, 0, none⟩ (.bool true)).alloc (.cells #[] 83)))
set_option maxRecDepth 100000 in
set_option maxHeartbeats 2000000 in
theorem caught_put (caps : Array Value) (w : World) (Q : Ending → World → Prop) (hq : ∀ e w2, Q e w2 → (e = .returned (.tuple #[]) ∨ e = .panicked gone) ∧ Blk w2 w.heap.size [.bool false] 4)
    (hc : Calls Tryd.prog 24 caps (w.alloc (.cells #[.bool false] 4)) Q) :
    Calls Tryd.prog 19 #[.func (.func 24) #[] caps] w (Caught w.heap.size Q) := by
  have hmf : ∀ (fn : Fn) (first cap : Array Value) (w : World), (Instr.makeFunc fn first cap).run Tryd.prog w = .ok (.func fn first cap) w := fun _ _ _ _ => rfl
  have HC := Lib.hid hc
  have HQ := Lib.hid hq
  clear hc hq
  go_enter_defers Tryd.func19, Tryd.ntmps19
  go_wp2_with fail
  refine HC.out.mono ?_
  intro e w2 hq2
  obtain ⟨he, hb⟩ := HQ.out e w2 hq2
  have hb0 := hb.cell 0 rfl
  have hbf := hb.free 0
  have hbl := hb.lt
  rcases he with rfl | rfl
  · go_wp2_with fail
    refine leaves_cons (f := 40) (args := #[.pointer (some ⟨w.heap.size, 0, none⟩)]) (by simp) (by simp [go_sem]) ?_
    refine (catch_idle w.heap.size _).mono ?_
    rintro e u' w'' ⟨rfl, rfl, rfl⟩
    have q0 := (hb.set 0 (.bool false)).cell 0 rfl
    simp [Leaves, settle, results, Tryd.results19, go_sem, q0]
    exact ⟨_, _, hq2, .inl ⟨rfl, rfl, rfl⟩⟩
  · go_wp2_with fail
    refine leaves_cons (f := 40) (args := #[.pointer (some ⟨w.heap.size, 0, none⟩)]) (by simp) (by simp [go_sem]) ?_
    refine (catch_gone w.heap.size false _ hb).mono ?_
    rintro e u' w'' ⟨rfl, rfl, rfl⟩
    have q0 := ((hb.set 0 (.bool true)).alloc (.cells #[] 83)).cell 0 rfl
    simp [Leaves, settle, results, Tryd.results19, go_sem, q0]
    exact ⟨_, _, hq2, .inr ⟨rfl, rfl, rfl⟩⟩
end Go.Proofs.YtkglkbkikgncoaaDoor
