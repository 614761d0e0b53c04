/- A galley's lines: a thing where there is no lane; what Read's closure makes of take. -/
import Derived.Test.YtkglkbkikgncoaaDoorG15

namespace Go.Proofs.YtkglkbkikgncoaaDoor

open Go.ChangeShapes Go.WideShapes Go.ChangeAt Go.RowKit Go.Shelf

set_option maxRecDepth 100000 in
set_option maxHeartbeats 8000000 in
theorem take_nolane (s : List UInt8) (wd : List UInt8) (ns : List Int) (base : Nat) (qs : List Page) (k g vc : Nat) (la : Option Addr) (lc : Nat) (ll : List Lane) (pt pf pl : Int)
    (hp : parseP s = some (wd, ns)) (hw1 : wd ≠ wPage) (hw2 : wd ≠ wLane) (hs : s.length ≤ 10000) (hk : qs.length = k) (w : World) (he : Env w)
    (hr : Row w base 49 4 Page.cells (.slice (some ⟨g, 0, none⟩) (k + 1) vc) (qs ++ [⟨⟨la, 0, lc, ll⟩, pt, pf, pl⟩])) :
    Calls Tryd.prog 21 #[.slice (some ⟨g, 0, none⟩) (k + 1) vc, sv s] w fun e w' => e = .panicked gone ∧ Kp w w' := by
  have CPA := Lib.hid (parse_any s hs w he)
  have hgg := (hr.lt g rfl).2
  obtain ⟨-, hvc1, hvm⟩ := hr.shape1 (by rw [List.length_append, List.length_singleton]; omega)
  unfold maxLen at hvm
  have P0 := Row.cellN (enc := Page.cells) (fun _ => rfl) hr rfl (get_last hk) (j := 0) rfl
  simp only [Nat.add_zero] at P0
  have n1 : (wd == [112, 97, 103, 101]) = false := beq_eq_false_iff_ne.2 hw1
  have n2 : (wd == [108, 97, 110, 101]) = false := beq_eq_false_iff_ne.2 hw2
  clear he hr hw1 hw2
  go_enter Tryd.func21, Tryd.ntmps21
  go_wp2_with fail
  refine CPA.out.mono ?_
  rintro e w1 ⟨k1, ⟨wd', ns', na, nc, hp2, rfl, hsl, hn⟩ | ⟨hp2, _⟩⟩
  rotate_left
  · rw [hp] at hp2; cases hp2
  rw [hp] at hp2
  simp only [Option.some.injEq, Prod.mk.injEq] at hp2
  obtain ⟨rfl, rfl⟩ := hp2
  have p1 := (k1.cell (p := ⟨g, k * 4, none⟩) hgg).trans P0
  have hgg1 := Nat.lt_of_lt_of_le hgg k1.size
  clear hsl CPA P0
  have j1 : decide ((k : Int) < 0) = false := decide_eq_false (by omega)
  have ek : (k : Int) < (k : Int) + 1 := by omega
  go_wp2_with fail
  exact ⟨rfl, rfl, (by (repeat (first | with_reducible assumption | with_reducible exact Kp.refl _ | with_reducible refine Kp.drew ?_ | with_reducible refine Kp.drewN ?_ _ | with_reducible refine Kp.alloc ?_ _ | ((with_reducible refine Kp.setCell ?_ ?_ _); rotate_left; (focus (first | omega | (simp; done) | (simp; omega)))) | with_reducible refine Kp.trans ?_ (by assumption))))⟩
set_option maxRecDepth 100000 in
set_option maxHeartbeats 4000000 in
theorem closure_ok (va : Option Addr) (vn vc : Nat) (line : List UInt8) (O S : Nat) (w : World) (P : Value → World → Prop) (hO : Blk w O [.slice va vn vc] 23) (hS : Blk w S [sv line] 9)
    (hT : Calls Tryd.prog 21 #[.slice va vn vc, sv line] w fun e w2 => ∃ a n c, e = .returned (.slice a n c) ∧ Blk w2 O [.slice va vn vc] 23 ∧ P (.slice a n c) w2) :
    Calls Tryd.prog 20 #[.pointer (some ⟨O, 0, none⟩), .pointer (some ⟨S, 0, none⟩)] w fun e w' => e = .returned (.tuple #[]) ∧ ∃ a n c w2, P (.slice a n c) w2 ∧ Blk w2 O [.slice va vn vc] 23 ∧ w' = w2.setCell ⟨O, 0, none⟩ (.slice a n c) := by
  have HT := Lib.hid hT
  have o0 := hO.cell 0 rfl
  have s0 := hS.cell 0 rfl
  clear hT
  go_enter Tryd.func20, Tryd.ntmps20
  go_wp2_with fail
  refine HT.out.mono ?_
  rintro e w2 ⟨a, n, c, rfl, hb, hP⟩
  have z0 := hb.cell 0 rfl
  have f0 := hb.free 0
  go_wp2_with fail
  exact ⟨rfl, _, results_none rfl _ _ _, rfl, a, n, c, w2, hP, hb, rfl⟩
set_option maxRecDepth 100000 in
set_option maxHeartbeats 4000000 in
theorem closure_bad (va : Option Addr) (vn vc : Nat) (line : List UInt8) (O S : Nat) (w : World) (P : World → Prop) (hO : Blk w O [.slice va vn vc] 23) (hS : Blk w S [sv line] 9)
    (hT : Calls Tryd.prog 21 #[.slice va vn vc, sv line] w fun e w2 => e = .panicked gone ∧ P w2) :
    Calls Tryd.prog 20 #[.pointer (some ⟨O, 0, none⟩), .pointer (some ⟨S, 0, none⟩)] w fun e w' => e = .panicked gone ∧ P w' := by
  have HT := Lib.hid hT
  have o0 := hO.cell 0 rfl
  have s0 := hS.cell 0 rfl
  clear hT
  go_enter Tryd.func20, Tryd.ntmps20
  go_wp2_with fail
  refine HT.out.mono ?_
  rintro e w2 ⟨rfl, hP⟩
  go_wp2_with fail
  exact ⟨rfl, rfl, hP⟩
end Go.Proofs.YtkglkbkikgncoaaDoor
