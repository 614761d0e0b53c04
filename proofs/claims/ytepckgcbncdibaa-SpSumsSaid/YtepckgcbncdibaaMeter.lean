/- A sum that is watched. -/
import Derived.Test.YtepckgcbncdibaaSpC
import Derived.Test.YtepckgcbncdibaaBlk2
namespace Go.Proofs.Ytepckgcbncdibaa
open Go.RowKit

/-- A meter's cells. -/
def met (s : Int) (o : Bool) : List Value := [.int .i64 s, .bool o]
theorem spNew_any (w : World) : Calls Try.prog 31 #[] w fun e w' => e = .returned (.pointer (some ⟨w.heap.size, 0, none⟩)) ∧ w' = w.alloc (.cells #[.int .i64 0, .bool false] 100) := by
  go_enter Try.func31, Try.ntmps31
  go_wp2
  go_ret
  exact ⟨rfl, rfl⟩

theorem byAdd2 (p : Nat) (s a u : Int) (v : Bool) (w : World) (y0 : w.cell? ⟨p, 0, none⟩ = some (.int .i64 s)) (y1 : w.cell? ⟨p, 1, none⟩ = some (.bool false)) (f0 : w.frozen? ⟨p, 0, none⟩ = false) (f1 : w.frozen? ⟨p, 1, none⟩ = false)
    (AD : Hid (∀ w : World, Calls Try.prog 25 #[.int .i64 s, .int .i64 a] w fun e w' => e = .returned (.tuple #[.int .i64 u, .bool v]) ∧ w = w')) :
    Calls Try.prog 75 #[.pointer (some ⟨p, 0, none⟩), .int .i64 a, .func (Fn.func 25) #[] #[]] w fun e w' => e = .returned (.bool v) ∧ w' = (w.setCell ⟨p, 0, none⟩ (.int .i64 u)).setCell ⟨p, 1, none⟩ (.bool (!v)) := by
  go_enter Try.func75, Try.ntmps75
  go_wp2_with (go_at_call 25; go_must (refine (AD.out _).mono ?_); rintro e w' ⟨rfl, rfl⟩)
  go_ret
  exact ⟨rfl, rfl⟩

theorem byAdd_any (p : Nat) (s a : Int) (w : World) (hp : Blk w p (met s false) 100) (hs : I64 s) (ha : I64 a) :
    Calls Try.prog 32 #[.pointer (some ⟨p, 0, none⟩), .int .i64 a] w fun e w' => e = .returned (.bool (fits (s + a))) ∧ w' = (w.setCell ⟨p, 0, none⟩ (.int .i64 (clip (s + a)))).setCell ⟨p, 1, none⟩ (.bool (!fits (s + a))) := by
  have ad := fun w => spAdd_any s a w hs.1 hs.2 ha.1 ha.2
  obtain ⟨u, hu⟩ : ∃ u, clip (s + a) = u := ⟨_, rfl⟩
  obtain ⟨v, hv⟩ : ∃ v, fits (s + a) = v := ⟨_, rfl⟩
  rw [hu, hv] at ad ⊢
  have AD := Lib.hid ad
  clear ad hu hv hs ha
  have y0 : w.cell? ⟨p, 0, none⟩ = some (.int .i64 s) := hp.cell 0 rfl
  have y1 : w.cell? ⟨p, 1, none⟩ = some (.bool false) := hp.cell 1 rfl
  have f0 := hp.free 0
  have f1 := hp.free 1
  go_enter Try.func32, Try.ntmps32
  go_wp2_with fail
  refine Calls.mono (byAdd2 p s a u v w y0 y1 f0 f1 AD) ?_
  rintro e w1 ⟨rfl, hw⟩
  go_wp2
  go_ret
  exact ⟨rfl, rfl⟩
theorem byAdd_spoilt (p : Nat) (a : Int) (w : World) (y1 : w.cell? ⟨p, 1, none⟩ = some (.bool true)) :
    Calls Try.prog 32 #[.pointer (some ⟨p, 0, none⟩), .int .i64 a] w fun e w' => e = .returned (.bool false) ∧ w' = w := by
  go_enter Try.func32, Try.ntmps32
  go_wp2
  go_ret
  exact ⟨rfl, rfl⟩
theorem byAdd_nil (a : Int) (w : World) :
    Calls Try.prog 32 #[.pointer none, .int .i64 a] w fun e w' => e = .returned (.bool false) ∧ w' = w := by
  go_enter Try.func32, Try.ntmps32
  go_wp2
  go_ret
  exact ⟨rfl, rfl⟩

theorem bySub2 (p : Nat) (s a u : Int) (v : Bool) (w : World) (y0 : w.cell? ⟨p, 0, none⟩ = some (.int .i64 s)) (y1 : w.cell? ⟨p, 1, none⟩ = some (.bool false)) (f0 : w.frozen? ⟨p, 0, none⟩ = false) (f1 : w.frozen? ⟨p, 1, none⟩ = false)
    (AD : Hid (∀ w : World, Calls Try.prog 26 #[.int .i64 s, .int .i64 a] w fun e w' => e = .returned (.tuple #[.int .i64 u, .bool v]) ∧ w = w')) :
    Calls Try.prog 75 #[.pointer (some ⟨p, 0, none⟩), .int .i64 a, .func (Fn.func 26) #[] #[]] w fun e w' => e = .returned (.bool v) ∧ w' = (w.setCell ⟨p, 0, none⟩ (.int .i64 u)).setCell ⟨p, 1, none⟩ (.bool (!v)) := by
  go_enter Try.func75, Try.ntmps75
  go_wp2_with (go_at_call 26; go_must (refine (AD.out _).mono ?_); rintro e w' ⟨rfl, rfl⟩)
  go_ret
  exact ⟨rfl, rfl⟩

theorem bySub_any (p : Nat) (s a : Int) (w : World) (hp : Blk w p (met s false) 100) (hs : I64 s) (ha : I64 a) :
    Calls Try.prog 33 #[.pointer (some ⟨p, 0, none⟩), .int .i64 a] w fun e w' => e = .returned (.bool (fits (s - a))) ∧ w' = (w.setCell ⟨p, 0, none⟩ (.int .i64 (clip (s - a)))).setCell ⟨p, 1, none⟩ (.bool (!fits (s - a))) := by
  have ad := fun w => spSub_any s a w hs.1 hs.2 ha.1 ha.2
  obtain ⟨u, hu⟩ : ∃ u, clip (s - a) = u := ⟨_, rfl⟩
  obtain ⟨v, hv⟩ : ∃ v, fits (s - a) = v := ⟨_, rfl⟩
  rw [hu, hv] at ad ⊢
  have AD := Lib.hid ad
  clear ad hu hv hs ha
  have y0 : w.cell? ⟨p, 0, none⟩ = some (.int .i64 s) := hp.cell 0 rfl
  have y1 : w.cell? ⟨p, 1, none⟩ = some (.bool false) := hp.cell 1 rfl
  have f0 := hp.free 0
  have f1 := hp.free 1
  go_enter Try.func33, Try.ntmps33
  go_wp2_with fail
  refine Calls.mono (bySub2 p s a u v w y0 y1 f0 f1 AD) ?_
  rintro e w1 ⟨rfl, hw⟩
  go_wp2
  go_ret
  exact ⟨rfl, rfl⟩
theorem bySub_spoilt (p : Nat) (a : Int) (w : World) (y1 : w.cell? ⟨p, 1, none⟩ = some (.bool true)) :
    Calls Try.prog 33 #[.pointer (some ⟨p, 0, none⟩), .int .i64 a] w fun e w' => e = .returned (.bool false) ∧ w' = w := by
  go_enter Try.func33, Try.ntmps33
  go_wp2
  go_ret
  exact ⟨rfl, rfl⟩
theorem bySub_nil (a : Int) (w : World) :
    Calls Try.prog 33 #[.pointer none, .int .i64 a] w fun e w' => e = .returned (.bool false) ∧ w' = w := by
  go_enter Try.func33, Try.ntmps33
  go_wp2
  go_ret
  exact ⟨rfl, rfl⟩

theorem value_any (p : Nat) (s : Int) (w : World) (y0 : w.cell? ⟨p, 0, none⟩ = some (.int .i64 s)) (y1 : w.cell? ⟨p, 1, none⟩ = some (.bool false)) :
    Calls Try.prog 30 #[.pointer (some ⟨p, 0, none⟩)] w fun e w' => e = .returned (.tuple #[.int .i64 s, .bool true]) ∧ w' = w := by
  go_enter Try.func30, Try.ntmps30
  go_wp2
  go_ret2
  exact ⟨rfl, rfl⟩
theorem value_spoilt (p : Nat) (w : World) (y1 : w.cell? ⟨p, 1, none⟩ = some (.bool true)) :
    Calls Try.prog 30 #[.pointer (some ⟨p, 0, none⟩)] w fun e w' => e = .returned (.tuple #[.int .i64 0, .bool false]) ∧ w' = w := by
  go_enter Try.func30, Try.ntmps30
  go_wp2
  go_ret2
  exact ⟨rfl, rfl⟩
theorem value_nil (w : World) :
    Calls Try.prog 30 #[.pointer none] w fun e w' => e = .returned (.tuple #[.int .i64 0, .bool false]) ∧ w' = w := by
  go_enter Try.func30, Try.ntmps30
  go_wp2
  go_ret2
  exact ⟨rfl, rfl⟩
theorem spIs_any (a x : Int) (o y : Bool) (w : World) :
    Calls Try.prog 34 #[.int .i64 a, .bool o, .agg #[.int .i64 x, .bool y]] w fun e w' => e = .returned (.bool (a == x && o == y)) ∧ Kp w w' := by
  by_cases h : a = x
  · have hb : (a == x) = true := beq_iff_eq.2 h
    rw [hb]
    cases o <;> cases y
    all_goals
      go_enter Try.func34, Try.ntmps34
      go_wp2
      go_ret
      exact ⟨ret_bool (by simp), (by (repeat (first | with_reducible assumption | with_reducible exact Kp.refl _ | with_reducible refine Kp.drew ?_ | with_reducible refine Kp.drewN ?_ _ | with_reducible refine Kp.alloc ?_ _ | ((with_reducible refine Kp.setCell ?_ ?_ _); rotate_left; (focus (first | omega | (simp; done) | (simp; omega)))) | with_reducible refine Kp.trans ?_ (by assumption))))⟩
  · have hb : (a == x) = false := beq_eq_false_iff_ne.2 h
    rw [hb]
    go_enter Try.func34, Try.ntmps34
    go_wp2
    go_ret
    exact ⟨rfl, (by (repeat (first | with_reducible assumption | with_reducible exact Kp.refl _ | with_reducible refine Kp.drew ?_ | with_reducible refine Kp.drewN ?_ _ | with_reducible refine Kp.alloc ?_ _ | ((with_reducible refine Kp.setCell ?_ ?_ _); rotate_left; (focus (first | omega | (simp; done) | (simp; omega)))) | with_reducible refine Kp.trans ?_ (by assumption))))⟩

set_option maxHeartbeats 1000000 in
theorem spAwake_any (w : World) : Calls Try.prog 29 #[] w fun e w' => e = .returned (.bool true) ∧ Kp w w' := by
  have u := fun w => spUp_any (-7) 5 w ⟨by decide, by decide⟩ ⟨by decide, by decide⟩
  have uv : upTo (-7) 5 = some (-5) := by decide
  rw [uv] at u
  have m := fun w => spMul_any 1099511627776 1073741824 w ⟨by decide, by decide⟩ ⟨by decide, by decide⟩
  have mv : clip (1099511627776 * 1073741824) = 0 := by decide
  have mf : fits (1099511627776 * 1073741824) = false := by decide
  rw [mv, mf] at m
  have U := Lib.hid u; have M := Lib.hid m
  clear u m uv mv mf
  go_enter Try.func29, Try.ntmps29
  go_wp2_with fail
  refine (U.out _).mono ?_
  rintro e v1 ⟨rfl, rfl⟩
  go_wp2_with fail
  refine (M.out _).mono ?_
  rintro e v2 ⟨rfl, rfl⟩
  go_wp2_with fail
  refine (spNew_any _).mono ?_
  rintro e v3 ⟨rfl, hv3⟩
  have x0 : Blk v3 w.heap.size (met 0 false) 100 := by subst hv3; exact Blk.new _ _ _
  have k3 : Kp w v3 := by subst hv3; exact (by (repeat (first | with_reducible assumption | with_reducible exact Kp.refl _ | with_reducible refine Kp.drew ?_ | with_reducible refine Kp.drewN ?_ _ | with_reducible refine Kp.alloc ?_ _ | ((with_reducible refine Kp.setCell ?_ ?_ _); rotate_left; (focus (first | omega | (simp; done) | (simp; omega)))) | with_reducible refine Kp.trans ?_ (by assumption))))
  clear hv3
  go_wp2_with fail
  refine (byAdd_any _ _ _ _ x0 ⟨by decide, by decide⟩ ⟨by decide, by decide⟩).mono ?_
  rintro e v4 ⟨rfl, hv4⟩
  rw [show fits (0 + 3) = true by decide, show clip (0 + 3) = 3 by decide] at *
  have x1 : Blk v4 w.heap.size (met 3 false) 100 := by subst hv4; exact (x0.set 0 _).set 1 _
  have k4 : Kp w v4 := by subst hv4; exact (by (repeat (first | with_reducible assumption | with_reducible exact Kp.refl _ | with_reducible refine Kp.drew ?_ | with_reducible refine Kp.drewN ?_ _ | with_reducible refine Kp.alloc ?_ _ | ((with_reducible refine Kp.setCell ?_ ?_ _); rotate_left; (focus (first | omega | (simp; done) | (simp; omega)))) | with_reducible refine Kp.trans ?_ (by assumption))))
  clear hv4 x0
  go_wp2_with fail
  refine (bySub_any _ _ _ _ x1 ⟨by decide, by decide⟩ ⟨by decide, by decide⟩).mono ?_
  rintro e v5 ⟨rfl, hv5⟩
  rw [show fits (3 - 5) = true by decide] at *
  have k5 : Kp w v5 := by subst hv5; exact (by (repeat (first | with_reducible assumption | with_reducible exact Kp.refl _ | with_reducible refine Kp.drew ?_ | with_reducible refine Kp.drewN ?_ _ | with_reducible refine Kp.alloc ?_ _ | ((with_reducible refine Kp.setCell ?_ ?_ _); rotate_left; (focus (first | omega | (simp; done) | (simp; omega)))) | with_reducible refine Kp.trans ?_ (by assumption))))
  clear hv5 x1
  go_wp2
  go_ret
  exact ⟨rfl, (by (repeat (first | with_reducible assumption | with_reducible exact Kp.refl _ | with_reducible refine Kp.drew ?_ | with_reducible refine Kp.drewN ?_ _ | with_reducible refine Kp.alloc ?_ _ | ((with_reducible refine Kp.setCell ?_ ?_ _); rotate_left; (focus (first | omega | (simp; done) | (simp; omega)))) | with_reducible refine Kp.trans ?_ (by assumption))))⟩
end Go.Proofs.Ytepckgcbncdibaa
