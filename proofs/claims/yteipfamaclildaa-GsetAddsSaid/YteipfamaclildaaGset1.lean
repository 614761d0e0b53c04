/- Totals that are set to a height: the small walks. -/
import Derived.Test.YteipfamaclildaaTot2

import Derived.Test.YteipfamaclildaaTypesA

import Derived.Test.YteipfamaclildaaHeld

import Derived.Deep.CutBlock

namespace Go.Proofs.Yteipfamaclildaa

open Go.ChangeShapes Go.WideShapes Go.ChangeAt Go.RowKit

structure Sett where
  how : Int
  ord : Int
  amt : Int
  full : Int
  left : Int
/-- Its cells. -/
def Sett.cells (x : Sett) : List Value := [.int .i64 x.how, .int .i64 x.ord, .int .i64 x.amt, .int .i64 x.full, .int .i64 x.left]
/-- The value. -/
def Sett.v (x : Sett) : Value := .agg #[.int .i64 x.how, .int .i64 x.ord, .int .i64 x.amt, .int .i64 x.full, .int .i64 x.left]
def Sett.ok (x : Sett) : Prop := I64 x.how ∧ I64 x.ord ∧ I64 x.amt ∧ I64 x.full ∧ I64 x.left
theorem Sett.of_cells {cs : List Value} (h : Open.allOk [.int .i64, .int .i64, .int .i64, .int .i64, .int .i64] cs) : ∃ x : Sett, cs = x.cells ∧ x.ok := by
  obtain _ | ⟨c0, cs⟩ := cs; · exact absurd h id
  obtain _ | ⟨c1, cs⟩ := cs; · exact absurd h.2 id
  obtain _ | ⟨c2, cs⟩ := cs; · exact absurd h.2.2 id
  obtain _ | ⟨c3, cs⟩ := cs; · exact absurd h.2.2.2 id
  obtain _ | ⟨c4, cs⟩ := cs; · exact absurd h.2.2.2.2 id
  obtain _ | ⟨c, cs⟩ := cs; rotate_left; · exact absurd h.2.2.2.2.2 id
  obtain ⟨⟨x0, rfl, w0⟩, ⟨x1, rfl, w1⟩, ⟨x2, rfl, w2⟩, ⟨x3, rfl, w3⟩, ⟨x4, rfl, w4⟩, _⟩ := h
  exact ⟨⟨x0, x1, x2, x3, x4⟩, rfl, ⟨Open.i64_of w0, Open.i64_of w1, Open.i64_of w2, Open.i64_of w3, Open.i64_of w4⟩⟩
theorem Open.flat_sett : Open.flatK Try.prog 4 69 = some [.int .i64, .int .i64, .int .i64, .int .i64, .int .i64] := by kernel_rfl
set_option maxRecDepth 100000 in
theorem Open.open_sett {H : Type} {enc : TypeId × Value → H} {w : World} {base : Nat} {spare : Nat → Bool} {held : Bool} {r : Reach} {b0 : Nat} {v : Value} {d : DataW H} {p : List MemPlace}
    (hv : Value.okWide Try.prog w r b0 69 v) (h : DataW.Trod enc Try.prog w base spare held 69 v d p) : ∃ x : Sett, v = x.v ∧ x.ok := by
  obtain ⟨cs, hc, hk⟩ := Open.open_flat 4 Open.flat_sett (by rw [Try.underlying69]; rfl) hv h
  subst hc
  obtain ⟨x, rfl, hx⟩ := Sett.of_cells hk
  exact ⟨x, rfl, hx⟩
def Open.zero_sett : Value := .agg #[.int .i64 0, .int .i64 0, .int .i64 0, .int .i64 0, .int .i64 0]

/-- From 0 to 2^50. -/
def inF (n : Int) : Bool := decide (0 ≤ n) && decide (n ≤ 1125899906842624)
theorem inF_yes {n : Int} (h : 0 ≤ n) (h' : n ≤ 1125899906842624) : inF n = true := by unfold inF; rw [decide_eq_true h, decide_eq_true h']; rfl
theorem inF_no {n : Int} (h : n < 0 ∨ 1125899906842624 < n) : inF n = false := by
  unfold inF
  rcases h with h | h
  · rw [decide_eq_false (show ¬ 0 ≤ n by omega)]; rfl
  · rw [decide_eq_false (show ¬ n ≤ 1125899906842624 by omega)]; simp
theorem inF_iff {n : Int} : inF n = true ↔ 0 ≤ n ∧ n ≤ 1125899906842624 := by unfold inF; simp
/-- Are all numbers of a total from 0 to 2^50? -/
def fldT (t : Tot) : Bool := inF t.s0 && (inF t.s1 && (inF t.s2 && (inF t.s3 && (inF t.nat && inF t.shr))))
theorem fldT_iff {t : Tot} : fldT t = true ↔ inF t.nat = true ∧ inF t.s0 = true ∧ inF t.s1 = true ∧ inF t.s2 = true ∧ inF t.s3 = true ∧ inF t.shr = true := by
  unfold fldT
  simp only [Bool.and_eq_true]
  exact ⟨fun ⟨a, b, c, d, e, f⟩ => ⟨e, a, b, c, d, f⟩, fun ⟨e, a, b, c, d, f⟩ => ⟨a, b, c, d, e, f⟩⟩

theorem gfair_any (x : Int) (w : World) : Calls Try.prog 67 #[.int .i64 x] w fun e w' => e = .returned (.bool (inF x)) ∧ w = w' := by
  unfold inF
  by_cases h : 0 ≤ x
  · have h1 : decide (0 ≤ x) = true := decide_eq_true h
    rw [h1]
    go_enter Try.func67, Try.ntmps67
    go_wp2
    go_ret
    exact ⟨rfl, rfl⟩
  · have h1 : decide (0 ≤ x) = false := decide_eq_false h
    rw [h1]
    go_enter Try.func67, Try.ntmps67
    go_wp2
    go_ret
    exact ⟨rfl, rfl⟩
theorem idxFour (a0 a1 a2 a3 : Int) (w : World) {j : Nat} {x : Int} (hj : [a0, a1, a2, a3][j]? = some x) : (Instr.index 29 (.agg #[.int .i64 a0, .int .i64 a1, .int .i64 a2, .int .i64 a3]) (.int .i64 (j : Int))).run Try.prog w = .ok (.int .i64 x) w := by
  have hs : ∀ w, (sizeOf 28).run Try.prog w = .ok 1 w := fun _ => by kernel_rfl
  have ha : ∀ w, (isAgg 28).run Try.prog w = .ok false w := fun _ => by kernel_rfl
  have hl : j < 4 := (List.getElem?_eq_some_iff.1 hj).1
  have hp : ∀ w (xs : Array Value) i (v : Value), xs[i]? = some v → (part 28 xs i).run Try.prog w = .ok v w := by
    intro w xs i v h
    simp [part, ha, h]
  have hv : (#[Value.int .i64 a0, .int .i64 a1, .int .i64 a2, .int .i64 a3] : Array Value)[j]? = some (.int .i64 x) := by
    obtain rfl | rfl | rfl | rfl : j = 0 ∨ j = 1 ∨ j = 2 ∨ j = 3 := by omega
    all_goals (simp at hj; subst hj; rfl)
  simp only [Instr.index, asIntOf, Sem.run_bind, Sem.run_pure, Result.andThen_ok, run_underlying Try.underlying29]
  rw [if_pos (by omega)]
  simp only [Sem.run_bind, hs, Result.andThen_ok, Int.toNat_natCast, Nat.mul_one]
  exact hp _ _ _ _ hv
set_option maxRecDepth 100000 in
set_option maxHeartbeats 1000000 in
theorem gfields_any (a0 a1 a2 a3 a4 a5 : Int) (w : World) : Calls Try.prog 61 #[.agg #[.int .i64 a0, .int .i64 a1, .int .i64 a2, .int .i64 a3, .int .i64 a4, .int .i64 a5]] w fun e w' => e = .returned (.bool (fldT ⟨a0, a1, a2, a3, a4, a5⟩)) ∧ Kp w w' := by
  unfold fldT
  simp only
  have f := gfair_any
  obtain ⟨b1, h1⟩ : ∃ b, inF a1 = b := ⟨_, rfl⟩
  obtain ⟨b2, h2⟩ : ∃ b, inF a2 = b := ⟨_, rfl⟩
  obtain ⟨b3, h3⟩ : ∃ b, inF a3 = b := ⟨_, rfl⟩
  obtain ⟨b4, h4⟩ : ∃ b, inF a4 = b := ⟨_, rfl⟩
  obtain ⟨b0, h0⟩ : ∃ b, inF a0 = b := ⟨_, rfl⟩
  obtain ⟨b5, h5⟩ : ∃ b, inF a5 = b := ⟨_, rfl⟩
  have f0 := f a0; have f1 := f a1; have f2 := f a2; have f3 := f a3; have f4 := f a4; have f5 := f a5
  rw [h0] at f0 ⊢; rw [h1] at f1 ⊢; rw [h2] at f2 ⊢; rw [h3] at f3 ⊢; rw [h4] at f4 ⊢; rw [h5] at f5 ⊢
  have F0 := Lib.hid f0; have F1 := Lib.hid f1; have F2 := Lib.hid f2; have F3 := Lib.hid f3; have F4 := Lib.hid f4; have F5 := Lib.hid f5
  clear f f0 f1 f2 f3 f4 f5 h0 h1 h2 h3 h4 h5
  have i0 := fun w => idxFour a1 a2 a3 a4 w (j := 0) rfl
  have i1 := fun w => idxFour a1 a2 a3 a4 w (j := 1) rfl
  have i2 := fun w => idxFour a1 a2 a3 a4 w (j := 2) rfl
  have i3 := fun w => idxFour a1 a2 a3 a4 w (j := 3) rfl
  simp only [Int.cast_ofNat_Int] at i0 i1 i2 i3
  go_enter Try.func61, Try.ntmps61
  go_wp2
  refine wp_loop_rounds 5 ?_
  repeat any_goals (rw [rounds_succ]; go_wp2_with (first
    | ((go_at_call_of 67 (Value.int IntKind.i64 a1)); go_must (refine (F1.out _).mono ?_); rintro e w' ⟨rfl, rfl⟩; cases b1)
    | ((go_at_call_of 67 (Value.int IntKind.i64 a2)); go_must (refine (F2.out _).mono ?_); rintro e w' ⟨rfl, rfl⟩; cases b2)
    | ((go_at_call_of 67 (Value.int IntKind.i64 a3)); go_must (refine (F3.out _).mono ?_); rintro e w' ⟨rfl, rfl⟩; cases b3)
    | ((go_at_call_of 67 (Value.int IntKind.i64 a4)); go_must (refine (F4.out _).mono ?_); rintro e w' ⟨rfl, rfl⟩; cases b4)
    | ((go_at_call_of 67 (Value.int IntKind.i64 a0)); go_must (refine (F0.out _).mono ?_); rintro e w' ⟨rfl, rfl⟩; cases b0)
    | ((go_at_call_of 67 (Value.int IntKind.i64 a5)); go_must (refine (F5.out _).mono ?_); rintro e w' ⟨rfl, rfl⟩; cases b5)))
  all_goals go_ret
  all_goals exact ⟨ret_bool (by first | rfl | simp), (by (repeat (first | with_reducible assumption | with_reducible exact Kp.refl _ | with_reducible refine Kp.drew ?_ | with_reducible refine Kp.drewN ?_ _ | with_reducible refine Kp.alloc ?_ _ | ((with_reducible refine Kp.setCell ?_ ?_ _); rotate_left; (focus (first | omega | (simp; done) | (simp; omega)))) | with_reducible refine Kp.trans ?_ (by assumption))))⟩
/-- Is a total right, with a height? -/
def rightT (t : Tot) (high : Int) : Bool := fldT t && (decide (-1125899906842624 ≤ high) && decide (high ≤ 1125899906842624))
set_option maxRecDepth 100000 in
theorem gright_any (a0 a1 a2 a3 a4 a5 high : Int) (w : World) : Calls Try.prog 34 #[.agg #[.int .i64 a0, .int .i64 a1, .int .i64 a2, .int .i64 a3, .int .i64 a4, .int .i64 a5], .int .i64 high] w fun e w' => e = .returned (.bool (rightT ⟨a0, a1, a2, a3, a4, a5⟩ high)) ∧ Kp w w' := by
  have cF := gfields_any a0 a1 a2 a3 a4 a5
  unfold rightT
  obtain ⟨b, hb⟩ : ∃ b, fldT ⟨a0, a1, a2, a3, a4, a5⟩ = b := ⟨_, rfl⟩
  rw [hb] at cF ⊢
  have CF := Lib.hid cF
  clear cF hb
  cases b with
  | false =>
    go_enter Try.func34, Try.ntmps34
    go_wp2_with (go_at_call 61; go_must (refine (CF.out _).mono ?_); rintro e w' ⟨rfl, kk⟩)
    go_ret
    exact ⟨rfl, (by (repeat (first | with_reducible assumption | with_reducible exact Kp.refl _ | with_reducible refine Kp.drew ?_ | with_reducible refine Kp.drewN ?_ _ | with_reducible refine Kp.alloc ?_ _ | ((with_reducible refine Kp.setCell ?_ ?_ _); rotate_left; (focus (first | omega | (simp; done) | (simp; omega)))) | with_reducible refine Kp.trans ?_ (by assumption))))⟩
  | true =>
    by_cases h : -1125899906842624 ≤ high
    · have h1 : decide (-1125899906842624 ≤ high) = true := decide_eq_true h
      rw [h1]
      go_enter Try.func34, Try.ntmps34
      go_wp2_with (go_at_call 61; go_must (refine (CF.out _).mono ?_); rintro e w' ⟨rfl, kk⟩)
      go_ret
      exact ⟨rfl, (by (repeat (first | with_reducible assumption | with_reducible exact Kp.refl _ | with_reducible refine Kp.drew ?_ | with_reducible refine Kp.drewN ?_ _ | with_reducible refine Kp.alloc ?_ _ | ((with_reducible refine Kp.setCell ?_ ?_ _); rotate_left; (focus (first | omega | (simp; done) | (simp; omega)))) | with_reducible refine Kp.trans ?_ (by assumption))))⟩
    · have h1 : decide (-1125899906842624 ≤ high) = false := decide_eq_false h
      rw [h1]
      go_enter Try.func34, Try.ntmps34
      go_wp2_with (go_at_call 61; go_must (refine (CF.out _).mono ?_); rintro e w' ⟨rfl, kk⟩)
      go_ret
      exact ⟨rfl, (by (repeat (first | with_reducible assumption | with_reducible exact Kp.refl _ | with_reducible refine Kp.drew ?_ | with_reducible refine Kp.drewN ?_ _ | with_reducible refine Kp.alloc ?_ _ | ((with_reducible refine Kp.setCell ?_ ?_ _); rotate_left; (focus (first | omega | (simp; done) | (simp; omega)))) | with_reducible refine Kp.trans ?_ (by assumption))))⟩
theorem nums9_any (a0 a1 a2 a3 a4 a5 : Int) (w : World) :
    Calls Try.prog 66 #[.agg #[.int .i64 a0, .int .i64 a1, .int .i64 a2, .int .i64 a3, .int .i64 a4, .int .i64 a5]] w fun e w' => e = .returned (.agg #[.int .i64 a0, .int .i64 a1, .int .i64 a2, .int .i64 a3, .int .i64 a4, .int .i64 a5]) ∧ Kp w w' := by
  go_enter Try.func66, Try.ntmps66
  go_wp2
  exact bodyPost_ret (v := .agg #[.int .i64 a0, .int .i64 a1, .int .i64 a2, .int .i64 a3, .int .i64 a4, .int .i64 a5]) (by simp [results, Try.results66, go_sem]) rfl ⟨rfl, (by (repeat (first | with_reducible assumption | with_reducible exact Kp.refl _ | with_reducible refine Kp.drew ?_ | with_reducible refine Kp.drewN ?_ _ | with_reducible refine Kp.alloc ?_ _ | ((with_reducible refine Kp.setCell ?_ ?_ _); rotate_left; (focus (first | omega | (simp; done) | (simp; omega)))) | with_reducible refine Kp.trans ?_ (by assumption))))⟩
theorem nth_fld {a0 a1 a2 a3 a4 a5 : Int} : fldT ⟨a0, a1, a2, a3, a4, a5⟩ = true ↔ ∀ j, j < 6 → inF (nth [a0, a1, a2, a3, a4, a5] j) = true := by
  rw [fldT_iff]
  constructor
  · rintro ⟨h0, h1, h2, h3, h4, h5⟩ j hj
    obtain rfl | rfl | rfl | rfl | rfl | rfl : j = 0 ∨ j = 1 ∨ j = 2 ∨ j = 3 ∨ j = 4 ∨ j = 5 := by omega
    all_goals assumption
  · intro h
    exact ⟨h 0 (by decide), h 1 (by decide), h 2 (by decide), h 3 (by decide), h 4 (by decide), h 5 (by decide)⟩
set_option maxHeartbeats 1000000 in
theorem refField_any (a0 a1 a2 a3 a4 a5 : Int) (w : World) : Calls Try.prog 41 #[.agg #[.int .i64 a0, .int .i64 a1, .int .i64 a2, .int .i64 a3, .int .i64 a4, .int .i64 a5]] w fun e w' => e = .returned (.bool (fldT ⟨a0, a1, a2, a3, a4, a5⟩)) ∧ Kp w w' := by
  go_enter Try.func41, Try.ntmps41
  go_wp2_with (go_at_call 66; go_must (refine (nums9_any _ _ _ _ _ _ _).mono ?_); rintro e w1 ⟨rfl, kk⟩)
  refine named_world (F := fun W => Blk W w1.heap.size (ints [a0, a1, a2, a3, a4, a5]) 87 ∧ Kp w W) ⟨?_, (by (repeat (first | with_reducible assumption | with_reducible exact Kp.refl _ | with_reducible refine Kp.drew ?_ | with_reducible refine Kp.drewN ?_ _ | with_reducible refine Kp.alloc ?_ _ | ((with_reducible refine Kp.setCell ?_ ?_ _); rotate_left; (focus (first | omega | (simp; done) | (simp; omega)))) | with_reducible refine Kp.trans ?_ (by assumption))))⟩ ?_
  · (repeat (first | with_reducible assumption | ((with_reducible refine Blk.newL ?_ ?_); (focus (first | (simp; done) | omega)); rfl) | with_reducible refine Blk.drew ?_ | with_reducible refine Blk.drewN ?_ _ | with_reducible refine Blk.alloc ?_ _ | ((with_reducible refine Blk.other ?_ ?_ _); rotate_left; (focus (first | with_reducible assumption | omega | (simp; done) | (simp; omega))))))
  rintro w2 ⟨xb, xk⟩
  clear kk
  go_loopw [4] (fun v4 wr => ∃ k : Nat, k ≤ 6 ∧ v4 = .int .i64 k ∧ w2 = wr ∧ Hid (∀ j, j < k → inF (nth [a0, a1, a2, a3, a4, a5] j) = true)) (fun v4 _ => 6 - (intOf v4).toNat)
  case atStart => exact ⟨0, by omega, rfl, rfl, Lib.hid (fun j hj => by omega)⟩
  case round =>
    obtain ⟨k, hk, rfl, rfl, hs⟩ := hrel
    by_cases hlt : k < 6
    · have c0 := xb.int k hlt
      obtain ⟨x, hx⟩ : ∃ x, nth [a0, a1, a2, a3, a4, a5] k = x := ⟨_, rfl⟩
      rw [hx] at c0
      have HX := Lib.hid hx
      clear hx
      by_cases h0 : x < 0
      · have hn : fldT ⟨a0, a1, a2, a3, a4, a5⟩ = false := by
          cases hf : fldT ⟨a0, a1, a2, a3, a4, a5⟩ with
          | false => rfl
          | true => have := nth_fld.1 hf k hlt; rw [HX.out, inF_no (by omega)] at this; cases this
        have HN := Lib.hid hn
        clear hn
        go_wp2
        go_ret
        exact ⟨ret_bool HN.out.symm, (by (repeat (first | with_reducible assumption | with_reducible exact Kp.refl _ | with_reducible refine Kp.drew ?_ | with_reducible refine Kp.drewN ?_ _ | with_reducible refine Kp.alloc ?_ _ | ((with_reducible refine Kp.setCell ?_ ?_ _); rotate_left; (focus (first | omega | (simp; done) | (simp; omega)))) | with_reducible refine Kp.trans ?_ (by assumption))))⟩
      · have d0 : decide (x < 0) = false := decide_eq_false h0
        by_cases h1 : 1125899906842624 < x
        · have hn : fldT ⟨a0, a1, a2, a3, a4, a5⟩ = false := by
            cases hf : fldT ⟨a0, a1, a2, a3, a4, a5⟩ with
            | false => rfl
            | true => have := nth_fld.1 hf k hlt; rw [HX.out, inF_no (by omega)] at this; cases this
          have HN := Lib.hid hn
          clear hn
          go_wp2
          go_ret
          exact ⟨ret_bool HN.out.symm, (by (repeat (first | with_reducible assumption | with_reducible exact Kp.refl _ | with_reducible refine Kp.drew ?_ | with_reducible refine Kp.drewN ?_ _ | with_reducible refine Kp.alloc ?_ _ | ((with_reducible refine Kp.setCell ?_ ?_ _); rotate_left; (focus (first | omega | (simp; done) | (simp; omega)))) | with_reducible refine Kp.trans ?_ (by assumption))))⟩
        · have d1 : decide (1125899906842624 < x) = false := decide_eq_false h1
          have hi : inF x = true := inF_yes (by omega) (by omega)
          have HI := Lib.hid hi
          clear hi
          go_wp2
          go_roundw
          case rel =>
            refine ⟨k + 1, by omega, by go_num, by first | trivial | rfl, Lib.hid (fun j hj => ?_)⟩
            rcases Nat.lt_or_ge j k with c | c
            · exact hs.out j c
            · obtain rfl : j = k := by omega
              rw [HX.out]; exact HI.out
          case measure => simp [intOf]; omega
    · obtain rfl : k = 6 := by omega
      have hy := nth_fld.2 hs.out
      have HY := Lib.hid hy
      clear hy hs
      go_wp2
      go_ret
      exact ⟨ret_bool HY.out.symm, (by (repeat (first | with_reducible assumption | with_reducible exact Kp.refl _ | with_reducible refine Kp.drew ?_ | with_reducible refine Kp.drewN ?_ _ | with_reducible refine Kp.alloc ?_ _ | ((with_reducible refine Kp.setCell ?_ ?_ _); rotate_left; (focus (first | omega | (simp; done) | (simp; omega)))) | with_reducible refine Kp.trans ?_ (by assumption))))⟩
set_option maxRecDepth 100000 in
theorem refRight9_any (a0 a1 a2 a3 a4 a5 high : Int) (w : World) : Calls Try.prog 35 #[.agg #[.int .i64 a0, .int .i64 a1, .int .i64 a2, .int .i64 a3, .int .i64 a4, .int .i64 a5], .int .i64 high] w fun e w' => e = .returned (.bool (rightT ⟨a0, a1, a2, a3, a4, a5⟩ high)) ∧ Kp w w' := by
  have cF := refField_any a0 a1 a2 a3 a4 a5
  unfold rightT
  obtain ⟨b, hb⟩ : ∃ b, fldT ⟨a0, a1, a2, a3, a4, a5⟩ = b := ⟨_, rfl⟩
  rw [hb] at cF ⊢
  have CF := Lib.hid cF
  clear cF hb
  cases b with
  | false =>
    go_enter Try.func35, Try.ntmps35
    go_wp2_with (go_at_call 41; go_must (refine (CF.out _).mono ?_); rintro e w' ⟨rfl, kk⟩)
    go_ret
    first | exact ⟨rfl, (by (repeat (first | with_reducible assumption | with_reducible exact Kp.refl _ | with_reducible refine Kp.drew ?_ | with_reducible refine Kp.drewN ?_ _ | with_reducible refine Kp.alloc ?_ _ | ((with_reducible refine Kp.setCell ?_ ?_ _); rotate_left; (focus (first | omega | (simp; done) | (simp; omega)))) | with_reducible refine Kp.trans ?_ (by assumption))))⟩ | exact ⟨trivial, (by (repeat (first | with_reducible assumption | with_reducible exact Kp.refl _ | with_reducible refine Kp.drew ?_ | with_reducible refine Kp.drewN ?_ _ | with_reducible refine Kp.alloc ?_ _ | ((with_reducible refine Kp.setCell ?_ ?_ _); rotate_left; (focus (first | omega | (simp; done) | (simp; omega)))) | with_reducible refine Kp.trans ?_ (by assumption))))⟩
  | true =>
    by_cases h : -1125899906842624 ≤ high
    · have h1 : decide (-1125899906842624 ≤ high) = true := decide_eq_true h
      rw [h1]
      go_enter Try.func35, Try.ntmps35
      go_wp2_with (go_at_call 41; go_must (refine (CF.out _).mono ?_); rintro e w' ⟨rfl, kk⟩)
      go_ret
      first | exact ⟨rfl, (by (repeat (first | with_reducible assumption | with_reducible exact Kp.refl _ | with_reducible refine Kp.drew ?_ | with_reducible refine Kp.drewN ?_ _ | with_reducible refine Kp.alloc ?_ _ | ((with_reducible refine Kp.setCell ?_ ?_ _); rotate_left; (focus (first | omega | (simp; done) | (simp; omega)))) | with_reducible refine Kp.trans ?_ (by assumption))))⟩ | exact ⟨trivial, (by (repeat (first | with_reducible assumption | with_reducible exact Kp.refl _ | with_reducible refine Kp.drew ?_ | with_reducible refine Kp.drewN ?_ _ | with_reducible refine Kp.alloc ?_ _ | ((with_reducible refine Kp.setCell ?_ ?_ _); rotate_left; (focus (first | omega | (simp; done) | (simp; omega)))) | with_reducible refine Kp.trans ?_ (by assumption))))⟩
    · have h1 : decide (-1125899906842624 ≤ high) = false := decide_eq_false h
      rw [h1]
      go_enter Try.func35, Try.ntmps35
      go_wp2_with (go_at_call 41; go_must (refine (CF.out _).mono ?_); rintro e w' ⟨rfl, kk⟩)
      go_ret
      first | exact ⟨rfl, (by (repeat (first | with_reducible assumption | with_reducible exact Kp.refl _ | with_reducible refine Kp.drew ?_ | with_reducible refine Kp.drewN ?_ _ | with_reducible refine Kp.alloc ?_ _ | ((with_reducible refine Kp.setCell ?_ ?_ _); rotate_left; (focus (first | omega | (simp; done) | (simp; omega)))) | with_reducible refine Kp.trans ?_ (by assumption))))⟩ | exact ⟨trivial, (by (repeat (first | with_reducible assumption | with_reducible exact Kp.refl _ | with_reducible refine Kp.drew ?_ | with_reducible refine Kp.drewN ?_ _ | with_reducible refine Kp.alloc ?_ _ | ((with_reducible refine Kp.setCell ?_ ?_ _); rotate_left; (focus (first | omega | (simp; done) | (simp; omega)))) | with_reducible refine Kp.trans ?_ (by assumption))))⟩
end Go.Proofs.Yteipfamaclildaa
