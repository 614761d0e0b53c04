/- The flat types of this seat's laws, as Lean structures. -/
import Derived.Test.YteipfamaclildaaFlat

namespace Go.Proofs.Yteipfamaclildaa

open Go.ChangeShapes Go.WideShapes Go.ChangeAt Go.RowKit

structure Four where
  a0 : Int
  a1 : Int
  a2 : Int
  a3 : Int
/-- Its cells. -/
def Four.cells (x : Four) : List Value := [.int .i64 x.a0, .int .i64 x.a1, .int .i64 x.a2, .int .i64 x.a3]
/-- The value. -/
def Four.v (x : Four) : Value := .agg #[.int .i64 x.a0, .int .i64 x.a1, .int .i64 x.a2, .int .i64 x.a3]
def Four.ok (x : Four) : Prop := I64 x.a0 ∧ I64 x.a1 ∧ I64 x.a2 ∧ I64 x.a3
theorem Four.of_cells {cs : List Value} (h : Open.allOk [.int .i64, .int .i64, .int .i64, .int .i64] cs) : ∃ x : Four, cs = x.cells ∧ x.ok := by
  obtain _ | ⟨c0, cs⟩ := cs; · exact absurd h id
  obtain _ | ⟨c1, cs⟩ := cs; · exact absurd h.2 id
  obtain _ | ⟨c2, cs⟩ := cs; · exact absurd h.2.2 id
  obtain _ | ⟨c3, cs⟩ := cs; · exact absurd h.2.2.2 id
  obtain _ | ⟨c, cs⟩ := cs; rotate_left; · exact absurd h.2.2.2.2 id
  obtain ⟨⟨x0, rfl, w0⟩, ⟨x1, rfl, w1⟩, ⟨x2, rfl, w2⟩, ⟨x3, rfl, w3⟩, _⟩ := h
  exact ⟨⟨x0, x1, x2, x3⟩, rfl, ⟨Open.i64_of w0, Open.i64_of w1, Open.i64_of w2, Open.i64_of w3⟩⟩
theorem Open.flat_four : Open.flatK Try.prog 4 29 = some [.int .i64, .int .i64, .int .i64, .int .i64] := by kernel_rfl
set_option maxRecDepth 100000 in
theorem Open.open_four {H : Type} {enc : TypeId × Value → H} {w : World} {base : Nat} {spare : Nat → Bool} {held : Bool} {r : Reach} {b0 : Nat} {v : Value} {d : DataW H} {p : List MemPlace}
    (hv : Value.okWide Try.prog w r b0 29 v) (h : DataW.Trod enc Try.prog w base spare held 29 v d p) : ∃ x : Four, v = x.v ∧ x.ok := by
  obtain ⟨cs, hc, hk⟩ := Open.open_flat 4 Open.flat_four (by rw [Try.underlying29]; rfl) hv h
  subst hc
  obtain ⟨x, rfl, hx⟩ := Four.of_cells hk
  exact ⟨x, rfl, hx⟩
def Open.zero_four : Value := .agg #[.int .i64 0, .int .i64 0, .int .i64 0, .int .i64 0]
structure Tot where
  nat : Int
  s0 : Int
  s1 : Int
  s2 : Int
  s3 : Int
  shr : Int
/-- Its cells. -/
def Tot.cells (x : Tot) : List Value := [.int .i64 x.nat, .int .i64 x.s0, .int .i64 x.s1, .int .i64 x.s2, .int .i64 x.s3, .int .i64 x.shr]
/-- The value. -/
def Tot.v (x : Tot) : Value := .agg #[.int .i64 x.nat, .int .i64 x.s0, .int .i64 x.s1, .int .i64 x.s2, .int .i64 x.s3, .int .i64 x.shr]
def Tot.ok (x : Tot) : Prop := I64 x.nat ∧ I64 x.s0 ∧ I64 x.s1 ∧ I64 x.s2 ∧ I64 x.s3 ∧ I64 x.shr
theorem Tot.of_cells {cs : List Value} (h : Open.allOk [.int .i64, .int .i64, .int .i64, .int .i64, .int .i64, .int .i64] cs) : ∃ x : Tot, cs = x.cells ∧ x.ok := by
  obtain _ | ⟨c0, cs⟩ := cs; · exact absurd h id
  obtain _ | ⟨c1, cs⟩ := cs; · exact absurd h.2 id
  obtain _ | ⟨c2, cs⟩ := cs; · exact absurd h.2.2 id
  obtain _ | ⟨c3, cs⟩ := cs; · exact absurd h.2.2.2 id
  obtain _ | ⟨c4, cs⟩ := cs; · exact absurd h.2.2.2.2 id
  obtain _ | ⟨c5, cs⟩ := cs; · exact absurd h.2.2.2.2.2 id
  obtain _ | ⟨c, cs⟩ := cs; rotate_left; · exact absurd h.2.2.2.2.2.2 id
  obtain ⟨⟨x0, rfl, w0⟩, ⟨x1, rfl, w1⟩, ⟨x2, rfl, w2⟩, ⟨x3, rfl, w3⟩, ⟨x4, rfl, w4⟩, ⟨x5, rfl, w5⟩, _⟩ := h
  exact ⟨⟨x0, x1, x2, x3, x4, x5⟩, rfl, ⟨Open.i64_of w0, Open.i64_of w1, Open.i64_of w2, Open.i64_of w3, Open.i64_of w4, Open.i64_of w5⟩⟩
theorem Open.flat_tot : Open.flatK Try.prog 4 31 = some [.int .i64, .int .i64, .int .i64, .int .i64, .int .i64, .int .i64] := by kernel_rfl
set_option maxRecDepth 100000 in
theorem Open.open_tot {H : Type} {enc : TypeId × Value → H} {w : World} {base : Nat} {spare : Nat → Bool} {held : Bool} {r : Reach} {b0 : Nat} {v : Value} {d : DataW H} {p : List MemPlace}
    (hv : Value.okWide Try.prog w r b0 31 v) (h : DataW.Trod enc Try.prog w base spare held 31 v d p) : ∃ x : Tot, v = x.v ∧ x.ok := by
  obtain ⟨cs, hc, hk⟩ := Open.open_flat 4 Open.flat_tot (by rw [Try.underlying31]; rfl) hv h
  subst hc
  obtain ⟨x, rfl, hx⟩ := Tot.of_cells hk
  exact ⟨x, rfl, hx⟩
def Open.zero_tot : Value := .agg #[.int .i64 0, .int .i64 0, .int .i64 0, .int .i64 0, .int .i64 0, .int .i64 0]
structure Cost where
  over : Int
  sum : Int
/-- Its cells. -/
def Cost.cells (x : Cost) : List Value := [.int .i64 x.over, .int .i64 x.sum]
/-- The value. -/
def Cost.v (x : Cost) : Value := .agg #[.int .i64 x.over, .int .i64 x.sum]
def Cost.ok (x : Cost) : Prop := I64 x.over ∧ I64 x.sum
theorem Cost.of_cells {cs : List Value} (h : Open.allOk [.int .i64, .int .i64] cs) : ∃ x : Cost, cs = x.cells ∧ x.ok := by
  obtain _ | ⟨c0, cs⟩ := cs; · exact absurd h id
  obtain _ | ⟨c1, cs⟩ := cs; · exact absurd h.2 id
  obtain _ | ⟨c, cs⟩ := cs; rotate_left; · exact absurd h.2.2 id
  obtain ⟨⟨x0, rfl, w0⟩, ⟨x1, rfl, w1⟩, _⟩ := h
  exact ⟨⟨x0, x1⟩, rfl, ⟨Open.i64_of w0, Open.i64_of w1⟩⟩
def Open.zero_cost : Value := .agg #[.int .i64 0, .int .i64 0]
end Go.Proofs.Yteipfamaclildaa
