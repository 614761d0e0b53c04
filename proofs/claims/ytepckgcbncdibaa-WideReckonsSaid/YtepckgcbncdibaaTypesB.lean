/- The flat types of this seat's laws, as Lean structures. -/
import Derived.Test.YtepckgcbncdibaaFlat
namespace Go.Proofs.Ytepckgcbncdibaa
open Go.ChangeShapes Go.WideShapes Go.ChangeAt Go.RowKit

def U64 (x : Int) : Prop := 0 ≤ x ∧ x ≤ 18446744073709551615
structure Four where
  a0 : Int
  a1 : Int
  a2 : Int
  a3 : Int
/-- Its cells. -/
def Four.cells (x : Four) : List Value := [.int .i64 x.a0, .int .i64 x.a1, .int .i64 x.a2, .int .i64 x.a3]
/-- The value. -/
def Four.v (x : Four) : Value := .agg #[.int .i64 x.a0, .int .i64 x.a1, .int .i64 x.a2, .int .i64 x.a3]
def Four.ok (x : Four) : Prop := I64 x.a0 ∧ I64 x.a1 ∧ I64 x.a2 ∧ I64 x.a3
theorem Four.of_cells {cs : List Value} (h : Open.allOk [.int .i64, .int .i64, .int .i64, .int .i64] cs) : ∃ x : Four, cs = x.cells ∧ x.ok := by
  obtain _ | ⟨c0, cs⟩ := cs; · exact absurd h id
  obtain _ | ⟨c1, cs⟩ := cs; · exact absurd h.2 id
  obtain _ | ⟨c2, cs⟩ := cs; · exact absurd h.2.2 id
  obtain _ | ⟨c3, cs⟩ := cs; · exact absurd h.2.2.2 id
  obtain _ | ⟨c, cs⟩ := cs; rotate_left; · exact absurd h.2.2.2.2 id
  obtain ⟨⟨x0, rfl, w0⟩, ⟨x1, rfl, w1⟩, ⟨x2, rfl, w2⟩, ⟨x3, rfl, w3⟩, _⟩ := h
  exact ⟨⟨x0, x1, x2, x3⟩, rfl, ⟨Open.i64_of w0, Open.i64_of w1, Open.i64_of w2, Open.i64_of w3⟩⟩
theorem Open.flat_four : Open.flatK Try.prog 4 30 = some [.int .i64, .int .i64, .int .i64, .int .i64] := by kernel_rfl
set_option maxRecDepth 100000 in
theorem Open.open_four {H : Type} {enc : TypeId × Value → H} {w : World} {base : Nat} {spare : Nat → Bool} {held : Bool} {r : Reach} {b0 : Nat} {v : Value} {d : DataW H} {p : List MemPlace}
    (hv : Value.okWide Try.prog w r b0 30 v) (h : DataW.Trod enc Try.prog w base spare held 30 v d p) : ∃ x : Four, v = x.v ∧ x.ok := by
  obtain ⟨cs, hc, hk⟩ := Open.open_flat 4 Open.flat_four (by rw [Try.underlying30]; rfl) hv h
  subst hc
  obtain ⟨x, rfl, hx⟩ := Four.of_cells hk
  exact ⟨x, rfl, hx⟩
def Open.zero_four : Value := .agg #[.int .i64 0, .int .i64 0, .int .i64 0, .int .i64 0]
structure Wnum where
  hi : Int
  lo : Int
/-- Its cells. -/
def Wnum.cells (x : Wnum) : List Value := [.int .u64 x.hi, .int .u64 x.lo]
/-- The value. -/
def Wnum.v (x : Wnum) : Value := .agg #[.int .u64 x.hi, .int .u64 x.lo]
def Wnum.ok (x : Wnum) : Prop := U64 x.hi ∧ U64 x.lo
theorem Wnum.of_cells {cs : List Value} (h : Open.allOk [.int .u64, .int .u64] cs) : ∃ x : Wnum, cs = x.cells ∧ x.ok := by
  obtain _ | ⟨c0, cs⟩ := cs; · exact absurd h id
  obtain _ | ⟨c1, cs⟩ := cs; · exact absurd h.2 id
  obtain _ | ⟨c, cs⟩ := cs; rotate_left; · exact absurd h.2.2 id
  obtain ⟨⟨x0, rfl, w0⟩, ⟨x1, rfl, w1⟩, _⟩ := h
  exact ⟨⟨x0, x1⟩, rfl, ⟨Open.bounds_u64 w0, Open.bounds_u64 w1⟩⟩
theorem Open.flat_wnum : Open.flatK Try.prog 4 64 = some [.int .u64, .int .u64] := by kernel_rfl
set_option maxRecDepth 100000 in
theorem Open.open_wnum {H : Type} {enc : TypeId × Value → H} {w : World} {base : Nat} {spare : Nat → Bool} {held : Bool} {r : Reach} {b0 : Nat} {v : Value} {d : DataW H} {p : List MemPlace}
    (hv : Value.okWide Try.prog w r b0 64 v) (h : DataW.Trod enc Try.prog w base spare held 64 v d p) : ∃ x : Wnum, v = x.v ∧ x.ok := by
  obtain ⟨cs, hc, hk⟩ := Open.open_flat 4 Open.flat_wnum (by rw [Try.underlying64]; rfl) hv h
  subst hc
  obtain ⟨x, rfl, hx⟩ := Wnum.of_cells hk
  exact ⟨x, rfl, hx⟩
def Open.zero_wnum : Value := .agg #[.int .u64 0, .int .u64 0]
end Go.Proofs.Ytepckgcbncdibaa
