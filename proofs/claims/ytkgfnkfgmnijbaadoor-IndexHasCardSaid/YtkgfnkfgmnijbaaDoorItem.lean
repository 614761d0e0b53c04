/- Items: the constructors, what a kind may have. -/
import Derived.Test.YtkgfnkfgmnijbaaDoorFlat

import Derived.Test.YtkgfnkfgmnijbaaDoorHeld

import Derived.Test.YtkgfnkfgmnijbaaDoorSl

import Derived.Laws.StructEq

namespace Go.Proofs.YtkgfnkfgmnijbaaDoor

open Go.ChangeShapes Go.WideShapes Go.ChangeAt Go.RowKit

structure Item where
  k : Int
  h : Int
  f : Int
  str : Int
  ord : Int
  shr : Int
  n : Int
/-- Its cells. -/
def Item.cells (x : Item) : List Value := [.int .i64 x.k, .int .i64 x.h, .int .i64 x.f, .int .i64 x.str, .int .i64 x.ord, .int .i64 x.shr, .int .i64 x.n]
/-- The value. -/
def Item.v (x : Item) : Value := .agg #[.int .i64 x.k, .int .i64 x.h, .int .i64 x.f, .int .i64 x.str, .int .i64 x.ord, .int .i64 x.shr, .int .i64 x.n]
def Item.ok (x : Item) : Prop := I64 x.k ∧ I64 x.h ∧ I64 x.f ∧ I64 x.str ∧ I64 x.ord ∧ I64 x.shr ∧ I64 x.n
theorem Item.of_cells {cs : List Value} (h : Open.allOk [.int .i64, .int .i64, .int .i64, .int .i64, .int .i64, .int .i64, .int .i64] cs) : ∃ x : Item, cs = x.cells ∧ x.ok := by
  obtain _ | ⟨c0, cs⟩ := cs; · exact absurd h id
  obtain _ | ⟨c1, cs⟩ := cs; · exact absurd h.2 id
  obtain _ | ⟨c2, cs⟩ := cs; · exact absurd h.2.2 id
  obtain _ | ⟨c3, cs⟩ := cs; · exact absurd h.2.2.2 id
  obtain _ | ⟨c4, cs⟩ := cs; · exact absurd h.2.2.2.2 id
  obtain _ | ⟨c5, cs⟩ := cs; · exact absurd h.2.2.2.2.2 id
  obtain _ | ⟨c6, cs⟩ := cs; · exact absurd h.2.2.2.2.2.2 id
  obtain _ | ⟨c, cs⟩ := cs; rotate_left; · exact absurd h.2.2.2.2.2.2.2 id
  obtain ⟨⟨x0, rfl, w0⟩, ⟨x1, rfl, w1⟩, ⟨x2, rfl, w2⟩, ⟨x3, rfl, w3⟩, ⟨x4, rfl, w4⟩, ⟨x5, rfl, w5⟩, ⟨x6, rfl, w6⟩, _⟩ := h
  exact ⟨⟨x0, x1, x2, x3, x4, x5, x6⟩, rfl, ⟨Open.i64_of w0, Open.i64_of w1, Open.i64_of w2, Open.i64_of w3, Open.i64_of w4, Open.i64_of w5, Open.i64_of w6⟩⟩
theorem Open.flat_item : Open.flatK Tryd.prog 4 54 = some [.int .i64, .int .i64, .int .i64, .int .i64, .int .i64, .int .i64, .int .i64] := by kernel_rfl
set_option maxRecDepth 100000 in
theorem Open.open_item {H : Type} {enc : TypeId × Value → H} {w : World} {base : Nat} {spare : Nat → Bool} {held : Bool} {r : Reach} {b0 : Nat} {v : Value} {d : DataW H} {p : List MemPlace}
    (hv : Value.okWide Tryd.prog w r b0 54 v) (h : DataW.Trod enc Tryd.prog w base spare held 54 v d p) : ∃ x : Item, v = x.v ∧ x.ok := by
  obtain ⟨cs, hc, hk⟩ := Open.open_flat 4 Open.flat_item (by rw [Tryd.underlying54]; rfl) hv h
  subst hc
  obtain ⟨x, rfl, hx⟩ := Item.of_cells hk
  exact ⟨x, rfl, hx⟩
def Open.zero_item : Value := .agg #[.int .i64 0, .int .i64 0, .int .i64 0, .int .i64 0, .int .i64 0, .int .i64 0, .int .i64 0]
set_option maxRecDepth 100000 in
theorem Open.open_items {H : Type} {enc : TypeId × Value → H} {w : World} {r : Reach} {b0 : Nat} {v : Value} {d : DataW H} {p : List MemPlace}
    (hv : Value.okWide Tryd.prog w r b0 40 v) (h : DataW.Trod enc Tryd.prog w 0 (fun _ => true) true 40 v d p) : ∃ x : SlV Item, v = x.v ∧ (SlOk w 7 Item.cells x.a x.len x.cap x.l ∧ ∀ y, y ∈ x.l → Item.ok y) := by
  have hc : Tryd.prog.cellsOf 54 = 7 := by kernel_rfl
  obtain ⟨a, len, cap, l, hv', hs, ho⟩ := Open.open_sl 4 Tryd.underlying40 hc (by decide) Open.flat_item (ok := Item.ok) (fun cs hcs => Item.of_cells hcs) hv h
  exact ⟨⟨a, len, cap, l⟩, hv', hs, ho⟩

set_option maxHeartbeats 1000000 in
theorem eqItem (d : Nat) (w : World) (a0 a1 a2 a3 a4 a5 a6 b0 b1 b2 b3 b4 b5 b6 : Int) :
    (Op.equalIn (d + 2) 54 (.agg #[.int .i64 a0, .int .i64 a1, .int .i64 a2, .int .i64 a3, .int .i64 a4, .int .i64 a5, .int .i64 a6]) (.agg #[.int .i64 b0, .int .i64 b1, .int .i64 b2, .int .i64 b3, .int .i64 b4, .int .i64 b5, .int .i64 b6])).run Tryd.prog w = .ok (a0 == b0 && (a1 == b1 && (a2 == b2 && (a3 == b3 && (a4 == b4 && (a5 == b5 && a6 == b6)))))) w := by
  have hu := Tryd.underlying54
  go_simp
  by_cases h0 : a0 = b0 <;> by_cases h1 : a1 = b1 <;> by_cases h2 : a2 = b2 <;> by_cases h3 : a3 = b3 <;> by_cases h4 : a4 = b4 <;> by_cases h5 : a5 = b5 <;> by_cases h6 : a6 = b6 <;> simp_all

/-- From 0 to m. -/
def upto (m n : Int) : Bool := decide (0 ≤ n ∧ n ≤ m)
theorem upto_yes {m n : Int} (h : 0 ≤ n) (h' : n ≤ m) : upto m n = true := by unfold upto; simp; omega
theorem upto_no {m n : Int} (h : n < 0 ∨ m < n) : upto m n = false := by unfold upto; simp; omega
/-- What a penalty's number may be. -/
def penOk (n : Int) : Bool := n == -10000 || upto 10000 n
theorem alloc_size (w : World) (o : Obj) : (w.alloc o).heap.size = w.heap.size + 1 := by simp
end Go.Proofs.YtkgfnkfgmnijbaaDoor
