/- Items: the constructors, what a kind may have. -/
import Derived.Test.YtepckgcbncdibaaFlat
import Derived.Test.YtepckgcbncdibaaHeld
import Derived.Test.YtepckgcbncdibaaSl
import Derived.Laws.StructEq
namespace Go.Proofs.Ytepckgcbncdibaa
open Go.ChangeShapes Go.WideShapes Go.ChangeAt Go.RowKit

structure Item where
  k : Int
  h : Int
  f : Int
  str : Int
  ord : Int
  shr : Int
  n : Int
/-- Its cells. -/
def Item.cells (x : Item) : List Value := [.int .i64 x.k, .int .i64 x.h, .int .i64 x.f, .int .i64 x.str, .int .i64 x.ord, .int .i64 x.shr, .int .i64 x.n]
/-- The value. -/
def Item.v (x : Item) : Value := .agg #[.int .i64 x.k, .int .i64 x.h, .int .i64 x.f, .int .i64 x.str, .int .i64 x.ord, .int .i64 x.shr, .int .i64 x.n]
def Item.ok (x : Item) : Prop := I64 x.k ∧ I64 x.h ∧ I64 x.f ∧ I64 x.str ∧ I64 x.ord ∧ I64 x.shr ∧ I64 x.n
theorem Item.of_cells {cs : List Value} (h : Open.allOk [.int .i64, .int .i64, .int .i64, .int .i64, .int .i64, .int .i64, .int .i64] cs) : ∃ x : Item, cs = x.cells ∧ x.ok := by
  obtain _ | ⟨c0, cs⟩ := cs; · exact absurd h id
  obtain _ | ⟨c1, cs⟩ := cs; · exact absurd h.2 id
  obtain _ | ⟨c2, cs⟩ := cs; · exact absurd h.2.2 id
  obtain _ | ⟨c3, cs⟩ := cs; · exact absurd h.2.2.2 id
  obtain _ | ⟨c4, cs⟩ := cs; · exact absurd h.2.2.2.2 id
  obtain _ | ⟨c5, cs⟩ := cs; · exact absurd h.2.2.2.2.2 id
  obtain _ | ⟨c6, cs⟩ := cs; · exact absurd h.2.2.2.2.2.2 id
  obtain _ | ⟨c, cs⟩ := cs; rotate_left; · exact absurd h.2.2.2.2.2.2.2 id
  obtain ⟨⟨x0, rfl, w0⟩, ⟨x1, rfl, w1⟩, ⟨x2, rfl, w2⟩, ⟨x3, rfl, w3⟩, ⟨x4, rfl, w4⟩, ⟨x5, rfl, w5⟩, ⟨x6, rfl, w6⟩, _⟩ := h
  exact ⟨⟨x0, x1, x2, x3, x4, x5, x6⟩, rfl, ⟨Open.i64_of w0, Open.i64_of w1, Open.i64_of w2, Open.i64_of w3, Open.i64_of w4, Open.i64_of w5, Open.i64_of w6⟩⟩
theorem Open.flat_item : Open.flatK Try.prog 4 24 = some [.int .i64, .int .i64, .int .i64, .int .i64, .int .i64, .int .i64, .int .i64] := by kernel_rfl
set_option maxRecDepth 100000 in
theorem Open.open_item {H : Type} {enc : TypeId × Value → H} {w : World} {base : Nat} {spare : Nat → Bool} {held : Bool} {r : Reach} {b0 : Nat} {v : Value} {d : DataW H} {p : List MemPlace}
    (hv : Value.okWide Try.prog w r b0 24 v) (h : DataW.Trod enc Try.prog w base spare held 24 v d p) : ∃ x : Item, v = x.v ∧ x.ok := by
  obtain ⟨cs, hc, hk⟩ := Open.open_flat 4 Open.flat_item (by rw [Try.underlying24]; rfl) hv h
  subst hc
  obtain ⟨x, rfl, hx⟩ := Item.of_cells hk
  exact ⟨x, rfl, hx⟩
def Open.zero_item : Value := .agg #[.int .i64 0, .int .i64 0, .int .i64 0, .int .i64 0, .int .i64 0, .int .i64 0, .int .i64 0]
set_option maxRecDepth 100000 in
theorem Open.open_items {H : Type} {enc : TypeId × Value → H} {w : World} {r : Reach} {b0 : Nat} {v : Value} {d : DataW H} {p : List MemPlace}
    (hv : Value.okWide Try.prog w r b0 34 v) (h : DataW.Trod enc Try.prog w 0 (fun _ => true) true 34 v d p) : ∃ x : SlV Item, v = x.v ∧ (SlOk w 7 Item.cells x.a x.len x.cap x.l ∧ ∀ y, y ∈ x.l → Item.ok y) := by
  have hc : Try.prog.cellsOf 24 = 7 := by kernel_rfl
  obtain ⟨a, len, cap, l, hv', hs, ho⟩ := Open.open_sl 4 Try.underlying34 hc (by decide) Open.flat_item (ok := Item.ok) (fun cs hcs => Item.of_cells hcs) hv h
  exact ⟨⟨a, len, cap, l⟩, hv', hs, ho⟩

set_option maxHeartbeats 1000000 in
theorem eqItem (d : Nat) (w : World) (a0 a1 a2 a3 a4 a5 a6 b0 b1 b2 b3 b4 b5 b6 : Int) :
    (Op.equalIn (d + 2) 24 (.agg #[.int .i64 a0, .int .i64 a1, .int .i64 a2, .int .i64 a3, .int .i64 a4, .int .i64 a5, .int .i64 a6]) (.agg #[.int .i64 b0, .int .i64 b1, .int .i64 b2, .int .i64 b3, .int .i64 b4, .int .i64 b5, .int .i64 b6])).run Try.prog w = .ok (a0 == b0 && (a1 == b1 && (a2 == b2 && (a3 == b3 && (a4 == b4 && (a5 == b5 && a6 == b6)))))) w := by
  have hu := Try.underlying24
  go_simp
  by_cases h0 : a0 = b0 <;> by_cases h1 : a1 = b1 <;> by_cases h2 : a2 = b2 <;> by_cases h3 : a3 = b3 <;> by_cases h4 : a4 = b4 <;> by_cases h5 : a5 = b5 <;> by_cases h6 : a6 = b6 <;> simp_all

/-- From 0 to m. -/
def upto (m n : Int) : Bool := decide (0 ≤ n ∧ n ≤ m)
theorem upto_yes {m n : Int} (h : 0 ≤ n) (h' : n ≤ m) : upto m n = true := by unfold upto; simp; omega
theorem upto_no {m n : Int} (h : n < 0 ∨ m < n) : upto m n = false := by unfold upto; simp; omega
theorem upTo1_any (m n : Int) (p : Nat) (w : World) (hp : w.cell? ⟨p, 0, none⟩ = some (.int .i64 m)) :
    Calls Try.prog 93 #[.int .i64 n, .pointer (some ⟨p, 0, none⟩)] w fun e w' => e = .returned (.bool (upto m n)) ∧ w = w' := by
  by_cases h : n < 0
  · rw [upto_no (.inl h)]
    go_enter Try.func93, Try.ntmps93
    go_wp2
    go_ret
    exact ⟨rfl, rfl⟩
  · by_cases h2 : m < n
    · rw [upto_no (.inr h2)]
      have h3 : decide (n ≤ m) = false := by rw [decide_eq_false_iff_not]; omega
      go_enter Try.func93, Try.ntmps93
      go_wp2
      go_ret
      exact ⟨rfl, rfl⟩
    · rw [upto_yes (by omega) (by omega)]
      have h3 : n ≤ m := by omega
      go_enter Try.func93, Try.ntmps93
      go_wp2
      go_ret
      exact ⟨rfl, rfl⟩
theorem upTo_any (m : Int) (w : World) : Calls Try.prog 60 #[.int .i64 m] w fun e w' => e = .returned (.func (Fn.func 93) #[] #[.pointer (some ⟨w.heap.size, 0, none⟩)]) ∧ w' = w.alloc (.cells #[.int .i64 m] 3) := by
  go_enter Try.func60, Try.ntmps60
  go_wp2
  go_ret
  exact ⟨rfl, rfl⟩
theorem box_any (h f : Int) (w : World) : Calls Try.prog 62 #[.int .i64 h, .int .i64 f] w fun e w' => e = .returned (.agg #[.int .i64 1, .int .i64 h, .int .i64 f, .int .i64 0, .int .i64 0, .int .i64 0, .int .i64 0]) ∧ Kp w w' := by
  go_enter Try.func62, Try.ntmps62
  go_wp2
  exact bodyPost_ret (v := .agg #[.int .i64 1, .int .i64 h, .int .i64 f, .int .i64 0, .int .i64 0, .int .i64 0, .int .i64 0]) (by simp [results, Try.results62, go_sem]) rfl ⟨rfl, (by (repeat (first | with_reducible assumption | with_reducible exact Kp.refl _ | with_reducible refine Kp.drew ?_ | with_reducible refine Kp.drewN ?_ _ | with_reducible refine Kp.alloc ?_ _ | ((with_reducible refine Kp.setCell ?_ ?_ _); rotate_left; (focus (first | omega | (simp; done) | (simp; omega)))) | with_reducible refine Kp.trans ?_ (by assumption))))⟩
theorem glue_any (h s o r : Int) (w : World) : Calls Try.prog 63 #[.int .i64 h, .int .i64 s, .int .i64 o, .int .i64 r] w fun e w' => e = .returned (.agg #[.int .i64 2, .int .i64 h, .int .i64 0, .int .i64 s, .int .i64 o, .int .i64 r, .int .i64 0]) ∧ Kp w w' := by
  go_enter Try.func63, Try.ntmps63
  go_wp2
  exact bodyPost_ret (v := .agg #[.int .i64 2, .int .i64 h, .int .i64 0, .int .i64 s, .int .i64 o, .int .i64 r, .int .i64 0]) (by simp [results, Try.results63, go_sem]) rfl ⟨rfl, (by (repeat (first | with_reducible assumption | with_reducible exact Kp.refl _ | with_reducible refine Kp.drew ?_ | with_reducible refine Kp.drewN ?_ _ | with_reducible refine Kp.alloc ?_ _ | ((with_reducible refine Kp.setCell ?_ ?_ _); rotate_left; (focus (first | omega | (simp; done) | (simp; omega)))) | with_reducible refine Kp.trans ?_ (by assumption))))⟩
theorem pen_any (n : Int) (w : World) : Calls Try.prog 64 #[.int .i64 n] w fun e w' => e = .returned (.agg #[.int .i64 3, .int .i64 0, .int .i64 0, .int .i64 0, .int .i64 0, .int .i64 0, .int .i64 n]) ∧ Kp w w' := by
  go_enter Try.func64, Try.ntmps64
  go_wp2
  exact bodyPost_ret (v := .agg #[.int .i64 3, .int .i64 0, .int .i64 0, .int .i64 0, .int .i64 0, .int .i64 0, .int .i64 n]) (by simp [results, Try.results64, go_sem]) rfl ⟨rfl, (by (repeat (first | with_reducible assumption | with_reducible exact Kp.refl _ | with_reducible refine Kp.drew ?_ | with_reducible refine Kp.drewN ?_ _ | with_reducible refine Kp.alloc ?_ _ | ((with_reducible refine Kp.setCell ?_ ?_ _); rotate_left; (focus (first | omega | (simp; done) | (simp; omega)))) | with_reducible refine Kp.trans ?_ (by assumption))))⟩
theorem mark_any (n : Int) (w : World) : Calls Try.prog 65 #[.int .i64 n] w fun e w' => e = .returned (.agg #[.int .i64 4, .int .i64 0, .int .i64 0, .int .i64 0, .int .i64 0, .int .i64 0, .int .i64 n]) ∧ Kp w w' := by
  go_enter Try.func65, Try.ntmps65
  go_wp2
  exact bodyPost_ret (v := .agg #[.int .i64 4, .int .i64 0, .int .i64 0, .int .i64 0, .int .i64 0, .int .i64 0, .int .i64 n]) (by simp [results, Try.results65, go_sem]) rfl ⟨rfl, (by (repeat (first | with_reducible assumption | with_reducible exact Kp.refl _ | with_reducible refine Kp.drew ?_ | with_reducible refine Kp.drewN ?_ _ | with_reducible refine Kp.alloc ?_ _ | ((with_reducible refine Kp.setCell ?_ ?_ _); rotate_left; (focus (first | omega | (simp; done) | (simp; omega)))) | with_reducible refine Kp.trans ?_ (by assumption))))⟩
theorem note_any (n : Int) (w : World) : Calls Try.prog 66 #[.int .i64 n] w fun e w' => e = .returned (.agg #[.int .i64 5, .int .i64 0, .int .i64 0, .int .i64 0, .int .i64 0, .int .i64 0, .int .i64 n]) ∧ Kp w w' := by
  go_enter Try.func66, Try.ntmps66
  go_wp2
  exact bodyPost_ret (v := .agg #[.int .i64 5, .int .i64 0, .int .i64 0, .int .i64 0, .int .i64 0, .int .i64 0, .int .i64 n]) (by simp [results, Try.results66, go_sem]) rfl ⟨rfl, (by (repeat (first | with_reducible assumption | with_reducible exact Kp.refl _ | with_reducible refine Kp.drew ?_ | with_reducible refine Kp.drewN ?_ _ | with_reducible refine Kp.alloc ?_ _ | ((with_reducible refine Kp.setCell ?_ ?_ _); rotate_left; (focus (first | omega | (simp; done) | (simp; omega)))) | with_reducible refine Kp.trans ?_ (by assumption))))⟩
theorem float_any (n : Int) (w : World) : Calls Try.prog 67 #[.int .i64 n] w fun e w' => e = .returned (.agg #[.int .i64 6, .int .i64 0, .int .i64 0, .int .i64 0, .int .i64 0, .int .i64 0, .int .i64 n]) ∧ Kp w w' := by
  go_enter Try.func67, Try.ntmps67
  go_wp2
  exact bodyPost_ret (v := .agg #[.int .i64 6, .int .i64 0, .int .i64 0, .int .i64 0, .int .i64 0, .int .i64 0, .int .i64 n]) (by simp [results, Try.results67, go_sem]) rfl ⟨rfl, (by (repeat (first | with_reducible assumption | with_reducible exact Kp.refl _ | with_reducible refine Kp.drew ?_ | with_reducible refine Kp.drewN ?_ _ | with_reducible refine Kp.alloc ?_ _ | ((with_reducible refine Kp.setCell ?_ ?_ _); rotate_left; (focus (first | omega | (simp; done) | (simp; omega)))) | with_reducible refine Kp.trans ?_ (by assumption))))⟩
theorem barrier_any (w : World) : Calls Try.prog 68 #[] w fun e w' => e = .returned (.agg #[.int .i64 7, .int .i64 0, .int .i64 0, .int .i64 0, .int .i64 0, .int .i64 0, .int .i64 0]) ∧ Kp w w' := by
  go_enter Try.func68, Try.ntmps68
  go_wp2
  exact bodyPost_ret (v := .agg #[.int .i64 7, .int .i64 0, .int .i64 0, .int .i64 0, .int .i64 0, .int .i64 0, .int .i64 0]) (by simp [results, Try.results68, go_sem]) rfl ⟨rfl, (by (repeat (first | with_reducible assumption | with_reducible exact Kp.refl _ | with_reducible refine Kp.drew ?_ | with_reducible refine Kp.drewN ?_ _ | with_reducible refine Kp.alloc ?_ _ | ((with_reducible refine Kp.setCell ?_ ?_ _); rotate_left; (focus (first | omega | (simp; done) | (simp; omega)))) | with_reducible refine Kp.trans ?_ (by assumption))))⟩

theorem formBox_any (x0 x1 x2 x3 x4 x5 x6 : Int) (w : World) : Calls Try.prog 89 #[.agg #[.int .i64 x0, .int .i64 x1, .int .i64 x2, .int .i64 x3, .int .i64 x4, .int .i64 x5, .int .i64 x6]] w fun e w' => e = .returned (.agg #[.int .i64 1, .int .i64 x1, .int .i64 x2, .int .i64 0, .int .i64 0, .int .i64 0, .int .i64 0]) ∧ Kp w w' := by
  go_enter Try.func89, Try.ntmps89
  go_wp2_with fail
  refine (box_any _ _ _).mono ?_
  rintro e w1 ⟨rfl, k1⟩
  have xr : Blk w1 (w.heap.size + 1) (ints [0, 0, 0, 0, 0, 0, 0]) 24 := Blk.kp (by (repeat (first | with_reducible assumption | ((with_reducible refine Blk.newL ?_ ?_); (focus (first | (simp; done) | omega)); rfl) | with_reducible refine Blk.drew ?_ | with_reducible refine Blk.drewN ?_ _ | with_reducible refine Blk.alloc ?_ _ | ((with_reducible refine Blk.other ?_ ?_ _); rotate_left; (focus (first | with_reducible assumption | omega | (simp; done) | (simp; omega))))))) k1; have xr_0 := xr.cell 0 rfl; have xr_1 := xr.cell 1 rfl; have xr_2 := xr.cell 2 rfl; have xr_3 := xr.cell 3 rfl; have xr_4 := xr.cell 4 rfl; have xr_5 := xr.cell 5 rfl; have xr_6 := xr.cell 6 rfl; have xr_ne := xr.lt; have xr_n1 := Nat.lt_add_one_of_lt xr_ne; have xr_n2 := Nat.lt_add_one_of_lt xr_n1; have xr_f0 := xr.free 0; have xr_f1 := xr.free 1; have xr_f2 := xr.free 2; have xr_f3 := xr.free 3; have xr_f4 := xr.free 4; have xr_f5 := xr.free 5; have xr_f6 := xr.free 6
  go_wp2
  refine ret_blk (vs := [.int .i64 1, .int .i64 x1, .int .i64 x2, .int .i64 0, .int .i64 0, .int .i64 0, .int .i64 0]) (Blk.set (Blk.set (Blk.set (Blk.set (Blk.set (Blk.set (Blk.set xr 0 _) 1 _) 2 _) 3 _) 4 _) 5 _) 6 _) ?_ rfl ⟨rfl, (by (repeat (first | with_reducible assumption | with_reducible exact Kp.refl _ | with_reducible refine Kp.drew ?_ | with_reducible refine Kp.drewN ?_ _ | with_reducible refine Kp.alloc ?_ _ | ((with_reducible refine Kp.setCell ?_ ?_ _); rotate_left; (focus (first | omega | (simp; done) | (simp; omega)))) | with_reducible refine Kp.trans ?_ (by assumption))))⟩; intro wz bz; have z0 := bz.cell 0 rfl; have z1 := bz.cell 1 rfl; have z2 := bz.cell 2 rfl; have z3 := bz.cell 3 rfl; have z4 := bz.cell 4 rfl; have z5 := bz.cell 5 rfl; have z6 := bz.cell 6 rfl; simp [results, Try.results89, go_sem, z0, z1, z2, z3, z4, z5, z6]
theorem formGlue_any (x0 x1 x2 x3 x4 x5 x6 : Int) (w : World) : Calls Try.prog 90 #[.agg #[.int .i64 x0, .int .i64 x1, .int .i64 x2, .int .i64 x3, .int .i64 x4, .int .i64 x5, .int .i64 x6]] w fun e w' => e = .returned (.agg #[.int .i64 2, .int .i64 x1, .int .i64 0, .int .i64 x3, .int .i64 x4, .int .i64 x5, .int .i64 0]) ∧ Kp w w' := by
  go_enter Try.func90, Try.ntmps90
  go_wp2_with fail
  refine (glue_any _ _ _ _ _).mono ?_
  rintro e w1 ⟨rfl, k1⟩
  have xr : Blk w1 (w.heap.size + 1) (ints [0, 0, 0, 0, 0, 0, 0]) 24 := Blk.kp (by (repeat (first | with_reducible assumption | ((with_reducible refine Blk.newL ?_ ?_); (focus (first | (simp; done) | omega)); rfl) | with_reducible refine Blk.drew ?_ | with_reducible refine Blk.drewN ?_ _ | with_reducible refine Blk.alloc ?_ _ | ((with_reducible refine Blk.other ?_ ?_ _); rotate_left; (focus (first | with_reducible assumption | omega | (simp; done) | (simp; omega))))))) k1; have xr_0 := xr.cell 0 rfl; have xr_1 := xr.cell 1 rfl; have xr_2 := xr.cell 2 rfl; have xr_3 := xr.cell 3 rfl; have xr_4 := xr.cell 4 rfl; have xr_5 := xr.cell 5 rfl; have xr_6 := xr.cell 6 rfl; have xr_ne := xr.lt; have xr_n1 := Nat.lt_add_one_of_lt xr_ne; have xr_n2 := Nat.lt_add_one_of_lt xr_n1; have xr_f0 := xr.free 0; have xr_f1 := xr.free 1; have xr_f2 := xr.free 2; have xr_f3 := xr.free 3; have xr_f4 := xr.free 4; have xr_f5 := xr.free 5; have xr_f6 := xr.free 6
  go_wp2
  refine ret_blk (vs := [.int .i64 2, .int .i64 x1, .int .i64 0, .int .i64 x3, .int .i64 x4, .int .i64 x5, .int .i64 0]) (Blk.set (Blk.set (Blk.set (Blk.set (Blk.set (Blk.set (Blk.set xr 0 _) 1 _) 2 _) 3 _) 4 _) 5 _) 6 _) ?_ rfl ⟨rfl, (by (repeat (first | with_reducible assumption | with_reducible exact Kp.refl _ | with_reducible refine Kp.drew ?_ | with_reducible refine Kp.drewN ?_ _ | with_reducible refine Kp.alloc ?_ _ | ((with_reducible refine Kp.setCell ?_ ?_ _); rotate_left; (focus (first | omega | (simp; done) | (simp; omega)))) | with_reducible refine Kp.trans ?_ (by assumption))))⟩; intro wz bz; have z0 := bz.cell 0 rfl; have z1 := bz.cell 1 rfl; have z2 := bz.cell 2 rfl; have z3 := bz.cell 3 rfl; have z4 := bz.cell 4 rfl; have z5 := bz.cell 5 rfl; have z6 := bz.cell 6 rfl; simp [results, Try.results90, go_sem, z0, z1, z2, z3, z4, z5, z6]
theorem formBarrier_any (x0 x1 x2 x3 x4 x5 x6 : Int) (w : World) : Calls Try.prog 92 #[.agg #[.int .i64 x0, .int .i64 x1, .int .i64 x2, .int .i64 x3, .int .i64 x4, .int .i64 x5, .int .i64 x6]] w fun e w' => e = .returned (.agg #[.int .i64 7, .int .i64 0, .int .i64 0, .int .i64 0, .int .i64 0, .int .i64 0, .int .i64 0]) ∧ Kp w w' := by
  go_enter Try.func92, Try.ntmps92
  go_wp2_with fail
  refine (barrier_any _).mono ?_
  rintro e w1 ⟨rfl, k1⟩
  have xr : Blk w1 (w.heap.size + 1) (ints [0, 0, 0, 0, 0, 0, 0]) 24 := Blk.kp (by (repeat (first | with_reducible assumption | ((with_reducible refine Blk.newL ?_ ?_); (focus (first | (simp; done) | omega)); rfl) | with_reducible refine Blk.drew ?_ | with_reducible refine Blk.drewN ?_ _ | with_reducible refine Blk.alloc ?_ _ | ((with_reducible refine Blk.other ?_ ?_ _); rotate_left; (focus (first | with_reducible assumption | omega | (simp; done) | (simp; omega))))))) k1; have xr_0 := xr.cell 0 rfl; have xr_1 := xr.cell 1 rfl; have xr_2 := xr.cell 2 rfl; have xr_3 := xr.cell 3 rfl; have xr_4 := xr.cell 4 rfl; have xr_5 := xr.cell 5 rfl; have xr_6 := xr.cell 6 rfl; have xr_ne := xr.lt; have xr_n1 := Nat.lt_add_one_of_lt xr_ne; have xr_n2 := Nat.lt_add_one_of_lt xr_n1; have xr_f0 := xr.free 0; have xr_f1 := xr.free 1; have xr_f2 := xr.free 2; have xr_f3 := xr.free 3; have xr_f4 := xr.free 4; have xr_f5 := xr.free 5; have xr_f6 := xr.free 6
  go_wp2
  refine ret_blk (vs := [.int .i64 7, .int .i64 0, .int .i64 0, .int .i64 0, .int .i64 0, .int .i64 0, .int .i64 0]) (Blk.set (Blk.set (Blk.set (Blk.set (Blk.set (Blk.set (Blk.set xr 0 _) 1 _) 2 _) 3 _) 4 _) 5 _) 6 _) ?_ rfl ⟨rfl, (by (repeat (first | with_reducible assumption | with_reducible exact Kp.refl _ | with_reducible refine Kp.drew ?_ | with_reducible refine Kp.drewN ?_ _ | with_reducible refine Kp.alloc ?_ _ | ((with_reducible refine Kp.setCell ?_ ?_ _); rotate_left; (focus (first | omega | (simp; done) | (simp; omega)))) | with_reducible refine Kp.trans ?_ (by assumption))))⟩; intro wz bz; have z0 := bz.cell 0 rfl; have z1 := bz.cell 1 rfl; have z2 := bz.cell 2 rfl; have z3 := bz.cell 3 rfl; have z4 := bz.cell 4 rfl; have z5 := bz.cell 5 rfl; have z6 := bz.cell 6 rfl; simp [results, Try.results92, go_sem, z0, z1, z2, z3, z4, z5, z6]
theorem formPen_any (x0 x1 x2 x3 x4 x5 x6 : Int) (q : Nat) (w : World) (hq : w.cell? ⟨q, 0, none⟩ = some (.func (Fn.func 64) #[] #[])) (hl : q < w.heap.size) :
    Calls Try.prog 88 #[.agg #[.int .i64 x0, .int .i64 x1, .int .i64 x2, .int .i64 x3, .int .i64 x4, .int .i64 x5, .int .i64 x6], .pointer (some ⟨q, 0, none⟩)] w fun e w' => e = .returned (.agg #[.int .i64 3, .int .i64 0, .int .i64 0, .int .i64 0, .int .i64 0, .int .i64 0, .int .i64 x6]) ∧ Kp w w' := by
  go_enter Try.func88, Try.ntmps88
  go_wp2_with fail
  refine (pen_any _ _).mono ?_
  rintro e w1 ⟨rfl, k1⟩
  have xr : Blk w1 (w.heap.size + 1) (ints [0, 0, 0, 0, 0, 0, 0]) 24 := Blk.kp (by (repeat (first | with_reducible assumption | ((with_reducible refine Blk.newL ?_ ?_); (focus (first | (simp; done) | omega)); rfl) | with_reducible refine Blk.drew ?_ | with_reducible refine Blk.drewN ?_ _ | with_reducible refine Blk.alloc ?_ _ | ((with_reducible refine Blk.other ?_ ?_ _); rotate_left; (focus (first | with_reducible assumption | omega | (simp; done) | (simp; omega))))))) k1; have xr_0 := xr.cell 0 rfl; have xr_1 := xr.cell 1 rfl; have xr_2 := xr.cell 2 rfl; have xr_3 := xr.cell 3 rfl; have xr_4 := xr.cell 4 rfl; have xr_5 := xr.cell 5 rfl; have xr_6 := xr.cell 6 rfl; have xr_ne := xr.lt; have xr_n1 := Nat.lt_add_one_of_lt xr_ne; have xr_n2 := Nat.lt_add_one_of_lt xr_n1; have xr_f0 := xr.free 0; have xr_f1 := xr.free 1; have xr_f2 := xr.free 2; have xr_f3 := xr.free 3; have xr_f4 := xr.free 4; have xr_f5 := xr.free 5; have xr_f6 := xr.free 6
  go_wp2
  refine ret_blk (vs := [.int .i64 3, .int .i64 0, .int .i64 0, .int .i64 0, .int .i64 0, .int .i64 0, .int .i64 x6]) (Blk.set (Blk.set (Blk.set (Blk.set (Blk.set (Blk.set (Blk.set xr 0 _) 1 _) 2 _) 3 _) 4 _) 5 _) 6 _) ?_ rfl ⟨rfl, (by (repeat (first | with_reducible assumption | with_reducible exact Kp.refl _ | with_reducible refine Kp.drew ?_ | with_reducible refine Kp.drewN ?_ _ | with_reducible refine Kp.alloc ?_ _ | ((with_reducible refine Kp.setCell ?_ ?_ _); rotate_left; (focus (first | omega | (simp; done) | (simp; omega)))) | with_reducible refine Kp.trans ?_ (by assumption))))⟩; intro wz bz; have z0 := bz.cell 0 rfl; have z1 := bz.cell 1 rfl; have z2 := bz.cell 2 rfl; have z3 := bz.cell 3 rfl; have z4 := bz.cell 4 rfl; have z5 := bz.cell 5 rfl; have z6 := bz.cell 6 rfl; simp [results, Try.results88, go_sem, z0, z1, z2, z3, z4, z5, z6]
theorem formMark_any (x0 x1 x2 x3 x4 x5 x6 : Int) (q : Nat) (w : World) (hq : w.cell? ⟨q, 0, none⟩ = some (.func (Fn.func 65) #[] #[])) (hl : q < w.heap.size) :
    Calls Try.prog 88 #[.agg #[.int .i64 x0, .int .i64 x1, .int .i64 x2, .int .i64 x3, .int .i64 x4, .int .i64 x5, .int .i64 x6], .pointer (some ⟨q, 0, none⟩)] w fun e w' => e = .returned (.agg #[.int .i64 4, .int .i64 0, .int .i64 0, .int .i64 0, .int .i64 0, .int .i64 0, .int .i64 x6]) ∧ Kp w w' := by
  go_enter Try.func88, Try.ntmps88
  go_wp2_with fail
  refine (mark_any _ _).mono ?_
  rintro e w1 ⟨rfl, k1⟩
  have xr : Blk w1 (w.heap.size + 1) (ints [0, 0, 0, 0, 0, 0, 0]) 24 := Blk.kp (by (repeat (first | with_reducible assumption | ((with_reducible refine Blk.newL ?_ ?_); (focus (first | (simp; done) | omega)); rfl) | with_reducible refine Blk.drew ?_ | with_reducible refine Blk.drewN ?_ _ | with_reducible refine Blk.alloc ?_ _ | ((with_reducible refine Blk.other ?_ ?_ _); rotate_left; (focus (first | with_reducible assumption | omega | (simp; done) | (simp; omega))))))) k1; have xr_0 := xr.cell 0 rfl; have xr_1 := xr.cell 1 rfl; have xr_2 := xr.cell 2 rfl; have xr_3 := xr.cell 3 rfl; have xr_4 := xr.cell 4 rfl; have xr_5 := xr.cell 5 rfl; have xr_6 := xr.cell 6 rfl; have xr_ne := xr.lt; have xr_n1 := Nat.lt_add_one_of_lt xr_ne; have xr_n2 := Nat.lt_add_one_of_lt xr_n1; have xr_f0 := xr.free 0; have xr_f1 := xr.free 1; have xr_f2 := xr.free 2; have xr_f3 := xr.free 3; have xr_f4 := xr.free 4; have xr_f5 := xr.free 5; have xr_f6 := xr.free 6
  go_wp2
  refine ret_blk (vs := [.int .i64 4, .int .i64 0, .int .i64 0, .int .i64 0, .int .i64 0, .int .i64 0, .int .i64 x6]) (Blk.set (Blk.set (Blk.set (Blk.set (Blk.set (Blk.set (Blk.set xr 0 _) 1 _) 2 _) 3 _) 4 _) 5 _) 6 _) ?_ rfl ⟨rfl, (by (repeat (first | with_reducible assumption | with_reducible exact Kp.refl _ | with_reducible refine Kp.drew ?_ | with_reducible refine Kp.drewN ?_ _ | with_reducible refine Kp.alloc ?_ _ | ((with_reducible refine Kp.setCell ?_ ?_ _); rotate_left; (focus (first | omega | (simp; done) | (simp; omega)))) | with_reducible refine Kp.trans ?_ (by assumption))))⟩; intro wz bz; have z0 := bz.cell 0 rfl; have z1 := bz.cell 1 rfl; have z2 := bz.cell 2 rfl; have z3 := bz.cell 3 rfl; have z4 := bz.cell 4 rfl; have z5 := bz.cell 5 rfl; have z6 := bz.cell 6 rfl; simp [results, Try.results88, go_sem, z0, z1, z2, z3, z4, z5, z6]
theorem formNote_any (x0 x1 x2 x3 x4 x5 x6 : Int) (q : Nat) (w : World) (hq : w.cell? ⟨q, 0, none⟩ = some (.func (Fn.func 66) #[] #[])) (hl : q < w.heap.size) :
    Calls Try.prog 88 #[.agg #[.int .i64 x0, .int .i64 x1, .int .i64 x2, .int .i64 x3, .int .i64 x4, .int .i64 x5, .int .i64 x6], .pointer (some ⟨q, 0, none⟩)] w fun e w' => e = .returned (.agg #[.int .i64 5, .int .i64 0, .int .i64 0, .int .i64 0, .int .i64 0, .int .i64 0, .int .i64 x6]) ∧ Kp w w' := by
  go_enter Try.func88, Try.ntmps88
  go_wp2_with fail
  refine (note_any _ _).mono ?_
  rintro e w1 ⟨rfl, k1⟩
  have xr : Blk w1 (w.heap.size + 1) (ints [0, 0, 0, 0, 0, 0, 0]) 24 := Blk.kp (by (repeat (first | with_reducible assumption | ((with_reducible refine Blk.newL ?_ ?_); (focus (first | (simp; done) | omega)); rfl) | with_reducible refine Blk.drew ?_ | with_reducible refine Blk.drewN ?_ _ | with_reducible refine Blk.alloc ?_ _ | ((with_reducible refine Blk.other ?_ ?_ _); rotate_left; (focus (first | with_reducible assumption | omega | (simp; done) | (simp; omega))))))) k1; have xr_0 := xr.cell 0 rfl; have xr_1 := xr.cell 1 rfl; have xr_2 := xr.cell 2 rfl; have xr_3 := xr.cell 3 rfl; have xr_4 := xr.cell 4 rfl; have xr_5 := xr.cell 5 rfl; have xr_6 := xr.cell 6 rfl; have xr_ne := xr.lt; have xr_n1 := Nat.lt_add_one_of_lt xr_ne; have xr_n2 := Nat.lt_add_one_of_lt xr_n1; have xr_f0 := xr.free 0; have xr_f1 := xr.free 1; have xr_f2 := xr.free 2; have xr_f3 := xr.free 3; have xr_f4 := xr.free 4; have xr_f5 := xr.free 5; have xr_f6 := xr.free 6
  go_wp2
  refine ret_blk (vs := [.int .i64 5, .int .i64 0, .int .i64 0, .int .i64 0, .int .i64 0, .int .i64 0, .int .i64 x6]) (Blk.set (Blk.set (Blk.set (Blk.set (Blk.set (Blk.set (Blk.set xr 0 _) 1 _) 2 _) 3 _) 4 _) 5 _) 6 _) ?_ rfl ⟨rfl, (by (repeat (first | with_reducible assumption | with_reducible exact Kp.refl _ | with_reducible refine Kp.drew ?_ | with_reducible refine Kp.drewN ?_ _ | with_reducible refine Kp.alloc ?_ _ | ((with_reducible refine Kp.setCell ?_ ?_ _); rotate_left; (focus (first | omega | (simp; done) | (simp; omega)))) | with_reducible refine Kp.trans ?_ (by assumption))))⟩; intro wz bz; have z0 := bz.cell 0 rfl; have z1 := bz.cell 1 rfl; have z2 := bz.cell 2 rfl; have z3 := bz.cell 3 rfl; have z4 := bz.cell 4 rfl; have z5 := bz.cell 5 rfl; have z6 := bz.cell 6 rfl; simp [results, Try.results88, go_sem, z0, z1, z2, z3, z4, z5, z6]
theorem formFloat_any (x0 x1 x2 x3 x4 x5 x6 : Int) (q : Nat) (w : World) (hq : w.cell? ⟨q, 0, none⟩ = some (.func (Fn.func 67) #[] #[])) (hl : q < w.heap.size) :
    Calls Try.prog 88 #[.agg #[.int .i64 x0, .int .i64 x1, .int .i64 x2, .int .i64 x3, .int .i64 x4, .int .i64 x5, .int .i64 x6], .pointer (some ⟨q, 0, none⟩)] w fun e w' => e = .returned (.agg #[.int .i64 6, .int .i64 0, .int .i64 0, .int .i64 0, .int .i64 0, .int .i64 0, .int .i64 x6]) ∧ Kp w w' := by
  go_enter Try.func88, Try.ntmps88
  go_wp2_with fail
  refine (float_any _ _).mono ?_
  rintro e w1 ⟨rfl, k1⟩
  have xr : Blk w1 (w.heap.size + 1) (ints [0, 0, 0, 0, 0, 0, 0]) 24 := Blk.kp (by (repeat (first | with_reducible assumption | ((with_reducible refine Blk.newL ?_ ?_); (focus (first | (simp; done) | omega)); rfl) | with_reducible refine Blk.drew ?_ | with_reducible refine Blk.drewN ?_ _ | with_reducible refine Blk.alloc ?_ _ | ((with_reducible refine Blk.other ?_ ?_ _); rotate_left; (focus (first | with_reducible assumption | omega | (simp; done) | (simp; omega))))))) k1; have xr_0 := xr.cell 0 rfl; have xr_1 := xr.cell 1 rfl; have xr_2 := xr.cell 2 rfl; have xr_3 := xr.cell 3 rfl; have xr_4 := xr.cell 4 rfl; have xr_5 := xr.cell 5 rfl; have xr_6 := xr.cell 6 rfl; have xr_ne := xr.lt; have xr_n1 := Nat.lt_add_one_of_lt xr_ne; have xr_n2 := Nat.lt_add_one_of_lt xr_n1; have xr_f0 := xr.free 0; have xr_f1 := xr.free 1; have xr_f2 := xr.free 2; have xr_f3 := xr.free 3; have xr_f4 := xr.free 4; have xr_f5 := xr.free 5; have xr_f6 := xr.free 6
  go_wp2
  refine ret_blk (vs := [.int .i64 6, .int .i64 0, .int .i64 0, .int .i64 0, .int .i64 0, .int .i64 0, .int .i64 x6]) (Blk.set (Blk.set (Blk.set (Blk.set (Blk.set (Blk.set (Blk.set xr 0 _) 1 _) 2 _) 3 _) 4 _) 5 _) 6 _) ?_ rfl ⟨rfl, (by (repeat (first | with_reducible assumption | with_reducible exact Kp.refl _ | with_reducible refine Kp.drew ?_ | with_reducible refine Kp.drewN ?_ _ | with_reducible refine Kp.alloc ?_ _ | ((with_reducible refine Kp.setCell ?_ ?_ _); rotate_left; (focus (first | omega | (simp; done) | (simp; omega)))) | with_reducible refine Kp.trans ?_ (by assumption))))⟩; intro wz bz; have z0 := bz.cell 0 rfl; have z1 := bz.cell 1 rfl; have z2 := bz.cell 2 rfl; have z3 := bz.cell 3 rfl; have z4 := bz.cell 4 rfl; have z5 := bz.cell 5 rfl; have z6 := bz.cell 6 rfl; simp [results, Try.results88, go_sem, z0, z1, z2, z3, z4, z5, z6]
/-- What a penalty's number may be. -/
def penOk (n : Int) : Bool := n == -10000 || upto 10000 n
theorem formPenN_any (n : Int) (w : World) : Calls Try.prog 91 #[.int .i64 n] w fun e w' => e = .returned (.bool (penOk n)) ∧ Kp w w' := by
  unfold penOk
  by_cases h : n = -10000
  · subst h
    go_enter Try.func91, Try.ntmps91
    go_wp2
    go_ret
    exact ⟨rfl, (by (repeat (first | with_reducible assumption | with_reducible exact Kp.refl _ | with_reducible refine Kp.drew ?_ | with_reducible refine Kp.drewN ?_ _ | with_reducible refine Kp.alloc ?_ _ | ((with_reducible refine Kp.setCell ?_ ?_ _); rotate_left; (focus (first | omega | (simp; done) | (simp; omega)))) | with_reducible refine Kp.trans ?_ (by assumption))))⟩
  · have hb : (n == -10000) = false := beq_eq_false_iff_ne.2 h
    rw [hb, Bool.false_or]
    go_enter Try.func91, Try.ntmps91
    go_wp2_with fail
    refine (upTo_any _ _).mono ?_
    rintro e w1 ⟨rfl, h1⟩
    have b1 : Blk w1 w.heap.size [.int .i64 10000] 3 := by subst h1; exact Blk.new _ _ _
    have k1 : Kp w w1 := by subst h1; exact (by (repeat (first | with_reducible assumption | with_reducible exact Kp.refl _ | with_reducible refine Kp.drew ?_ | with_reducible refine Kp.drewN ?_ _ | with_reducible refine Kp.alloc ?_ _ | ((with_reducible refine Kp.setCell ?_ ?_ _); rotate_left; (focus (first | omega | (simp; done) | (simp; omega)))) | with_reducible refine Kp.trans ?_ (by assumption))))
    clear h1
    go_wp2_with fail
    refine (upTo1_any _ _ _ _ (b1.cell 0 rfl)).mono ?_
    rintro e w2 ⟨rfl, rfl⟩
    go_wp2
    go_ret
    exact ⟨ret_bool (by first | rfl | simp), (by (repeat (first | with_reducible assumption | with_reducible exact Kp.refl _ | with_reducible refine Kp.drew ?_ | with_reducible refine Kp.drewN ?_ _ | with_reducible refine Kp.alloc ?_ _ | ((with_reducible refine Kp.setCell ?_ ?_ _); rotate_left; (focus (first | omega | (simp; done) | (simp; omega)))) | with_reducible refine Kp.trans ?_ (by assumption))))⟩
theorem alloc_size (w : World) (o : Obj) : (w.alloc o).heap.size = w.heap.size + 1 := by simp
/-- The forms of all kinds lie at S. -/
structure Forms (B : Nat) (w : World) (S p1 p2 q3 q4 p4 q5 p5 q6 p6 p7 : Nat) : Prop where
  all : Blk w S [.func (Fn.func 89) #[] #[], .func (Fn.func 93) #[] #[.pointer (some ⟨p1, 0, none⟩)],
    .func (Fn.func 90) #[] #[], .func (Fn.func 93) #[] #[.pointer (some ⟨p2, 0, none⟩)],
    .func (Fn.func 88) #[] #[.pointer (some ⟨q3, 0, none⟩)], .func (Fn.func 91) #[] #[],
    .func (Fn.func 88) #[] #[.pointer (some ⟨q4, 0, none⟩)], .func (Fn.func 93) #[] #[.pointer (some ⟨p4, 0, none⟩)],
    .func (Fn.func 88) #[] #[.pointer (some ⟨q5, 0, none⟩)], .func (Fn.func 93) #[] #[.pointer (some ⟨p5, 0, none⟩)],
    .func (Fn.func 88) #[] #[.pointer (some ⟨q6, 0, none⟩)], .func (Fn.func 93) #[] #[.pointer (some ⟨p6, 0, none⟩)],
    .func (Fn.func 92) #[] #[], .func (Fn.func 93) #[] #[.pointer (some ⟨p7, 0, none⟩)]] 87
  b1 : Blk w p1 [.int .i64 0] 3
  b2 : Blk w p2 [.int .i64 0] 3
  c3 : Blk w q3 [.func (Fn.func 64) #[] #[]] 94
  c4 : Blk w q4 [.func (Fn.func 65) #[] #[]] 94
  b4 : Blk w p4 [.int .i64 1048576] 3
  c5 : Blk w q5 [.func (Fn.func 66) #[] #[]] 94
  b5 : Blk w p5 [.int .i64 511] 3
  c6 : Blk w q6 [.func (Fn.func 67) #[] #[]] 94
  b6 : Blk w p6 [.int .i64 255] 3
  b7 : Blk w p7 [.int .i64 0] 3
  lo : B ≤ S ∧ B ≤ p1 ∧ B ≤ p2 ∧ B ≤ q3 ∧ B ≤ q4 ∧ B ≤ p4 ∧ B ≤ q5 ∧ B ≤ p5 ∧ B ≤ q6 ∧ B ≤ p6 ∧ B ≤ p7
set_option maxHeartbeats 1000000 in
theorem forms_any (w : World) : Calls Try.prog 59 #[] w fun e w' => ∃ S p1 p2 q3 q4 p4 q5 p5 q6 p6 p7 : Nat, e = .returned (.slice (some ⟨S, 0, none⟩) 7 7) ∧ Forms w.heap.size w' S p1 p2 q3 q4 p4 q5 p5 q6 p6 p7 ∧ Kp w w' := by
  go_enter Try.func59, Try.ntmps59
  go_wp2
  go_ret
  exact ⟨_, _, _, _, _, _, _, _, _, _, _, rfl, ⟨(by (repeat (first | with_reducible assumption | ((with_reducible refine Blk.newL ?_ ?_); (focus (simp only [alloc_size]; done)); rfl) | with_reducible refine Blk.drew ?_ | with_reducible refine Blk.alloc ?_ _))), (by (repeat (first | with_reducible assumption | ((with_reducible refine Blk.newL ?_ ?_); (focus (simp only [alloc_size]; done)); rfl) | with_reducible refine Blk.drew ?_ | with_reducible refine Blk.alloc ?_ _))), (by (repeat (first | with_reducible assumption | ((with_reducible refine Blk.newL ?_ ?_); (focus (simp only [alloc_size]; done)); rfl) | with_reducible refine Blk.drew ?_ | with_reducible refine Blk.alloc ?_ _))), (by (repeat (first | with_reducible assumption | ((with_reducible refine Blk.newL ?_ ?_); (focus (simp only [alloc_size]; done)); rfl) | with_reducible refine Blk.drew ?_ | with_reducible refine Blk.alloc ?_ _))), (by (repeat (first | with_reducible assumption | ((with_reducible refine Blk.newL ?_ ?_); (focus (simp only [alloc_size]; done)); rfl) | with_reducible refine Blk.drew ?_ | with_reducible refine Blk.alloc ?_ _))), (by (repeat (first | with_reducible assumption | ((with_reducible refine Blk.newL ?_ ?_); (focus (simp only [alloc_size]; done)); rfl) | with_reducible refine Blk.drew ?_ | with_reducible refine Blk.alloc ?_ _))), (by (repeat (first | with_reducible assumption | ((with_reducible refine Blk.newL ?_ ?_); (focus (simp only [alloc_size]; done)); rfl) | with_reducible refine Blk.drew ?_ | with_reducible refine Blk.alloc ?_ _))), (by (repeat (first | with_reducible assumption | ((with_reducible refine Blk.newL ?_ ?_); (focus (simp only [alloc_size]; done)); rfl) | with_reducible refine Blk.drew ?_ | with_reducible refine Blk.alloc ?_ _))), (by (repeat (first | with_reducible assumption | ((with_reducible refine Blk.newL ?_ ?_); (focus (simp only [alloc_size]; done)); rfl) | with_reducible refine Blk.drew ?_ | with_reducible refine Blk.alloc ?_ _))), (by (repeat (first | with_reducible assumption | ((with_reducible refine Blk.newL ?_ ?_); (focus (simp only [alloc_size]; done)); rfl) | with_reducible refine Blk.drew ?_ | with_reducible refine Blk.alloc ?_ _))), (by (repeat (first | with_reducible assumption | ((with_reducible refine Blk.newL ?_ ?_); (focus (simp only [alloc_size]; done)); rfl) | with_reducible refine Blk.drew ?_ | with_reducible refine Blk.alloc ?_ _))), by omega⟩, (by (repeat (first | with_reducible assumption | with_reducible exact Kp.refl _ | with_reducible refine Kp.drew ?_ | with_reducible refine Kp.drewN ?_ _ | with_reducible refine Kp.alloc ?_ _ | ((with_reducible refine Kp.setCell ?_ ?_ _); rotate_left; (focus (first | omega | (simp; done) | (simp; omega)))) | with_reducible refine Kp.trans ?_ (by assumption))))⟩
end Go.Proofs.Ytepckgcbncdibaa
