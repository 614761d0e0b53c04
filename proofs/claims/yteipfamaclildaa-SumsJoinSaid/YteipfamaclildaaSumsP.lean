/- Sums of pieces of a list: plain laws. -/
import Derived.Test.YteipfamaclildaaItemTot

namespace Go.Proofs.Yteipfamaclildaa

open Go.RowKit

/-- Sums and differences, exactly. -/
def Tot.plus (a b : Tot) : Tot := ⟨a.nat + b.nat, a.s0 + b.s0, a.s1 + b.s1, a.s2 + b.s2, a.s3 + b.s3, a.shr + b.shr⟩
def Tot.less (a b : Tot) : Tot := ⟨a.nat - b.nat, a.s0 - b.s0, a.s1 - b.s1, a.s2 - b.s2, a.s3 - b.s3, a.shr - b.shr⟩
theorem Tot.plus_assoc (a b c : Tot) : (a.plus b).plus c = a.plus (b.plus c) := by
  simp only [Tot.plus, Int.add_assoc]
theorem Tot.zero_plus (a : Tot) : Tot.zero.plus a = a := by
  cases a; simp [Tot.plus, Tot.zero]
theorem Tot.plus_zero (a : Tot) : a.plus Tot.zero = a := by
  cases a; simp [Tot.plus, Tot.zero]
theorem Tot.plus_less (a b : Tot) : (a.plus b).less a = b := by
  cases a; cases b; simp only [Tot.plus, Tot.less, Tot.mk.injEq]; omega
/-- The sum of the items' totals. -/
def psum : List Item → Tot
  | [] => Tot.zero
  | x :: l => (totI x).plus (psum l)
theorem psum_append : ∀ l r : List Item, psum (l ++ r) = (psum l).plus (psum r)
  | [], r => (Tot.zero_plus _).symm
  | x :: l, r => by rw [List.cons_append, psum, psum_append l r, psum, Tot.plus_assoc]
theorem psum_snoc (l : List Item) (x : Item) : psum (l ++ [x]) = (psum l).plus (totI x) := by
  rw [psum_append]; simp [psum, Tot.plus_zero]
/-- From 0 to m. -/
def inn (m n : Int) : Bool := decide (0 ≤ n) && decide (n ≤ m)
/-- Are all numbers of a total from 0 to 2^32? -/
def fairT (t : Tot) : Bool := inn 4294967296 t.s0 && (inn 4294967296 t.s1 && (inn 4294967296 t.s2 && (inn 4294967296 t.s3 && (inn 4294967296 t.nat && inn 4294967296 t.shr))))
def Tot.within (t : Tot) (m : Int) : Prop := (0 ≤ t.nat ∧ t.nat ≤ m) ∧ (0 ≤ t.s0 ∧ t.s0 ≤ m) ∧ (0 ≤ t.s1 ∧ t.s1 ≤ m) ∧ (0 ≤ t.s2 ∧ t.s2 ≤ m) ∧ (0 ≤ t.s3 ∧ t.s3 ≤ m) ∧ (0 ≤ t.shr ∧ t.shr ≤ m)
theorem fairT_within {t : Tot} (h : fairT t = true) : t.within 4294967296 := by
  simp only [fairT, inn, Bool.and_eq_true, decide_eq_true_eq] at h
  obtain ⟨h0, h1, h2, h3, h4, h5⟩ := h
  exact ⟨h4, h0, h1, h2, h3, h5⟩
/-- Are all items' totals fair? -/
def fairL (l : List Item) : Bool := l.all fun x => fairT (totI x)
theorem psum_within : ∀ l : List Item, fairL l = true → (psum l).within (4294967296 * l.length)
  | [], _ => by simp [psum, Tot.within, Tot.zero]
  | x :: l, h => by
    simp only [fairL, List.all_cons, Bool.and_eq_true] at h
    have h1 := fairT_within h.1
    have h2 := psum_within l h.2
    simp only [Tot.within] at h1 h2
    simp only [psum, Tot.within, Tot.plus, List.length_cons]
    push_cast
    omega
theorem within_ok {t : Tot} {m : Int} (h : t.within m) (hm : m ≤ 9223372036854775807) : t.ok := by
  simp only [Tot.within] at h
  simp only [Tot.ok, I64]
  omega
theorem fairL_take {l : List Item} (h : fairL l = true) (k : Nat) : fairL (l.take k) = true := by
  unfold fairL at *
  rw [List.all_eq_true] at *
  exact fun x hx => h x (List.mem_of_mem_take hx)
theorem fairL_drop {l : List Item} (h : fairL l = true) (k : Nat) : fairL (l.drop k) = true := by
  unfold fairL at *
  rw [List.all_eq_true] at *
  exact fun x hx => h x (List.mem_of_mem_drop hx)
/-- Exact sums are what Add answers. -/
theorem fits_small {x : Int} (h : -9223372036854775808 ≤ x) (h' : x ≤ 9223372036854775807) : fits x = true ∧ clip x = x := ⟨fits_yes h h', clip_yes (fits_yes h h')⟩
theorem add_exact {a b : Tot} {m n : Int} (ha : a.within m) (hb : b.within n) (h : m + n ≤ 9223372036854775807) : Tot.fitsAdd a b = true ∧ Tot.sumAdd a b = a.plus b := by
  simp only [Tot.within] at ha hb
  have f0 := fits_small (x := a.nat + b.nat) (by omega) (by omega)
  have f1 := fits_small (x := a.s0 + b.s0) (by omega) (by omega)
  have f2 := fits_small (x := a.s1 + b.s1) (by omega) (by omega)
  have f3 := fits_small (x := a.s2 + b.s2) (by omega) (by omega)
  have f4 := fits_small (x := a.s3 + b.s3) (by omega) (by omega)
  have f5 := fits_small (x := a.shr + b.shr) (by omega) (by omega)
  have hf : Tot.fitsAdd a b = true := by unfold Tot.fitsAdd; rw [f0.1, f1.1, f2.1, f3.1, f4.1, f5.1]; rfl
  refine ⟨hf, ?_⟩
  unfold Tot.sumAdd
  rw [if_pos hf]
  unfold Tot.rawAdd Tot.plus
  rw [f0.2, f1.2, f2.2, f3.2, f4.2, f5.2]
theorem sub_exact {a b : Tot} {m n : Int} (ha : a.within m) (hb : b.within n) (h : m + n ≤ 9223372036854775807) : Tot.fitsSub a b = true ∧ Tot.sumSub a b = a.less b := by
  simp only [Tot.within] at ha hb
  have f0 := fits_small (x := a.nat - b.nat) (by omega) (by omega)
  have f1 := fits_small (x := a.s0 - b.s0) (by omega) (by omega)
  have f2 := fits_small (x := a.s1 - b.s1) (by omega) (by omega)
  have f3 := fits_small (x := a.s2 - b.s2) (by omega) (by omega)
  have f4 := fits_small (x := a.s3 - b.s3) (by omega) (by omega)
  have f5 := fits_small (x := a.shr - b.shr) (by omega) (by omega)
  have hf : Tot.fitsSub a b = true := by unfold Tot.fitsSub; rw [f0.1, f1.1, f2.1, f3.1, f4.1, f5.1]; rfl
  refine ⟨hf, ?_⟩
  unfold Tot.sumSub
  rw [if_pos hf]
  unfold Tot.rawSub Tot.less
  rw [f0.2, f1.2, f2.2, f3.2, f4.2, f5.2]
/-- The piece from a to b of the first i. -/
def pc {α : Type} (l : List α) (a b : Int) (i : Nat) : List α := (l.take (min i b.toNat)).drop a.toNat
theorem pc_zero {α : Type} (l : List α) (a b : Int) : pc l a b 0 = [] := by unfold pc; simp
theorem pc_in {α : Type} {l : List α} {a b : Int} {i : Nat} {x : α} (ha : a ≤ i) (hb : (i : Int) < b) (hx : l[i]? = some x) : pc l a b (i + 1) = pc l a b i ++ [x] := by
  unfold pc
  have hi := (List.getElem?_eq_some_iff.1 hx).1
  rw [Nat.min_eq_left (by omega), Nat.min_eq_left (by omega), List.take_add_one, hx, List.drop_append, List.length_take, Nat.min_eq_left (by omega)]
  rw [show a.toNat - i = 0 by omega]; rfl
theorem pc_out {α : Type} {l : List α} {a b : Int} {i : Nat} (h : ¬ (a ≤ i ∧ (i : Int) < b)) : pc l a b (i + 1) = pc l a b i := by
  unfold pc
  by_cases hb : (i : Int) < b
  · have ha : i < a.toNat := by omega
    rw [List.drop_eq_nil_of_le (by rw [List.length_take]; omega), List.drop_eq_nil_of_le (by rw [List.length_take]; omega)]
  · rw [Nat.min_eq_right (by omega), Nat.min_eq_right (by omega)]
theorem pc_all {α : Type} (l : List α) (a b : Int) : pc l a b l.length = (l.take b.toNat).drop a.toNat := by
  unfold pc
  congr 1
  rw [List.take_eq_take_iff]
  omega
/-- The heights of the boxes. -/
def boxI (x : Item) : Int := if x.k = 1 then x.h else 0
def bsum : List Item → Int
  | [] => 0
  | x :: l => boxI x + bsum l
theorem bsum_append : ∀ l r : List Item, bsum (l ++ r) = bsum l + bsum r
  | [], r => by simp [bsum]
  | x :: l, r => by rw [List.cons_append, bsum, bsum_append l r, bsum, Int.add_assoc]
theorem bsum_snoc (l : List Item) (x : Item) : bsum (l ++ [x]) = bsum l + boxI x := by rw [bsum_append]; simp [bsum]
theorem bsum_within : ∀ l : List Item, fairL l = true → 0 ≤ bsum l ∧ bsum l ≤ 4294967296 * l.length
  | [], _ => by simp [bsum]
  | x :: l, h => by
    simp only [fairL, List.all_cons, Bool.and_eq_true] at h
    have h1 := fairT_within h.1
    have h2 := bsum_within l h.2
    have h3 : 0 ≤ boxI x ∧ boxI x ≤ 4294967296 := by
      unfold boxI
      split
      · next hk => simp only [totI, hk, if_true, Tot.within] at h1; omega
      · omega
    simp only [bsum, List.length_cons]
    push_cast
    omega
end Go.Proofs.Yteipfamaclildaa
