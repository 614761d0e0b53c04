/- Shares that add up: plain laws. -/
import Derived.Test.YteipfamaclildaaSpSum2

import Derived.Test.YteipfamaclildaaWide

namespace Go.Proofs.Yteipfamaclildaa

open Go.RowKit

/-- Are there shares? -/
def shOk (whole : Int) (l : List Int) : Bool := decide (0 ≤ whole) && (l.all (fun x => decide (0 ≤ x)) && (decide (l.sum ≤ 9223372036854775807) && decide (0 < l.sum)))
theorem shOk_iff {whole : Int} {l : List Int} : shOk whole l = true ↔ 0 ≤ whole ∧ (∀ x ∈ l, 0 ≤ x) ∧ l.sum ≤ 9223372036854775807 ∧ 0 < l.sum := by
  unfold shOk; simp
theorem shOk_no {whole : Int} {l : List Int} (h : ¬ (0 ≤ whole ∧ (∀ x ∈ l, 0 ≤ x) ∧ l.sum ≤ 9223372036854775807 ∧ 0 < l.sum)) : shOk whole l = false := by
  cases hs : shOk whole l with
  | false => rfl
  | true => exact absurd (shOk_iff.1 hs) h
/-- What they are together, if there are any. -/
def shTot (whole : Int) (l : List Int) : Int := if shOk whole l = true then l.sum else 0
theorem shTot_no {whole : Int} {l : List Int} (h : shOk whole l = false) : shTot whole l = 0 := by unfold shTot; rw [h]; rfl
theorem shTot_yes {whole : Int} {l : List Int} (h : shOk whole l = true) : shTot whole l = l.sum := by unfold shTot; rw [if_pos h]
theorem sum_pos : ∀ l : List Int, (∀ x ∈ l, 0 ≤ x) → 0 ≤ l.sum
  | [], _ => by simp
  | x :: l, h => by
    have h1 := h x (by simp)
    have h2 := sum_pos l (fun u hu => h u (by simp [hu]))
    rw [List.sum_cons]; omega
theorem sum_take {l : List Int} (h : ∀ x ∈ l, 0 ≤ x) (k : Nat) : 0 ≤ (l.take k).sum ∧ (l.take k).sum ≤ l.sum := by
  have h1 := sum_pos (l.take k) (fun t ht => h t (List.mem_of_mem_take ht))
  have h2 := sum_pos (l.drop k) (fun t ht => h t (List.mem_of_mem_drop ht))
  have h3 : (l.take k ++ l.drop k).sum = (l.take k).sum + (l.drop k).sum := List.sum_append
  rw [List.take_append_drop] at h3
  omega
theorem sum_succ {l : List Int} {k : Nat} {x : Int} (h : l[k]? = some x) : (l.take (k + 1)).sum = (l.take k).sum + x := by
  rw [take_snocI h, List.sum_append]; simp
theorem runs_pos : ∀ (l : List Int) (s : Int), 0 ≤ s → s ≤ 9223372036854775807 → (∀ x ∈ l, 0 ≤ x) → runs s l = if s + l.sum ≤ 9223372036854775807 then some (s + l.sum) else none
  | [], s, h0, h1, _ => by simp [runs, h1]
  | x :: l, s, h0, h1, h => by
    have hx := h x (by simp)
    have hp := sum_pos l (fun u hu => h u (by simp [hu]))
    rw [runs, List.sum_cons]
    by_cases c : s + x ≤ 9223372036854775807
    · rw [if_pos (fits_yes (by omega) c), runs_pos l (s + x) (by omega) c (fun u hu => h u (by simp [hu]))]
      rw [Int.add_assoc]
    · rw [if_neg (by rw [fits_no (by omega)]; simp), if_neg (by omega)]
/-- What goes up to the place k. -/
def upAt (whole : Int) (l : List Int) (k : Nat) : Int := whole * (l.take k).sum / l.sum
def shareAt (whole : Int) (l : List Int) (k : Nat) : Int := upAt whole l (k + 1) - upAt whole l k
theorem ratio_up {whole : Int} {l : List Int} (h : shOk whole l = true) (hw : whole ≤ 9223372036854775807) (k : Nat) : ratio whole (l.take k).sum l.sum = some (upAt whole l k) ∧ 0 ≤ upAt whole l k ∧ upAt whole l k ≤ whole := by
  obtain ⟨h0, h1, h2, h3⟩ := shOk_iff.1 h
  have ht := sum_take h1 k
  have hd0 : 0 ≤ upAt whole l k := Int.ediv_nonneg (Int.mul_nonneg h0 ht.1) (by omega)
  have hd1 : upAt whole l k ≤ whole := by
    unfold upAt
    apply Int.ediv_le_of_le_mul h3
    exact Int.mul_le_mul_of_nonneg_left ht.2 h0
  refine ⟨?_, hd0, hd1⟩
  unfold ratio
  rw [if_neg (by omega), if_pos]
  · rfl
  · exact Int.le_trans hd1 hw
theorem upAt_zero (whole : Int) (l : List Int) : upAt whole l 0 = 0 := by simp [upAt]
theorem upAt_all {whole : Int} {l : List Int} (h : shOk whole l = true) : upAt whole l l.length = whole := by
  obtain ⟨h0, h1, h2, h3⟩ := shOk_iff.1 h
  unfold upAt
  rw [List.take_length, Int.mul_ediv_cancel _ (by omega)]
theorem upAt_mono {whole : Int} {l : List Int} (h : shOk whole l = true) (k : Nat) : upAt whole l k ≤ upAt whole l (k + 1) := by
  obtain ⟨h0, h1, h2, h3⟩ := shOk_iff.1 h
  unfold upAt
  apply Int.ediv_le_ediv h3
  apply Int.mul_le_mul_of_nonneg_left _ h0
  rcases Nat.lt_or_ge k l.length with c | c
  · have e := sum_succ (List.getElem?_eq_getElem c)
    have := h1 _ (List.getElem_mem c)
    omega
  · rw [List.take_of_length_le c, List.take_of_length_le (by omega)]
    exact Int.le_refl _
theorem shareAt_in {whole : Int} {l : List Int} (h : shOk whole l = true) (hw : whole ≤ 9223372036854775807) (k : Nat) : 0 ≤ shareAt whole l k ∧ shareAt whole l k ≤ whole := by
  have h1 := upAt_mono h k
  have h2 := ratio_up h hw k
  have h3 := ratio_up h hw (k + 1)
  unfold shareAt
  omega
/-- The shares. -/
def shares (whole : Int) (l : List Int) : List Int := (List.range l.length).map (shareAt whole l)
theorem shares_length (whole : Int) (l : List Int) : (shares whole l).length = l.length := by simp [shares]
theorem shares_get {whole : Int} {l : List Int} {k : Nat} (h : k < l.length) : (shares whole l)[k]? = some (shareAt whole l k) := by simp [shares, h]
theorem shares_take {whole : Int} {l : List Int} {k : Nat} (h : k < l.length) : (shares whole l).take (k + 1) = (shares whole l).take k ++ [shareAt whole l k] := take_snocI (shares_get h)
theorem shares_sum {whole : Int} {l : List Int} (k : Nat) (hk : k ≤ l.length) : ((shares whole l).take k).sum = upAt whole l k := by
  induction k with
  | zero => simp [upAt_zero]
  | succ k ih =>
    rw [shares_take (by omega), List.sum_append, ih (by omega)]
    simp [shareAt]; omega
end Go.Proofs.Yteipfamaclildaa
