/- Sums ahead of each place: plain laws. -/
import Derived.Test.YteipfamaclildaaSumsP

import Derived.Test.YteipfamaclildaaMake

namespace Go.Proofs.Yteipfamaclildaa

open Go.RowKit

/-- A total's numbers, in order. -/
def comp (t : Tot) : Nat → Int
  | 0 => t.nat
  | 1 => t.s0
  | 2 => t.s1
  | 3 => t.s2
  | 4 => t.s3
  | _ => t.shr
/-- The totals ahead of each place, as far as place k. -/
def aheadF (l : List Item) (k j : Nat) : Int := if j / 6 ≤ k then comp (psum (l.take (j / 6))) (j % 6) else 0
theorem comp_zero (c : Nat) : comp Tot.zero c = 0 := by
  unfold comp; split <;> rfl
theorem aheadF_zero (l : List Item) (j : Nat) : aheadF l 0 j = 0 := by
  unfold aheadF
  split
  · next h => rw [Nat.le_zero.1 h]; simp [psum, comp_zero]
  · rfl
theorem aheadF_at (l : List Item) {k i c : Nat} (hi : i ≤ k) (hc : c < 6) : aheadF l k (i * 6 + c) = comp (psum (l.take i)) c := by
  unfold aheadF
  rw [show (i * 6 + c) / 6 = i by omega, show (i * 6 + c) % 6 = c by omega, if_pos hi]
theorem aheadF_succ (l : List Item) (k : Nat) (t : Tot) (ht : psum (l.take (k + 1)) = t) :
    upd (upd (upd (upd (upd (upd (aheadF l k) ((k + 1) * 6) t.nat) ((k + 1) * 6 + 1) t.s0) ((k + 1) * 6 + 2) t.s1) ((k + 1) * 6 + 3) t.s2) ((k + 1) * 6 + 4) t.s3) ((k + 1) * 6 + 5) t.shr = aheadF l (k + 1) := by
  funext j
  unfold upd
  by_cases e : j / 6 = k + 1
  · have h2 : aheadF l (k + 1) j = comp t (j % 6) := by unfold aheadF; rw [e, if_pos (Nat.le_refl _), ht]
    rw [h2]
    have hr : j % 6 = 0 ∨ j % 6 = 1 ∨ j % 6 = 2 ∨ j % 6 = 3 ∨ j % 6 = 4 ∨ j % 6 = 5 := by omega
    rcases hr with hr | hr | hr | hr | hr | hr
    · rw [if_neg (by omega), if_neg (by omega), if_neg (by omega), if_neg (by omega), if_neg (by omega), if_pos (by omega), hr]; rfl
    · rw [if_neg (by omega), if_neg (by omega), if_neg (by omega), if_neg (by omega), if_pos (by omega), hr]; rfl
    · rw [if_neg (by omega), if_neg (by omega), if_neg (by omega), if_pos (by omega), hr]; rfl
    · rw [if_neg (by omega), if_neg (by omega), if_pos (by omega), hr]; rfl
    · rw [if_neg (by omega), if_pos (by omega), hr]; rfl
    · rw [if_pos (by omega), hr]; rfl
  · rw [if_neg (by omega), if_neg (by omega), if_neg (by omega), if_neg (by omega), if_neg (by omega), if_neg (by omega)]
    unfold aheadF
    by_cases h : j / 6 ≤ k
    · rw [if_pos h, if_pos (by omega)]
    · rw [if_neg h, if_neg (by omega)]
/-- The boxes ahead of each place, as far as place k. -/
def boxF (l : List Item) (k j : Nat) : Int := if j ≤ k then bsum (l.take j) else 0
theorem boxF_zero (l : List Item) (j : Nat) : boxF l 0 j = 0 := by
  unfold boxF
  split
  · next h => rw [Nat.le_zero.1 h]; rfl
  · rfl
theorem boxF_at (l : List Item) {k i : Nat} (hi : i ≤ k) : boxF l k i = bsum (l.take i) := by unfold boxF; rw [if_pos hi]
theorem boxF_succ (l : List Item) (k : Nat) (v : Int) (hv : bsum (l.take (k + 1)) = v) : upd (boxF l k) (k + 1) v = boxF l (k + 1) := by
  funext j
  unfold upd boxF
  by_cases e : j = k + 1
  · subst e; rw [if_pos rfl, if_pos (Nat.le_refl _), hv]
  · rw [if_neg e]
    by_cases h : j ≤ k
    · rw [if_pos h, if_pos (by omega)]
    · rw [if_neg h, if_neg (by omega)]
theorem upd_upd (F : Nat → Int) (p : Nat) (a b : Int) : upd (upd F p a) p b = upd F p b := by
  funext j; unfold upd; split <;> rfl
theorem take_snocI2 {l : List Item} {k : Nat} {x : Item} (h : l[k]? = some x) : l.take (k + 1) = l.take k ++ [x] := by
  rw [List.take_add_one, h]; rfl
theorem fairL_no {l : List Item} {k : Nat} {x : Item} (hx : l[k]? = some x) (h : fairT (totI x) = false) : fairL l = false := by
  cases hf : fairL l with
  | false => rfl
  | true =>
    unfold fairL at hf
    rw [List.all_eq_true] at hf
    have := hf x (List.mem_of_getElem? hx)
    rw [h] at this; cases this
theorem fairL_snoc {l : List Item} {k : Nat} {x : Item} (hx : l[k]? = some x) (h : fairT (totI x) = true) (hk : fairL (l.take k) = true) : fairL (l.take (k + 1)) = true := by
  rw [take_snocI2 hx]
  unfold fairL at *
  rw [List.all_append, hk]
  simp [h]
theorem ahead_splice {l : List Item} {k : Nat} {F : Nat → Int} {u0 u1 u2 u3 u4 u5 : Int} (hu : psum (l.take (k + 1)) = ⟨u0, u1, u2, u3, u4, u5⟩) (hF : F = aheadF l k ∨ F = aheadF l (k + 1)) (j : Nat) :
    aheadF l (k + 1) j = if (k + 1) * 6 ≤ j ∧ j < (k + 1) * 6 + 6 then [u0, u1, u2, u3, u4, u5].getD (j - (k + 1) * 6) 0 else F j := by
  by_cases h : (k + 1) * 6 ≤ j ∧ j < (k + 1) * 6 + 6
  · rw [if_pos h]
    have e1 : j / 6 = k + 1 := by omega
    have e2 : j - (k + 1) * 6 = j % 6 := by omega
    unfold aheadF
    rw [e1, if_pos (Nat.le_refl _), hu, e2]
    have hr : j % 6 = 0 ∨ j % 6 = 1 ∨ j % 6 = 2 ∨ j % 6 = 3 ∨ j % 6 = 4 ∨ j % 6 = 5 := by omega
    rcases hr with hr | hr | hr | hr | hr | hr <;> rw [hr] <;> rfl
  · rw [if_neg h]
    rcases hF with rfl | rfl
    · unfold aheadF
      by_cases h2 : j / 6 ≤ k
      · rw [if_pos h2, if_pos (by omega)]
      · rw [if_neg h2, if_neg (by omega)]
    · rfl
theorem fairL_of {l : List Item} {k : Nat} (h : fairL (l.take (k + 1)) = true) : fairL (l.take k) = true := by
  have := fairL_take h k
  rwa [List.take_take, Nat.min_eq_left (Nat.le_succ k)] at this
end Go.Proofs.Yteipfamaclildaa
