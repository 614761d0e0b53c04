/- Boxes, glues and what is left add up: plain laws. -/
import Derived.Test.YteipfamaclildaaGset7

namespace Go.Proofs.Yteipfamaclildaa

open Go.RowKit

/-- The sum of f over the first n places. -/
def sumR (n : Nat) (f : Nat → Int) : Int := ((List.range n).map f).sum
theorem sumR_succ (n : Nat) (f : Nat → Int) : sumR (n + 1) f = sumR n f + f n := by
  unfold sumR; rw [List.range_succ, List.map_append, List.sum_append]; simp
theorem sumR_congr {n : Nat} {f g : Nat → Int} (h : ∀ j, j < n → f j = g j) : sumR n f = sumR n g := by
  induction n with
  | zero => rfl
  | succ n ih => rw [sumR_succ, sumR_succ, ih (fun j hj => h j (by omega)), h n (by omega)]
theorem sumR_add (n : Nat) (f g : Nat → Int) : sumR n (fun j => f j + g j) = sumR n f + sumR n g := by
  induction n with
  | zero => rfl
  | succ n ih => rw [sumR_succ, sumR_succ, sumR_succ, ih]; omega
theorem sumR_neg (n : Nat) (f : Nat → Int) : sumR n (fun j => -(f j)) = -(sumR n f) := by
  induction n with
  | zero => rfl
  | succ n ih => rw [sumR_succ, sumR_succ, ih]; omega
theorem sumR_zero (n : Nat) : sumR n (fun _ => 0) = 0 := by
  induction n with
  | zero => rfl
  | succ n ih => rw [sumR_succ, ih]; rfl
theorem range_nth (l : List Int) : (List.range l.length).map (nth l) = l := by
  apply List.ext_getElem?
  intro j
  by_cases h : j < l.length
  · rw [nth_get h]; simp [h]
  · rw [List.getElem?_eq_none (by simp; omega), List.getElem?_eq_none (by omega)]
theorem sumR_nth (l : List Int) : sumR l.length (nth l) = l.sum := by unfold sumR; rw [range_nth]
theorem offL_sum (b : List Int) (f : Nat → Int) : (offL b f).sum = b.sum + sumR b.length f := by
  have h := sumR_add b.length (nth b) f
  rw [sumR_nth] at h
  exact h
theorem shares_all {whole : Int} {l : List Int} (h : shOk whole l = true) : sumR l.length (shareAt whole l) = whole := by
  have h1 := shares_sum (whole := whole) (l := l) l.length (Nat.le_refl _)
  rw [List.take_of_length_le (by rw [shares_length]; exact Nat.le_refl _), upAt_all h] at h1
  exact h1
theorem sum_within {M : Int} : ∀ l : List Int, (∀ x ∈ l, -M ≤ x ∧ x ≤ M) → -(M * l.length) ≤ l.sum ∧ l.sum ≤ M * l.length
  | [], _ => by simp
  | x :: l, h => by
    have h1 := h x (by simp)
    have h2 := sum_within l (fun u hu => h u (by simp [hu]))
    rw [List.sum_cons, List.length_cons]
    push_cast
    rw [Int.mul_add]
    omega
/-- A total of boxes and glues. -/
def tadd (b : Int) (gl : List Tot) : Tot := ⟨b + (gl.map (·.nat)).sum, (gl.map (·.s0)).sum, (gl.map (·.s1)).sum, (gl.map (·.s2)).sum, (gl.map (·.s3)).sum, (gl.map (·.shr)).sum⟩
theorem tadd_nil (b : Int) : tadd b [] = ⟨b, 0, 0, 0, 0, 0⟩ := by simp [tadd]
theorem tadd_snoc (b : Int) {gl : List Tot} {k : Nat} {t : Tot} (h : gl[k]? = some t) : tadd b (gl.take (k + 1)) = ⟨(tadd b (gl.take k)).nat + t.nat, (tadd b (gl.take k)).s0 + t.s0, (tadd b (gl.take k)).s1 + t.s1, (tadd b (gl.take k)).s2 + t.s2, (tadd b (gl.take k)).s3 + t.s3, (tadd b (gl.take k)).shr + t.shr⟩ := by
  rw [List.take_add_one, h]
  simp only [tadd, Option.toList_some, List.map_append, List.sum_append, List.map_cons, List.map_nil, List.sum_cons, List.sum_nil, Int.add_zero, Int.add_assoc]
/-- Is a glue's number from 0 to 2^40? -/
def smallG (t : Tot) : Prop := (0 ≤ t.nat ∧ t.nat ≤ 1099511627776) ∧ (0 ≤ t.s0 ∧ t.s0 ≤ 1099511627776) ∧ (0 ≤ t.s1 ∧ t.s1 ≤ 1099511627776) ∧ (0 ≤ t.s2 ∧ t.s2 ≤ 1099511627776) ∧ (0 ≤ t.s3 ∧ t.s3 ≤ 1099511627776) ∧ (0 ≤ t.shr ∧ t.shr ≤ 1099511627776)
theorem map_within {f : Tot → Int} : ∀ gl : List Tot, (∀ t ∈ gl, 0 ≤ f t ∧ f t ≤ 1099511627776) → 0 ≤ (gl.map f).sum ∧ (gl.map f).sum ≤ 1099511627776 * gl.length
  | [], _ => by simp
  | t :: gl, h => by
    have h1 := h t (by simp)
    have h2 := map_within gl (fun u hu => h u (by simp [hu]))
    rw [List.map_cons, List.sum_cons, List.length_cons]
    push_cast
    omega
theorem tadd_within {b : Int} (hb : 0 ≤ b ∧ b ≤ 1099511627776) {gl : List Tot} (h : ∀ t ∈ gl, smallG t) (hl : gl.length ≤ 40) : (0 ≤ (tadd b gl).nat ∧ (tadd b gl).nat ≤ 45079976738816) ∧ (0 ≤ (tadd b gl).s0 ∧ (tadd b gl).s0 ≤ 45079976738816) ∧ (0 ≤ (tadd b gl).s1 ∧ (tadd b gl).s1 ≤ 45079976738816) ∧ (0 ≤ (tadd b gl).s2 ∧ (tadd b gl).s2 ≤ 45079976738816) ∧ (0 ≤ (tadd b gl).s3 ∧ (tadd b gl).s3 ≤ 45079976738816) ∧ (0 ≤ (tadd b gl).shr ∧ (tadd b gl).shr ≤ 45079976738816) := by
  have h0 := map_within (f := (·.nat)) gl (fun t ht => (h t ht).1)
  have h1 := map_within (f := (·.s0)) gl (fun t ht => (h t ht).2.1)
  have h2 := map_within (f := (·.s1)) gl (fun t ht => (h t ht).2.2.1)
  have h3 := map_within (f := (·.s2)) gl (fun t ht => (h t ht).2.2.2.1)
  have h4 := map_within (f := (·.s3)) gl (fun t ht => (h t ht).2.2.2.2.1)
  have h5 := map_within (f := (·.shr)) gl (fun t ht => (h t ht).2.2.2.2.2)
  unfold tadd
  simp only
  omega
theorem smallG_fld {t : Tot} (h : smallG t) : fldT t = true := by
  obtain ⟨h0, h1, h2, h3, h4, h5⟩ := h
  rw [fldT_iff]
  exact ⟨inF_yes h0.1 (by omega), inF_yes h1.1 (by omega), inF_yes h2.1 (by omega), inF_yes h3.1 (by omega), inF_yes h4.1 (by omega), inF_yes h5.1 (by omega)⟩
theorem tadd_fld {b : Int} (hb : 0 ≤ b ∧ b ≤ 1099511627776) {gl : List Tot} (h : ∀ t ∈ gl, smallG t) (hl : gl.length ≤ 40) : fldT (tadd b gl) = true := by
  obtain ⟨h0, h1, h2, h3, h4, h5⟩ := tadd_within hb h hl
  rw [fldT_iff]
  exact ⟨inF_yes h0.1 (by omega), inF_yes h1.1 (by omega), inF_yes h2.1 (by omega), inF_yes h3.1 (by omega), inF_yes h4.1 (by omega), inF_yes h5.1 (by omega)⟩
theorem strO_sum (b : Int) (gl : List Tot) {o : Nat} (ho : o < 4) : (gl.map fun t => strO t o).sum = strO (tadd b gl) o := by
  obtain rfl | rfl | rfl | rfl : o = 0 ∨ o = 1 ∨ o = 2 ∨ o = 3 := by omega
  all_goals rfl
/-- The sum of the sizes. -/
theorem sizes_sum (how ord amt : Int) (gl : List Tot) : (sizesL how ord amt gl).sum = (gl.map (·.nat)).sum + sumR gl.length (addG how amt (partsG how ord gl) (shrsG gl)) := by
  unfold sizesL
  rw [offL_sum, natsG_length]
  rfl
/-- IT ADDS UP. -/
theorem adds_up {b high : Int} (hb : 0 ≤ b ∧ b ≤ 1099511627776) {gl : List Tot} (h : ∀ t ∈ gl, smallG t) (hl : gl.length ≤ 40) (h1 : -1125899906842624 ≤ high) (h2 : high ≤ 1125899906842624) :
    (0 ≤ (setOf (tadd b gl) high false).how ∧ (setOf (tadd b gl) high false).how ≤ 3) ∧ inF (setOf (tadd b gl) high false).amt = true ∧ (-2251799813685248 ≤ (setOf (tadd b gl) high false).left ∧ (setOf (tadd b gl) high false).left ≤ 2251799813685248) ∧
    b + (sizesL (setOf (tadd b gl) high false).how (setOf (tadd b gl) high false).ord (setOf (tadd b gl) high false).amt gl).sum + (setOf (tadd b gl) high false).left = high ∧
    ((setOf (tadd b gl) high false).left = 0 ∨ (setOf (tadd b gl) high false).how = 0 ∨ (setOf (tadd b gl) high false).how = 3) := by
  have hw := tadd_within hb h hl
  have hr : rightT (tadd b gl) high = true := by
    unfold rightT
    rw [tadd_fld hb h hl, decide_eq_true h1, decide_eq_true h2]; rfl
  have hn : (tadd b gl).nat = b + (gl.map (·.nat)).sum := rfl
  have hsh : (tadd b gl).shr = (gl.map (·.shr)).sum := rfl
  have hob := order4_bounds (tadd b gl).s1 (tadd b gl).s2 (tadd b gl).s3
  have hS : setOf (tadd b gl) high false = if high - (tadd b gl).nat = 0 then ⟨0, 0, 0, 0, 0⟩
    else if 0 < high - (tadd b gl).nat then
      if 0 < strO (tadd b gl) (order4 (tadd b gl).s1 (tadd b gl).s2 (tadd b gl).s3).toNat ∧ ¬ (false = true ∧ order4 (tadd b gl).s1 (tadd b gl).s2 (tadd b gl).s3 = 0) then ⟨1, order4 (tadd b gl).s1 (tadd b gl).s2 (tadd b gl).s3, high - (tadd b gl).nat, strO (tadd b gl) (order4 (tadd b gl).s1 (tadd b gl).s2 (tadd b gl).s3).toNat, 0⟩ else ⟨0, 0, 0, 0, high - (tadd b gl).nat⟩
    else if 0 ≤ (tadd b gl).shr + (high - (tadd b gl).nat) then ⟨2, 0, -(high - (tadd b gl).nat), (tadd b gl).shr, 0⟩ else ⟨3, 0, (tadd b gl).shr, (tadd b gl).shr, (tadd b gl).shr + (high - (tadd b gl).nat)⟩ := by
    unfold setOf; rw [if_pos hr]
  have hz : sumR gl.length (addG 0 0 (partsG 0 0 gl) (shrsG gl)) = 0 := (sumR_congr (fun j _ => rfl)).trans (sumR_zero _)
  obtain ⟨o, ho⟩ := Int.eq_ofNat_of_zero_le hob.1
  rw [hS]
  rw [ho] at hob ⊢
  rw [Int.toNat_natCast]
  split
  · next e =>
    refine ⟨⟨by simp, by simp⟩, by decide, ⟨by simp, by simp⟩, ?_, .inl rfl⟩
    show b + (sizesL 0 0 0 gl).sum + 0 = high
    rw [sizes_sum, hz]; omega
  · split
    · next e1 e2 =>
      split
      · next e3 =>
        have hp : (partsG 1 o gl) = gl.map fun t => strO t o := by
          unfold partsG
          apply List.map_congr_left
          intro t _
          unfold partG
          rw [if_pos ⟨rfl, by omega, by omega⟩, Int.toNat_natCast]
        have hps : (partsG 1 o gl).sum = strO (tadd b gl) o := by rw [hp]; exact strO_sum b gl (by omega)
        have hok : shOk (high - (tadd b gl).nat) (partsG 1 o gl) = true := by
          rw [shOk_iff]
          refine ⟨by omega, fun x hx => ?_, ?_, by rw [hps]; exact e3.1⟩
          · obtain ⟨t, ht, rfl⟩ := List.mem_map.1 hx
            exact (partG_in (smallG_fld (h t ht))).1
          · rw [hps]
            obtain rfl | rfl | rfl | rfl : o = 0 ∨ o = 1 ∨ o = 2 ∨ o = 3 := by omega
            · show (tadd b gl).s0 ≤ _; omega
            · show (tadd b gl).s1 ≤ _; omega
            · show (tadd b gl).s2 ≤ _; omega
            · show (tadd b gl).s3 ≤ _; omega
        refine ⟨⟨by simp, by simp⟩, inF_yes (by simp; omega) (by simp; omega), ⟨by simp, by simp⟩, ?_, .inl rfl⟩
        show b + (sizesL 1 o (high - (tadd b gl).nat) gl).sum + 0 = high
        rw [sizes_sum]
        have hs := shares_all hok
        rw [partsG_length] at hs
        rw [sumR_congr (g := shareAt (high - (tadd b gl).nat) (partsG 1 o gl)) (fun j _ => by unfold addG shG; rw [if_neg (by decide), if_neg (by decide), if_pos rfl, if_pos hok]), hs]
        omega
      · next e3 =>
        refine ⟨⟨by simp, by simp⟩, show inF 0 = true by decide, ⟨by simp; omega, by simp; omega⟩, ?_, .inr (.inl rfl)⟩
        show b + (sizesL 0 0 0 gl).sum + (high - (tadd b gl).nat) = high
        rw [sizes_sum, hz]; omega
    · split
      · next e1 e2 e3 =>
        have hp : (partsG 2 0 gl) = gl.map (·.shr) := by
          unfold partsG
          apply List.map_congr_left
          intro t _
          unfold partG
          rw [if_neg (fun h => by have := h.1; omega), if_pos rfl]
        have hok : shOk (-(high - (tadd b gl).nat)) (partsG 2 0 gl) = true := by
          rw [shOk_iff]
          refine ⟨by omega, fun x hx => ?_, by rw [hp, ← hsh]; omega, by rw [hp, ← hsh]; omega⟩
          obtain ⟨t, ht, rfl⟩ := List.mem_map.1 hx
          exact (partG_in (smallG_fld (h t ht))).1
        refine ⟨⟨by simp, by simp⟩, inF_yes (by simp; omega) (by simp; omega), ⟨by simp, by simp⟩, ?_, .inl rfl⟩
        show b + (sizesL 2 0 (-(high - (tadd b gl).nat)) gl).sum + 0 = high
        rw [sizes_sum]
        have hs := shares_all hok
        rw [partsG_length] at hs
        rw [sumR_congr (g := fun j => -(shareAt (-(high - (tadd b gl).nat)) (partsG 2 0 gl) j)) (fun j _ => by unfold addG shG; rw [if_neg (by decide), if_pos rfl, if_pos hok]), sumR_neg, hs]
        omega
      · next e1 e2 e3 =>
        refine ⟨⟨by simp, by simp⟩, inF_yes (by simp; omega) (by simp; omega), ⟨by simp; omega, by simp; omega⟩, ?_, .inr (.inr rfl)⟩
        show b + (sizesL 3 0 (tadd b gl).shr gl).sum + ((tadd b gl).shr + (high - (tadd b gl).nat)) = high
        rw [sizes_sum]
        have hs := sumR_nth (shrsG gl)
        rw [show (shrsG gl).length = gl.length from List.length_map _] at hs
        rw [sumR_congr (g := fun j => -(nth (shrsG gl) j)) (fun j _ => by unfold addG; rw [if_pos rfl]), sumR_neg, hs]
        have : (shrsG gl).sum = (tadd b gl).shr := rfl
        omega
/-- Out of range: nothing is set. -/
theorem set_far {b high : Int} {gl : List Tot} (h : ¬ (-1125899906842624 ≤ high ∧ high ≤ 1125899906842624)) : setOf (tadd b gl) high false = ⟨0, 0, 0, 0, 0⟩ := by
  have hr : rightT (tadd b gl) high = false := by
    unfold rightT
    by_cases h1 : -1125899906842624 ≤ high
    · rw [decide_eq_false (show ¬ high ≤ 1125899906842624 from fun h2 => h ⟨h1, h2⟩)]; simp
    · rw [decide_eq_false h1]; simp
  unfold setOf
  rw [hr]; rfl
/-- No size is far from 0. -/
theorem sizes_in {how ord amt : Int} {gl : List Tot} (h : ∀ t ∈ gl, smallG t) (ha : inF amt = true) : ∀ x ∈ sizesL how ord amt gl, -2251799813685248 ≤ x ∧ x ≤ 2251799813685248 := by
  intro x hx
  obtain ⟨j, hj, rfl⟩ := List.mem_map.1 hx
  have hj2 : j < gl.length := by rw [List.mem_range, natsG_length] at hj; exact hj
  obtain ⟨t, ht⟩ : ∃ t, gl[j]? = some t := ⟨gl[j], List.getElem?_eq_getElem hj2⟩
  have hm := h t (List.mem_of_getElem? ht)
  have e1 : nth (natsG gl) j = t.nat := nth_map ht
  have e2 : nth (shrsG gl) j = t.shr := nth_map ht
  have ha2 := inF_iff.1 ha
  have hsg : 0 ≤ shG amt (partsG how ord gl) j ∧ shG amt (partsG how ord gl) j ≤ 1125899906842624 := by
    unfold shG
    split
    · next hok => have := shareAt_in hok (by omega) j; omega
    · omega
  obtain ⟨⟨m0, m1⟩, _, _, _, _, ⟨m2, m3⟩⟩ := hm
  rw [e1]
  unfold addG
  rw [e2]
  split
  · omega
  · split
    · omega
    · split
      · omega
      · omega
end Go.Proofs.Yteipfamaclildaa
