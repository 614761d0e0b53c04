/- Lists that are turned place by place: plain laws; a cell of a row of numbers is turned. -/
import Derived.Test.YteipfamaclildaaGset5

namespace Go.Proofs.Yteipfamaclildaa

open Go.RowKit

/-- A list of numbers, to each of which something is added. -/
def offL (b : List Int) (f : Nat → Int) : List Int := (List.range b.length).map fun j => nth b j + f j
theorem offL_length (b : List Int) (f : Nat → Int) : (offL b f).length = b.length := by simp [offL]
theorem offL_get {b : List Int} {f : Nat → Int} {j : Nat} (h : j < b.length) : (offL b f)[j]? = some (nth b j + f j) := by simp [offL, h]
theorem offL_congr {b : List Int} {f g : Nat → Int} (h : ∀ j, j < b.length → f j = g j) : offL b f = offL b g := by
  unfold offL
  apply List.map_congr_left
  intro j hj
  rw [h j (List.mem_range.1 hj)]
theorem offL_zero (b : List Int) : offL b (fun _ => 0) = b := by
  apply List.ext_getElem?
  intro j
  by_cases h : j < b.length
  · rw [offL_get h, nth_get h, Int.add_zero]
  · rw [List.getElem?_eq_none (by rw [offL_length]; omega), List.getElem?_eq_none (by omega)]
theorem offL_set {b : List Int} {f g : Nat → Int} {k : Nat} {y : Int} (hy : y = nth b k + g k) (h : ∀ j, j < b.length → j ≠ k → f j = g j) : (offL b f).set k y = offL b g := by
  apply List.ext_getElem?
  intro j
  rw [List.getElem?_set]
  by_cases hj : j < b.length
  · by_cases e : k = j
    · subst e
      rw [if_pos rfl, if_pos (by rw [offL_length]; exact hj), offL_get hj, hy]
    · rw [if_neg e, offL_get hj, offL_get hj, h j hj (fun e' => e e'.symm)]
  · rw [List.getElem?_eq_none (by rw [offL_length]; omega)]
    split
    · split
      · rename_i h1; rw [offL_length] at h1; omega
      · rw [List.getElem?_eq_none (by rw [offL_length]; omega)]
    · rw [List.getElem?_eq_none (by rw [offL_length]; omega)]
/-- What a row of numbers holds. -/
theorem Row.cellAt {w : World} {base : Nat} {e : TypeId} {v : Value} {l : List Int} (h : Row w base e 1 enc1 v l) {g len cap : Nat} (hv : v = .slice (some ⟨g, 0, none⟩) len cap) {k : Nat} {x : Int} (hx : l[k]? = some x) : w.cell? ⟨g, k, none⟩ = some (.int .i64 x) := by
  have := World.ownsRow.cells h (g := g) (by rw [hv]; rfl) k (.int .i64 x) (by
    have := flatMap_get (enc := enc1) (n := 1) (fun _ => rfl) l k x 0 (.int .i64 x) hx rfl
    rwa [Nat.mul_one] at this)
  have hadd : (⟨g, 0, none⟩ : Addr).add k = ⟨g, k, none⟩ := by unfold Addr.add; split <;> simp_all
  rwa [hadd] at this
theorem Row.freeAt {w : World} {base : Nat} {e : TypeId} {v : Value} {l : List Int} (h : Row w base e 1 enc1 v l) {g len cap : Nat} (hv : v = .slice (some ⟨g, 0, none⟩) len cap) (k : Nat) : w.frozen? ⟨g, k, none⟩ = false := by
  rcases h.2 with ⟨h0, _⟩ | ⟨g', cap', cur, h1, _, hg, _⟩
  · rw [h0] at hv; cases hv
  · rw [h1] at hv; cases hv
    simp [World.frozen?, hg]
theorem flatMap_enc1 (l : List Int) : l.flatMap enc1 = l.map (Value.int .i64) := by
  induction l with
  | nil => rfl
  | cons x l ih => rw [List.flatMap_cons, ih]; rfl
/-- A cell of it is turned. -/
theorem Row.setAt {w : World} {base : Nat} {e : TypeId} {v : Value} {l : List Int} (h : Row w base e 1 enc1 v l) {g len cap : Nat} (hv : v = .slice (some ⟨g, 0, none⟩) len cap) (k : Nat) (y : Int) : Row (w.setCell ⟨g, k, none⟩ (.int .i64 y)) base e 1 enc1 v (l.set k y) := by
  obtain ⟨h0, h1⟩ := h
  refine ⟨by simp [flatMap_enc1], ?_⟩
  rcases h1 with ⟨h1, _⟩ | ⟨g', cap', cur, h1, hb, hg, hc, hm, hs, ht⟩
  · rw [h1] at hv; cases hv
  · rw [h1] at hv; cases hv
    refine .inr ⟨g, _, (cur.toList.set k (.int .i64 y)).toArray, by rw [h1, List.length_set], hb, ?_, by rw [List.length_set]; exact hc, hm, by simpa using hs, ?_⟩
    · have hB : Blk w g cur.toList e := ⟨by simpa using hg⟩
      exact (hB.set k (.int .i64 y)).heap
    · rw [List.length_set, Nat.mul_one] at *
      rw [List.toList_toArray, List.take_set, ht, flatMap_enc1, flatMap_enc1, List.map_set]
theorem Row.shape {α : Type} {w : World} {base n : Nat} {e : TypeId} {enc : α → List Value} {v : Value} {l : List α} (h : Row w base e n enc v l) (hl : 0 < l.length) : ∃ g cap, v = .slice (some ⟨g, 0, none⟩) l.length cap ∧ base ≤ g ∧ g < w.heap.size ∧ l.length ≤ cap ∧ cap ≤ maxLen := by
  rcases h.2 with ⟨_, h0⟩ | ⟨g, cap, cur, hv, hb, hg, hc, hm, _⟩
  · omega
  · exact ⟨g, cap, hv, hb, (Array.getElem?_eq_some_iff.1 hg).1, hc, hm⟩
/-- Another block is turned. -/
theorem Row.away {α : Type} {w : World} {base n : Nat} {e : TypeId} {enc : α → List Value} {v : Value} {l : List α} (h : Row w base e n enc v l) {p : Addr} (hp : ∀ j, v.ownBlock = some j → j ≠ p.block) (u : Value) : Row (w.setCell p u) base e n enc v l := by
  have hg : w.grownBy (w.setCell p u) (some p.block) := ⟨rfl, rfl, rfl, by simp, fun k _ hk => Below.heap_setCell _ _ _ k (fun e => hk (by rw [e]))⟩
  refine World.ownsRow.kept h hg ?_
  cases hv : v.ownBlock with
  | none => exact .inl rfl
  | some j => exact .inr (fun e => hp j hv (Option.some.inj e))
/-- What has been added at a place. -/
def adds {n : Nat} (f : Nat → Int) (pre : List (Fin n)) (j : Nat) : Int := (pre.map fun x => if x.val = j then f j else 0).sum
theorem adds_snoc {n : Nat} (f : Nat → Int) (pre : List (Fin n)) (x : Fin n) (j : Nat) : adds f (pre ++ [x]) j = adds f pre j + if x.val = j then f j else 0 := by simp [adds]
theorem adds_bounds {n : Nat} {f : Nat → Int} (hf : ∀ j, 0 ≤ f j ∧ f j ≤ 1125899906842624) (j : Nat) : ∀ pre : List (Fin n), 0 ≤ adds f pre j ∧ adds f pre j ≤ 1125899906842624 * pre.length := by
  intro pre
  induction pre with
  | nil => simp [adds]
  | cons x pre ih =>
    have h := hf j
    have e : adds f (x :: pre) j = (if x.val = j then f j else 0) + adds f pre j := by simp [adds]
    rw [e, List.length_cons]
    push_cast
    split
    · omega
    · omega
theorem adds_firsts {n : Nat} (f : Nat → Int) (j k : Nat) (hk : k ≤ n) : adds f (firsts n k) j = if j < k then f j else 0 := by
  induction k with
  | zero => simp [firsts_zero, adds]
  | succ k ih =>
    rw [firsts_succ (by omega), adds_snoc, ih (by omega)]
    by_cases h : j < k
    · rw [if_pos h, if_neg (by show ¬ k = j; omega), if_pos (by omega), Int.add_zero]
    · by_cases e : j = k
      · subst e; rw [if_neg h, if_pos rfl, if_pos (by omega), Int.zero_add]
      · rw [if_neg h, if_neg (by show ¬ k = j; omega), if_neg (by omega), Int.add_zero]
end Go.Proofs.Yteipfamaclildaa
