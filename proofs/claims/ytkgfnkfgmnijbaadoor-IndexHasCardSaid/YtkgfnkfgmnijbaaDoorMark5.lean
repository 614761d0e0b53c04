/- Marks: Of by definition. -/
import Derived.Test.YtkgfnkfgmnijbaaDoorMark4

namespace Go.Proofs.YtkgfnkfgmnijbaaDoor

open Go.ChangeShapes Go.WideShapes Go.ChangeAt Go.RowKit Go.Shelf

theorem SlOk.takeN {α : Type} {w : World} {n : Nat} {enc : α → List Value} {a : Option Addr} {len cap : Nat} {l : List α} (h : SlOk w n enc a len cap l) {k : Nat} (hk : k ≤ len) : SlOk w n enc a (l.take k).length cap (l.take k) := by
  obtain ⟨hl, hc, hm, hh⟩ := h
  refine ⟨rfl, by rw [List.length_take]; omega, hm, ?_⟩
  rcases hh with rfl | ⟨b, off, rfl, hb, hr⟩
  · left; simp
  · refine .inr ⟨b, off, rfl, hb, fun i x hx j v hv => ?_⟩
    rw [List.getElem?_take] at hx
    split at hx
    · exact hr i x hx j v hv
    · cases hx
theorem getLastD_append {l r : List Int} (d : Int) : (l ++ r).getLastD d = r.getLastD (l.getLastD d) := by
  simp only [List.getLastD_eq_getLast?, List.getLast?_append]
  cases r.getLast? <;> simp
theorem take_chunk (cs : List Col) (P k : Nat) (_h : k * P < cs.length) : cs.take ((k + 1) * P) = cs.take (k * P) ++ chunkL cs P k := by
  have e : chunkL cs P k = (cs.drop (k * P)).take P := by
    unfold chunkL
    rw [List.drop_take, Nat.add_sub_cancel_left]
    rcases Nat.le_total P (cs.length - k * P) with h1 | h1
    · rw [Nat.min_eq_left h1]
    · rw [Nat.min_eq_right h1, List.take_of_length_le (by rw [List.length_drop]; omega), List.take_of_length_le (by rw [List.length_drop]; omega)]
  rw [e, Nat.add_mul, Nat.one_mul, List.take_add]
theorem pageL_append (l : List Item) (xs ys : List Col) : pageL l (xs ++ ys) = pageL l xs ++ pageL l ys := by unfold pageL; rw [List.flatMap_append]
theorem lastK_eq (l : List Item) (cs : List Col) (P : Nat) : ∀ k, (∀ j, j < k → j * P < cs.length) → lastK (pgs l cs P) k = (pageL l (cs.take (k * P))).getLastD (-1)
  | 0, _ => by rw [Nat.zero_mul, List.take_zero]; rfl
  | k + 1, h => by
    have ih := lastK_eq l cs P k (fun j hj => h j (by omega))
    rw [take_chunk cs P k (h k (by omega)), pageL_append, getLastD_append, ← ih]
    rfl
theorem last_at {p : List Int} {n : Nat} (h : p.length = n + 1) (d : Int) : p[n]? = some (p.getLastD d) := by
  rw [List.getLastD_eq_getLast?, List.getLast?_eq_getElem?, h, Nat.add_sub_cancel, List.getElem?_eq_getElem (by omega)]; rfl
theorem head_at {p : List Int} {n : Nat} (h : p.length = n + 1) (d : Int) : p[0]? = some (p.headD d) := by
  cases p with
  | nil => simp at h
  | cons x q => rfl

end Go.Proofs.YtkgfnkfgmnijbaaDoor
