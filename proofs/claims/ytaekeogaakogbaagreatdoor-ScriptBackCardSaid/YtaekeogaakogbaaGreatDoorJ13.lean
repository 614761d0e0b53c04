/- A script's reader: any line. -/
import Derived.Test.YtaekeogaakogbaaGreatDoorJ12

namespace Go.Proofs.YtaekeogaakogbaaGreatDoor

open Go.ChangeShapes Go.WideShapes Go.ChangeAt Go.RowKit Go.Shelf

theorem verb_word {wd : List UInt8} (h : isVerb wd = true) : wd = kBox ∨ wd = kGlue ∨ wd = kPen ∨ wd = kMark ∨ wd = kFloat ∨ wd = kBar ∨ wd = kNote := by
  unfold isVerb at h
  simp only [Bool.or_eq_true, beq_iff_eq] at h
  rcases h with h | h | h | h | h | h | h
  · exact .inl h
  · exact .inr (.inl h)
  · exact .inr (.inr (.inl h))
  · exact .inr (.inr (.inr (.inl h)))
  · exact .inr (.inr (.inr (.inr (.inr (.inr h)))))
  · exact .inr (.inr (.inr (.inr (.inl h))))
  · exact .inr (.inr (.inr (.inr (.inr (.inl h)))))
theorem takeS_any (W : World) (R : Nat) (j : JobD) (next : Nat) (s : List UInt8) (hs : s.length ≤ 10000) (w1 : World) (he : Env w1) (k1 : Kp W w1) (hWR : W.heap.size ≤ R) (h : Rdr w1 R W.heap.size j next) (hj : j.ok) (hf : j.few 100000) (hnx : next ≤ 20) :
    Calls Tryz.prog 12 #[.pointer (some ⟨R, 0, none⟩), sv s] w1 (HeadOf W R (takeJ (j, next) s) w1) := by
  cases hp : parseP s with
  | none =>
    have e : takeJ (j, next) s = none := by unfold takeJ; rw [hp]
    rw [e]
    exact takeS_none W R j next s hp hs w1 he k1 hWR h hj hf hnx
  | some p =>
    obtain ⟨wd, ns⟩ := p
    cases hv : isVerb wd with
    | false =>
      have e : takeJ (j, next) s = headJ j next wd ns := by unfold takeJ; rw [hp]; simp [hv]
      rw [e]
      exact takeS_head W R j next s wd ns hp hv hs w1 he k1 hWR h hj hf hnx
    | true =>
      have e : takeJ (j, next) s = (addJ j wd ns).map fun j => (j, 20) := by unfold takeJ; rw [hp]; simp [hv]
      rw [e]
      rcases verb_word hv with rfl | rfl | rfl | rfl | rfl | rfl | rfl
      · by_cases hn : ns.length = 2
        · obtain ⟨x0, x1, rfl⟩ : ∃ x0 x1, ns = [x0, x1] := by
            obtain _ | ⟨x0, _ | ⟨x1, _ | ⟨y, ns⟩⟩⟩ := ns <;> simp at hn
            exact ⟨x0, x1, rfl⟩
          exact takeS_box W R j next s x0 x1 hp hs w1 he k1 hWR h hj hf hnx
        · have ea : addJ j kBox ns = none := by
            unfold addJ
            simp only [List.cons.injEq, reduceCtorEq, and_false, if_false, if_true]
            first
              | (repeat' split) <;> first | rfl | (exact absurd rfl hn) | simp_all
          rw [ea]
          exact takeS_box_no W R j next s ns hp hn hs w1 he k1 hWR h hj hf hnx
      · by_cases hn : ns.length = 4
        · obtain ⟨x0, x1, x2, x3, rfl⟩ : ∃ x0 x1 x2 x3, ns = [x0, x1, x2, x3] := by
            obtain _ | ⟨x0, _ | ⟨x1, _ | ⟨x2, _ | ⟨x3, _ | ⟨y, ns⟩⟩⟩⟩⟩ := ns <;> simp at hn
            exact ⟨x0, x1, x2, x3, rfl⟩
          exact takeS_glue W R j next s x0 x1 x2 x3 hp hs w1 he k1 hWR h hj hf hnx
        · have ea : addJ j kGlue ns = none := by
            unfold addJ
            simp only [List.cons.injEq, reduceCtorEq, and_false, if_false, if_true]
            first
              | (repeat' split) <;> first | rfl | (exact absurd rfl hn) | simp_all
          rw [ea]
          exact takeS_glue_no W R j next s ns hp hn hs w1 he k1 hWR h hj hf hnx
      · by_cases hn : ns.length = 1
        · obtain ⟨x0, rfl⟩ : ∃ x0, ns = [x0] := by
            obtain _ | ⟨x0, _ | ⟨y, ns⟩⟩ := ns <;> simp at hn
            exact ⟨x0, rfl⟩
          exact takeS_pen W R j next s x0 hp hs w1 he k1 hWR h hj hf hnx
        · have ea : addJ j kPen ns = none := by
            unfold addJ
            simp only [List.cons.injEq, reduceCtorEq, and_false, if_false, if_true]
            first
              | (repeat' split) <;> first | rfl | (exact absurd rfl hn) | simp_all
          rw [ea]
          exact takeS_pen_no W R j next s ns hp hn hs w1 he k1 hWR h hj hf hnx
      · by_cases hn : ns.length = 1
        · obtain ⟨x0, rfl⟩ : ∃ x0, ns = [x0] := by
            obtain _ | ⟨x0, _ | ⟨y, ns⟩⟩ := ns <;> simp at hn
            exact ⟨x0, rfl⟩
          exact takeS_mark W R j next s x0 hp hs w1 he k1 hWR h hj hf hnx
        · have ea : addJ j kMark ns = none := by
            unfold addJ
            simp only [List.cons.injEq, reduceCtorEq, and_false, if_false, if_true]
            first
              | (repeat' split) <;> first | rfl | (exact absurd rfl hn) | simp_all
          rw [ea]
          exact takeS_mark_no W R j next s ns hp hn hs w1 he k1 hWR h hj hf hnx
      · by_cases hn : ns.length = 3
        · obtain ⟨x0, x1, x2, rfl⟩ : ∃ x0 x1 x2, ns = [x0, x1, x2] := by
            obtain _ | ⟨x0, _ | ⟨x1, _ | ⟨x2, _ | ⟨y, ns⟩⟩⟩⟩ := ns <;> simp at hn
            exact ⟨x0, x1, x2, rfl⟩
          exact takeS_float W R j next s x0 x1 x2 hp hs w1 he k1 hWR h hj hf hnx
        · have ea : addJ j kFloat ns = none := by
            unfold addJ
            simp only [List.cons.injEq, reduceCtorEq, and_false, if_false, if_true]
            first
              | (repeat' split) <;> first | rfl | (exact absurd rfl hn) | simp_all
          rw [ea]
          exact takeS_float_no W R j next s ns hp hn hs w1 he k1 hWR h hj hf hnx
      · by_cases hn : ns.length = 0
        · obtain rfl : ns = [] := List.length_eq_zero_iff.1 hn
          exact takeS_barrier W R j next s hp hs w1 he k1 hWR h hj hf hnx
        · have ea : addJ j kBar ns = none := by
            unfold addJ
            simp only [List.cons.injEq, reduceCtorEq, and_false, if_false, if_true]
            first
              | (repeat' split) <;> first | rfl | (exact absurd rfl hn) | simp_all
          rw [ea]
          exact takeS_barrier_no W R j next s ns hp hn hs w1 he k1 hWR h hj hf hnx
      · by_cases hn : ns.length % 2 = 0
        · have ea : addJ j kNote ns = none := by
            unfold addJ
            simp [hn]
          rw [ea]
          exact takeS_note_no W R j next s ns hp hn hs w1 he k1 hWR h hj hf hnx
        · have ea : addJ j kNote ns = some { j with items := j.items ++ [⟨5, 0, 0, 0, 0, 0, (j.notes.length : Int)⟩], notes := j.notes ++ [⟨evens ns, odds ns⟩] } := by
            unfold addJ
            simp [hn]
          rw [ea]
          exact takeS_note W R j next s ns hp (by omega) hs w1 he k1 hWR h hj hf hnx
end Go.Proofs.YtaekeogaakogbaaGreatDoor
