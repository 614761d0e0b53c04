/- A galley's lines: parse. -/
import Derived.Test.YtaekeogaakogbaaGreatDoorG3

namespace Go.Proofs.YtaekeogaakogbaaGreatDoor

open Go.ChangeShapes Go.WideShapes Go.ChangeAt Go.RowKit Go.Shelf

def encS (x : List UInt8) : List Value := [sv x]
theorem sl_strs {w : World} {b : Nat} {l : List (List UInt8)} {t : TypeId} (h : Blk w b (l.map sv) t) (hl : l.length ≤ 1000000) : SlOk w 1 encS (some ⟨b, 0, none⟩) l.length l.length l := by
  refine ⟨rfl, Nat.le_refl _, by unfold maxLen; omega, .inr ⟨b, 0, rfl, h.lt, fun i x hx j v hv => ?_⟩⟩
  obtain _ | j := j
  · simp only [encS, List.getElem?_cons_zero, Option.some.injEq] at hv
    subst hv
    rw [Nat.zero_add, Nat.mul_one, Nat.add_zero]
    exact h.cell i (by rw [List.getElem?_map, hx]; rfl)
  · simp [encS] at hv
theorem infoI64 : (Tryz.prog.info? 2).map (fun i => (i.zero, i.size, i.bytes)) = some (some (.int .i64 0), 1, 8) := by kernel_rfl
theorem Row.setOther {α : Type} {w : World} {base n : Nat} {e : TypeId} {enc : α → List Value} {v : Value} {l : List α} (h : Row w base e n enc v l) {b o : Nat} (hb : b < base) (u : Value) : Row (w.setCell ⟨b, o, none⟩ u) base e n enc v l := by
  refine ⟨h.1, ?_⟩
  rcases h.2 with hh | ⟨g, cap, cur, rfl, hg, hgg, rest⟩
  · exact .inl hh
  · exact .inr ⟨g, cap, cur, rfl, hg, by rw [← hgg]; exact Below.heap_setCell _ _ _ _ (by show g ≠ b; omega), rest⟩
theorem splitW_len : ∀ s : List UInt8, (splitW s).length ≤ s.length + 1
  | [] => by simp [splitW]
  | c :: r => by
    have ih := splitW_len r
    unfold splitW
    split
    · rw [List.length_cons, List.length_cons]; omega
    · split
      · rename_i w ws e
        rw [e] at ih
        rw [List.length_cons] at ih ⊢
        rw [List.length_cons]; omega
      · simp
theorem splitW_short : ∀ {s : List UInt8} {x : List UInt8}, x ∈ splitW s → x.length ≤ s.length
  | [], x, h => by simp [splitW] at h; simp [h]
  | c :: r, x, h => by
    unfold splitW at h
    split at h
    · rcases List.mem_cons.1 h with rfl | h
      · simp
      · have := splitW_short h; rw [List.length_cons]; omega
    · split at h
      · rename_i w ws e
        rcases List.mem_cons.1 h with rfl | h
        · have := splitW_short (s := r) (x := w) (by rw [e]; exact List.mem_cons_self)
          rw [List.length_cons, List.length_cons]; omega
        · have := splitW_short (s := r) (x := x) (by rw [e]; exact List.mem_cons_of_mem _ h)
          rw [List.length_cons]; omega
      · simp at h; simp [h]
theorem parse_i64 {x : List UInt8} {v : Int} (hp : Lib.parseIntB 64 x = .ok v) : I64 v := by
  unfold Lib.parseIntB at hp
  unfold I64
  split at hp
  · cases hp
  · simp only at hp
    split at hp
    · cases hp
    · cases hp
    · split at hp
      · cases hp
      · split at hp
        · cases hp
        · cases hp
          split <;> omega
end Go.Proofs.YtaekeogaakogbaaGreatDoor
