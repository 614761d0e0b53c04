/- Lines of a galley, plain: the thing of a text, by the program and by the document. -/
import Derived.Test.YtaekeogaakogbaaGreatDoorG1

namespace Go.Proofs.YtaekeogaakogbaaGreatDoor

open Go.RowKit

abbrev wBox : List UInt8 := [98, 111, 120]
abbrev wFloat : List UInt8 := [102, 108, 111, 97, 116]
abbrev wRule : List UInt8 := [114, 117, 108, 101]
abbrev wLine : List UInt8 := [108, 105, 110, 101]
abbrev wThing : List UInt8 := [116, 104, 105, 110, 103]
/-- A line's word and numbers, if all of these are numbers. -/
def parseP (s : List UInt8) : Option (List UInt8 × List Int) := match splitW s with
  | [] => none
  | w :: ws => (ws.mapM canon).map fun ns => (w, ns)
theorem splitW_one : ∀ {a : List UInt8}, (32 : UInt8) ∉ a → splitW a = [a]
  | [], _ => rfl
  | c :: r, h => by
    have h1 : c ≠ 32 := fun e => h (by rw [e]; exact List.mem_cons_self)
    have ih := splitW_one (a := r) (fun hr => h (List.mem_cons_of_mem _ hr))
    unfold splitW
    rw [if_neg h1, ih]
theorem splitW_app (b : List UInt8) : ∀ {a : List UInt8}, (32 : UInt8) ∉ a → splitW (a ++ 32 :: b) = a :: splitW b
  | [], _ => by rw [List.nil_append]; conv => lhs; unfold splitW
                simp
  | c :: r, h => by
    have h1 : c ≠ 32 := fun e => h (by rw [e]; exact List.mem_cons_self)
    have ih := splitW_app b (a := r) (fun hr => h (List.mem_cons_of_mem _ hr))
    rw [List.cons_append]
    conv => lhs; unfold splitW
    rw [if_neg h1, ih]
theorem no32_itoa (v : Int) : (32 : UInt8) ∉ Lib.itoa v := by
  unfold Lib.itoa
  split
  · intro h
    rcases List.mem_cons.1 h with h | h
    · cases h
    · have := dec_byte h
      have e : (32 : UInt8).toNat = 32 := rfl
      omega
  · intro h
    have := dec_byte h
    have e : (32 : UInt8).toNat = 32 := rfl
    omega
theorem splitW_line {wd : List UInt8} (hw : (32 : UInt8) ∉ wd) : ∀ ns : List Int, splitW (lineL wd ns) = wd :: ns.map Lib.itoa := by
  intro ns
  induction ns generalizing wd with
  | nil => unfold lineL; rw [List.flatMap_nil, List.append_nil, splitW_one hw]; rfl
  | cons n ns ih =>
    have ih' := ih (wd := Lib.itoa n) (no32_itoa n)
    unfold lineL at ih' ⊢
    rw [List.flatMap_cons]
    unfold numL at ih' ⊢
    rw [List.cons_append, splitW_app _ hw, ih']
    rfl
theorem joinW : ∀ {s w : List UInt8} {ws : List (List UInt8)}, splitW s = w :: ws → s = w ++ ws.flatMap fun x => 32 :: x
  | [], w, ws, h => by
    unfold splitW at h
    cases h; rfl
  | c :: r, w, ws, h => by
    unfold splitW at h
    split at h
    · rename_i hc
      cases h
      obtain ⟨w', ws', e⟩ := List.exists_cons_of_ne_nil (splitW_ne r)
      rw [e, List.nil_append, List.flatMap_cons, List.cons_append, hc, ← joinW e]
    · split at h
      · rename_i w' ws' e
        cases h
        rw [List.cons_append, ← joinW e]
      · rename_i e
        exact absurd e (splitW_ne r)
theorem mapM_canon : ∀ {ws : List (List UInt8)} {ns : List Int}, ws.mapM canon = some ns → ws = ns.map Lib.itoa
  | [], ns, h => by
    simp at h
    subst h; rfl
  | x :: ws, ns, h => by
    simp only [List.mapM_cons, Option.bind_eq_bind, Option.bind_eq_some_iff, Option.pure_def, Option.some.injEq] at h
    obtain ⟨v, hv, vs, hvs, rfl⟩ := h
    rw [List.map_cons, canon_ok hv, ← mapM_canon hvs]
theorem canon_map : ∀ {ns : List Int}, (∀ n, n ∈ ns → I64 n) → (ns.map Lib.itoa).mapM canon = some ns
  | [], _ => rfl
  | n :: ns, h => by
    rw [List.map_cons, List.mapM_cons, canon_itoa (h n List.mem_cons_self), canon_map (ns := ns) fun x hx => h x (List.mem_cons_of_mem _ hx)]
    rfl
theorem canon_i64 {x : List UInt8} {v : Int} (h : canon x = some v) : I64 v := by
  unfold canon at h
  split at h
  · rename_i v' hp
    split at h
    · cases h
      unfold Lib.parseIntB at hp
      unfold I64
      split at hp
      · cases hp
      · simp only at hp
        split at hp
        · cases hp
        · cases hp
        · split at hp
          · cases hp
          · split at hp
            · cases hp
            · cases hp
              split <;> omega
    · cases h
  · cases h
theorem mapM_i64 : ∀ {ws : List (List UInt8)} {ns : List Int}, ws.mapM canon = some ns → ∀ n, n ∈ ns → I64 n
  | [], ns, h => by
    simp at h
    subst h; intro n hn; cases hn
  | x :: ws, ns, h => by
    simp only [List.mapM_cons, Option.bind_eq_bind, Option.bind_eq_some_iff, Option.pure_def, Option.some.injEq] at h
    obtain ⟨v, hv, vs, hvs, rfl⟩ := h
    intro n hn
    rcases List.mem_cons.1 hn with rfl | hn
    · exact canon_i64 hv
    · exact mapM_i64 hvs n hn
theorem parseP_line {wd : List UInt8} (hw : (32 : UInt8) ∉ wd) {ns : List Int} (h : ∀ n, n ∈ ns → I64 n) : parseP (lineL wd ns) = some (wd, ns) := by
  unfold parseP
  rw [splitW_line hw]
  simp only [canon_map h]
  rfl
theorem parseP_ok {s w : List UInt8} {ns : List Int} (h : parseP s = some (w, ns)) : s = lineL w ns ∧ (∀ n, n ∈ ns → I64 n) ∧ splitW s = w :: ns.map Lib.itoa := by
  unfold parseP at h
  split at h
  · cases h
  · rename_i w' ws e
    simp only [Option.map_eq_some_iff, Prod.mk.injEq] at h
    obtain ⟨ns', h1, rfl, rfl⟩ := h
    have e1 := mapM_canon h1
    refine ⟨?_, mapM_i64 h1, by rw [e, e1]⟩
    rw [joinW e]
    conv => lhs; rw [e1]
    unfold lineL
    rw [List.flatMap_map]
    rfl
end Go.Proofs.YtaekeogaakogbaaGreatDoor
