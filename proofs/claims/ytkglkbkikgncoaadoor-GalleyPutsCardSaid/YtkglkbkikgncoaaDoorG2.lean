/- Lines of a galley, plain: the thing of a text, by the program and by the document. -/
import Derived.Test.YtkglkbkikgncoaaDoorG1

namespace Go.Proofs.YtkglkbkikgncoaaDoor

open Go.RowKit

abbrev wBox : List UInt8 := [98, 111, 120]
abbrev wFloat : List UInt8 := [102, 108, 111, 97, 116]
abbrev wRule : List UInt8 := [114, 117, 108, 101]
abbrev wLine : List UInt8 := [108, 105, 110, 101]
abbrev wThing : List UInt8 := [116, 104, 105, 110, 103]
/-- A line's word and numbers, if all of these are numbers. -/
def parseP (s : List UInt8) : Option (List UInt8 × List Int) := match splitW s with
  | [] => none
  | w :: ws => (ws.mapM canon).map fun ns => (w, ns)
def putOf (w : List UInt8) (ns : List Int) : Option Put :=
  if w = wBox then (match ns with | [n, y, h] => some ⟨1, n, 0, y, h⟩ | _ => none)
  else if w = wFloat then (match ns with | [n, y, h] => some ⟨2, n, 0, y, h⟩ | _ => none)
  else if w = wRule then (match ns with | [y, h] => some ⟨3, 0, 0, y, h⟩ | _ => none)
  else if w = wLine then (match ns with | [n, l, y, h] => some ⟨4, n, l, y, h⟩ | _ => none)
  else if w = wThing then (match ns with | [k, n, l, y, h] => if k < 1 ∨ 4 < k then some ⟨k, n, l, y, h⟩ else none | _ => none)
  else none
def putP (s : List UInt8) : Option Put := match parseP s with
  | none => none
  | some (w, ns) => putOf w ns
theorem splitW_one : ∀ {a : List UInt8}, (32 : UInt8) ∉ a → splitW a = [a]
  | [], _ => rfl
  | c :: r, h => by
    have h1 : c ≠ 32 := fun e => h (by rw [e]; exact List.mem_cons_self)
    have ih := splitW_one (a := r) (fun hr => h (List.mem_cons_of_mem _ hr))
    unfold splitW
    rw [if_neg h1, ih]
theorem splitW_app (b : List UInt8) : ∀ {a : List UInt8}, (32 : UInt8) ∉ a → splitW (a ++ 32 :: b) = a :: splitW b
  | [], _ => by rw [List.nil_append]; conv => lhs; unfold splitW
                simp
  | c :: r, h => by
    have h1 : c ≠ 32 := fun e => h (by rw [e]; exact List.mem_cons_self)
    have ih := splitW_app b (a := r) (fun hr => h (List.mem_cons_of_mem _ hr))
    rw [List.cons_append]
    conv => lhs; unfold splitW
    rw [if_neg h1, ih]
theorem no32_itoa (v : Int) : (32 : UInt8) ∉ Lib.itoa v := by
  unfold Lib.itoa
  split
  · intro h
    rcases List.mem_cons.1 h with h | h
    · cases h
    · have := dec_byte h
      have e : (32 : UInt8).toNat = 32 := rfl
      omega
  · intro h
    have := dec_byte h
    have e : (32 : UInt8).toNat = 32 := rfl
    omega
theorem splitW_line {wd : List UInt8} (hw : (32 : UInt8) ∉ wd) : ∀ ns : List Int, splitW (lineL wd ns) = wd :: ns.map Lib.itoa := by
  intro ns
  induction ns generalizing wd with
  | nil => unfold lineL; rw [List.flatMap_nil, List.append_nil, splitW_one hw]; rfl
  | cons n ns ih =>
    have ih' := ih (wd := Lib.itoa n) (no32_itoa n)
    unfold lineL at ih' ⊢
    rw [List.flatMap_cons]
    unfold numL at ih' ⊢
    rw [List.cons_append, splitW_app _ hw, ih']
    rfl
theorem joinW : ∀ {s w : List UInt8} {ws : List (List UInt8)}, splitW s = w :: ws → s = w ++ ws.flatMap fun x => 32 :: x
  | [], w, ws, h => by
    unfold splitW at h
    cases h; rfl
  | c :: r, w, ws, h => by
    unfold splitW at h
    split at h
    · rename_i hc
      cases h
      obtain ⟨w', ws', e⟩ := List.exists_cons_of_ne_nil (splitW_ne r)
      rw [e, List.nil_append, List.flatMap_cons, List.cons_append, hc, ← joinW e]
    · split at h
      · rename_i w' ws' e
        cases h
        rw [List.cons_append, ← joinW e]
      · rename_i e
        exact absurd e (splitW_ne r)
theorem mapM_canon : ∀ {ws : List (List UInt8)} {ns : List Int}, ws.mapM canon = some ns → ws = ns.map Lib.itoa
  | [], ns, h => by
    simp at h
    subst h; rfl
  | x :: ws, ns, h => by
    simp only [List.mapM_cons, Option.bind_eq_bind, Option.bind_eq_some_iff, Option.pure_def, Option.some.injEq] at h
    obtain ⟨v, hv, vs, hvs, rfl⟩ := h
    rw [List.map_cons, canon_ok hv, ← mapM_canon hvs]
theorem canon_map : ∀ {ns : List Int}, (∀ n, n ∈ ns → I64 n) → (ns.map Lib.itoa).mapM canon = some ns
  | [], _ => rfl
  | n :: ns, h => by
    rw [List.map_cons, List.mapM_cons, canon_itoa (h n List.mem_cons_self), canon_map (ns := ns) fun x hx => h x (List.mem_cons_of_mem _ hx)]
    rfl
theorem canon_i64 {x : List UInt8} {v : Int} (h : canon x = some v) : I64 v := by
  unfold canon at h
  split at h
  · rename_i v' hp
    split at h
    · cases h
      unfold Lib.parseIntB at hp
      unfold I64
      split at hp
      · cases hp
      · simp only at hp
        split at hp
        · cases hp
        · cases hp
        · split at hp
          · cases hp
          · split at hp
            · cases hp
            · cases hp
              split <;> omega
    · cases h
  · cases h
theorem mapM_i64 : ∀ {ws : List (List UInt8)} {ns : List Int}, ws.mapM canon = some ns → ∀ n, n ∈ ns → I64 n
  | [], ns, h => by
    simp at h
    subst h; intro n hn; cases hn
  | x :: ws, ns, h => by
    simp only [List.mapM_cons, Option.bind_eq_bind, Option.bind_eq_some_iff, Option.pure_def, Option.some.injEq] at h
    obtain ⟨v, hv, vs, hvs, rfl⟩ := h
    intro n hn
    rcases List.mem_cons.1 hn with rfl | hn
    · exact canon_i64 hv
    · exact mapM_i64 hvs n hn
theorem parseP_line {wd : List UInt8} (hw : (32 : UInt8) ∉ wd) {ns : List Int} (h : ∀ n, n ∈ ns → I64 n) : parseP (lineL wd ns) = some (wd, ns) := by
  unfold parseP
  rw [splitW_line hw]
  simp only [canon_map h]
  rfl
theorem parseP_ok {s w : List UInt8} {ns : List Int} (h : parseP s = some (w, ns)) : s = lineL w ns ∧ (∀ n, n ∈ ns → I64 n) ∧ splitW s = w :: ns.map Lib.itoa := by
  unfold parseP at h
  split at h
  · cases h
  · rename_i w' ws e
    simp only [Option.map_eq_some_iff, Prod.mk.injEq] at h
    obtain ⟨ns', h1, rfl, rfl⟩ := h
    have e1 := mapM_canon h1
    refine ⟨?_, mapM_i64 h1, by rw [e, e1]⟩
    rw [joinW e]
    conv => lhs; rw [e1]
    unfold lineL
    rw [List.flatMap_map]
    rfl
/-- What a thing's text tells. -/
def Put.norm (p : Put) : Put := if p.k = 1 ∨ p.k = 2 then ⟨p.k, p.n, 0, p.y, p.h⟩ else if p.k = 3 then ⟨3, 0, 0, p.y, p.h⟩ else p
theorem norm_putL (p : Put) : putL p.norm = putL p := by
  obtain ⟨k, n, l, y, h⟩ := p
  unfold Put.norm
  simp only
  by_cases h12 : k = 1 ∨ k = 2
  · rw [if_pos h12]
    rcases h12 with rfl | rfl <;> rfl
  · rw [if_neg h12]
    by_cases h3 : k = 3
    · subst h3; rfl
    · rw [if_neg h3]
theorem norm_ok {p : Put} (h : p.ok) : p.norm.ok := by
  have z : I64 0 := by unfold I64; omega
  have z3 : I64 3 := by unfold I64; omega
  unfold Put.norm
  split
  · exact ⟨h.1, h.2.1, z, h.2.2.2.1, h.2.2.2.2⟩
  · split
    · exact ⟨z3, z, z, h.2.2.2.1, h.2.2.2.2⟩
    · exact h
theorem putP_putL {p : Put} (h : p.ok) : putP (putL p) = some p.norm := by
  obtain ⟨k, n, l, y, hh⟩ := p
  obtain ⟨q1, q2, q3, q4, q5⟩ := h
  simp only at q1 q2 q3 q4 q5
  unfold putL putP Put.norm
  simp only
  by_cases h1 : k = 1
  · subst h1
    rw [if_pos rfl, if_pos (.inl rfl), parseP_line (by decide) (by simp [q2, q4, q5])]
    rfl
  rw [if_neg h1]
  by_cases h2 : k = 2
  · subst h2
    rw [if_pos rfl, if_pos (.inr rfl), parseP_line (by decide) (by simp [q2, q4, q5])]
    rfl
  rw [if_neg h2, if_neg (show ¬ (k = 1 ∨ k = 2) by omega)]
  by_cases h3 : k = 3
  · subst h3
    rw [if_pos rfl, if_pos rfl, parseP_line (by decide) (by simp [q4, q5])]
    rfl
  rw [if_neg h3, if_neg h3]
  by_cases h4 : k = 4
  · subst h4
    rw [if_pos rfl, parseP_line (by decide) (by simp [q2, q3, q4, q5])]
    rfl
  rw [if_neg h4, parseP_line (by decide) (by simp [q1, q2, q3, q4, q5])]
  show putOf wThing [k, n, l, y, hh] = _
  unfold putOf
  rw [if_neg (by decide), if_neg (by decide), if_neg (by decide), if_neg (by decide), if_pos rfl]
  simp only
  rw [if_pos (by omega)]
theorem putOf_ok {w : List UInt8} {ns : List Int} {p : Put} (h : putOf w ns = some p) (hn : ∀ n, n ∈ ns → I64 n) : lineL w ns = putL p ∧ p.norm = p ∧ p.ok := by
  have z : I64 0 := by unfold I64; omega
  have z1 : I64 1 := by unfold I64; omega
  have z2 : I64 2 := by unfold I64; omega
  have z3 : I64 3 := by unfold I64; omega
  have z4 : I64 4 := by unfold I64; omega
  unfold putOf at h
  split at h
  · split at h
    · cases h
      rename_i e _ n y hh
      subst e
      exact ⟨rfl, rfl, z1, hn n (by simp), z, hn y (by simp), hn hh (by simp)⟩
    · cases h
  split at h
  · split at h
    · cases h
      rename_i e _ n y hh
      subst e
      exact ⟨rfl, rfl, z2, hn n (by simp), z, hn y (by simp), hn hh (by simp)⟩
    · cases h
  split at h
  · split at h
    · cases h
      rename_i e _ y hh
      subst e
      exact ⟨rfl, rfl, z3, z, z, hn y (by simp), hn hh (by simp)⟩
    · cases h
  split at h
  · split at h
    · cases h
      rename_i e _ n l y hh
      subst e
      exact ⟨rfl, rfl, z4, hn n (by simp), hn l (by simp), hn y (by simp), hn hh (by simp)⟩
    · cases h
  split at h
  · split at h
    · split at h
      · cases h
        rename_i e _ k n l y hh hk
        subst e
        refine ⟨?_, ?_, hn k (by simp), hn n (by simp), hn l (by simp), hn y (by simp), hn hh (by simp)⟩
        · unfold putL
          simp only
          rw [if_neg (by omega), if_neg (by omega), if_neg (by omega), if_neg (by omega)]
        · unfold Put.norm
          simp only
          rw [if_neg (by omega), if_neg (by omega)]
      · cases h
    · cases h
  · cases h
theorem putP_ok {s : List UInt8} {p : Put} (h : putP s = some p) : s = putL p ∧ p.norm = p ∧ p.ok := by
  unfold putP at h
  split at h
  · cases h
  · rename_i w ns e
    obtain ⟨e1, e2, _⟩ := parseP_ok e
    obtain ⟨q1, q2, q3⟩ := putOf_ok h e2
    exact ⟨e1.trans q1, q2, q3⟩
end Go.Proofs.YtkglkbkikgncoaaDoor
