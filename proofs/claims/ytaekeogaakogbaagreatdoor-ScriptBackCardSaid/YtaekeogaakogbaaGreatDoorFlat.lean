/- How a value of a flat type (numbers, bools, strings; arrays and structs of these) reads: each of its cells is of its kind. -/
import Derived.Test.YtaekeogaakogbaaGreatDoorKit

import Derived.ProofKit

import Derived.OpenShut

import Derived.ShutString

import Derived.SizedLaws

import Derived.Deep.Slices

namespace Go.Proofs.YtaekeogaakogbaaGreatDoor

open Go.ChangeShapes Go.WideShapes Go.ChangeAt Go.RowKit Go.Deep

theorem laidOut : laidOutB Tryz.prog = true := by kernel_rfl

/-- A number of 64 bits, with its sign. -/
def I64 (x : Int) : Prop := -9223372036854775808 ≤ x ∧ x ≤ 9223372036854775807

namespace Open

theorem i64_of {x : Int} (h : (Lit.int .i64 x).wf = true) : I64 x := by
  simp only [Lit.wf, Bool.and_eq_true, decide_eq_true_eq] at h; exact h
theorem bounds_i64 {x : Int} (h : (Lit.int .i64 x).wf = true) : -9223372036854775808 ≤ x ∧ x ≤ 9223372036854775807 := by
  simp only [Lit.wf, Bool.and_eq_true, decide_eq_true_eq] at h; exact h
theorem bounds_u64 {x : Int} (h : (Lit.int .u64 x).wf = true) : 0 ≤ x ∧ x ≤ 18446744073709551615 := by
  simp only [Lit.wf, Bool.and_eq_true, decide_eq_true_eq] at h; exact h

/-- The kind of a cell. -/
inductive FK where
  | int (k : IntKind)
  | bool
  | str
  | slice
def FK.ok : FK → Value → Prop
  | .int k, v => ∃ x, v = .int k x ∧ (Lit.int k x).wf = true
  | .bool, v => ∃ b, v = .bool b
  | .str, v => ∃ s : ByteArray, v = .string s ∧ s.size ≤ maxLen
  | .slice, v => ∃ a len cap, v = .slice a len cap
def allOk : List FK → List Value → Prop
  | [], [] => True
  | k :: ks, v :: vs => k.ok v ∧ allOk ks vs
  | _, _ => False
theorem allOk_append {ks ks' : List FK} {vs vs' : List Value} (h : allOk ks vs) (h' : allOk ks' vs') : allOk (ks ++ ks') (vs ++ vs') := by
  induction ks generalizing vs with
  | nil => cases vs with
    | nil => exact h'
    | cons => exact absurd h id
  | cons k ks ih => cases vs with
    | nil => exact absurd h id
    | cons v vs => exact ⟨h.1, ih h.2⟩
def flatFs (P : Program) (g : TypeId → Option (List FK)) : List Field → Nat → Option (List FK)
  | [], _ => some []
  | f :: r, o => if f.offset = o then (match g f.type with
      | some l => if P.cellsOf f.type = l.length then (flatFs P g r (o + l.length)).map (l ++ ·) else none
      | none => none) else none
def flatK (P : Program) : Nat → TypeId → Option (List FK)
  | 0, _ => none
  | n + 1, t => match P.underlying t with
    | some (.int k) => some [.int k]
    | some .bool => some [.bool]
    | some .string => some [.str]
    | some (.array m e) => (match flatK P n e with
      | some l => if P.cellsOf e = l.length ∧ P.cellsOf t = m * l.length then some (List.replicate m l).flatten else none
      | none => none)
    | some (.struct fs) => (match flatFs P (flatK P n) fs.toList 0 with
      | some l => if P.cellsOf t = l.length then some l else none
      | none => none)
    | some (.slice _) => some [.slice]
    | _ => none

/-- A struct, or an array. -/
def isAgg : Option TypeDesc → Bool
  | some (.struct _) => true
  | some (.array _ _) => true
  | _ => false

theorem chunks {l : List FK} : ∀ (m : Nat) (cs : List Value), cs.length = m * l.length → (∀ i, i < m → allOk l ((cs.drop (i * l.length)).take l.length)) → allOk (List.replicate m l).flatten cs := by
  intro m
  induction m with
  | zero => intro cs h _; have : cs = [] := List.eq_nil_of_length_eq_zero (by omega); subst this; exact trivial
  | succ m ih =>
    intro cs h hi
    have h0 := hi 0 (by omega)
    rw [Nat.zero_mul, List.drop_zero] at h0
    have h1 := ih (cs.drop l.length) (by rw [List.length_drop, h, Nat.succ_mul]; omega) (fun i him => by
      have := hi (i + 1) (by omega)
      rw [Nat.succ_mul, Nat.add_comm, ← List.drop_drop] at this
      exact this)
    have := allOk_append h0 h1
    rw [List.take_append_drop] at this
    rw [List.replicate_succ, List.flatten_cons]
    exact this

section

variable {H : Type} {enc : TypeId × Value → H} {P : Program} {w : World} {base : Nat} {spare : Nat → Bool} {held : Bool}

theorem flatFs_ok {g : TypeId → Option (List FK)} {n : Nat} (hg : ∀ t ks cs x, g t = some ks → DataW.trod enc P w base spare held n t cs = some x → allOk ks cs) :
    ∀ (fs : List Field) (o : Nat) (ks : List FK) (cs : List Value), flatFs P g fs o = some ks → cs.length = o + ks.length →
      (∀ (f : Field), f ∈ fs → ∃ x, DataW.trod enc P w base spare held n f.type ((cs.drop f.offset).take (P.cellsOf f.type)) = some x) → allOk ks (cs.drop o) := by
  intro fs
  induction fs with
  | nil =>
    intro o ks cs h hl _
    simp only [flatFs, Option.some.injEq] at h
    subst h
    have : cs.drop o = [] := by apply List.drop_eq_nil_of_le; simp at hl; omega
    rw [this]; exact trivial
  | cons f r ih =>
    intro o ks cs h hl hx
    simp only [flatFs] at h
    split at h
    next ho =>
      split at h
      next l hgl =>
        split at h
        next hc =>
          obtain ⟨ks', hk, rfl⟩ := Option.map_eq_some_iff.1 h
          have h1 := ih (o + l.length) ks' cs hk (by rw [List.length_append] at hl; omega) (fun f' hf' => hx f' (List.mem_cons_of_mem _ hf'))
          obtain ⟨x, hx0⟩ := hx f List.mem_cons_self
          have h0 := hg _ _ _ _ hgl hx0
          rw [ho, hc] at h0
          have := allOk_append h0 h1
          rw [← List.drop_drop, List.take_append_drop] at this
          exact this
        next => cases h
      next => cases h
    next => cases h
theorem flat_ok : ∀ (n : Nat) (t : TypeId) (ks : List FK) (fuel : Nat) (cs : List Value) (x : DataW H × List MemPlace), flatK P n t = some ks → DataW.trod enc P w base spare held fuel t cs = some x → allOk ks cs := by
  intro n
  induction n with
  | zero => intro t ks fuel cs x h; simp [flatK] at h
  | succ n ih =>
    intro t ks fuel cs x h hx
    simp only [flatK] at h
    split at h
    next k hu =>
      simp only [Option.some.injEq] at h; subst h
      obtain ⟨y, rfl, _, hw⟩ := DataW.trod_int hu hx
      exact ⟨⟨y, rfl, hw⟩, trivial⟩
    next hu =>
      simp only [Option.some.injEq] at h; subst h
      obtain ⟨y, rfl, _⟩ := DataW.trod_bool hu hx
      exact ⟨⟨y, rfl⟩, trivial⟩
    next hu =>
      simp only [Option.some.injEq] at h; subst h
      obtain ⟨y, rfl, _, hs⟩ := DataW.trod_string hu hx
      exact ⟨⟨y, rfl, hs⟩, trivial⟩
    next m e hu =>
      split at h
      next l hl =>
        split at h
        next hc =>
          simp only [Option.some.injEq] at h; subst h
          obtain ⟨xs, f', _, _, hcl, hxl, hxi⟩ := DataW.trod_array hu hx
          refine chunks m cs (by rw [hcl, hc.2]) (fun i hi => ?_)
          have := hxi i hi
          rw [hc.1, List.getElem?_eq_getElem (by omega)] at this
          exact ih _ _ _ _ _ hl this
        next => cases h
      next => cases h
    next fs hu =>
      split at h
      next l hl =>
        split at h
        next hc =>
          simp only [Option.some.injEq] at h; subst h
          obtain ⟨xs, f', _, _, hcl, hxl, hxi⟩ := DataW.trod_struct hu hx
          have := flatFs_ok (fun t ks cs x => ih t ks f' cs x) fs.toList 0 _ cs hl (by rw [hcl, hc]; omega) (fun f hf => by
            obtain ⟨i, hi, rfl⟩ := List.getElem_of_mem hf
            have hi' : i < fs.size := by simpa using hi
            have := hxi i fs[i] (Array.getElem?_eq_getElem hi')
            rw [List.getElem?_eq_getElem (by omega)] at this
            exact ⟨_, by simpa using this⟩)
          simpa using this
        next => cases h
      next => cases h
    next e hu =>
      simp only [Option.some.injEq] at h; subst h
      rcases open_slice hu hx with ⟨hc, _⟩ | ⟨a, len, cap, _, _, _, _, hc, _⟩
      · rw [hc]; exact ⟨⟨none, 0, 0, rfl⟩, trivial⟩
      · rw [hc]; exact ⟨⟨_, _, _, rfl⟩, trivial⟩
    next => cases h
/-- A flat struct or array by value. -/
theorem open_flat {r : Reach} {b0 : Nat} {t : TypeId} {v : Value} {d : DataW H} {p : List MemPlace} (n : Nat) {ks : List FK} (hk : flatK P n t = some ks) (ha : isAgg (P.underlying t) = true)
    (hv : Value.okWide P w r b0 t v) (h : DataW.Trod enc P w base spare held t v d p) : ∃ cs : List Value, v = .agg cs.toArray ∧ allOk ks cs := by
  obtain ⟨fuel, hf⟩ := h
  have : ∃ cs : Array Value, v = .agg cs := by
    unfold Value.okWide at hv
    split at hv
    · obtain ⟨cs, e, _⟩ := hv; exact ⟨cs, e⟩
    · obtain ⟨cs, e, _⟩ := hv; exact ⟨cs, e⟩
    · rename_i h1 h2
      unfold isAgg at ha
      split at ha
      · exact absurd (by assumption) (h1 _)
      · exact absurd (by assumption) (h2 _ _)
      · cases ha
  obtain ⟨cs, rfl⟩ := this
  exact ⟨cs.toList, by simp, flat_ok n t ks fuel _ _ hk (by simpa [Value.cells] using hf)⟩
end

end Open

end Go.Proofs.YtaekeogaakogbaaGreatDoor
