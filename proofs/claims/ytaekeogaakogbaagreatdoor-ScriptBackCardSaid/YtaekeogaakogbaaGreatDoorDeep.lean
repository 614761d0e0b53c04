/- How a value reads whose type holds slices within slices: each cell is of its kind, in this world. -/
import Derived.Test.YtaekeogaakogbaaGreatDoorSl

namespace Go.Proofs.YtaekeogaakogbaaGreatDoor

open Go.ChangeShapes Go.WideShapes Go.ChangeAt Go.RowKit Go.Deep

/-- The kind of a cell; a slice tells its elements' cells. -/
inductive DK where
  | int (k : IntKind)
  | bool
  | str
  | sl (n : Nat) (ks : List DK)

mutual
def DK.ok (w : World) : DK → Value → Prop
  | .int k, v => ∃ x, v = .int k x ∧ (Lit.int k x).wf = true
  | .bool, v => ∃ b, v = .bool b
  | .str, v => ∃ s : ByteArray, v = .string s ∧ s.size ≤ maxLen
  | .sl n ks, v => ∃ a len cap, v = .slice a len cap ∧ len ≤ cap ∧ cap ≤ maxLen ∧
      (len = 0 ∨ ∃ b off, a = some ⟨b, off, none⟩ ∧ b < w.heap.size) ∧ ∀ i, i < len → ∃ cs : List Value, cs.length = n ∧ dOk w ks cs ∧ ∀ b off, a = some ⟨b, off, none⟩ → ∀ (j : Nat) (u : Value), cs[j]? = some u → w.cell? ⟨b, off + i * n + j, none⟩ = some u
def dOk (w : World) : List DK → List Value → Prop
  | [], cs => cs = []
  | k :: ks, cs => ∃ v vs, cs = v :: vs ∧ k.ok w v ∧ dOk w ks vs
end

theorem dOk_length {w : World} : ∀ {ks : List DK} {cs : List Value}, dOk w ks cs → cs.length = ks.length
  | [], cs, h => by unfold dOk at h; subst h; rfl
  | k :: ks, cs, h => by
    unfold dOk at h
    obtain ⟨v, vs, rfl, _, h2⟩ := h
    rw [List.length_cons, List.length_cons, dOk_length h2]
theorem dOk_append {w : World} {ks' : List DK} {vs' : List Value} (h' : dOk w ks' vs') : ∀ {ks : List DK} {vs : List Value}, dOk w ks vs → dOk w (ks ++ ks') (vs ++ vs')
  | [], vs, h => by unfold dOk at h; subst h; exact h'
  | k :: ks, vs, h => by
    unfold dOk at h
    obtain ⟨v, vs, rfl, h1, h2⟩ := h
    have := dOk_append h' h2
    rw [List.cons_append, List.cons_append]
    unfold dOk
    exact ⟨v, _, rfl, h1, this⟩
namespace Open

def deepFs (P : Program) (g : TypeId → Option (List DK)) : List Field → Nat → Option (List DK)
  | [], _ => some []
  | f :: r, o => if f.offset = o then (match g f.type with
      | some l => if P.cellsOf f.type = l.length then (deepFs P g r (o + l.length)).map (l ++ ·) else none
      | none => none) else none
def deepK (P : Program) : Nat → TypeId → Option (List DK)
  | 0, _ => none
  | n + 1, t => match P.underlying t with
    | some (.int k) => some [.int k]
    | some .bool => some [.bool]
    | some .string => some [.str]
    | some (.struct fs) => (match deepFs P (deepK P n) fs.toList 0 with
      | some l => if P.cellsOf t = l.length then some l else none
      | none => none)
    | some (.slice e) => (match deepK P n e with
      | some l => if P.cellsOf e = l.length ∧ 0 < l.length then some [.sl l.length l] else none
      | none => none)
    | _ => none
section

variable {H : Type} {enc : TypeId × Value → H} {P : Program} {w : World}

theorem deepFs_ok {g : TypeId → Option (List DK)} {n : Nat} (hg : ∀ t ks cs x, g t = some ks → DataW.trod enc P w 0 (fun _ => true) true n t cs = some x → dOk w ks cs) :
    ∀ (fs : List Field) (o : Nat) (ks : List DK) (cs : List Value), deepFs P g fs o = some ks → cs.length = o + ks.length →
      (∀ (f : Field), f ∈ fs → ∃ x, DataW.trod enc P w 0 (fun _ => true) true n f.type ((cs.drop f.offset).take (P.cellsOf f.type)) = some x) → dOk w ks (cs.drop o) := by
  intro fs
  induction fs with
  | nil =>
    intro o ks cs h hl _
    simp only [deepFs, Option.some.injEq] at h
    subst h
    have : cs.drop o = [] := by apply List.drop_eq_nil_of_le; simp at hl; omega
    rw [this]; unfold dOk; rfl
  | cons f r ih =>
    intro o ks cs h hl hx
    simp only [deepFs] at h
    split at h
    next ho =>
      split at h
      next l hgl =>
        split at h
        next hc =>
          obtain ⟨ks', hk, rfl⟩ := Option.map_eq_some_iff.1 h
          have h1 := ih (o + l.length) ks' cs hk (by rw [List.length_append] at hl; omega) (fun f' hf' => hx f' (List.mem_cons_of_mem _ hf'))
          obtain ⟨x, hx0⟩ := hx f List.mem_cons_self
          have h0 := hg _ _ _ _ hgl hx0
          rw [ho, hc] at h0
          have := dOk_append h1 h0
          rw [← List.drop_drop, List.take_append_drop] at this
          exact this
        next => cases h
      next => cases h
    next => cases h
theorem dOk_one {k : DK} {v : Value} (h : k.ok w v) : dOk w [k] [v] := by
  unfold dOk
  exact ⟨v, [], rfl, h, by unfold dOk; rfl⟩
theorem deep_ok : ∀ (n : Nat) (t : TypeId) (ks : List DK) (fuel : Nat) (cs : List Value) (x : DataW H × List MemPlace), deepK P n t = some ks → DataW.trod enc P w 0 (fun _ => true) true fuel t cs = some x → dOk w ks cs := by
  intro n
  induction n with
  | zero => intro t ks fuel cs x h; simp [deepK] at h
  | succ n ih =>
    intro t ks fuel cs x h hx
    simp only [deepK] at h
    split at h
    next k hu =>
      simp only [Option.some.injEq] at h; subst h
      obtain ⟨y, rfl, _, hw⟩ := DataW.trod_int hu hx
      exact dOk_one (by unfold DK.ok; exact ⟨y, rfl, hw⟩)
    next hu =>
      simp only [Option.some.injEq] at h; subst h
      obtain ⟨y, rfl, _⟩ := DataW.trod_bool hu hx
      exact dOk_one (by unfold DK.ok; exact ⟨y, rfl⟩)
    next hu =>
      simp only [Option.some.injEq] at h; subst h
      obtain ⟨y, rfl, _, hs⟩ := DataW.trod_string hu hx
      exact dOk_one (by unfold DK.ok; exact ⟨y, rfl, hs⟩)
    next fs hu =>
      split at h
      next l hl =>
        split at h
        next hc =>
          simp only [Option.some.injEq] at h; subst h
          obtain ⟨xs, f', _, _, hcl, hxl, hxi⟩ := DataW.trod_struct hu hx
          have := deepFs_ok (fun t ks cs x => ih t ks f' cs x) fs.toList 0 _ cs hl (by rw [hcl, hc]; omega) (fun f hf => by
            obtain ⟨i, hi, rfl⟩ := List.getElem_of_mem hf
            have hi' : i < fs.size := by simpa using hi
            have := hxi i fs[i] (Array.getElem?_eq_getElem hi')
            rw [List.getElem?_eq_getElem (by omega)] at this
            exact ⟨_, by simpa using this⟩)
          simpa using this
        next => cases h
      next => cases h
    next e hu =>
      split at h
      next l hl =>
        split at h
        next hc =>
          simp only [Option.some.injEq] at h; subst h
          rcases open_slice hu hx with ⟨hc', _⟩ | ⟨a, len, cap, m', n', D, Pl, hc', _, hle, hm, hmm, _, hi⟩
          · rw [hc']
            exact dOk_one (by unfold DK.ok; exact ⟨none, 0, 0, rfl, Nat.le_refl _, by unfold maxLen; omega, .inl rfl, fun i hi => absurd hi (Nat.not_lt_zero _)⟩)
          · rw [hc']
            rw [if_pos rfl] at hmm
            subst hmm
            refine dOk_one ?_
            unfold DK.ok
            refine ⟨some a, len, _, rfl, hle, hm, ?_, fun i hil => ?_⟩
            · rcases Nat.eq_zero_or_pos len with z | z
              · exact .inl z
              · right
                obtain ⟨cs', hcs, _⟩ := hi 0 (by omega)
                obtain ⟨_, hlen, hcell⟩ := World.cells?_some hcs
                rw [hc.1] at hlen hcell
                have h0 := hcell 0 hc.2
                rw [List.getElem?_eq_getElem (by omega)] at h0
                obtain ⟨b, off, spot⟩ := a
                have hs : spot = none := by simpa [Addr.add] using World.cell?_spot h0
                subst hs
                have hb := World.block_lt_of_cell? w _ h0
                exact ⟨b, off, rfl, by simpa [Addr.add] using hb⟩
            · obtain ⟨cs', hcs, hx'⟩ := hi i (by omega)
              obtain ⟨_, hlen, hcell⟩ := World.cells?_some hcs
              rw [hc.1] at hlen hcell
              refine ⟨cs', hlen, ih _ _ _ _ _ hl hx', fun b off hab j u hu => ?_⟩
              cases hab
              have hjn : j < l.length := by
                rw [← hlen]; exact (List.getElem?_eq_some_iff.1 hu).1
              have := hcell j hjn
              rw [hu, Go.WideShapes.add_plain, Go.WideShapes.add_plain] at this
              exact this
        next => cases h
      next => cases h
    next => cases h
/-- A slice that came in, whose elements hold slices. -/
theorem open_deep {r : Reach} {b0 : Nat} {t e : TypeId} {v : Value} {d : DataW H} {p : List MemPlace} (m : Nat) {ks : List DK}
    (ht : P.underlying t = some (.slice e)) (hk : deepK P m t = some ks)
    (hv : Value.okWide P w r b0 t v) (h : DataW.Trod enc P w 0 (fun _ => true) true t v d p) : dOk w ks [v] := by
  obtain ⟨a0, len, cap, rfl⟩ := okWide_slice ht hv
  obtain ⟨fuel, hf⟩ := h
  exact deep_ok m t ks fuel _ _ hk hf
end

end Open

end Go.Proofs.YtaekeogaakogbaaGreatDoor
