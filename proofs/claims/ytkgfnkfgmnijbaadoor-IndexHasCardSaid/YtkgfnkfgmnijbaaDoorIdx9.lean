/- The document's index, plain: the least later mark, again and again. -/
import Derived.Test.YtkgfnkfgmnijbaaDoorPg9

import Derived.Test.YtkgfnkfgmnijbaaDoorMark5

namespace Go.Proofs.YtkgfnkfgmnijbaaDoor

open Go.RowKit

/-- Is z behind the last of L? -/
def lt9 (L : List Ent) (z : Int) : Bool := match L.getLast? with
  | none => true
  | some y => decide (y.n < z)
theorem lt9_all {L : List Ent} (h : L.Pairwise fun x y => x.n < y.n) {z : Int} (hz : lt9 L z = true) : ∀ y, y ∈ L → y.n < z := by
  intro y hy
  unfold lt9 at hz
  rcases List.eq_nil_or_concat L with rfl | ⟨q, t, rfl⟩
  · cases hy
  · rw [List.concat_eq_append] at *
    rw [List.getLast?_append] at hz
    simp at hz
    rcases List.mem_append.1 hy with hy | hy
    · have := (List.pairwise_append.1 h).2.2 y hy t (by simp)
      omega
    · simp only [List.mem_singleton] at hy
      subst hy; exact hz
theorem lt9_not {L : List Ent} {z : Int} (hz : lt9 L z = false) : ∃ y, y ∈ L ∧ z ≤ y.n := by
  unfold lt9 at hz
  split at hz
  · cases hz
  · rename_i y hy
    exact ⟨y, List.mem_of_getLast? hy, by simpa using hz⟩
theorem lt9_snoc (L : List Ent) (y : Ent) (z : Int) : lt9 (L ++ [y]) z = decide (y.n < z) := by
  unfold lt9; rw [List.getLast?_append]; simp
theorem filter_more {α : Type} {p q : α → Bool} : ∀ {A : List α}, (∀ z, z ∈ A → p z = true → q z = true) → (∃ z, z ∈ A ∧ q z = true ∧ p z = false) → (A.filter p).length + 1 ≤ (A.filter q).length
  | [], _, ⟨z, hz, _⟩ => by cases hz
  | a :: A, h, ⟨z, hz, h1, h2⟩ => by
    have hle : (A.filter p).length ≤ (A.filter q).length := by
      clear hz
      have h' : ∀ z, z ∈ A → p z = true → q z = true := fun z hz => h z (List.mem_cons_of_mem _ hz)
      clear h
      induction A with
      | nil => simp
      | cons b B ih =>
        have ih' := ih (fun z hz => h' z (List.mem_cons_of_mem _ hz))
        have hb := h' b List.mem_cons_self
        rw [List.filter_cons, List.filter_cons]
        cases hp : p b <;> cases hq : q b <;> simp_all <;> omega
    rcases List.mem_cons.1 hz with rfl | hz
    · rw [List.filter_cons, List.filter_cons, h1, h2]
      simp; omega
    · have ih := filter_more (A := A) (fun z hz => h z (List.mem_cons_of_mem _ hz)) ⟨z, hz, h1, h2⟩
      have ha := h a List.mem_cons_self
      rw [List.filter_cons, List.filter_cons]
      cases hp : p a <;> cases hq : q a <;> simp_all <;> omega
/-- So far L has come. -/
structure PreI (A : List Int) (f : Int → List Int) (L : List Ent) : Prop where
  rise : L.Pairwise fun x y => x.n < y.n
  each : ∀ x, x ∈ L → I64 x.n ∧ f x.n ≠ [] ∧ x.s.l = f x.n
  part : ∀ n, n ∈ A → (∃ x, x ∈ L ∧ x.n = n) ∨ lt9 L n = true
  few : L.length ≤ (A.filter fun z => !lt9 L z).length
theorem PreI.len {A : List Int} {f : Int → List Int} {L : List Ent} (h : PreI A f L) : L.length ≤ A.length := Nat.le_trans h.few (List.length_filter_le _ _)
theorem PreI.nil (A : List Int) (f : Int → List Int) : PreI A f [] := ⟨.nil, fun x hx => (by cases hx), fun n _ => .inr rfl, Nat.zero_le _⟩
theorem PreI.snoc {A : List Int} {f : Int → List Int} {L : List Ent} (h : PreI A f L) {x : Int} {s : SlV Int} (hx : x ∈ A) (hi : I64 x) (hl : lt9 L x = true) (hm : ∀ z, z ∈ A → lt9 L z = true → x ≤ z) (hf : f x ≠ []) (hs : s.l = f x) : PreI A f (L ++ [⟨x, s⟩]) := by
  have hall := lt9_all h.rise hl
  refine ⟨?_, fun y hy => ?_, fun n hn => ?_, ?_⟩
  · rw [List.pairwise_append]
    exact ⟨h.rise, by simp, fun y hy z hz => by
      simp only [List.mem_singleton] at hz
      subst hz; exact hall y hy⟩
  · rcases List.mem_append.1 hy with hy | hy
    · exact h.each y hy
    · simp only [List.mem_singleton] at hy
      subst hy; exact ⟨hi, hf, hs⟩
  · rw [lt9_snoc]
    rcases h.part n hn with ⟨y, hy, e⟩ | hn2
    · exact .inl ⟨y, List.mem_append_left _ hy, e⟩
    · have := hm n hn hn2
      by_cases e : x = n
      · exact .inl ⟨_, List.mem_append_right _ (List.mem_singleton.2 rfl), e⟩
      · exact .inr (decide_eq_true (by show x < n; omega))
  · have := filter_more (A := A) (p := fun z => !lt9 L z) (q := fun z => !lt9 (L ++ [⟨x, s⟩]) z) (fun z hz hp => by
      rw [lt9_snoc]
      simp only [Bool.not_eq_true'] at hp
      obtain ⟨y, hy, hzy⟩ := lt9_not hp
      have := hall y hy
      simp; omega) ⟨x, hx, by rw [lt9_snoc]; simp, by simp [hl]⟩
    have := h.few
    rw [List.length_append, List.length_singleton]
    omega
theorem PreI.done {A : List Int} {f : Int → List Int} {L : List Ent} (h : PreI A f L) (hA : ∀ n, I64 n → f n ≠ [] → n ∈ A) (hn : ∀ z, z ∈ A → lt9 L z = false) : IsIndex f L := by
  refine ⟨h.rise, fun n hi hf => ?_, h.each⟩
  rcases h.part n (hA n hi hf) with hx | hx
  · exact hx
  · rw [hn n (hA n hi hf)] at hx; cases hx
/-- The least later one among the first i. -/
def AtOk (A : List Int) (L : List Ent) (i : Nat) (v : Value) : Prop :=
  (v = .int .i64 (-1) ∧ ∀ z, z ∈ A.take i → lt9 L z = false) ∨ ∃ (k : Nat) (x : Int), v = .int .i64 (k : Int) ∧ k < i ∧ A[k]? = some x ∧ lt9 L x = true ∧ ∀ z, z ∈ A.take i → lt9 L z = true → x ≤ z
theorem AtOk.skip {A : List Int} {L : List Ent} {i : Nat} {v : Value} {x : Int} (h : AtOk A L i v) (hx : A[i]? = some x) (hl : lt9 L x = false) : AtOk A L (i + 1) v := by
  unfold AtOk at h ⊢
  rw [take_snoc hx]
  rcases h with ⟨rfl, h⟩ | ⟨k, y, rfl, hk, hy, h1, h2⟩
  · refine .inl ⟨rfl, fun z hz => ?_⟩
    rcases List.mem_append.1 hz with hz | hz
    · exact h z hz
    · simp only [List.mem_singleton] at hz; subst hz; exact hl
  · refine .inr ⟨k, y, rfl, by omega, hy, h1, fun z hz hz2 => ?_⟩
    rcases List.mem_append.1 hz with hz | hz
    · exact h2 z hz hz2
    · simp only [List.mem_singleton] at hz; subst hz; rw [hl] at hz2; cases hz2
theorem AtOk.first {A : List Int} {L : List Ent} {i : Nat} {x : Int} (h : ∀ z, z ∈ A.take i → lt9 L z = false) (hx : A[i]? = some x) (hl : lt9 L x = true) : AtOk A L (i + 1) (.int .i64 (i : Nat)) := by
  unfold AtOk
  rw [take_snoc hx]
  refine .inr ⟨i, x, rfl, by omega, hx, hl, fun z hz hz2 => ?_⟩
  rcases List.mem_append.1 hz with hz | hz
  · rw [h z hz] at hz2; cases hz2
  · simp only [List.mem_singleton] at hz; subst hz; exact Int.le_refl _
theorem AtOk.less {A : List Int} {L : List Ent} {i : Nat} {x y : Int} (h : ∀ z, z ∈ A.take i → lt9 L z = true → y ≤ z) (hx : A[i]? = some x) (hl : lt9 L x = true) (hxy : x < y) : AtOk A L (i + 1) (.int .i64 (i : Nat)) := by
  unfold AtOk
  rw [take_snoc hx]
  refine .inr ⟨i, x, rfl, by omega, hx, hl, fun z hz hz2 => ?_⟩
  rcases List.mem_append.1 hz with hz | hz
  · have := h z hz hz2; omega
  · simp only [List.mem_singleton] at hz; subst hz; exact Int.le_refl _
theorem AtOk.more {A : List Int} {L : List Ent} {i k : Nat} {x y : Int} (hk : k < i) (hy : A[k]? = some y) (hly : lt9 L y = true) (h : ∀ z, z ∈ A.take i → lt9 L z = true → y ≤ z) (hx : A[i]? = some x) (hxy : ¬ x < y) : AtOk A L (i + 1) (.int .i64 (k : Nat)) := by
  unfold AtOk
  rw [take_snoc hx]
  refine .inr ⟨k, y, rfl, by omega, hy, hly, fun z hz hz2 => ?_⟩
  rcases List.mem_append.1 hz with hz | hz
  · exact h z hz hz2
  · simp only [List.mem_singleton] at hz; subst hz; omega
/-- All marks are the pages' marks. -/
theorem page_all (l : List Item) (cs : List Col) (S : Nat) (hS : 1 ≤ S) : pageL l cs = (pagesL l cs S).flatten := by
  have key : ∀ k, k ≤ nCh cs.length S → pageL l (cs.take (k * S)) = ((List.range k).map (pgs l cs S)).flatten := by
    intro k
    induction k with
    | zero => intro _; rw [Nat.zero_mul, List.take_zero]; rfl
    | succ k ih =>
      intro hk
      rw [take_chunk cs S k ((lt_nCh hS).1 (by omega)), pageL_append, ih (by omega), List.range_succ, List.map_append, List.flatten_append]
      simp [pgs]
  have := key _ (Nat.le_refl _)
  rw [List.take_of_length_le] at this
  · exact this
  · have : ¬ nCh cs.length S * S < cs.length := fun h => by have := (lt_nCh (k := nCh cs.length S) hS).2 h; omega
    omega
theorem grpF_ne {Ls : List (List Int)} {n : Int} : grpF Ls n ≠ [] ↔ n ∈ Ls.flatten := by
  unfold grpF
  rw [Ne, List.map_eq_nil_iff, List.filter_eq_nil_iff, List.mem_flatten]
  constructor
  · intro h
    refine Classical.byContradiction fun hn => h fun i hi hd => ?_
    rw [List.mem_range] at hi
    refine hn ⟨Ls[i], List.getElem_mem _, ?_⟩
    simpa [List.getD_eq_getElem?_getD, hi] using hd
  · rintro ⟨m, hm, hnm⟩ h
    obtain ⟨i, hi, rfl⟩ := List.getElem_of_mem hm
    exact h i (List.mem_range.2 hi) (by simpa [List.getD_eq_getElem?_getD, hi] using hnm)
theorem IsIndex.unique {f : Int → List Int} : ∀ {L L' : List Ent}, IsIndex f L → IsIndex f L' → L.length = L'.length ∧ ∀ (i : Nat) (x y : Ent), L[i]? = some x → L'[i]? = some y → x.n = y.n ∧ x.s.l = y.s.l := by
  intro L L' h h'
  have e : L.map (·.n) = L'.map (·.n) := by
    have p1 : (L.map (·.n)).Pairwise (· < ·) := List.pairwise_map.2 h.rise
    have p2 : (L'.map (·.n)).Pairwise (· < ·) := List.pairwise_map.2 h'.rise
    have hm : ∀ n, n ∈ L.map (·.n) ↔ n ∈ L'.map (·.n) := by
      intro n
      constructor
      · intro hn
        obtain ⟨x, hx, rfl⟩ := List.mem_map.1 hn
        obtain ⟨q1, q2, _⟩ := h.each x hx
        obtain ⟨y, hy, e⟩ := h'.all _ q1 q2
        exact List.mem_map.2 ⟨y, hy, e⟩
      · intro hn
        obtain ⟨x, hx, rfl⟩ := List.mem_map.1 hn
        obtain ⟨q1, q2, _⟩ := h'.each x hx
        obtain ⟨y, hy, e⟩ := h.all _ q1 q2
        exact List.mem_map.2 ⟨y, hy, e⟩
    generalize L.map (·.n) = X at *
    generalize L'.map (·.n) = Y at *
    clear h h' L L'
    induction X generalizing Y with
    | nil =>
      cases Y with
      | nil => rfl
      | cons y Y => have := (hm y).2 List.mem_cons_self; cases this
    | cons x X ih =>
      cases Y with
      | nil => have := (hm x).1 List.mem_cons_self; cases this
      | cons y Y =>
        have a1 := List.pairwise_cons.1 p1
        have a2 := List.pairwise_cons.1 p2
        have exy : x = y := by
          rcases List.mem_cons.1 ((hm x).1 List.mem_cons_self) with e | e
          · exact e
          · rcases List.mem_cons.1 ((hm y).2 List.mem_cons_self) with e' | e'
            · exact e'.symm
            · have := a2.1 x e; have := a1.1 y e'; omega
        subst exy
        congr 1
        refine ih a1.2 Y a2.2 fun n => ⟨fun hn => ?_, fun hn => ?_⟩
        · rcases List.mem_cons.1 ((hm n).1 (List.mem_cons_of_mem _ hn)) with e | e
          · subst e; have := a1.1 n hn; omega
          · exact e
        · rcases List.mem_cons.1 ((hm n).2 (List.mem_cons_of_mem _ hn)) with e | e
          · subst e; have := a2.1 n hn; omega
          · exact e
  have hlen : L.length = L'.length := by simpa using congrArg List.length e
  refine ⟨hlen, fun i x y hx hy => ?_⟩
  have e2 : (L.map (·.n))[i]? = (L'.map (·.n))[i]? := by rw [e]
  rw [List.getElem?_map, List.getElem?_map, hx, hy] at e2
  have e3 : x.n = y.n := by simpa using e2
  refine ⟨e3, ?_⟩
  rw [(h.each x (List.mem_of_getElem? hx)).2.2, (h'.each y (List.mem_of_getElem? hy)).2.2, e3]
end Go.Proofs.YtkgfnkfgmnijbaaDoor
