/- The index, plain laws: chunks of any size, the same entries, runs written out. -/
import Derived.Test.YtkgfnkfgmnijbaaDoorIdx9

namespace Go.Proofs.YtkgfnkfgmnijbaaDoor

open Go.RowKit

theorem nCh_one {len P : Nat} (h0 : 0 < len) (h : len ≤ P) : nCh len P = 1 := by
  unfold nCh
  refine Nat.le_antisymm ?_ ?_
  · rw [← Nat.lt_succ_iff, Nat.div_lt_iff_lt_mul (by omega)]; omega
  · rw [Nat.le_div_iff_mul_le (by omega)]; omega
theorem pagesL_one (l : List Item) {cs : List Col} {P : Nat} (h0 : 0 < cs.length) (h : cs.length ≤ P) : pagesL l cs P = [pageL l cs] := by
  unfold pagesL
  rw [nCh_one h0 h]
  show [pgs l cs P 0] = _
  unfold pgs chunkL
  rw [Nat.zero_mul, List.drop_zero, List.take_of_length_le (by omega)]
theorem pagesL_min (l : List Item) (cs : List Col) {P S : Nat} (hP : 1 ≤ P) (hS : S = min P (max 1 cs.length)) : pagesL l cs P = pagesL l cs S := by
  by_cases h : P ≤ max 1 cs.length
  · obtain rfl : S = P := by omega
    rfl
  · obtain rfl : S = max 1 cs.length := by omega
    by_cases h0 : cs.length = 0
    · obtain rfl := List.length_eq_zero_iff.1 h0
      unfold pagesL nCh
      rw [List.length_nil, Nat.zero_add, Nat.zero_add, Nat.div_eq_of_lt (by omega), Nat.div_eq_of_lt (by omega)]
      rfl
    · rw [pagesL_one l (by omega) (by omega), pagesL_one l (by omega) (by omega)]
/-- What an entry says. -/
def Ent.key (x : Ent) : Int × List Int := (x.n, x.s.l)
def keys (L : List Ent) : List (Int × List Int) := L.map Ent.key
theorem keys_eq : ∀ {L L' : List Ent}, L.length = L'.length → (∀ (i : Nat) (x y : Ent), L[i]? = some x → L'[i]? = some y → x.n = y.n ∧ x.s.l = y.s.l) → keys L = keys L'
  | [], [], _, _ => rfl
  | [], _ :: _, h, _ => by cases h
  | _ :: _, [], h, _ => by cases h
  | x :: L, y :: L', h, hk => by
    obtain ⟨e1, e2⟩ := hk 0 x y rfl rfl
    have ih := keys_eq (L := L) (L' := L') (by simpa using h) (fun i u v hu hv => hk (i + 1) u v hu hv)
    unfold keys at ih ⊢
    rw [List.map_cons, List.map_cons, ih]
    unfold Ent.key
    rw [e1, e2]
def keyT (x : Int × List Int) : List UInt8 := Lib.itoa x.1 ++ [58] ++ (runsL x.2).flatMap runN ++ [10]
theorem textL_keys (L : List Ent) : textL L = (keys L).flatMap keyT := by
  unfold textL keys
  rw [List.flatMap_map]
  rfl
def keyPages (L : List (Int × List Int)) (n : Int) : List Int := match L.find? fun x => decide (x.1 = n) with
  | none => []
  | some x => x.2
theorem pagesOf_keys (L : List Ent) (n : Int) : pagesOf L n = keyPages (keys L) n := by
  unfold pagesOf entOf keyPages keys
  rw [List.find?_map]
  have : ((fun x : Int × List Int => decide (x.1 = n)) ∘ Ent.key) = fun x : Ent => decide (x.n = n) := rfl
  rw [this]
  cases L.find? fun x : Ent => decide (x.n = n) <;> rfl
theorem keys_at {L L' : List Ent} (h : keys L = keys L') {i : Nat} {x y : Ent} (hx : L[i]? = some x) (hy : L'[i]? = some y) : x.n = y.n ∧ x.s.l = y.s.l := by
  have e1 : (keys L)[i]? = some x.key := by unfold keys; rw [List.getElem?_map, hx]; rfl
  have e2 : (keys L')[i]? = some y.key := by unfold keys; rw [List.getElem?_map, hy]; rfl
  rw [h, e2] at e1
  have := Option.some.inj e1
  unfold Ent.key at this
  simp only [Prod.mk.injEq] at this
  exact ⟨this.1.symm, this.2.symm⟩
/-- A run written out. -/
def expR (r : Rn) : List Int := (List.range (r.t + 1 - r.f).toNat).map fun j => r.f + (j : Nat)
def expL (rs : List Rn) : List Int := rs.flatMap expR
theorem expR_one (p : Int) : expR ⟨p, p⟩ = [p] := by
  unfold expR
  have : (p + 1 - p).toNat = 1 := by omega
  simp only [this]
  simp [List.range_succ]
theorem expR_next {r : Rn} (h : r.f ≤ r.t) : expR ⟨r.f, r.t + 1⟩ = expR r ++ [r.t + 1] := by
  unfold expR
  simp only
  have : (r.t + 1 + 1 - r.f).toNat = (r.t + 1 - r.f).toNat + 1 := by omega
  rw [this, List.range_succ, List.map_append, List.map_singleton]
  congr 2
  omega
theorem expL_snoc (rs : List Rn) (r : Rn) : expL (rs ++ [r]) = expL rs ++ expR r := by unfold expL; simp
theorem runStep_exp {rs : List Rn} (h : ∀ r, r ∈ rs → r.f ≤ r.t) (p : Int) : expL (runStep rs p) = expL rs ++ [p] ∧ ∀ r, r ∈ runStep rs p → r.f ≤ r.t := by
  have one : expL (rs ++ [⟨p, p⟩]) = expL rs ++ [p] ∧ ∀ r, r ∈ rs ++ [⟨p, p⟩] → r.f ≤ r.t := ⟨by rw [expL_snoc, expR_one], fun r hr => by
    rcases List.mem_append.1 hr with hr | hr
    · exact h r hr
    · simp only [List.mem_singleton] at hr; subst hr; exact Int.le_refl _⟩
  rcases List.eq_nil_or_concat rs with rfl | ⟨q, t, rfl⟩
  · exact one
  · rw [List.concat_eq_append] at *
    unfold runStep
    rw [List.getLast?_append]
    simp only [List.getLast?_singleton, Option.some_or]
    have ht := h t (by simp)
    by_cases e : t.t + 1 = p
    · rw [if_pos e, List.length_append, List.length_singleton, Nat.add_sub_cancel, List.set_append_right _ _ (Nat.le_refl _), Nat.sub_self]
      subst e
      refine ⟨?_, fun r hr => ?_⟩
      · show expL (q ++ [⟨t.f, t.t + 1⟩]) = _
        rw [expL_snoc, expL_snoc, expR_next ht, List.append_assoc]
      · rcases List.mem_append.1 hr with hr | hr
        · exact h r (List.mem_append_left _ hr)
        · simp only [List.set_cons_zero, List.mem_singleton] at hr
          subst hr
          show t.f ≤ t.t + 1
          omega
    · rw [if_neg e]; exact one
theorem runs_exp : ∀ (l : List Int) (rs : List Rn), (∀ r, r ∈ rs → r.f ≤ r.t) → expL (l.foldl runStep rs) = expL rs ++ l ∧ ∀ r, r ∈ l.foldl runStep rs → r.f ≤ r.t
  | [], rs, h => ⟨by simp, h⟩
  | p :: l, rs, h => by
    obtain ⟨e1, e2⟩ := runStep_exp h p
    obtain ⟨e3, e4⟩ := runs_exp l _ e2
    exact ⟨by rw [List.foldl_cons, e3, e1]; simp, e4⟩
theorem runsL_exp (l : List Int) : expL (runsL l) = l ∧ ∀ r, r ∈ runsL l → r.f ≤ r.t := by
  have := runs_exp l [] (fun _ h => by cases h)
  exact this
/-- The k-th run's j-th number is the number at its place. -/
theorem exp_at {l : List Int} {rs : List Rn} (h : expL rs = l) {k : Nat} {r : Rn} (hk : rs[k]? = some r) : expL (rs.take (k + 1)) = expL (rs.take k) ++ expR r ∧ ∀ j : Nat, (j : Int) ≤ r.t - r.f → l[(expL (rs.take k)).length + j]? = some (r.f + j) := by
  have e1 : expL (rs.take (k + 1)) = expL (rs.take k) ++ expR r := by rw [List.take_add_one, hk, Option.toList_some, expL_snoc]
  refine ⟨e1, fun j hj => ?_⟩
  have e2 : l = expL (rs.take (k + 1)) ++ expL (rs.drop (k + 1)) := by
    rw [← h]
    conv => lhs; rw [← List.take_append_drop (k + 1) rs]
    unfold expL
    rw [List.flatMap_append]
  have hlen : (expR r).length = (r.t + 1 - r.f).toNat := by unfold expR; simp
  rw [e2, e1, List.append_assoc, List.getElem?_append_right (by omega), Nat.add_sub_cancel_left, List.getElem?_append_left (by omega)]
  unfold expR
  rw [List.getElem?_map, List.getElem?_range (by omega)]
  rfl
/-- A mark of the i-th column is in the index with the page i / P. -/
theorem has_page {l : List Item} {cs : List Col} {P i : Nat} {c : Col} {m : Int} (hP : 1 ≤ P) (hc : cs[i]? = some c) (hm : m ∈ pageL l [c]) : ((i / P : Nat) : Int) ∈ grpF (pagesL l cs P) m := by
  have hi := (List.getElem?_eq_some_iff.1 hc).1
  have hle : i / P * P ≤ i := Nat.div_mul_le_self i P
  have hlt : i < i / P * P + P := by have := Nat.lt_div_mul_add (a := i) (b := P) (by omega); omega
  have hk : i / P < nCh cs.length P := (lt_nCh hP).2 (by omega)
  have hmem : c ∈ chunkL cs P (i / P) := by
    unfold chunkL
    refine List.mem_of_getElem? (i := i - i / P * P) ?_
    rw [List.getElem?_drop, List.getElem?_take_of_lt (by omega), ← hc]
    congr 1; omega
  have hpg : m ∈ pgs l cs P (i / P) := by
    unfold pgs pageL at *
    rw [List.flatMap_cons, List.flatMap_nil, List.append_nil] at hm
    exact List.mem_flatMap.2 ⟨c, hmem, hm⟩
  unfold grpF
  refine List.mem_map.2 ⟨i / P, List.mem_filter.2 ⟨List.mem_range.2 (by simpa [pagesL] using hk), ?_⟩, rfl⟩
  refine decide_eq_true ?_
  have : (pagesL l cs P).getD (i / P) [] = pgs l cs P (i / P) := by
    unfold pagesL
    rw [List.getD_eq_getElem?_getD, List.getElem?_map, List.getElem?_range hk]
    rfl
  rw [this]; exact hpg
theorem grpF_rise (Ls : List (List Int)) (n : Int) : (grpF Ls n).Pairwise (· < ·) := by
  unfold grpF
  rw [List.pairwise_map]
  refine List.Pairwise.imp (fun h => ?_) ((List.pairwise_lt_range (n := Ls.length)).filter _)
  omega
theorem pagesOf_index {f : Int → List Int} {L : List Ent} (h : IsIndex f L) {n : Int} (hi : I64 n) (hf : f n ≠ []) : pagesOf L n = f n := by
  obtain ⟨x, hx, e⟩ := h.all n hi hf
  unfold pagesOf
  cases hq : entOf L n with
  | none =>
    unfold entOf at hq
    have := List.find?_eq_none.1 hq x hx
    simp [e] at this
  | some y =>
    have hy := List.mem_of_find?_eq_some hq
    have hn : y.n = n := by
      have := List.find?_some hq
      simpa using this
    show y.s.l = f n
    rw [(h.each y hy).2.2, hn]
end Go.Proofs.YtkgfnkfgmnijbaaDoor
