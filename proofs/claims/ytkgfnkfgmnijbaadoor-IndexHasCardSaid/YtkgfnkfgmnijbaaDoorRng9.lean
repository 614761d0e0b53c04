/- The entries of a map of groups, as a range over it hands them out. -/
import Derived.Test.YtkgfnkfgmnijbaaDoorGrpP9

import Derived.Maps.OwnSet

namespace Go.Proofs.YtkgfnkfgmnijbaaDoor

open Go.RowKit Go.Shelf Go.Maps Go.WideElems

/-- How the elements read in the world W. -/
noncomputable def RE (W : World) (base : Nat) : Value → Option (DW × List MemPlace) := rowElem (H := Unit) W base 3 .i64
theorem groups_map {W : World} {base mb c : Nat} {D : DW} (h : W.ownsGroups Tryd.prog 3 base 3 .i64 mb c D) : W.ownsMap Tryd.prog 3 (RE W base) mb c D := by
  obtain ⟨es, clock, hb, F, hs, e, _⟩ := h
  exact ⟨es, clock, hb, F, hs, e⟩
theorem sameKey_int (n x : Int) : (Lit.int .i64 n).sameKey (.int .i64 x) = decide (n = x) := by simp [Lit.sameKey]
/-- L has come, 'left' is still to come. -/
structure RngOk (W : World) (D : DW) (f : Int → List Int) (left : Lit → Bool) (cnt : Nat) (L : List Ent) : Prop where
  each : ∀ x, x ∈ L → I64 x.n ∧ has D (.int .i64 x.n) = true ∧ left (.int .i64 x.n) = false ∧ x.s.l = f x.n ∧ SlOk W 1 enc1 x.s.a x.s.l.length x.s.cap x.s.l ∧ x.s.len = x.s.l.length
  all : ∀ n, I64 n → has D (.int .i64 n) = true → left (.int .i64 n) = true ∨ ∃ x, x ∈ L ∧ x.n = n
  nodup : L.Pairwise fun x y => x.n ≠ y.n
  few : L.length + cnt ≤ size D
theorem RngOk.start {W : World} {D : DW} {f : Int → List Int} : RngOk W D f (has D) (size D) [] :=
  ⟨fun x hx => by simp at hx, fun n _ h => .inl h, .nil, by simp⟩
theorem RngOk.step {W : World} {base : Nat} {D : DW} {f : Int → List Int} {left : Lit → Bool} {cnt cnt' : Nat} {L : List Ent} (h : RngOk W D f left cnt L) (hD : GrpOk D f) {x : Int} {v : Value} {kl : Lit} {y : DW × List MemPlace}
    (hk : keyOf Tryd.prog 3 (.int .i64 x) = some kl) (hl : left kl = true) (hv : RE W base v = some y) (hat : ∀ zd, D.atKey kl zd = y.1) (hc : cnt' < cnt) :
    ∃ a cap, v = .slice a (f x).length cap ∧ I64 x ∧ RngOk W D f (fun z => left z && !z.sameKey kl) cnt' (L ++ [⟨x, ⟨a, (f x).length, cap, f x⟩⟩]) := by
  obtain ⟨x', e, rfl, hw⟩ := Maps.keyOf_int_inv Tryd.underlying3 hk
  cases e
  have hxi : I64 x := by
    simp [Lit.wf, IntKind.min, IntKind.max, IntKind.signed, IntKind.bits] at hw
    exact ⟨hw.1, hw.2⟩
  obtain ⟨zs, hoi, rfl⟩ := rowElem_inv hv
  obtain rfl := dat_eq hoi ((hD.look x hxi).symm.trans (hat .nil))
  obtain ⟨a, cap, rfl, hs⟩ := (ownsInts_row hoi).sl (fun _ => rfl)
  refine ⟨a, cap, rfl, hxi, ?_, ?_, ?_, ?_⟩
  · intro z hz
    rcases List.mem_append.1 hz with hz | hz
    · obtain ⟨q1, q2, q3, q4⟩ := h.each z hz
      exact ⟨q1, q2, by simp [q3], q4⟩
    · simp only [List.mem_singleton] at hz
      subst hz
      exact ⟨hxi, has_true_of_atKey hat, by simp [sameKey_int], rfl, hs, rfl⟩
  · intro n hn hh
    by_cases e : n = x
    · exact .inr ⟨_, List.mem_append_right _ (List.mem_singleton.2 rfl), e.symm⟩
    · rcases h.all n hn hh with h1 | ⟨z, hz, h1⟩
      · exact .inl (by simp [h1, sameKey_int, e])
      · exact .inr ⟨z, List.mem_append_left _ hz, h1⟩
  · rw [List.pairwise_append]
    refine ⟨h.nodup, by simp, fun z hz y hy => ?_⟩
    simp only [List.mem_singleton] at hy
    subst hy
    intro e
    have := (h.each z hz).2.2.1
    simp only at e
    rw [e, hl] at this
    cases this
  · have := h.few
    simp
    omega
theorem RngOk.index {W : World} {D : DW} {f : Int → List Int} {left : Lit → Bool} {cnt : Nat} {L L' : List Ent} (h : RngOk W D f left cnt L) (hD : GrpOk D f) (hl : ∀ kl, left kl = false) (hp : L'.Perm L) (hs : L'.Pairwise fun x y => x.n ≤ y.n) : IsIndex f L' := by
  refine ⟨?_, fun n hn hf => ?_, fun x hx => ?_⟩
  · have h2 : L'.Pairwise fun x y => x.n ≠ y.n := (hp.pairwise_iff (fun h => Ne.symm h)).2 h.nodup
    exact (hs.and h2).imp (fun h => by omega)
  · rcases h.all n hn ((hD.has n hn).2 hf) with h1 | ⟨x, hx, e⟩
    · rw [hl] at h1; cases h1
    · exact ⟨x, hp.mem_iff.2 hx, e⟩
  · obtain ⟨q1, q2, _, q4, _⟩ := h.each x (hp.mem_iff.1 hx)
    exact ⟨q1, (hD.has x.n q1).1 q2, q4⟩
theorem SlOk.grownC {α : Type} {w w' : World} {n : Nat} {enc : α → List Value} {a : Option Addr} {len cap : Nat} {l : List α} {row : Option Nat} (h : SlOk w n enc a len cap l) (hg : w.grownBy w' row) (hr : ∀ r, row = some r → ∃ o : Obj, w.heap[r]? = some o ∧ o.isCells = false) : SlOk w' n enc a len cap l := by
  obtain ⟨h1, h2, h3, h4⟩ := h
  refine ⟨h1, h2, h3, ?_⟩
  rcases h4 with h4 | ⟨b, off, ha, hlt, hh⟩
  · exact .inl h4
  · exact .inr ⟨b, off, ha, Nat.lt_of_lt_of_le hlt hg.size, fun i x hx j v hv => cell_kept (hh i x hx j v hv) hg hr⟩
theorem infoE1 : (Tryd.prog.info? 26).map (fun i => (i.zero, i.size, i.bytes)) = some (some (.agg #[.int .i64 0, .slice none 0 0]), 2, 32) := by kernel_rfl
theorem key_inv (key : Value) (kl : Lit) (h : keyOf Tryd.prog 3 key = some kl) : ∃ x, key = .int .i64 x := by
  obtain ⟨x, e, _⟩ := Maps.keyOf_int_inv Tryd.underlying3 h
  exact ⟨x, e⟩
/-- 'out = append(out, y)': what has turned is out's own block alone. -/
theorem rowAppendG {α : Type} {ops : Array Oper} {rest : List Oper} {o : Oper} {a : Act} {w : World} {Q : Exit → Act → World → Prop} (hgd : o.guard = none) (s x : Operand) (t : TypeId)
    (ho : o.op = .call { callee := .builtin .append, args := #[s, x], argTypes := #[t, t] }) {base : Nat} {e : TypeId} {z : Value} {n bytes : Nat} (ht : Tryd.prog.underlying t = some (.slice e))
    (hinfo : (Tryd.prog.info? e).map (fun i => (i.zero, i.size, i.bytes)) = some (some z, n, bytes)) (hzs : z.cells.size = n) (hsz : 0 < n)
    {v : Value} {l : List α} {enc : α → List Value} (hrow : Row w base e n enc v l) (hs : a.eval s = v) {y : α} (hy : (enc y).length = n) (h1 : ∀ u ∈ enc y, u.oneCell' = true) {b : Nat} {t' : TypeId} (hb : Blk w b (enc y) t')
    (hx : a.eval x = .slice (some ⟨b, 0, none⟩) 1 1) (hlen : l.length + 1 ≤ maxLen) (hbytes : (l.length + 1) * bytes ≤ 140737488355328) (hbase : base ≤ w.heap.size)
    (h : ∀ v' w', Row w' base e n enc v' (l ++ [y]) → w.grownBy w' v.ownBlock → (∀ k, v.ownBlock = some k → base ≤ k) → wpList Tryd.prog ops Q rest (a.put o.dst v') w') : wpList Tryd.prog ops Q (o :: rest) a w := by
  obtain ⟨i0, hi, hz0, hz1, hz2⟩ := info_parts hinfo
  refine wpList_append_own w hgd s x t ho base e i0 z n bytes ht hi hz0 hz1 hz2 hzs hsz v l.length _ hs hrow ⟨b, 0, none⟩ 1 1 (enc y) hx (by rw [hy, Nat.one_mul]) (fun j u hu => ?_) h1 hlen hbytes hbase ?_
  · have hadd : (⟨b, 0, none⟩ : Addr).add j = ⟨b, j, none⟩ := by unfold Addr.add; split <;> simp_all
    rw [hadd]; exact hb.cell j hu
  · intro v' w' hown hgrow hnil
    refine h v' w' ?_ hgrow (fun k hk => (hrow.lt k hk).1)
    unfold Row
    rw [List.length_append, List.flatMap_append]
    simpa using hown
end Go.Proofs.YtkgfnkfgmnijbaaDoor
