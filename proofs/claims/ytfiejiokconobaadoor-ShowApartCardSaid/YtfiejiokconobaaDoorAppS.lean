/- 'append(out, ys...)' where ys is a slice that was there. -/
import Derived.Test.YtfiejiokconobaaDoorRow

import Derived.Laws.AppendOwnNone

namespace Go.Proofs.YtfiejiokconobaaDoor

open Go.RowKit

theorem flatMap_at {α : Type} {enc : α → List Value} {n : Nat} (hn : ∀ x, (enc x).length = n) : ∀ (l : List α) (j : Nat) (v : Value), (l.flatMap enc)[j]? = some v → ∃ i x j', l[i]? = some x ∧ (enc x)[j']? = some v ∧ j = i * n + j'
  | [], j, v, h => by simp at h
  | y :: l, j, v, h => by
    rw [List.flatMap_cons] at h
    rcases Nat.lt_or_ge j (enc y).length with c | c
    · rw [List.getElem?_append_left c] at h
      exact ⟨0, y, j, rfl, h, by omega⟩
    · rw [List.getElem?_append_right c] at h
      obtain ⟨i, x, j', h1, h2, h3⟩ := flatMap_at hn l _ v h
      rw [hn] at h3 c
      exact ⟨i + 1, x, j', by simpa using h1, h2, by rw [Nat.add_mul]; omega⟩
theorem flatMap_size {α : Type} {enc : α → List Value} {n : Nat} (hn : ∀ x, (enc x).length = n) : ∀ (l : List α), (l.flatMap enc).length = l.length * n
  | [] => by simp
  | y :: l => by rw [List.flatMap_cons, List.length_append, hn, flatMap_size hn l, List.length_cons, Nat.add_mul]; omega
theorem rowAppendS {α : Type} {o : Oper} {a : Act} {w : World} {K : Act → World → Prop} {Q : Exit → Act → World → Prop} (s x : Operand) (t : TypeId)
    (ho : o.op = .call { callee := .builtin .append, args := #[s, x], argTypes := #[t, t] }) {base : Nat} {e : TypeId} {z : Value} {n bytes : Nat} (ht : Tryd.prog.underlying t = some (.slice e))
    (hinfo : (Tryd.prog.info? e).map (fun i => (i.zero, i.size, i.bytes)) = some (some z, n, bytes)) (hzs : z.cells.size = n) (hsz : 0 < n)
    {v : Value} {l : List α} {enc : α → List Value} (hn : ∀ x, (enc x).length = n) (hrow : Row w base e n enc v l) (hs : a.eval s = v) {a2 : Option Addr} {c2 : Nat} {l2 : List α} (hsl : SlOk w n enc a2 l2.length c2 l2) (hx : a.eval x = .slice a2 l2.length c2)
    (h1 : ∀ y, ∀ u ∈ enc y, u.oneCell' = true) (hlen : l.length + l2.length ≤ maxLen) (hbytes : (l.length + l2.length) * bytes ≤ 140737488355328) (hbase : base ≤ w.heap.size)
    (h : ∀ v' w', Row w' base e n enc v' (l ++ l2) → (∀ {W : World}, W.heap.size ≤ base → Kp W w → Kp W w') → w.heap.size ≤ w'.heap.size → K (a.put o.dst v') w') : o.wp Tryd.prog a w K Q := by
  obtain ⟨i0, hi, hz0, hz1, hz2⟩ := info_parts hinfo
  rcases a2 with _ | ad
  · have hl : l2 = [] := by
      rcases hsl.2.2.2 with h4 | ⟨b, off, ha, _⟩
      · exact h4
      · cases ha
    subst hl
    have hrun := run_append_owned_none (P := Tryd.prog) (w := w) base t o.type e i0 n ht hi v l.length _ hrow
    unfold Oper.wp
    have hc : c2 = 0 ∨ True := .inr trivial
    simp only [List.length_nil] at hx
    simp [execOp, ho, resolve, invoke, builtin, hs, hx, Result.andThen]
    have hrun2 : (Builtin.append_ #[t, t] o.type #[v, .slice none 0 c2]).run Tryd.prog w = .ok v w := by
      first | exact hrun | (have := hrun; simpa [Builtin.append_] using this)
    rw [hrun2]
    exact h v w (by simpa using hrow) (fun _ k => k) (Nat.le_refl _)
  · refine wp_append_own w s x t ho base e i0 z n bytes ht hi hz0 hz1 hz2 hzs hsz v l.length _ hs hrow ad l2.length c2 (l2.flatMap enc) hx (flatMap_size hn l2) (fun j u hu => ?_) (fun u hu => ?_) hlen hbytes hbase ?_
    · rcases hsl.2.2.2 with h4 | ⟨b, off, ha, _, hr⟩
      · rw [h4] at hu; simp at hu
      · cases ha
        obtain ⟨i, y, j', h1', h2', rfl⟩ := flatMap_at hn l2 j u hu
        have hadd : (⟨b, off, none⟩ : Addr).add (i * n + j') = ⟨b, off + i * n + j', none⟩ := by unfold Addr.add; split <;> simp_all [Nat.add_assoc]
        rw [hadd]
        exact hr i y h1' j' u h2'
    · obtain ⟨y, _, hy⟩ := List.mem_flatMap.1 hu
      exact h1 y u hy
    · intro v' w' hown hgrow _
      have hr : ∀ k, v.ownBlock = some k → base ≤ k := fun k hk => (hrow.lt k hk).1
      refine h v' w' ?_ (fun {W} hW kW => Below.grown kW hgrow kW.size (fun k hk => Nat.le_trans hW (hr k hk))) hgrow.size
      unfold Row
      rw [List.length_append, List.flatMap_append]
      exact hown
theorem rowAppendSL {α : Type} {ops : Array Oper} {rest : List Oper} {o : Oper} {a : Act} {w : World} {Q : Exit → Act → World → Prop} (hgd : o.guard = none) (s x : Operand) (t : TypeId)
    (ho : o.op = .call { callee := .builtin .append, args := #[s, x], argTypes := #[t, t] }) {base : Nat} {e : TypeId} {z : Value} {n bytes : Nat} (ht : Tryd.prog.underlying t = some (.slice e))
    (hinfo : (Tryd.prog.info? e).map (fun i => (i.zero, i.size, i.bytes)) = some (some z, n, bytes)) (hzs : z.cells.size = n) (hsz : 0 < n)
    {v : Value} {l : List α} {enc : α → List Value} (hn : ∀ x, (enc x).length = n) (hrow : Row w base e n enc v l) (hs : a.eval s = v) {a2 : Option Addr} {c2 : Nat} {l2 : List α} (hsl : SlOk w n enc a2 l2.length c2 l2) (hx : a.eval x = .slice a2 l2.length c2)
    (h1 : ∀ y, ∀ u ∈ enc y, u.oneCell' = true) (hlen : l.length + l2.length ≤ maxLen) (hbytes : (l.length + l2.length) * bytes ≤ 140737488355328) (hbase : base ≤ w.heap.size)
    (h : ∀ v' w', Row w' base e n enc v' (l ++ l2) → (∀ {W : World}, W.heap.size ≤ base → Kp W w → Kp W w') → w.heap.size ≤ w'.heap.size → wpList Tryd.prog ops Q rest (a.put o.dst v') w') : wpList Tryd.prog ops Q (o :: rest) a w := by
  refine wpList_plain hgd fun K hK => ?_
  exact rowAppendS s x t ho ht hinfo hzs hsz hn hrow hs hsl hx h1 hlen hbytes hbase (fun v' w' h1 h2 h3 => hK _ _ (h v' w' h1 h2 h3))
end Go.Proofs.YtfiejiokconobaaDoor
