/- Rows that grow by append: what they hold as a list. -/
import Derived.Test.YtaekeogaakogbaaGreatDoorBlk2

import Derived.Test.YtaekeogaakogbaaGreatDoorSl

import Derived.Laws.AppendOwn

import Derived.OwnWalk

namespace Go.Proofs.YtaekeogaakogbaaGreatDoor

open Go.RowKit

/-- A slice value (nil, or a block of its own from 'base' on) that holds the elements l, n cells an element. -/
def Row {α : Type} (w : World) (base : Nat) (e : TypeId) (n : Nat) (enc : α → List Value) (v : Value) (l : List α) : Prop := w.ownsRow base e n v l.length (l.flatMap enc)
theorem Row.nil {α : Type} (w : World) (base : Nat) (e : TypeId) (n : Nat) (enc : α → List Value) : Row w base e n enc (.slice none 0 0) [] := World.ownsRow_nil w base e n
theorem Kp.grownBy {w w' : World} (k : Kp w w') : w.grownBy w' none := ⟨k.os, k.tape, k.output, k.size, fun i hi _ => k.block i hi⟩
theorem Row.kp {α : Type} {w w' : World} {base n : Nat} {e : TypeId} {enc : α → List Value} {v : Value} {l : List α} (h : Row w base e n enc v l) (k : Kp w w') : Row w' base e n enc v l :=
  World.ownsRow.kept h k.grownBy (by cases hv : v.ownBlock <;> simp)
theorem Row.alloc {α : Type} {w : World} {base n : Nat} {e : TypeId} {enc : α → List Value} {v : Value} {l : List α} (h : Row w base e n enc v l) (o : Obj) : Row (w.alloc o) base e n enc v l := World.ownsRow.alloc h o
theorem Row.drew {α : Type} {w : World} {base n : Nat} {e : TypeId} {enc : α → List Value} {v : Value} {l : List α} (h : Row w base e n enc v l) : Row w.drew base e n enc v l := h.kp ((Kp.refl w).drew)
theorem flatMap_get {α : Type} {enc : α → List Value} {n : Nat} (hn : ∀ x, (enc x).length = n) : ∀ (l : List α) (i : Nat) (x : α) (j : Nat) (v : Value), l[i]? = some x → (enc x)[j]? = some v → (l.flatMap enc)[i * n + j]? = some v
  | [], i, x, j, v, h, _ => by simp at h
  | y :: l, 0, x, j, v, h, hv => by
    simp only [List.getElem?_cons_zero, Option.some.injEq] at h
    subst h
    rw [List.flatMap_cons, Nat.zero_mul, Nat.zero_add, List.getElem?_append_left (List.getElem?_eq_some_iff.1 hv).1]
    exact hv
  | y :: l, i + 1, x, j, v, h, hv => by
    rw [List.getElem?_cons_succ] at h
    have ih := flatMap_get hn l i x j v h hv
    rw [List.flatMap_cons, List.getElem?_append_right (by rw [hn]; rw [Nat.add_mul]; omega), hn, show (i + 1) * n + j - n = i * n + j by rw [Nat.add_mul]; omega]
    exact ih
theorem Row.sl {α : Type} {w : World} {base n : Nat} {e : TypeId} {enc : α → List Value} {v : Value} {l : List α} (h : Row w base e n enc v l) (hn : ∀ x, (enc x).length = n) : ∃ a cap, v = .slice a l.length cap ∧ SlOk w n enc a l.length cap l := by
  rcases h.2 with ⟨hv, h0⟩ | ⟨g, cap, cur, hv, hb, hg, hc, hm, hs, ht⟩
  · have hl : l = [] := List.eq_nil_of_length_eq_zero h0
    subst hl
    exact ⟨none, 0, hv, rfl, Nat.le_refl _, Nat.zero_le _, .inl rfl⟩
  · refine ⟨some ⟨g, 0, none⟩, cap, hv, rfl, hc, hm, .inr ⟨g, 0, rfl, (Array.getElem?_eq_some_iff.1 hg).1, ?_⟩⟩
    intro i x hx j u hu
    have hu2 := flatMap_get hn l i x j u hx hu
    have hcell := World.ownsRow.cells h (g := g) (by rw [hv]; rfl) _ _ hu2
    have hadd : (⟨g, 0, none⟩ : Addr).add (i * n + j) = ⟨g, i * n + j, none⟩ := by unfold Addr.add; split <;> simp_all
    rw [hadd] at hcell
    rw [Nat.zero_add]; exact hcell
theorem Row.lt {α : Type} {w : World} {base n : Nat} {e : TypeId} {enc : α → List Value} {v : Value} {l : List α} (h : Row w base e n enc v l) : ∀ k, v.ownBlock = some k → base ≤ k ∧ k < w.heap.size := World.ownsRow.lt h
/-- 'out = append(out, y)': the element lies in a block of its own. -/
theorem rowAppend {α : Type} {ops : Array Oper} {rest : List Oper} {o : Oper} {a : Act} {w : World} {Q : Exit → Act → World → Prop} (hgd : o.guard = none) (s x : Operand) (t : TypeId)
    (ho : o.op = .call { callee := .builtin .append, args := #[s, x], argTypes := #[t, t] }) {base : Nat} {e : TypeId} {z : Value} {n bytes : Nat} (ht : Tryz.prog.underlying t = some (.slice e))
    (hinfo : (Tryz.prog.info? e).map (fun i => (i.zero, i.size, i.bytes)) = some (some z, n, bytes)) (hzs : z.cells.size = n) (hsz : 0 < n)
    {v : Value} {l : List α} {enc : α → List Value} (hrow : Row w base e n enc v l) (hs : a.eval s = v) {y : α} (hy : (enc y).length = n) (h1 : ∀ u ∈ enc y, u.oneCell' = true) {b : Nat} {t' : TypeId} (hb : Blk w b (enc y) t')
    (hx : a.eval x = .slice (some ⟨b, 0, none⟩) 1 1) (hlen : l.length + 1 ≤ maxLen) (hbytes : (l.length + 1) * bytes ≤ 140737488355328) (hbase : base ≤ w.heap.size)
    (h : ∀ v' w', Row w' base e n enc v' (l ++ [y]) → (∀ {W : World}, W.heap.size ≤ base → Kp W w → Kp W w') → (∀ {b' : Nat} {cs : List Value} {t'' : TypeId}, b' < base → Blk w b' cs t'' → Blk w' b' cs t'') → w.heap.size ≤ w'.heap.size → v' ≠ .slice none 0 0 →
      wpList Tryz.prog ops Q rest (a.put o.dst v') w') : wpList Tryz.prog ops Q (o :: rest) a w := by
  obtain ⟨i0, hi, hz0, hz1, hz2⟩ := info_parts hinfo
  refine wpList_append_own w hgd s x t ho base e i0 z n bytes ht hi hz0 hz1 hz2 hzs hsz v l.length _ hs hrow ⟨b, 0, none⟩ 1 1 (enc y) hx (by rw [hy, Nat.one_mul]) (fun j u hu => ?_) h1 hlen hbytes hbase ?_
  · have hadd : (⟨b, 0, none⟩ : Addr).add j = ⟨b, j, none⟩ := by unfold Addr.add; split <;> simp_all
    rw [hadd]; exact hb.cell j hu
  · intro v' w' hown hgrow hnil
    have hr : ∀ k, v.ownBlock = some k → base ≤ k := fun k hk => (hrow.lt k hk).1
    refine h v' w' ?_ (fun {W} hW kW => Below.grown kW hgrow kW.size (fun k hk => Nat.le_trans hW (hr k hk))) (fun {b' cs t''} hb' hB => ⟨?_⟩) hgrow.size (fun e => ?_)
    · unfold Row
      rw [List.length_append, List.flatMap_append]
      simpa using hown
    · rw [hgrow.block b' hB.lt (fun e => by have := hr b' e.symm; omega)]; exact hB.heap
    · have := (hnil.1 e).2; omega
/-- A slice that was there reads as it did, if cells of another block alone were turned. -/
theorem SlOk.far {α : Type} {w w' : World} {n : Nat} {enc : α → List Value} {a : Option Addr} {len cap bb : Nat} {l : List α} (h : SlOk w n enc a len cap l) (hne : ∀ b off, a = some ⟨b, off, none⟩ → b ≠ bb) (hc : ∀ p : Addr, p.block ≠ bb → w'.cell? p = w.cell? p) (hs : w.heap.size ≤ w'.heap.size) : SlOk w' n enc a len cap l := by
  obtain ⟨h1, h2, h3, h4⟩ := h
  refine ⟨h1, h2, h3, ?_⟩
  rcases h4 with h4 | ⟨b, off, ha, hb, hr⟩
  · exact .inl h4
  · exact .inr ⟨b, off, ha, Nat.lt_of_lt_of_le hb hs, fun i x hx j v hv => (hc ⟨b, off + i * n + j, none⟩ (hne b off ha)).trans (hr i x hx j v hv)⟩
end Go.Proofs.YtaekeogaakogbaaGreatDoor
