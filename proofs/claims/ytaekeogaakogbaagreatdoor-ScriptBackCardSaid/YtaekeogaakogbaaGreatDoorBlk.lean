/- A block of memory that is known whole. -/
import Derived.Test.YtaekeogaakogbaaGreatDoorKit

import Derived.OneCell

namespace Go.Proofs.YtaekeogaakogbaaGreatDoor

open Go.RowKit

/-- Block b holds the cells cs, and may be written. -/
structure Blk (w : World) (b : Nat) (cs : List Value) (t : TypeId) : Prop where
  heap : w.heap[b]? = some (.cells cs.toArray t (0, 0))
theorem Blk.lt {w : World} {b : Nat} {cs : List Value} {t : TypeId} (h : Blk w b cs t) : b < w.heap.size := lt_of_block h.heap
theorem Blk.cell {w : World} {b : Nat} {cs : List Value} {t : TypeId} (h : Blk w b cs t) (j : Nat) {v : Value} (hv : cs[j]? = some v) : w.cell? ⟨b, j, none⟩ = some v := by
  simp [World.cell?, h.heap, hv]
theorem Blk.free {w : World} {b : Nat} {cs : List Value} {t : TypeId} (h : Blk w b cs t) (j : Nat) : w.frozen? ⟨b, j, none⟩ = false := by
  simp [World.frozen?, h.heap]
theorem Blk.alloc {w : World} {b : Nat} {cs : List Value} {t : TypeId} (h : Blk w b cs t) (o : Obj) : Blk (w.alloc o) b cs t :=
  ⟨by rw [Below.heap_alloc _ _ _ (lt_of_block h.heap)]; exact h.heap⟩
theorem Blk.drew {w : World} {b : Nat} {cs : List Value} {t : TypeId} (h : Blk w b cs t) : Blk w.drew b cs t := ⟨h.heap⟩
theorem Blk.drewN {w : World} {b : Nat} {cs : List Value} {t : TypeId} (h : Blk w b cs t) (n : Nat) : Blk (w.drewN n) b cs t := ⟨h.heap⟩
theorem Blk.other {w : World} {b : Nat} {cs : List Value} {t : TypeId} (h : Blk w b cs t) {a : Addr} (ha : b ≠ a.block) (v : Value) : Blk (w.setCell a v) b cs t :=
  ⟨by rw [Below.heap_setCell _ _ _ _ ha]; exact h.heap⟩
theorem Blk.set {w : World} {b : Nat} {cs : List Value} {t : TypeId} (h : Blk w b cs t) (j : Nat) (v : Value) : Blk (w.setCell ⟨b, j, none⟩ v) b (cs.set j v) t := by
  obtain ⟨h⟩ := h
  have hlt := lt_of_block h
  have h' : w.heap[b] = .cells cs.toArray t (0, 0) := by simpa [Array.getElem?_eq_getElem hlt] using h
  refine ⟨?_⟩
  show (w.heap.modify b _)[b]? = _
  rw [Array.getElem?_eq_getElem (by simpa using hlt), Array.getElem_modify_self, h']
  simp
theorem Blk.kp {w w' : World} {b : Nat} {cs : List Value} {t : TypeId} (h : Blk w b cs t) (k : Kp w w') : Blk w' b cs t :=
  ⟨by rw [Below.block k b (lt_of_block h.heap)]; exact h.heap⟩
theorem Blk.new (w : World) (cs : List Value) (t : TypeId) : Blk (w.alloc (.cells cs.toArray t)) w.heap.size cs t :=
  ⟨by show (w.heap.push _)[w.heap.size]? = _; simp⟩
theorem Blk.new' {w : World} {cs : List Value} {t : TypeId} {b : Nat} (h : b = w.heap.size) : Blk (w.alloc (.cells cs.toArray t)) b cs t := by subst h; exact Blk.new w cs t
theorem Blk.newL {w : World} {cs : List Value} {a : Array Value} {t : TypeId} {b : Nat} (h : b = w.heap.size) (hc : a = cs.toArray) : Blk (w.alloc (.cells a t)) b cs t := by subst h; subst hc; exact Blk.new w cs t
/-- A function whose result lies in a block that is known. -/
theorem ret_blk {P : Program} {fn : Func} {R : Ending → World → Prop} {a : Act} {w : World} {vs : List Value} {b : Nat} {T : TypeId} (hb : Blk w b vs T)
    (hr : ∀ wz, Blk wz b vs T → (results fn a.tmps).run P wz = .ok (.agg vs.toArray) wz) (hd : a.defers = []) (hR : R (.returned (.agg vs.toArray)) w) : bodyPost P fn R .ret a w :=
  bodyPost_ret (hr w hb) hd hR
theorem alloc_heap (w : World) (o : Obj) : (w.alloc o).heap = w.heap.push o := rfl
theorem drew_heap (w : World) : w.drew.heap = w.heap := rfl
theorem drewN_heap (w : World) (n : Nat) : (w.drewN n).heap = w.heap := rfl

/-- The k-th of a list of numbers. -/
def nth (l : List Int) (k : Nat) : Int := l.getD k 0
theorem nth_get {l : List Int} {k : Nat} (h : k < l.length) : l[k]? = some (nth l k) := by unfold nth; simp [List.getD, h]
/-- Numbers as cells. -/
def ints (l : List Int) : List Value := l.map (Value.int .i64)
theorem ints_length (l : List Int) : (ints l).length = l.length := by simp [ints]
theorem ints_get {l : List Int} {k : Nat} (h : k < l.length) : (ints l)[k]? = some (.int .i64 (nth l k)) := by
  unfold ints; rw [List.getElem?_map, nth_get h]; rfl
theorem ints_set (l : List Int) (k : Nat) (x : Int) : (ints l).set k (.int .i64 x) = ints (l.set k x) := by unfold ints; rw [List.map_set]
theorem Blk.int {w : World} {b : Nat} {l : List Int} {t : TypeId} (h : Blk w b (ints l) t) (k : Nat) (hk : k < l.length) : w.cell? ⟨b, k, none⟩ = some (.int .i64 (nth l k)) := h.cell k (ints_get hk)
/-- A list of numbers that is filled from the left. -/
def filled (f : Nat → Int) (n k : Nat) : List Int := (List.range n).map fun j => if j < k then f j else 0
theorem filled_length (f : Nat → Int) (n k : Nat) : (filled f n k).length = n := by simp [filled]
theorem filled_zero (f : Nat → Int) (n : Nat) : filled f n 0 = List.replicate n 0 := by
  unfold filled; apply List.ext_getElem <;> simp
theorem filled_succ (f : Nat → Int) {n k : Nat} (_h : k < n) : (filled f n k).set k (f k) = filled f n (k + 1) := by
  unfold filled
  apply List.ext_getElem
  · simp
  · intro i h1 h2
    simp only [List.getElem_set, List.getElem_map, List.getElem_range]
    by_cases e : k = i
    · subst e; simp
    · by_cases c : i < k
      · simp [e, c, Nat.lt_succ_of_lt c]
      · have : ¬ i < k + 1 := by omega
        simp [e, c, this]
theorem filled_all (f : Nat → Int) (n : Nat) : filled f n n = (List.range n).map f := by
  unfold filled; apply List.map_congr_left; intro j hj; rw [if_pos (List.mem_range.1 hj)]
end Go.Proofs.YtaekeogaakogbaaGreatDoor
