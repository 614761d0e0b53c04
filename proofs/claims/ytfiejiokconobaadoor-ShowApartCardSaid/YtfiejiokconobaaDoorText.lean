/- Pages as a text: what it is, and that it is not long. -/
import Derived.Test.YtfiejiokconobaaDoorPut

import Derived.Test.YtfiejiokconobaaDoorLarge

namespace Go.Proofs.YtfiejiokconobaaDoor

open Go.RowKit

def putN (p : Put) : List UInt8 := putL p ++ [10]
def laneH (x : Lane) : List UInt8 := lineL [108, 97, 110, 101] [x.x] ++ [10]
def laneL (x : Lane) : List UInt8 := laneH x ++ x.s.l.flatMap putN
def pageH (i : Nat) (p : Page) : List UInt8 := lineL [112, 97, 103, 101] [(i : Int), p.t, p.f, p.l] ++ [10]
def pageL (i : Nat) (p : Page) : List UInt8 := pageH i p ++ p.s.l.flatMap laneL
/-- The text of the first k pages. -/
def pagesN (l : List Page) (k : Nat) : List UInt8 := (List.range k).flatMap fun i => (l[i]?).elim [] (pageL i)
theorem pagesN_succ {l : List Page} {k : Nat} {p : Page} (h : l[k]? = some p) : pagesN l (k + 1) = pagesN l k ++ pageL k p := by
  unfold pagesN
  rw [List.range_succ, List.flatMap_append]; simp [h]
/-- Pages that are not more than are gone through. -/
structure Small (l : List Page) : Prop where
  pages : l.length ≤ 40
  lanes : ∀ p, p ∈ l → p.s.l.length ≤ 20
  puts : ∀ p, p ∈ l → ∀ x, x ∈ p.s.l → x.s.l.length ≤ 100
theorem small_of {l : List Page} (h : largeL l = false) : Small l := by
  unfold largeL at h
  rw [Bool.or_eq_false_iff] at h
  obtain ⟨h1, h2⟩ := h
  have hl : l.length ≤ 40 := by simpa using h2
  rw [List.take_of_length_le hl, List.any_eq_false] at h1
  refine ⟨hl, fun p hp => ?_, fun p hp x hx => ?_⟩
  · have := h1 p hp
    unfold bigPage at this
    simp only [Bool.not_eq_true, Bool.or_eq_false_iff, decide_eq_false_iff_not] at this
    omega
  · have := h1 p hp
    unfold bigPage at this
    simp only [Bool.not_eq_true, Bool.or_eq_false_iff, decide_eq_false_iff_not, List.any_eq_false] at this
    have := this.2 x hx
    unfold bigLane at this
    simpa using this
/-- All its numbers are int64's. -/
def Lane.num (x : Lane) : Prop := I64 x.x ∧ ∀ p, p ∈ x.s.l → p.ok
def Page.num (p : Page) : Prop := I64 p.t ∧ I64 p.f ∧ I64 p.l ∧ ∀ x, x ∈ p.s.l → x.num
theorem Page.good.num {w : World} {p : Page} (h : p.good w) : p.num := ⟨h.1, h.2.1, h.2.2.1, fun x hx => ⟨(h.2.2.2.2 x hx).1, (h.2.2.2.2 x hx).2.2⟩⟩
theorem flat_bound {α β : Type} {f : α → List β} {C : Nat} : ∀ {l : List α}, (∀ x, x ∈ l → (f x).length ≤ C) → (l.flatMap f).length ≤ l.length * C
  | [], _ => by simp
  | x :: l, h => by
    rw [List.flatMap_cons, List.length_append, List.length_cons, Nat.add_mul, Nat.one_mul]
    have h1 := h x List.mem_cons_self
    have h2 := flat_bound (l := l) (C := C) (f := f) fun y hy => h y (List.mem_cons_of_mem _ hy)
    omega
theorem putN_short (p : Put) (h : p.ok) : (putN p).length ≤ 201 := by unfold putN; have := putL_short p h; rw [List.length_append]; simp; omega
theorem laneH_short (x : Lane) (h : x.num) : (laneH x).length ≤ 100 := by
  unfold laneH
  have := lineL_short (wd := [108, 97, 110, 101]) (ns := [x.x]) (by simp [h.1])
  rw [List.length_append]; simp at this ⊢; omega
theorem laneL_short (x : Lane) (h : x.num) (hs : x.s.l.length ≤ 100) : (laneL x).length ≤ 20200 := by
  unfold laneL
  have h1 := laneH_short x h
  have h2 := flat_bound (C := 201) (f := putN) (l := x.s.l) fun p hp => putN_short p (h.2 p hp)
  rw [List.length_append]; omega
theorem pageH_short (i : Nat) (hi : i < 1000) (p : Page) (h : p.num) : (pageH i p).length ≤ 100 := by
  unfold pageH
  have := lineL_short (wd := [112, 97, 103, 101]) (ns := [(i : Int), p.t, p.f, p.l]) (by
    intro x hx
    simp only [List.mem_cons, List.not_mem_nil, or_false] at hx
    rcases hx with rfl | rfl | rfl | rfl
    · unfold I64; omega
    · exact h.1
    · exact h.2.1
    · exact h.2.2.1)
  rw [List.length_append]; simp at this ⊢; omega
theorem pageL_short (i : Nat) (hi : i < 1000) (p : Page) (h : p.num) (hs : p.s.l.length ≤ 20) (hs2 : ∀ x, x ∈ p.s.l → x.s.l.length ≤ 100) : (pageL i p).length ≤ 404100 := by
  unfold pageL
  have h1 := pageH_short i hi p h
  have h2 := flat_bound (C := 20200) (f := laneL) (l := p.s.l) fun x hx => laneL_short x (h.2.2.2 x hx) (hs2 x hx)
  rw [List.length_append]; omega
theorem pagesN_short {l : List Page} (hs : Small l) (hn : ∀ p, p ∈ l → p.num) (k : Nat) (hk : k ≤ l.length) : (pagesN l k).length ≤ 20000000 := by
  unfold pagesN
  have := flat_bound (C := 404100) (f := fun i => (l[i]?).elim [] (pageL i)) (l := List.range k) fun i hi => by
    have hi' := List.mem_range.1 hi
    rw [List.getElem?_eq_getElem (by omega)]
    have hm := List.getElem_mem (l := l) (n := i) (by omega)
    exact pageL_short i (by have := hs.pages; omega) _ (hn _ hm) (hs.lanes _ hm) (hs.puts _ hm)
  rw [List.length_range] at this
  have := hs.pages
  omega
end Go.Proofs.YtfiejiokconobaaDoor
