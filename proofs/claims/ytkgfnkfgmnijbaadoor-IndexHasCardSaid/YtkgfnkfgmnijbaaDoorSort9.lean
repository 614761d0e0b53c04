/- The order of entries: cmp.Compare, by, slices.SortFunc. -/
import Derived.Test.YtkgfnkfgmnijbaaDoorSortL

import Derived.Test.YtkgfnkfgmnijbaaDoorText9

namespace Go.Proofs.YtkgfnkfgmnijbaaDoor

open Go.RowKit Go.Shelf Go.Lib Go.Sort

def cmpI (x y : Int) : Int := if x < y then -1 else if y < x then 1 else 0
set_option maxRecDepth 100000 in
theorem isNaN_any (x : Int) (w : World) : Calls Tryd.prog 54 #[.int .i64 x] w fun e w' => e = .returned (.bool false) ∧ w' = w := by
  have e1 : (x == x) = true := by simp
  have e2 : (x != x) = false := by simp
  go_enter Tryd.func54, Tryd.ntmps54
  go_wp2
  (try go_ret)
  exact ⟨rfl, rfl⟩
set_option maxRecDepth 100000 in
set_option maxHeartbeats 1000000 in
theorem cmp_any (x y : Int) (w : World) : Calls Tryd.prog 41 #[.int .i64 x, .int .i64 y] w fun e w' => e = .returned (.int .i64 (cmpI x y)) ∧ w' = w := by
  have C := fun (z : Int) => isNaN_any z w
  unfold cmpI
  by_cases h1 : x < y
  · have j1 : decide (x < y) = true := decide_eq_true h1
    rw [if_pos h1]
    go_enter Tryd.func41, Tryd.ntmps41
    go_wp2_with fail
    refine (C x).mono ?_
    rintro e w1 ⟨rfl, rfl⟩
    go_wp2_with fail
    refine (C y).mono ?_
    rintro e w1 ⟨rfl, rfl⟩
    go_wp2_with fail
    (try go_ret)
    exact ⟨rfl, rfl⟩
  · rw [if_neg h1]
    by_cases h2 : y < x
    · have j1 : decide (x < y) = false := decide_eq_false h1
      have j2 : decide (y < x) = true := decide_eq_true h2
      rw [if_pos h2]
      go_enter Tryd.func41, Tryd.ntmps41
      go_wp2_with fail
      refine (C x).mono ?_
      rintro e w1 ⟨rfl, rfl⟩
      go_wp2_with fail
      refine (C y).mono ?_
      rintro e w1 ⟨rfl, rfl⟩
      go_wp2_with fail
      (try go_ret)
      exact ⟨rfl, rfl⟩
    · have j1 : decide (x < y) = false := decide_eq_false h1
      have j2 : decide (y < x) = false := decide_eq_false h2
      rw [if_neg h2]
      go_enter Tryd.func41, Tryd.ntmps41
      go_wp2_with fail
      refine (C x).mono ?_
      rintro e w1 ⟨rfl, rfl⟩
      go_wp2_with fail
      refine (C y).mono ?_
      rintro e w1 ⟨rfl, rfl⟩
      go_wp2_with fail
      (try go_ret)
      exact ⟨rfl, rfl⟩
set_option maxRecDepth 100000 in
set_option maxHeartbeats 1000000 in
theorem by_any (x y : Ent) (w : World) : Calls Tryd.prog 28 #[.agg x.cells.toArray, .agg y.cells.toArray] w fun e w' => e = .returned (.int .i64 (cmpI x.n y.n)) ∧ ∃ os', w' = grow w os' := by
  obtain ⟨n, ⟨a, len, cap, l⟩⟩ := x
  obtain ⟨n', ⟨a', len', cap', l'⟩⟩ := y
  have C := Lib.hid (fun w => cmp_any n n' w)
  unfold Ent.cells
  simp only
  obtain ⟨r, hr⟩ : ∃ r, cmpI n n' = r := ⟨_, rfl⟩
  rw [hr] at C ⊢
  clear hr
  go_enter Tryd.func28, Tryd.ntmps28
  go_wp2_with fail
  refine (C.out _).mono ?_
  rintro e w1 ⟨rfl, rfl⟩
  go_wp2_with fail
  (try go_ret)
  exact ⟨rfl, _, by rw [alloc_eq_grow, alloc_eq_grow, grow_grow]⟩
instance : Inhabited Ent := ⟨⟨0, ⟨none, 0, 0, []⟩⟩⟩
def cfE (x y : Ent) : Int := cmpI x.n y.n
theorem lt_cfE (x y : Ent) : ltOf cfE x y = decide (x.n < y.n) := by
  unfold ltOf cfE cmpI
  by_cases h1 : x.n < y.n
  · simp [h1]
  · by_cases h2 : y.n < x.n <;> simp [h1, h2]
theorem swoE : SWO (ltOf cfE) where
  irrefl x := by rw [lt_cfE]; simp
  trans x y z h1 h2 := by rw [lt_cfE] at *; simp at *; omega
  ntrans x y z h1 h2 := by rw [lt_cfE] at *; simp at *; omega
theorem Ent.cells_len (x : Ent) : x.cells.length = 2 := rfl
theorem Ent.cells_one (x : Ent) : ∀ v ∈ x.cells, v.oneCell' = true := fun v hv => by
  simp only [Ent.cells, List.mem_cons, List.not_mem_nil, or_false] at hv
  rcases hv with rfl | rfl <;> rfl
theorem cmpLaysE (blk off size : Nat) (w : World) : CmpLays Tryd.prog 28 #[] Ent.cells 2 cfE blk off size w := fun m os dk _ x y => by
  refine (by_any x y _).mono ?_
  rintro e w' ⟨rfl, os', rfl⟩
  exact ⟨rfl, 0, os', rfl⟩
theorem putRow_grown (w : World) (blk off : Nat) (F : Array Value) (n : Nat) (os : Array Obj) : w.grownBy (grow (putRow id (Sort.ahead w n) blk off F) os) (some blk) := by
  refine ⟨rfl, rfl, rfl, ?_, ?_⟩
  · simp [grow, putRow, mapBlock, Sort.ahead]
  · intro i hi hne
    have h : (Sort.ahead w n).heap = w.heap := rfl
    show ((putRow id (Sort.ahead w n) blk off F).heap ++ os)[i]? = _
    rw [Array.getElem?_append_left (by simp [putRow, mapBlock]; exact hi)]
    show ((Sort.ahead w n).heap.modify blk _)[i]? = _
    rw [Array.getElem?_modify, if_neg (fun e => hne (by rw [e])), h]
theorem holdsK_row {w : World} {base cap g : Nat} {e : TypeId} {l : List Ent} (h : Row w base e 2 Ent.cells (.slice (some ⟨g, 0, none⟩) l.length cap) l) : HoldsK Ent.cells 2 w g 0 l.toArray := by
  intro j hj
  rw [size_flatK] at hj
  rw [get_flatK _ _ _ _ hj]
  have hj2 : j / 2 < l.length := by simp at hj; omega
  have hx : l[j / 2]? = some l[j / 2] := List.getElem?_eq_getElem hj2
  have hc : ∃ u, (l[j / 2]).cells[j % 2]? = some u := ⟨_, List.getElem?_eq_getElem (by rw [Ent.cells_len]; omega)⟩
  obtain ⟨u, hu⟩ := hc
  have c := Row.cellN (enc := Ent.cells) (n := 2) Ent.cells_len h rfl hx hu
  have fz := h.freeN rfl (j / 2 * 2 + j % 2)
  have ej : j / 2 * 2 + j % 2 = j := by omega
  rw [ej] at c fz
  rw [Nat.zero_add]
  refine ⟨?_, fz⟩
  rw [c]
  simp [hj2, hu]
theorem sl_of_holdsK {w : World} {g cap : Nat} {l : List Ent} (h : HoldsK Ent.cells 2 w g 0 l.toArray) (hg : g < w.heap.size) (hc : l.length ≤ cap) (hm : cap ≤ maxLen) : SlOk w 2 Ent.cells (some ⟨g, 0, none⟩) l.length cap l := by
  refine ⟨rfl, hc, hm, .inr ⟨g, 0, rfl, hg, ?_⟩⟩
  intro i x hx j v hv
  have hi : i < l.length := (List.getElem?_eq_some_iff.1 hx).1
  have hj : j < 2 := by have := (List.getElem?_eq_some_iff.1 hv).1; rwa [Ent.cells_len] at this
  have := (HoldsK.cell h (i := i) (c := j) (by simpa using hi) hj).1
  rw [this]
  have e1 : l.toArray[i]! = x := by simp [hx]
  rw [e1]
  simp [hv]
theorem sort_any (base : Nat) (v : Value) (l : List Ent) (w : World) (h : Row w base 26 2 Ent.cells v l) (hn : l.length ≤ 1000000) :
    Calls Tryd.prog 27 #[v, .func (.func 28) #[] #[]] w fun e w' => e = .returned (.tuple #[]) ∧ ∃ l' a cap, v = .slice a l'.length cap ∧ l'.Perm l ∧ l'.Pairwise (fun x y => x.n ≤ y.n) ∧ SlOk w' 2 Ent.cells a l'.length cap l' ∧ w.grownBy w' v.ownBlock := by
  have eg : ∀ args w, (callFunc 28 args).run Tryd.prog w = .ok (.enter 28 args) w := enters_of Tryd.func28 (by kernel_rfl) rfl
  rcases Nat.eq_zero_or_pos l.length with h0 | h0
  · obtain rfl : l = [] := List.eq_nil_of_length_eq_zero h0
    obtain ⟨a, cap, rfl, hs⟩ := h.sl Ent.cells_len
    refine (AnyF.slices_SortFunc_none Tryd.sortEntry a cap _ w).mono ?_
    rintro e w' ⟨rfl, rfl⟩
    refine ⟨rfl, [], a, cap, rfl, .nil, .nil, hs, ⟨rfl, rfl, rfl, Nat.le_refl _, fun i hi _ => rfl⟩⟩
  · obtain ⟨g, cap, rfl, hgb, hgl, hc, hm⟩ := h.shape h0
    have hH := holdsK_row h
    have hs := AnyQ.slices_SortFunc Tryd.sortEntry 2 Tryd.isAgg26 Tryd.sizeOf26 Ent.cells Ent.cells_len Ent.cells_one cfE swoE 28 #[] g 0 cap l.toArray w eg (cmpLaysE g 0 _ w) hH hgl (by simp; omega)
    refine hs.mono ?_
    rintro e w' ⟨rfl, d', n, os, hp, hso, rfl⟩
    obtain ⟨hp1, _, hp3⟩ := hp
    have e1 : (d'.extract 0 l.toArray.size).toList = d'.toList := by rw [← hp1]; simp
    have e2 : (l.toArray.extract 0 l.toArray.size).toList = l := by simp
    rw [e1, e2] at hp3
    have hl : d'.toList.length = l.length := hp3.length_eq
    have hH2 := holdsK_sortWorldK_c Ent.cells 2 w g 0 l.toArray d' n os hH hgl (by rw [hp1])
    refine ⟨rfl, d'.toList, _, cap, by rw [hl], hp3, ?_, ?_, ?_⟩
    · rw [List.pairwise_iff_getElem]
      intro i j hi hj hij
      have := hso i j (Nat.zero_le _) hij (by rw [← hp1]; simpa using hj)
      rw [lt_cfE] at this
      simp at hi hj
      simp [hi, hj] at this
      simpa using this
    · have := size_sortWorldK_c Ent.cells 2 w g 0 n d' os
      exact sl_of_holdsK (by simpa using hH2) (by omega) (by rw [hl]; exact hc) hm
    · exact putRow_grown w g 0 _ n os
end Go.Proofs.YtkgfnkfgmnijbaaDoor
