/- A copy of a list of items: the walk. -/
import Derived.Test.YteipfamaclildaaRow

import Derived.Test.YteipfamaclildaaItem

import Derived.LaidEqlPtr

namespace Go.Proofs.Yteipfamaclildaa

open Go.RowKit

theorem flatMap_inv {α : Type} {enc : α → List Value} {n : Nat} (hn : ∀ x, (enc x).length = n) : ∀ (l : List α) (J : Nat) (u : Value), (l.flatMap enc)[J]? = some u → ∃ i x j, J = i * n + j ∧ l[i]? = some x ∧ (enc x)[j]? = some u
  | [], J, u, h => by simp at h
  | y :: l, J, u, h => by
    rw [List.flatMap_cons] at h
    rcases Nat.lt_or_ge J n with hJ | hJ
    · rw [List.getElem?_append_left (by rw [hn]; exact hJ)] at h
      exact ⟨0, y, J, by omega, rfl, h⟩
    · rw [List.getElem?_append_right (by rw [hn]; exact hJ), hn] at h
      obtain ⟨i, x, j, hi, hx, hu⟩ := flatMap_inv hn l (J - n) u h
      exact ⟨i + 1, x, j, by rw [Nat.add_mul]; omega, by rw [List.getElem?_cons_succ]; exact hx, hu⟩
theorem Item.cells_length (x : Item) : x.cells.length = 7 := rfl
theorem Item.cells_one (x : Item) : ∀ u ∈ x.cells, u.oneCell' = true := by
  intro u hu
  simp only [Item.cells, List.mem_cons, List.not_mem_nil, or_false] at hu
  rcases hu with h | h | h | h | h | h | h <;> subst h <;> rfl
theorem infoItem : (Try.prog.info? 78).map (fun i => (i.zero, i.size, i.bytes)) = some (some (.agg #[.int .i64 0, .int .i64 0, .int .i64 0, .int .i64 0, .int .i64 0, .int .i64 0, .int .i64 0]), 7, 56) := by kernel_rfl

set_option maxRecDepth 100000 in
set_option maxHeartbeats 1000000 in
theorem clone_any (a : Option Addr) (len cap : Nat) (l : List Item) (w : World) (hl : SlOk w 7 Item.cells a len cap l) (h4 : len ≤ 4096) :
    Calls Try.prog 43 #[.slice a len cap] w fun e w' => ∃ v, e = .returned v ∧ Row w' w.heap.size 78 7 Item.cells v l ∧ Kp w w' := by
  have hq : ∀ (w : World) (a : Option Addr) (n c n' c' : Nat), (binOp .eql 22 (.slice a n c) (.slice none n' c')).run Try.prog w = .ok (.bool a.isNone) w := fun w a n c n' c' => Lib.run_eql_slice_nil w _ _ a n c n' c' Try.underlying22
  obtain ⟨i0, hi, hz0, hz1, hz2⟩ := info_parts infoItem
  obtain ⟨h1, h2, h3, hrow⟩ := hl
  cases a with
  | none =>
    have hnil : l = [] := by
      rcases hrow with h | ⟨b, off, h, _⟩
      · exact h
      · cases h
    subst hnil
    go_enter Try.func43, Try.ntmps43
    go_wp2
    go_ret
    exact ⟨_, rfl, Row.nil _ _ _ _ _, (by (repeat (first | with_reducible assumption | with_reducible exact Kp.refl _ | with_reducible refine Kp.drew ?_ | with_reducible refine Kp.drewN ?_ _ | with_reducible refine Kp.alloc ?_ _ | ((with_reducible refine Kp.setCell ?_ ?_ _); rotate_left; (focus (first | omega | (simp; done) | (simp; omega)))) | with_reducible refine Kp.trans ?_ (by assumption))))⟩
  | some ad =>
    have hnews : ∀ W : World, Kp w W → ∀ j u, (l.flatMap Item.cells)[j]? = some u → W.cell? (ad.add j) = some u := by
      intro W kW J u hu
      rcases hrow with h | ⟨b, off, h, hb, hr⟩
      · subst h; simp at hu
      · injection h with h
        subst h
        obtain ⟨i, x, j, hJ, hx, hu'⟩ := flatMap_inv Item.cells_length l J u hu
        have := hr i x hx j u hu'
        rw [show (⟨b, off, none⟩ : Addr).add J = ⟨b, off + J, none⟩ by unfold Addr.add; split <;> simp_all, hJ, ← Nat.add_assoc]
        exact (kW.cell (p := ⟨b, off + i * 7 + j, none⟩) hb).trans this
    have hlen : (l.flatMap Item.cells).length = len * 7 := by
      rw [List.length_flatMap]
      have : ∀ m : List Item, (m.map fun x => x.cells.length).sum = m.length * 7 := by
        intro m
        induction m with
        | nil => rfl
        | cons y m ih => rw [List.map_cons, List.sum_cons, ih, List.length_cons, Nat.add_mul]; simp [Item.cells]; omega
      rw [this, h1]
    have hone : ∀ u ∈ l.flatMap Item.cells, u.oneCell' = true := by
      intro u hu
      obtain ⟨x, _, hx⟩ := List.mem_flatMap.1 hu
      exact Item.cells_one x u hx
    have HN := Lib.hid hnews
    clear hnews hrow
    go_enter Try.func43, Try.ntmps43
    go_wp2_with (at_builtin; refine wpList_append_own _ rfl _ _ 22 rfl w.heap.size 78 i0 _ 7 56 Try.underlying22 hi hz0 hz1 hz2 rfl (by decide) _ _ _ rfl (World.ownsRow_made w #[] 0 (Nat.le_refl _) (Nat.zero_le _) rfl) ad len cap (l.flatMap Item.cells) rfl hlen (HN.out _ ((by (repeat (first | with_reducible assumption | with_reducible exact Kp.refl _ | with_reducible refine Kp.drew ?_ | with_reducible refine Kp.drewN ?_ _ | with_reducible refine Kp.alloc ?_ _ | ((with_reducible refine Kp.setCell ?_ ?_ _); rotate_left; (focus (first | omega | (simp; done) | (simp; omega)))) | with_reducible refine Kp.trans ?_ (by assumption)))) : Kp w _)) hone (by unfold maxLen; omega) (by omega) (by simp) ?_)
    intro v' w1 hown hgrow hnil
    go_wp2
    go_ret
    have hr : Row w1 w.heap.size 78 7 Item.cells v' l := by
      unfold Row
      rw [h1]; simpa using hown
    exact ⟨_, rfl, hr, Below.grown ((by (repeat (first | with_reducible assumption | with_reducible exact Kp.refl _ | with_reducible refine Kp.drew ?_ | with_reducible refine Kp.drewN ?_ _ | with_reducible refine Kp.alloc ?_ _ | ((with_reducible refine Kp.setCell ?_ ?_ _); rotate_left; (focus (first | omega | (simp; done) | (simp; omega)))) | with_reducible refine Kp.trans ?_ (by assumption)))) : Kp w _) hgrow ((by (repeat (first | with_reducible assumption | with_reducible exact Kp.refl _ | with_reducible refine Kp.drew ?_ | with_reducible refine Kp.drewN ?_ _ | with_reducible refine Kp.alloc ?_ _ | ((with_reducible refine Kp.setCell ?_ ?_ _); rotate_left; (focus (first | omega | (simp; done) | (simp; omega)))) | with_reducible refine Kp.trans ?_ (by assumption)))) : Kp w _).size (fun k hk => by simp [Value.ownBlock] at hk; omega)⟩
end Go.Proofs.Yteipfamaclildaa
