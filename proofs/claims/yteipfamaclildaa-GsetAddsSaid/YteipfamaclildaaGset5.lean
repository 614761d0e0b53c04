/- What each glue has a share by; rows that grow side by side. -/
import Derived.Test.YteipfamaclildaaGset2

import Derived.Test.YteipfamaclildaaRow

import Derived.Test.YteipfamaclildaaShAll

import Derived.Maps.AppendAt

namespace Go.Proofs.Yteipfamaclildaa

open Go.RowKit

/-- What a glue has a share by. -/
def partG (how ord : Int) (t : Tot) : Int := if how = 1 ∧ 0 ≤ ord ∧ ord < 4 then strO t ord.toNat else if how = 2 then t.shr else 0
theorem partG_in {how ord : Int} {t : Tot} (h : fldT t = true) : 0 ≤ partG how ord t ∧ partG how ord t ≤ 1125899906842624 := by
  obtain ⟨g0, g1, g2, g3, g4, g5⟩ := fldT_iff.1 h
  have g1 := inF_iff.1 g1; have g2 := inF_iff.1 g2; have g3 := inF_iff.1 g3; have g4 := inF_iff.1 g4; have g5 := inF_iff.1 g5
  unfold partG
  split
  · next hc =>
    obtain ⟨o, rfl⟩ := Int.eq_ofNat_of_zero_le hc.2.1
    rw [Int.toNat_natCast]
    obtain rfl | rfl | rfl | rfl : o = 0 ∨ o = 1 ∨ o = 2 ∨ o = 3 := by omega
    · exact g1
    · exact g2
    · exact g3
    · exact g4
  · split
    · exact g5
    · omega
set_option maxHeartbeats 1000000 in
theorem gby_any (s0 s1 s2 s3 s4 a0 a1 a2 a3 a4 a5 : Int) (w : World) : Calls Try.prog 68 #[.agg #[.int .i64 s0, .int .i64 s1, .int .i64 s2, .int .i64 s3, .int .i64 s4], .agg #[.int .i64 a0, .int .i64 a1, .int .i64 a2, .int .i64 a3, .int .i64 a4, .int .i64 a5]] w fun e w' => e = .returned (.int .i64 (partG s0 s1 ⟨a0, a1, a2, a3, a4, a5⟩)) ∧ Kp w w' := by
  by_cases e1 : s0 = 1
  · subst e1
    by_cases h0 : 0 ≤ s1
    · by_cases h1 : s1 < 4
      · have hX : partG 1 s1 ⟨a0, a1, a2, a3, a4, a5⟩ = strO ⟨a0, a1, a2, a3, a4, a5⟩ s1.toNat := by unfold partG; rw [if_pos ⟨rfl, h0, h1⟩]
        obtain ⟨o, rfl⟩ := Int.eq_ofNat_of_zero_le h0
        rw [hX, Int.toNat_natCast]
        have ho : o < 4 := by omega
        obtain ⟨so, hsv⟩ : ∃ x, strO ⟨a0, a1, a2, a3, a4, a5⟩ o = x := ⟨_, rfl⟩
        have hcell : (ints [a0, a1, a2, a3, a4, a5])[1 + o]? = some (.int .i64 so) := by
          have h := ints_get (l := [a0, a1, a2, a3, a4, a5]) (k := 1 + o) (by simp; omega)
          rw [h, ← hsv]
          obtain rfl | rfl | rfl | rfl : o = 0 ∨ o = 1 ∨ o = 2 ∨ o = 3 := by omega
          all_goals rfl
        rw [hsv]
        have j0 : decide ((0 : Int) ≤ (o : Int)) = true := decide_eq_true (by omega)
        have j1 : decide ((o : Int) < 4) = true := decide_eq_true h1
        have hc : ((w.alloc (.cells #[.int .i64 1, .int .i64 o, .int .i64 s2, .int .i64 s3, .int .i64 s4] 69)).alloc (.cells #[.int .i64 a0, .int .i64 a1, .int .i64 a2, .int .i64 a3, .int .i64 a4, .int .i64 a5] 31)).cell? ⟨w.heap.size + 1, 1 + o, none⟩ = some (.int .i64 so) := by
          have hb : Blk ((w.alloc (.cells #[.int .i64 1, .int .i64 o, .int .i64 s2, .int .i64 s3, .int .i64 s4] 69)).alloc (.cells #[.int .i64 a0, .int .i64 a1, .int .i64 a2, .int .i64 a3, .int .i64 a4, .int .i64 a5] 31)) (w.heap.size + 1) (ints [a0, a1, a2, a3, a4, a5]) 31 := (by (repeat (first | with_reducible assumption | ((with_reducible refine Blk.newL ?_ ?_); (focus (first | (simp; done) | omega)); rfl) | with_reducible refine Blk.drew ?_ | with_reducible refine Blk.drewN ?_ _ | with_reducible refine Blk.alloc ?_ _ | ((with_reducible refine Blk.other ?_ ?_ _); rotate_left; (focus (first | with_reducible assumption | omega | (simp; done) | (simp; omega)))))))
          exact hb.cell _ hcell
        clear hsv hcell hX h0 h1
        go_enter Try.func68, Try.ntmps68
        go_wp2
        go_ret
        exact ⟨rfl, (by (repeat (first | with_reducible assumption | with_reducible exact Kp.refl _ | with_reducible refine Kp.drew ?_ | with_reducible refine Kp.drewN ?_ _ | with_reducible refine Kp.alloc ?_ _ | ((with_reducible refine Kp.setCell ?_ ?_ _); rotate_left; (focus (first | omega | (simp; done) | (simp; omega)))) | with_reducible refine Kp.trans ?_ (by assumption))))⟩
      · have hX : partG 1 s1 ⟨a0, a1, a2, a3, a4, a5⟩ = 0 := by unfold partG; rw [if_neg (by omega), if_neg (by decide)]
        rw [hX]
        have j0 : decide (0 ≤ s1) = true := decide_eq_true h0
        have j1 : decide (s1 < 4) = false := decide_eq_false h1
        clear hX
        go_enter Try.func68, Try.ntmps68
        go_wp2
        go_ret
        exact ⟨rfl, (by (repeat (first | with_reducible assumption | with_reducible exact Kp.refl _ | with_reducible refine Kp.drew ?_ | with_reducible refine Kp.drewN ?_ _ | with_reducible refine Kp.alloc ?_ _ | ((with_reducible refine Kp.setCell ?_ ?_ _); rotate_left; (focus (first | omega | (simp; done) | (simp; omega)))) | with_reducible refine Kp.trans ?_ (by assumption))))⟩
    · have hX : partG 1 s1 ⟨a0, a1, a2, a3, a4, a5⟩ = 0 := by unfold partG; rw [if_neg (by omega), if_neg (by decide)]
      rw [hX]
      have j0 : decide (0 ≤ s1) = false := decide_eq_false h0
      clear hX
      go_enter Try.func68, Try.ntmps68
      go_wp2
      go_ret
      exact ⟨rfl, (by (repeat (first | with_reducible assumption | with_reducible exact Kp.refl _ | with_reducible refine Kp.drew ?_ | with_reducible refine Kp.drewN ?_ _ | with_reducible refine Kp.alloc ?_ _ | ((with_reducible refine Kp.setCell ?_ ?_ _); rotate_left; (focus (first | omega | (simp; done) | (simp; omega)))) | with_reducible refine Kp.trans ?_ (by assumption))))⟩
  · have j1 : (s0 == 1) = false := beq_eq_false_iff_ne.2 e1
    by_cases e2 : s0 = 2
    · have hX : partG s0 s1 ⟨a0, a1, a2, a3, a4, a5⟩ = a5 := by unfold partG; rw [if_neg (fun h => e1 h.1), if_pos e2]
      rw [hX]
      clear hX j1 e1
      subst e2
      go_enter Try.func68, Try.ntmps68
      go_wp2
      go_ret
      exact ⟨rfl, (by (repeat (first | with_reducible assumption | with_reducible exact Kp.refl _ | with_reducible refine Kp.drew ?_ | with_reducible refine Kp.drewN ?_ _ | with_reducible refine Kp.alloc ?_ _ | ((with_reducible refine Kp.setCell ?_ ?_ _); rotate_left; (focus (first | omega | (simp; done) | (simp; omega)))) | with_reducible refine Kp.trans ?_ (by assumption))))⟩
    · have hX : partG s0 s1 ⟨a0, a1, a2, a3, a4, a5⟩ = 0 := by unfold partG; rw [if_neg (fun h => e1 h.1), if_neg e2]
      have j2 : (s0 == 2) = false := beq_eq_false_iff_ne.2 e2
      rw [hX]
      clear hX e1 e2
      go_enter Try.func68, Try.ntmps68
      go_wp2
      go_ret
      exact ⟨rfl, (by (repeat (first | with_reducible assumption | with_reducible exact Kp.refl _ | with_reducible refine Kp.drew ?_ | with_reducible refine Kp.drewN ?_ _ | with_reducible refine Kp.alloc ?_ _ | ((with_reducible refine Kp.setCell ?_ ?_ _); rotate_left; (focus (first | omega | (simp; done) | (simp; omega)))) | with_reducible refine Kp.trans ?_ (by assumption))))⟩

/-- 'out = append(out, y)' where several rows grow side by side: it is told where the new row lies. -/
theorem rowAppendAt {α : Type} {ops : Array Oper} {rest : List Oper} {o : Oper} {a : Act} {w : World} {Q : Exit → Act → World → Prop} (hgd : o.guard = none) (s x : Operand) (t : TypeId)
    (ho : o.op = .call { callee := .builtin .append, args := #[s, x], argTypes := #[t, t] }) {base : Nat} {e : TypeId} {z : Value} {n bytes : Nat} (ht : Try.prog.underlying t = some (.slice e))
    (hinfo : (Try.prog.info? e).map (fun i => (i.zero, i.size, i.bytes)) = some (some z, n, bytes)) (hzs : z.cells.size = n) (hsz : 0 < n)
    {v : Value} {l : List α} {enc : α → List Value} (hrow : Row w base e n enc v l) (hs : a.eval s = v) {y : α} (hy : (enc y).length = n) (h1 : ∀ u ∈ enc y, u.oneCell' = true) {b : Nat} {t' : TypeId} (hb : Blk w b (enc y) t')
    (hx : a.eval x = .slice (some ⟨b, 0, none⟩) 1 1) (hlen : l.length + 1 ≤ maxLen) (hbytes : (l.length + 1) * bytes ≤ 140737488355328) (hbase : base ≤ w.heap.size)
    (h : ∀ g cap w', Row w' base e n enc (.slice (some ⟨g, 0, none⟩) (l.length + 1) cap) (l ++ [y]) → w.grownBy w' v.ownBlock → (some g = v.ownBlock ∨ g = w.heap.size) →
      wpList Try.prog ops Q rest (a.put o.dst (.slice (some ⟨g, 0, none⟩) (l.length + 1) cap)) w') : wpList Try.prog ops Q (o :: rest) a w := by
  obtain ⟨i0, hi, hz0, hz1, hz2⟩ := info_parts hinfo
  refine wpList_append_own_at w hgd s x t ho base e i0 z n bytes ht hi hz0 hz1 hz2 hzs hsz v l.length _ hs hrow ⟨b, 0, none⟩ 1 1 (enc y) hx (by rw [hy, Nat.one_mul]) (fun j u hu => ?_) h1 hlen hbytes hbase ?_
  · have hadd : (⟨b, 0, none⟩ : Addr).add j = ⟨b, j, none⟩ := by unfold Addr.add; split <;> simp_all
    rw [hadd]; exact hb.cell j hu
  · intro v' w' hown hgrow hnil hat
    obtain ⟨g, cap, rfl⟩ := ownsRow_succ hown
    refine h g cap w' ?_ hgrow ?_
    · unfold Row
      rw [List.length_append, List.flatMap_append]
      simpa using hown
    · rcases hat with e | e
      · exact .inl e
      · exact .inr (by simpa [Value.ownBlock] using e)
/-- Two rows that lie apart. -/
def Apart (u v : Value) : Prop := u.ownBlock = none ∨ v.ownBlock = none ∨ u.ownBlock ≠ v.ownBlock
theorem Row.other {α : Type} {w w' : World} {base n : Nat} {e : TypeId} {enc : α → List Value} {u v : Value} {l : List α} (h : Row w base e n enc u l) (hg : w.grownBy w' v.ownBlock) (ha : Apart u v) : Row w' base e n enc u l := by
  rcases ha with ha | ha | ha
  · exact World.ownsRow.kept h hg (.inl ha)
  · rw [ha] at hg
    exact World.ownsRow.kept h hg (by cases u.ownBlock <;> simp)
  · exact World.ownsRow.kept h hg (.inr ha)
theorem Blk.below {w w' : World} {b : Nat} {cs : List Value} {t : TypeId} (h : Blk w b cs t) {row : Option Nat} (hg : w.grownBy w' row) (hr : ∀ k, row = some k → b ≠ k) : Blk w' b cs t :=
  ⟨(hg.block b h.lt (fun e => hr b e.symm rfl)).trans h.heap⟩
theorem Kp.grownRow {W w w' : World} (k : Kp W w) {row : Option Nat} (hg : w.grownBy w' row) (hr : ∀ k, row = some k → W.heap.size ≤ k) : Kp W w' := Below.grown k hg k.size hr
/-- The row of numbers as a block. -/
theorem Row.block {α : Type} {w : World} {base n : Nat} {e : TypeId} {enc : α → List Value} {v : Value} {l : List α} (h : Row w base e n enc v l) (hl : 0 < l.length) : ∃ g cap rest, v = .slice (some ⟨g, 0, none⟩) l.length cap ∧ base ≤ g ∧ l.length ≤ cap ∧ cap ≤ maxLen ∧ Blk w g (l.flatMap enc ++ rest) e := by
  rcases h.2 with ⟨_, h0⟩ | ⟨g, cap, cur, rfl, hb, hg, hc, hm, hs, ht⟩
  · omega
  · refine ⟨g, cap, cur.toList.drop (l.length * n), rfl, hb, hc, hm, ⟨?_⟩⟩
    rw [← ht, List.take_append_drop]
    exact hg
theorem Apart.symm {u v : Value} (h : Apart u v) : Apart v u := by
  rcases h with h | h | h
  · exact .inr (.inl h)
  · exact .inl h
  · exact .inr (.inr (Ne.symm h))
/-- The one has grown: in place, or in a block that is new. -/
theorem Apart.step {u v : Value} (h : Apart u v) {n g l cap : Nat} (hv : ∀ j, v.ownBlock = some j → j < n) {m : Nat} (hu : some g = u.ownBlock ∨ g = m) (hm : n ≤ m) : Apart (.slice (some ⟨g, 0, none⟩) l cap) v := by
  cases hv2 : v.ownBlock with
  | none => exact .inr (.inl hv2)
  | some j =>
    refine .inr (.inr ?_)
    rw [hv2]
    show some g ≠ some j
    intro e
    have e2 : g = j := Option.some.inj e
    have hj := hv j hv2
    rcases hu with hu | hu
    · rcases h with h | h | h
      · rw [h] at hu; cases hu
      · rw [hv2] at h; cases h
      · rw [hv2, ← hu, e2] at h; exact h rfl
    · omega
end Go.Proofs.Yteipfamaclildaa
