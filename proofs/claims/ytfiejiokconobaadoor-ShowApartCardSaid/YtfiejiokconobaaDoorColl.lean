/- All things of pages as a slice; how many are of a kind. -/
import Derived.Test.YtfiejiokconobaaDoorAll

import Derived.Test.YtfiejiokconobaaDoorRangeB

import Derived.Test.YtfiejiokconobaaDoorHeld

namespace Go.Proofs.YtfiejiokconobaaDoor

open Go.RowKit Go.Shelf

attribute [local go_sem] Oper.semAt_some

theorem infoPut : (Tryd.prog.info? 30).map (fun i => (i.zero, i.size, i.bytes)) = some (some (.agg #[.int .i64 0, .int .i64 0, .int .i64 0, .int .i64 0, .int .i64 0]), 5, 40) := by kernel_rfl
theorem Row.base {α : Type} {w : World} {base base' n : Nat} {e : TypeId} {enc : α → List Value} {v : Value} {l : List α} (h : Row w base e n enc v l) (hb : base' ≤ base) : Row w base' e n enc v l := by
  obtain ⟨h0, h1⟩ := h
  refine ⟨h0, h1.imp id ?_⟩
  rintro ⟨g, cap, cur, a1, a2, a3⟩
  exact ⟨g, cap, cur, a1, Nat.le_trans hb a2, a3⟩
set_option maxRecDepth 100000 in
set_option maxHeartbeats 2000000 in
theorem appendSeq_any (Bp : Nat) (a : Option Addr) (cap : Nat) (l : List Page) (w : World) (hl : SlOk w 4 Page.cells a l.length cap l) (hg : ∀ y, y ∈ l → y.good w) (hB : w.cell? ⟨Bp, 0, none⟩ = some (.slice a l.length cap)) (hN : (putsOf l).length ≤ 1000000) :
    Calls Tryd.prog 46 #[.slice none 0 0, .func (.func 45) #[] #[.pointer (some ⟨Bp, 0, none⟩)]] w
      fun e w' => ∃ v, e = .returned v ∧ Row w' w.heap.size 30 5 Put.cells v (putsOf l) ∧ Kp w w' := by
  have hBl := World.block_lt_of_cell? w _ hB
  simp only at hBl
  refine calls_marks Tryd.func46 rfl ?_
  simp only [Tryd.ntmps46, List.size_toArray, List.length_cons, List.length_nil, Nat.reduceAdd, Nat.reduceSub, Array.replicate_succ, Array.replicate_zero, List.push_toArray, List.append_toArray, List.nil_append, List.cons_append]
  go_wp2
  refine named_world (F := fun W => Blk W w.heap.size [.slice none 0 0] 33 ∧ Kp w W ∧ w.heap.size + 1 = W.heap.size) ⟨(by (repeat (first | with_reducible assumption | ((with_reducible refine Blk.newL ?_ ?_); (focus (first | (simp; done) | omega)); rfl) | with_reducible refine Blk.drew ?_ | with_reducible refine Blk.drewN ?_ _ | with_reducible refine Blk.alloc ?_ _ | ((with_reducible refine Blk.other ?_ ?_ _); rotate_left; (focus (first | with_reducible assumption | omega | (simp; done) | (simp; omega))))))), (by (repeat (first | with_reducible assumption | with_reducible exact Kp.refl _ | with_reducible refine Kp.drew ?_ | with_reducible refine Kp.drewN ?_ _ | with_reducible refine Kp.alloc ?_ _ | ((with_reducible refine Kp.setCell ?_ ?_ _); rotate_left; (focus (first | omega | (simp; done) | (simp; omega)))) | with_reducible refine Kp.trans ?_ (by assumption)))), by simp⟩ ?_
  rintro w4 ⟨bO, k4, z4⟩
  refine wp_rangeB Put.cells 30 (K := low w.heap.size) (w0 := w4) rfl (enters_of Tryd.func45 (by kernel_rfl) rfl)
    (all_stops 99 (by decide) Bp a cap l w hl hg w4 ((k4.cell (p := ⟨Bp, 0, none⟩) hBl).trans hB) k4) (Below.refl _ _) (fun _ => rfl)
    (fun pre W => (∃ v, Blk W w.heap.size [v] 33 ∧ Row W w4.heap.size 30 5 Put.cells v pre) ∧ Kp w W ∧ w4.heap.size ≤ W.heap.size)
    (fun _ _ _ => False)
    (fun s A B row hs hg hr => ?_)
    (fun _ _ _ _ _ hs _ _ => hs)
    ⟨⟨_, bO, Row.nil _ _ _ _ _⟩, k4, Nat.le_refl _⟩ ?frame ?done ?stop
  · obtain ⟨⟨v, hb, hrw⟩, hk, hz⟩ := hs
    exact ⟨⟨v, hb.grown hg (fun r e => (hr r e).2), hrw.grown hg (fun r e => (hr r e).2)⟩, hk.grown2 hg k4.size (fun r e => (hr r e).1), Nat.le_trans hz hg.size⟩
  case frame =>
    apply Exists.intro
    refine ⟨?_, ?_⟩
    · rintro lp pre x W K ⟨⟨v, hb, hrw⟩, hk, hz⟩ hK
      have HB := Lib.hid hb
      have HR := Lib.hid hrw
      clear hb hrw
      gi_wp2
      obtain ⟨b, hb'⟩ : ∃ b, W.heap.size = b := ⟨_, rfl⟩
      rw [hb']
      refine hK b _ (KeepsOthers.alloc _ _) (CK.alloc _ _) ⟨⟨v, HB.out.alloc _, HR.out.alloc _⟩, hk.alloc _, by simp; omega⟩ (by omega) ?_
      subst hb'
      exact Blk.new W _ _
    · rintro lp pre x b W ⟨⟨v, hb, hrw⟩, hk, hz⟩ hbb hbx hlt
      have hc := hb.cell 0 rfl
      have hf := hb.free 0
      have x0 := hbx.cell 0 rfl
      have x1 := hbx.cell 1 rfl
      have x2 := hbx.cell 2 rfl
      have x3 := hbx.cell 3 rfl
      have x4 := hbx.cell 4 rfl
      gi_wp2_with (gi_at_builtin; refine rowAppendIn ?gd (.tmp 8) (.tmp 10) 33 ?ho Tryd.underlying33 infoPut rfl (by decide) (hrw.alloc _) ?hs (y := x) rfl ?h1 (Blk.new _ _ 30) ?hx ?hl ?hb ?hz ?_; (case gd => rfl); (case ho => rfl); (case hs => rfl); (case h1 => simp [Put.cells, Value.oneCell']); (case hx => rfl); (case hl => unfold maxLen; omega); (case hb => omega); (case hz => simp; omega); intro g' cap' w' hr' hlow hko hbe; have hb' := (hb.alloc (.cells #[.int .i64 x.k, .int .i64 x.n, .int .i64 x.l, .int .i64 x.y, .int .i64 x.h] 30)).heapEq (hlow _ (by omega)); have hc' := hb'.cell 0 rfl; have hf' := hb'.free 0)
      refine ⟨(KeepsOthers.alloc _ _).trans (hko.trans (KeepsOthers.setCell _ _ _)), (CK.alloc _ _).trans ((CK.below hbe (fun b h => by unfold low at h; omega)).trans (CK.set _ (fun b h => by unfold low at h; omega) _)), ⟨_, hb'.set 0 _, hr'.store (by omega) _⟩, ?_, ?_⟩
      · exact Kp.setCell (Below.trans (hk.alloc _) (Below.mono hbe k4.size)) (Nat.le_refl _) _
      · have h1 := hbe.size
        simp at h1 ⊢
        omega
  case done =>
    rintro D xs W hD rfl ⟨⟨v, hb, hrw⟩, hk, hz⟩ hK
    have hc := hb.cell 0 rfl
    go_wp2
    refine ⟨by simp, .inl ⟨_, _, rfl, run_takeDeferred hK, ?_⟩⟩
    exact ⟨_, results_tmp rfl _ _ _, v, rfl, (hrw.base k4.size).grown (grownBy_putObj' W D (.deferred none)) (fun r e => by cases e; exact ⟨_, hK, rfl⟩), hk.mark _ (by have := k4.size; omega) hK⟩
  case stop =>
    rintro D c pre W _ _ h _
    exact h.elim
theorem puts_any (a : Option Addr) (cap : Nat) (l : List Page) (w : World) (hl : SlOk w 4 Page.cells a l.length cap l) (hg : ∀ y, y ∈ l → y.good w) (hN : (putsOf l).length ≤ 1000000) :
    Calls Tryd.prog 28 #[.slice a l.length cap] w fun e w' => ∃ v, e = .returned v ∧ Row w' w.heap.size 30 5 Put.cells v (putsOf l) ∧ Kp w w' := by
  have HL := Lib.hid hl
  have HG := Lib.hid hg
  clear hl hg
  go_enter Tryd.func28, Tryd.ntmps28
  go_wp2_with fail
  refine (all_any a l.length cap _).mono ?_
  rintro e w1 ⟨rfl, hw1⟩
  have k1 : Kp w w1 := by rw [hw1]; exact (by (repeat (first | with_reducible assumption | with_reducible exact Kp.refl _ | with_reducible refine Kp.drew ?_ | with_reducible refine Kp.drewN ?_ _ | with_reducible refine Kp.alloc ?_ _ | ((with_reducible refine Kp.setCell ?_ ?_ _); rotate_left; (focus (first | omega | (simp; done) | (simp; omega)))) | with_reducible refine Kp.trans ?_ (by assumption))))
  have hB : w1.cell? ⟨w.heap.size, 0, none⟩ = some (.slice a l.length cap) := by rw [hw1]; exact (Blk.new w [.slice a l.length cap] 22).cell 0 rfl
  clear hw1
  have C := Lib.hid ((appendSeq_any w.heap.size a cap l w1 (HL.out.kp k1) (fun y hy => (HG.out y hy).kp k1) hB hN))
  clear hB
  go_wp2_with fail
  refine (show Calls Tryd.prog 40 #[.func (.func 45) #[] #[.pointer (some ⟨w.heap.size, 0, none⟩)]] w1 (fun e w' => ∃ v, e = .returned v ∧ Row w' w1.heap.size 30 5 Put.cells v (putsOf l) ∧ Kp w1 w') from ?_).mono ?_
  · go_enter Tryd.func40, Tryd.ntmps40
    go_wp2_with fail
    refine C.out.mono ?_
    rintro e w2 ⟨v, rfl, hr, k2⟩
    go_wp2_with fail
    go_ret
    exact ⟨v, rfl, hr, k2⟩
  · rintro e w2 ⟨v, rfl, hr, k2⟩
    go_wp2_with fail
    go_ret
    exact ⟨v, rfl, hr.base k1.size, k1.trans k2⟩
def kindN (l : List Put) (k : Int) : Nat := (l.filter fun p => p.k == k).length
theorem kindN_snoc (l : List Put) (x : Put) (k : Int) : kindN (l ++ [x]) k = if x.k = k then kindN l k + 1 else kindN l k := by
  unfold kindN
  rw [List.filter_append, List.length_append]
  by_cases h : x.k = k
  · simp [h]
  · simp [h]
theorem kindN_le (l : List Put) (k : Int) : kindN l k ≤ l.length := List.length_filter_le _ _
set_option maxRecDepth 100000 in
set_option maxHeartbeats 2000000 in
theorem count_any (a : Option Addr) (cap : Nat) (l : List Page) (k : Int) (w : World) (hl : SlOk w 4 Page.cells a l.length cap l) (hg : ∀ y, y ∈ l → y.good w) (hN : (putsOf l).length ≤ 1000000) :
    Calls Tryd.prog 24 #[.slice a l.length cap, .int .i64 k] w fun e w' => e = .returned (.int .i64 (kindN (putsOf l) k)) ∧ Kp w w' := by
  have HL := Lib.hid hl
  have HG := Lib.hid hg
  clear hl hg
  refine calls_marks Tryd.func24 rfl ?_
  simp only [Tryd.ntmps24, List.size_toArray, List.length_cons, List.length_nil, Nat.reduceAdd, Nat.reduceSub, Array.replicate_succ, Array.replicate_zero, List.push_toArray, List.append_toArray, List.nil_append, List.cons_append]
  go_wp2_with fail
  refine (all_any a l.length cap _).mono ?_
  rintro e w1 ⟨rfl, hw1⟩
  go_wp2
  subst hw1
  refine named_world (F := fun W => Blk W w.heap.size [.int .i64 k] 3 ∧ Blk W (w.heap.size + 1) [.int .i64 0] 3 ∧ Blk W (w.heap.size + 2) [.slice a l.length cap] 22 ∧ Kp w W ∧ w.heap.size + 3 = W.heap.size) ⟨(by (repeat (first | with_reducible assumption | ((with_reducible refine Blk.newL ?_ ?_); (focus (first | (simp; done) | omega)); rfl) | with_reducible refine Blk.drew ?_ | with_reducible refine Blk.drewN ?_ _ | with_reducible refine Blk.alloc ?_ _ | ((with_reducible refine Blk.other ?_ ?_ _); rotate_left; (focus (first | with_reducible assumption | omega | (simp; done) | (simp; omega))))))), (by (repeat (first | with_reducible assumption | ((with_reducible refine Blk.newL ?_ ?_); (focus (first | (simp; done) | omega)); rfl) | with_reducible refine Blk.drew ?_ | with_reducible refine Blk.drewN ?_ _ | with_reducible refine Blk.alloc ?_ _ | ((with_reducible refine Blk.other ?_ ?_ _); rotate_left; (focus (first | with_reducible assumption | omega | (simp; done) | (simp; omega))))))), (by (repeat (first | with_reducible assumption | ((with_reducible refine Blk.newL ?_ ?_); (focus (first | (simp; done) | omega)); rfl) | with_reducible refine Blk.drew ?_ | with_reducible refine Blk.drewN ?_ _ | with_reducible refine Blk.alloc ?_ _ | ((with_reducible refine Blk.other ?_ ?_ _); rotate_left; (focus (first | with_reducible assumption | omega | (simp; done) | (simp; omega))))))), (by (repeat (first | with_reducible assumption | with_reducible exact Kp.refl _ | with_reducible refine Kp.drew ?_ | with_reducible refine Kp.drewN ?_ _ | with_reducible refine Kp.alloc ?_ _ | ((with_reducible refine Kp.setCell ?_ ?_ _); rotate_left; (focus (first | omega | (simp; done) | (simp; omega)))) | with_reducible refine Kp.trans ?_ (by assumption)))), by simp⟩ ?_
  rintro w4 ⟨bK, bN, bP, k4, z4⟩
  refine wp_rangeB Put.cells 30 (K := low w.heap.size) (w0 := w4) rfl (enters_of Tryd.func45 (by kernel_rfl) rfl)
    (all_stops 99 (by decide) (w.heap.size + 2) a cap l w HL.out HG.out w4 (bP.cell 0 rfl) k4) (Below.refl _ _) (fun _ => rfl)
    (fun pre W => Blk W w.heap.size [.int .i64 k] 3 ∧ Blk W (w.heap.size + 1) [.int .i64 (kindN pre k)] 3 ∧ Kp w W ∧ w4.heap.size ≤ W.heap.size)
    (fun _ _ _ => False)
    (fun s A B row hs hg hr => ⟨hs.1.grown hg (fun r e => (hr r e).2), hs.2.1.grown hg (fun r e => (hr r e).2), hs.2.2.1.grown2 hg k4.size (fun r e => (hr r e).1), Nat.le_trans hs.2.2.2 hg.size⟩)
    (fun _ _ _ _ _ hs _ _ => hs)
    ⟨bK, bN, k4, Nat.le_refl _⟩ ?frame ?done ?stop
  case frame =>
    apply Exists.intro
    refine ⟨?_, ?_⟩
    · rintro lp pre x W K ⟨b1, b2, hk, hz⟩ hK
      have B1 := Lib.hid b1
      have B2 := Lib.hid b2
      clear b1 b2
      gi_wp2
      obtain ⟨b, hb'⟩ : ∃ b, W.heap.size = b := ⟨_, rfl⟩
      rw [hb']
      refine hK b _ (KeepsOthers.alloc _ _) (CK.alloc _ _) ⟨B1.out.alloc _, B2.out.alloc _, hk.alloc _, by simp; omega⟩ (by omega) ?_
      subst hb'
      exact Blk.new W _ _
    · rintro lp pre x b W ⟨b1, b2, hk, hz⟩ hbb hbx hlt
      have hc := b1.cell 0 rfl
      have hn := b2.cell 0 rfl
      have hf := b2.free 0
      have x0 := hbx.cell 0 rfl
      have hsn := kindN_snoc pre x k
      have hle := kindN_le pre k
      by_cases h : x.k = k
      · rw [if_pos h] at hsn
        have HSN := Lib.hid hsn
        rw [h] at x0
        clear hsn h
        gi_wp2
        exact ⟨KeepsOthers.setCell _ _ _, CK.set W (fun b h => by unfold low at h; omega) _, b1.other (by simp) _, by rw [HSN.out]; exact b2.set 0 _, hk.setCell (by simp) _, by simpa using hz⟩
      · rw [if_neg h] at hsn
        have HSN := Lib.hid hsn
        have h' : (x.k == k) = false := by simpa using h
        clear hsn
        gi_wp2
        exact ⟨KeepsOthers.refl _, CK.refl _ _, b1, by rw [HSN.out]; exact b2, hk, hz⟩
  case done =>
    rintro D xs W hD rfl ⟨b1, b2, hk, hz⟩ hK
    have hc := b2.cell 0 rfl
    go_wp2
    refine ⟨by simp, .inl ⟨_, _, rfl, run_takeDeferred hK, ?_⟩⟩
    exact ⟨_, results_tmp rfl _ _ _, rfl, hk.mark _ (by have := k4.size; omega) hK⟩
  case stop =>
    rintro D c pre W _ _ h _
    exact h.elim
end Go.Proofs.YtfiejiokconobaaDoor
