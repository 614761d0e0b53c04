/- All shares: the walk. -/
import Derived.Test.YteipfamaclildaaEach

namespace Go.Proofs.Yteipfamaclildaa

open Go.RowKit Go.Shelf

attribute [local go_sem] Oper.semAt_some

theorem infoSp : (Try.prog.info? 28).map (fun i => (i.zero, i.size, i.bytes)) = some (some (.int .i64 0), 1, 8) := by kernel_rfl
/-- The shares of the places that have come. -/
def seen (whole : Int) (l : List Int) (pre : List (Fin l.length)) : List Int := pre.map fun x => shareAt whole l x.val
theorem seen_snoc (whole : Int) (l : List Int) (pre : List (Fin l.length)) (x : Fin l.length) : seen whole l (pre ++ [x]) = seen whole l pre ++ [shareAt whole l x.val] := by simp [seen]
theorem seen_firsts (whole : Int) (l : List Int) (k : Nat) (hk : k ≤ l.length) : seen whole l (firsts l.length k) = (shares whole l).take k := by
  induction k with
  | zero => simp [firsts_zero, seen]
  | succ k ih => rw [firsts_succ (by omega), seen_snoc, ih (by omega), shares_take (by omega)]

theorem Row.base {α : Type} {w : World} {base base' n : Nat} {e : TypeId} {enc : α → List Value} {v : Value} {l : List α} (h : Row w base e n enc v l) (hb : base' ≤ base) : Row w base' e n enc v l := by
  obtain ⟨h0, h1⟩ := h
  refine ⟨h0, h1.imp id ?_⟩
  rintro ⟨g, cap, cur, a1, a2, a3⟩
  exact ⟨g, cap, cur, a1, Nat.le_trans hb a2, a3⟩
set_option maxRecDepth 100000 in
set_option maxHeartbeats 2000000 in
theorem shareAll_any (whole : Int) (a : Option Addr) (len cap : Nat) (l : List Int) (w : World) (hwb : I64 whole) (hl : SlOk w 1 enc1 a len cap l) (hok : ∀ x, x ∈ l → I64 x) (h5 : l.length ≤ 5000) (hs : shOk whole l = true) :
    Calls Try.prog 25 #[.int .i64 whole, .slice a len cap] w
      fun e w' => ∃ v, e = .returned (.tuple #[v, .bool true]) ∧ Row w' w.heap.size 28 1 enc1 v (shares whole l) ∧ Kp w w' := by
  have cS := shareOf_any whole a len cap l w hl hok
  rw [shTot_yes hs, hs] at cS
  have HS := Lib.hid hs
  have HWB := Lib.hid hwb
  have HOK := Lib.hid hok
  clear hs hwb hok
  refine calls_marks Try.func25 rfl ?_
  simp only [Try.ntmps25, List.size_toArray, List.length_cons, List.length_nil, Nat.reduceAdd, Nat.reduceSub, Array.replicate_succ, Array.replicate_zero, List.push_toArray, List.append_toArray, List.nil_append, List.cons_append]
  go_wp2_with fail
  refine cS.mono ?_
  rintro e w1 ⟨rfl, k1⟩
  have l1 := hl.kp k1
  clear cS
  go_wp2_with fail
  refine (each_any whole a len cap _).mono ?_
  rintro e w3 ⟨rfl, hw3⟩
  go_wp2
  clear hw3 l1
  have HL := Lib.hid hl
  refine named_world (F := fun W => Blk W w1.heap.size [.slice none 0 0] 49 ∧ Blk W (w1.heap.size + 1) [.int .i64 whole] 28 ∧ Blk W (w1.heap.size + 2) [.slice a len cap] 49 ∧ Kp w W ∧ w1.heap.size + 3 = W.heap.size) ⟨(by (repeat (first | with_reducible assumption | ((with_reducible refine Blk.newL ?_ ?_); (focus (first | (simp; done) | omega)); rfl) | with_reducible refine Blk.drew ?_ | with_reducible refine Blk.drewN ?_ _ | with_reducible refine Blk.alloc ?_ _ | ((with_reducible refine Blk.other ?_ ?_ _); rotate_left; (focus (first | with_reducible assumption | omega | (simp; done) | (simp; omega))))))), (by (repeat (first | with_reducible assumption | ((with_reducible refine Blk.newL ?_ ?_); (focus (first | (simp; done) | omega)); rfl) | with_reducible refine Blk.drew ?_ | with_reducible refine Blk.drewN ?_ _ | with_reducible refine Blk.alloc ?_ _ | ((with_reducible refine Blk.other ?_ ?_ _); rotate_left; (focus (first | with_reducible assumption | omega | (simp; done) | (simp; omega))))))), (by (repeat (first | with_reducible assumption | ((with_reducible refine Blk.newL ?_ ?_); (focus (first | (simp; done) | omega)); rfl) | with_reducible refine Blk.drew ?_ | with_reducible refine Blk.drewN ?_ _ | with_reducible refine Blk.alloc ?_ _ | ((with_reducible refine Blk.other ?_ ?_ _); rotate_left; (focus (first | with_reducible assumption | omega | (simp; done) | (simp; omega))))))), (by (repeat (first | with_reducible assumption | with_reducible exact Kp.refl _ | with_reducible refine Kp.drew ?_ | with_reducible refine Kp.drewN ?_ _ | with_reducible refine Kp.alloc ?_ _ | ((with_reducible refine Kp.setCell ?_ ?_ _); rotate_left; (focus (first | omega | (simp; done) | (simp; omega)))) | with_reducible refine Kp.trans ?_ (by assumption)))), by simp⟩ ?_
  rintro w4 ⟨bO, bW, bP, k4, z4⟩
  have hw := k1.size
  have hne : 0 < l.length := by
    rcases Nat.eq_zero_or_pos l.length with e | e
    · have := (shOk_iff.1 HS.out).2.2.2
      rw [List.eq_nil_of_length_eq_zero e] at this
      simp at this
    · exact e
  have hbl : ∀ b, eachK (w1.heap.size + 1) a b → b < w4.heap.size ∧ b ≠ w1.heap.size := by
    rintro b (rfl | ⟨off, sp, e⟩)
    · omega
    · have := hl.block hne e; omega
  clear k1 hl
  refine wp_rangeE (K := eachK (w1.heap.size + 1) a) (w0 := w4) rfl (enters_of Try.func58 (by kernel_rfl) rfl)
    (each_stops 99 (by decide) (w1.heap.size + 1) (w1.heap.size + 2) whole a len cap l HWB.out HOK.out HS.out w4 (bW.cell 0 rfl) (bP.cell 0 rfl) (HL.out.kp k4)) (Below.refl _ _) (fun _ => rfl)
    (fun pre W => (∃ v, Blk W w1.heap.size [v] 49 ∧ Row W w4.heap.size 28 1 enc1 v (seen whole l pre)) ∧ Kp w W ∧ w4.heap.size ≤ W.heap.size)
    (fun _ _ _ => False)
    (fun s A B row hs hg hr => ?_)
    (fun _ _ _ _ _ hs _ _ => hs)
    ⟨⟨_, bO, Row.nil _ _ _ _ _⟩, k4, Nat.le_refl _⟩ ?frame ?done ?stop
  · obtain ⟨⟨v, hb, hrw⟩, hk, hz⟩ := hs
    exact ⟨⟨v, hb.grown hg (fun r e => (hr r e).2), hrw.grown hg (fun r e => (hr r e).2)⟩, hk.grown2 hg k4.size (fun r e => (hr r e).1), Nat.le_trans hz hg.size⟩
  case frame =>
    apply Exists.intro
    refine ⟨?_, ?_⟩
    · intro lp x W K hK
      gi_wp2
      exact hK
    · rintro lp pre x W ⟨⟨v, hb, hrw⟩, hk, hz⟩ hlt
      have hc := hb.cell 0 rfl
      have hf := hb.free 0
      have HSN := Lib.hid (seen_snoc whole l pre x)
      have hsl : (seen whole l pre).length + 1 ≤ 5000 := by unfold seen; rw [List.length_map]; omega
      gi_wp2_with (gi_at_builtin; refine rowAppendIn ?gd (.tmp 24) (.tmp 26) 49 ?ho Try.underlying49 infoSp rfl (by decide) (hrw.alloc _) ?hs (y := shareAt whole l x.val) rfl ?h1 (Blk.new _ _ 28) ?hx ?hl ?hb ?hz ?_; (case gd => rfl); (case ho => rfl); (case hs => rfl); (case h1 => simp [enc1, Value.oneCell']); (case hx => rfl); (case hl => unfold maxLen; omega); (case hb => omega); (case hz => simp; omega); intro g' cap' w' hr' hlow hko hbe; have hb' := (hb.alloc (.cells #[.int .i64 (shareAt whole l x.val)] 28)).heapEq (hlow _ (by omega)); have hc' := hb'.cell 0 rfl; have hf' := hb'.free 0)
      refine ⟨(KeepsOthers.alloc _ _).trans (hko.trans (KeepsOthers.setCell _ _ _)), (CK.alloc _ _).trans ((CK.below hbe (fun b h => (hbl b h).1)).trans (CK.set _ (fun b h => (hbl b h).2) _)), ⟨_, hb'.set 0 _, by rw [HSN.out]; exact hr'.store (by omega) _⟩, ?_, ?_⟩
      · exact Kp.setCell (Below.trans (hk.alloc _) (Below.mono hbe k4.size)) hw _
      · have h1 := hbe.size
        simp at h1 ⊢
        omega
  case done =>
    rintro D xs W hD rfl ⟨⟨v, hb, hrw⟩, hk, hz⟩ hK
    have hc := hb.cell 0 rfl
    have hsf := seen_firsts whole l l.length (Nat.le_refl _)
    rw [List.take_of_length_le (by rw [shares_length]; exact Nat.le_refl _)] at hsf
    rw [hsf] at hrw
    clear hsf
    go_wp2
    refine ⟨by simp, .inl ⟨_, _, rfl, run_takeDeferred hK, ?_⟩⟩
    exact ⟨_, results_tmp2 rfl _ _ _, v, rfl, (hrw.base k4.size).grown (grownBy_putObj' W D (.deferred none)) (fun r e => by cases e; exact ⟨_, hK, rfl⟩), hk.mark _ (by have := k4.size; omega) hK⟩
  case stop =>
    rintro D c pre W _ _ h _
    exact h.elim
end Go.Proofs.Yteipfamaclildaa
