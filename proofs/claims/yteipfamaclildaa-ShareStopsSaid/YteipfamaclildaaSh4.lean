/- The law ShareStops: the walk. -/
import Derived.Test.YteipfamaclildaaSh2

namespace Go.Proofs.Yteipfamaclildaa

open Go.ChangeShapes Go.WideShapes Go.ChangeAt Go.RowKit Go.Shelf

attribute [local go_sem] Oper.semAt_some

/-- A region that runs to its end, and in no other way. -/
def onlyN (Q : Exit → Act → World → Prop) : Exit → Act → World → Prop
  | .normal, a, w => Q .normal a w
  | _, _, _ => False
theorem wp_onlyN {P : Program} {c : Code} {Q : Exit → Act → World → Prop} {a : Act} {w : World} (h : c.wp P (onlyN Q) a w) : c.wp P Q a w :=
  Code.wp_mono (fun e a w hq => by cases e <;> first | exact hq | exact hq.elim) h

set_option maxRecDepth 100000 in
set_option maxHeartbeats 4000000 in
theorem shareStops_any (whole : Int) (P : SlV Int) (n : Int) (w : World) (hwb : -9223372036854775808 ≤ whole ∧ whole ≤ 9223372036854775807) (hP : SlOk w 1 enc1 P.a P.len P.cap P.l ∧ ∀ y, y ∈ P.l → I64 y) (_hn : -9223372036854775808 ≤ n ∧ n ≤ 9223372036854775807) :
    Calls Try.prog 7 #[.int .i64 whole, P.v, .int .i64 n] w fun e w' => e = .returned (.bool true) ∧ Kp w w' := by
  obtain ⟨a, len, cap, l⟩ := P
  obtain ⟨hl, hok⟩ := hP
  simp only [SlV.v] at *
  by_cases hg : 40 < len ∨ n < 1 ∨ (len : Int) < n
  · have key : (decide ((40 : Int) < len) = true) ∨ (decide ((40 : Int) < len) = false ∧ decide (n < 1) = true) ∨ (decide ((40 : Int) < len) = false ∧ decide (n < 1) = false ∧ decide ((len : Int) < n) = true) := by
      by_cases h1 : 40 < len
      · exact .inl (decide_eq_true (by omega))
      · by_cases h2 : n < 1
        · exact .inr (.inl ⟨decide_eq_false (by omega), decide_eq_true h2⟩)
        · exact .inr (.inr ⟨decide_eq_false (by omega), decide_eq_false h2, decide_eq_true (by omega)⟩)
    clear hl hok hwb hg
    rcases key with j1 | ⟨j1, j2⟩ | ⟨j1, j2, j3⟩
    all_goals
      refine calls_marks Try.func7 rfl ?_
      simp only [Try.ntmps7, List.size_toArray, List.length_cons, List.length_nil, Nat.reduceAdd, Nat.reduceSub, Array.replicate_succ, Array.replicate_zero, List.push_toArray, List.append_toArray, List.nil_append, List.cons_append]
      go_wp2_with (go_at_call 24; go_must (refine (shareAwake_any _).mono ?_); rintro e w5 ⟨rfl, kk⟩)
      exact ⟨_, results_tmp rfl _ _ _, rfl, (by (repeat (first | with_reducible assumption | with_reducible exact Kp.refl _ | with_reducible refine Kp.drew ?_ | with_reducible refine Kp.drewN ?_ _ | with_reducible refine Kp.alloc ?_ _ | ((with_reducible refine Kp.setCell ?_ ?_ _); rotate_left; (focus (first | omega | (simp; done) | (simp; omega)))) | with_reducible refine Kp.trans ?_ (by assumption))))⟩
  have j1 : decide ((40 : Int) < len) = false := decide_eq_false (by omega)
  have j2 : decide (n < 1) = false := decide_eq_false (by omega)
  have j3 : decide ((len : Int) < n) = false := decide_eq_false (by omega)
  obtain ⟨m, rfl⟩ := Int.eq_ofNat_of_zero_le (show 0 ≤ n by omega)
  have hm1 : 1 ≤ m := by omega
  have hml : m ≤ len := by omega
  have hl40 : len ≤ 40 := by omega
  have hll := hl.1
  clear hg _hn
  cases hs : shOk whole l with
  | false =>
    have cA := fun (w' : World) (k : Kp w w') => shareAll_no whole a len cap l w' (hl.kp k) hok hs
    have CA := Lib.hid cA
    have HS := Lib.hid hs
    have HL := Lib.hid hl
    have HOK := Lib.hid hok
    clear cA hs hl hok hll
    refine calls_marks Try.func7 rfl ?_
    simp only [Try.ntmps7, List.size_toArray, List.length_cons, List.length_nil, Nat.reduceAdd, Nat.reduceSub, Array.replicate_succ, Array.replicate_zero, List.push_toArray, List.append_toArray, List.nil_append, List.cons_append]
    go_wp2_with fail
    refine (shareAwake_any _).mono ?_
    rintro e w1 ⟨rfl, k1⟩
    have x5 : Blk w1 w.heap.size [.int .i64 m] 3 := Blk.kp (by (repeat (first | with_reducible assumption | ((with_reducible refine Blk.newL ?_ ?_); (focus (first | (simp; done) | omega)); rfl) | with_reducible refine Blk.drew ?_ | with_reducible refine Blk.drewN ?_ _ | with_reducible refine Blk.alloc ?_ _ | ((with_reducible refine Blk.other ?_ ?_ _); rotate_left; (focus (first | with_reducible assumption | omega | (simp; done) | (simp; omega))))))) k1
    have kw1 : Kp w w1 := ((by (repeat (first | with_reducible assumption | with_reducible exact Kp.refl _ | with_reducible refine Kp.drew ?_ | with_reducible refine Kp.drewN ?_ _ | with_reducible refine Kp.alloc ?_ _ | ((with_reducible refine Kp.setCell ?_ ?_ _); rotate_left; (focus (first | omega | (simp; done) | (simp; omega)))) | with_reducible refine Kp.trans ?_ (by assumption)))) : Kp w _).trans k1
    clear k1 j1 j2 j3
    go_wp2_with fail
    refine (CA.out _ kw1).mono ?_
    rintro e w2 ⟨rfl, k2⟩
    have y5 := x5.kp k2
    have kw2 := kw1.trans k2
    clear x5 k2 kw1 CA
    go_wp2_with fail
    refine (each_any whole a len cap _).mono ?_
    rintro e w3 ⟨rfl, hw3⟩
    go_wp2
    clear hw3
    refine named_world (F := fun W => Blk W w2.heap.size [.slice none 0 0] 49 ∧ Blk W (w2.heap.size + 1) [.int .i64 whole] 28 ∧ Blk W (w2.heap.size + 2) [.slice a len cap] 49 ∧ Kp w W) ⟨(by (repeat (first | with_reducible assumption | ((with_reducible refine Blk.newL ?_ ?_); (focus (first | (simp; done) | omega)); rfl) | with_reducible refine Blk.drew ?_ | with_reducible refine Blk.drewN ?_ _ | with_reducible refine Blk.alloc ?_ _ | ((with_reducible refine Blk.other ?_ ?_ _); rotate_left; (focus (first | with_reducible assumption | omega | (simp; done) | (simp; omega))))))), (by (repeat (first | with_reducible assumption | ((with_reducible refine Blk.newL ?_ ?_); (focus (first | (simp; done) | omega)); rfl) | with_reducible refine Blk.drew ?_ | with_reducible refine Blk.drewN ?_ _ | with_reducible refine Blk.alloc ?_ _ | ((with_reducible refine Blk.other ?_ ?_ _); rotate_left; (focus (first | with_reducible assumption | omega | (simp; done) | (simp; omega))))))), (by (repeat (first | with_reducible assumption | ((with_reducible refine Blk.newL ?_ ?_); (focus (first | (simp; done) | omega)); rfl) | with_reducible refine Blk.drew ?_ | with_reducible refine Blk.drewN ?_ _ | with_reducible refine Blk.alloc ?_ _ | ((with_reducible refine Blk.other ?_ ?_ _); rotate_left; (focus (first | with_reducible assumption | omega | (simp; done) | (simp; omega))))))), (by (repeat (first | with_reducible assumption | with_reducible exact Kp.refl _ | with_reducible refine Kp.drew ?_ | with_reducible refine Kp.drewN ?_ _ | with_reducible refine Kp.alloc ?_ _ | ((with_reducible refine Kp.setCell ?_ ?_ _); rotate_left; (focus (first | omega | (simp; done) | (simp; omega)))) | with_reducible refine Kp.trans ?_ (by assumption))))⟩ ?_
    rintro w4 ⟨bO, bW, bP, k4⟩
    refine wp_rangeE (K := eachK (w2.heap.size + 1) a) (w0 := w4) rfl (enters_of Try.func58 (by kernel_rfl) rfl)
      (each_none 99 (by decide) (w2.heap.size + 1) (w2.heap.size + 2) whole a len cap l HOK.out HS.out w4 (bW.cell 0 rfl) (bP.cell 0 rfl) (HL.out.kp k4)) (Below.refl _ _) (fun _ => rfl)
      (fun pre W => Blk W w2.heap.size [.slice none 0 0] 49 ∧ Kp w W)
      (fun _ _ _ => False)
      (fun s A B row hs hg hr => ⟨hs.1.grown hg (fun r e => (hr r e).2), hs.2.grown2 hg k4.size (fun r e => (hr r e).1)⟩)
      (fun _ _ _ _ _ hs _ _ => hs)
      ⟨bO, k4⟩ ?frame ?done ?stop
    case frame =>
      apply Exists.intro
      refine ⟨?_, ?_⟩
      · intro lp x W K hK
        gi_wp2
        exact hK
      · intro lp pre x W _ hlt
        exact absurd hlt (Nat.not_lt_zero _)
    case done =>
      rintro D xs W hD rfl ⟨yb, yk⟩ hK
      have hc := yb.cell 0 rfl
      have hDW : D < W.heap.size := (Array.getElem?_eq_some_iff.1 hK).1
      go_wp2_with fail
      refine (shareAwake_any _).mono ?_
      rintro e w5 ⟨rfl, k5⟩
      have hK5 := (Below.block k5 D hDW).trans hK
      go_wp2
      refine ⟨by simp, .inl ⟨_, _, rfl, run_takeDeferred hK5, ?_⟩⟩
      exact ⟨_, results_tmp rfl _ _ _, rfl, (yk.trans k5).mark _ (by have := k4.size; omega) hK5⟩
    case stop =>
      rintro D c pre W _ _ h _
      exact h.elim
  | true =>
    have cA := fun (w' : World) (k : Kp w w') => shareAll_any whole a len cap l w' hwb (hl.kp k) hok (by omega) hs
    have CA := Lib.hid cA
    have HS := Lib.hid hs
    have HL := Lib.hid hl
    have HOK := Lib.hid hok
    have HLn := Lib.hid hll
    clear cA hs hl hok hll
    refine calls_marks Try.func7 rfl ?_
    simp only [Try.ntmps7, List.size_toArray, List.length_cons, List.length_nil, Nat.reduceAdd, Nat.reduceSub, Array.replicate_succ, Array.replicate_zero, List.push_toArray, List.append_toArray, List.nil_append, List.cons_append]
    go_wp2_with fail
    refine (shareAwake_any _).mono ?_
    rintro e w1 ⟨rfl, k1⟩
    have x5 : Blk w1 w.heap.size [.int .i64 m] 3 := Blk.kp (by (repeat (first | with_reducible assumption | ((with_reducible refine Blk.newL ?_ ?_); (focus (first | (simp; done) | omega)); rfl) | with_reducible refine Blk.drew ?_ | with_reducible refine Blk.drewN ?_ _ | with_reducible refine Blk.alloc ?_ _ | ((with_reducible refine Blk.other ?_ ?_ _); rotate_left; (focus (first | with_reducible assumption | omega | (simp; done) | (simp; omega))))))) k1
    have kw1 : Kp w w1 := ((by (repeat (first | with_reducible assumption | with_reducible exact Kp.refl _ | with_reducible refine Kp.drew ?_ | with_reducible refine Kp.drewN ?_ _ | with_reducible refine Kp.alloc ?_ _ | ((with_reducible refine Kp.setCell ?_ ?_ _); rotate_left; (focus (first | omega | (simp; done) | (simp; omega)))) | with_reducible refine Kp.trans ?_ (by assumption)))) : Kp w _).trans k1
    clear k1 j1 j2 j3
    go_wp2_with fail
    refine (CA.out _ kw1).mono ?_
    rintro e w2 ⟨v, rfl, hr, k2⟩
    obtain ⟨aL, cL, rfl, sL⟩ := hr.sl (fun _ => rfl)
    have y5 := x5.kp k2
    have kw2 := kw1.trans k2
    rw [shares_length, HLn.out] at sL ⊢
    have hcL := sL.2.1
    have hmL := sL.2.2.1
    unfold maxLen at hmL
    have SL := Lib.hid sL
    clear x5 k2 kw1 CA hr sL
    go_wp2_with fail
    refine (each_any whole a len cap _).mono ?_
    rintro e w3 ⟨rfl, hw3⟩
    go_wp2
    clear hw3
    have hsz2 := y5.lt
    refine named_world (F := fun W => Blk W w2.heap.size [.slice none 0 0] 49 ∧ Blk W (w2.heap.size + 1) [.int .i64 whole] 28 ∧ Blk W (w2.heap.size + 2) [.slice a len cap] 49 ∧ Kp w2 W ∧ w2.heap.size + 3 = W.heap.size) ⟨(by (repeat (first | with_reducible assumption | ((with_reducible refine Blk.newL ?_ ?_); (focus (first | (simp; done) | omega)); rfl) | with_reducible refine Blk.drew ?_ | with_reducible refine Blk.drewN ?_ _ | with_reducible refine Blk.alloc ?_ _ | ((with_reducible refine Blk.other ?_ ?_ _); rotate_left; (focus (first | with_reducible assumption | omega | (simp; done) | (simp; omega))))))), (by (repeat (first | with_reducible assumption | ((with_reducible refine Blk.newL ?_ ?_); (focus (first | (simp; done) | omega)); rfl) | with_reducible refine Blk.drew ?_ | with_reducible refine Blk.drewN ?_ _ | with_reducible refine Blk.alloc ?_ _ | ((with_reducible refine Blk.other ?_ ?_ _); rotate_left; (focus (first | with_reducible assumption | omega | (simp; done) | (simp; omega))))))), (by (repeat (first | with_reducible assumption | ((with_reducible refine Blk.newL ?_ ?_); (focus (first | (simp; done) | omega)); rfl) | with_reducible refine Blk.drew ?_ | with_reducible refine Blk.drewN ?_ _ | with_reducible refine Blk.alloc ?_ _ | ((with_reducible refine Blk.other ?_ ?_ _); rotate_left; (focus (first | with_reducible assumption | omega | (simp; done) | (simp; omega))))))), (by (repeat (first | with_reducible assumption | with_reducible exact Kp.refl _ | with_reducible refine Kp.drew ?_ | with_reducible refine Kp.drewN ?_ _ | with_reducible refine Kp.alloc ?_ _ | ((with_reducible refine Kp.setCell ?_ ?_ _); rotate_left; (focus (first | omega | (simp; done) | (simp; omega)))) | with_reducible refine Kp.trans ?_ (by assumption)))), by simp⟩ ?_
    rintro w4 ⟨bO, bW, bP, k4, z4⟩
    have hbl : ∀ b, eachK (w2.heap.size + 1) a b → b < w4.heap.size ∧ b ≠ w2.heap.size := by
      rintro b (rfl | ⟨off, sp, e⟩)
      · omega
      · have h1 := HL.out.block (by have := HLn.out; omega) e
        have h2 := kw2.size
        omega
    have HBL := Lib.hid hbl
    clear hbl
    refine wp_rangeE (K := eachK (w2.heap.size + 1) a) (w0 := w4) rfl (enters_of Try.func58 (by kernel_rfl) rfl)
      (each_stops 99 (by decide) (w2.heap.size + 1) (w2.heap.size + 2) whole a len cap l hwb HOK.out HS.out w4 (bW.cell 0 rfl) (bP.cell 0 rfl) (HL.out.kp (kw2.trans k4))) (Below.refl _ _) (fun _ => rfl)
      (fun pre W => (∃ v, Blk W w2.heap.size [v] 49 ∧ Row W w4.heap.size 28 1 enc1 v (seen whole l pre)) ∧ Kp w2 W ∧ w4.heap.size ≤ W.heap.size ∧ pre.length < m)
      (fun c pre W => c = Code.exit 0 ∧ (∃ v, Blk W w2.heap.size [v] 49 ∧ Row W w4.heap.size 28 1 enc1 v (seen whole l pre)) ∧ Kp w2 W ∧ pre.length = m)
      (fun s A B row hs hg hr => ?_)
      (fun c s A B row hs hg hr => ?_)
      ⟨⟨_, bO, Row.nil _ _ _ _ _⟩, k4, Nat.le_refl _, by simp; omega⟩ ?frame ?done ?stop
    · obtain ⟨⟨v, hb, hrw⟩, hk, hz, hp⟩ := hs
      exact ⟨⟨v, hb.grown hg (fun r e => (hr r e).2), hrw.grown hg (fun r e => (hr r e).2)⟩, hk.grown2 hg k4.size (fun r e => (hr r e).1), Nat.le_trans hz hg.size, hp⟩
    · obtain ⟨hc, ⟨v, hb, hrw⟩, hk, hp⟩ := hs
      exact ⟨hc, ⟨v, hb.grown hg (fun r e => (hr r e).2), hrw.grown hg (fun r e => (hr r e).2)⟩, hk.grown2 hg k4.size (fun r e => (hr r e).1), hp⟩
    case frame =>
      apply Exists.intro
      refine ⟨?_, ?_⟩
      · intro lp x W K hK
        gi_wp2
        exact hK
      · rintro lp pre x W ⟨⟨v, hb, hrw⟩, hk, hz, hp⟩ hlt
        have hc := hb.cell 0 rfl
        have hf := hb.free 0
        have y5r := y5.kp hk
        have h5 := y5r.cell 0 rfl
        have hn5 : w.heap.size < W.heap.size := y5r.lt
        have HSN := Lib.hid (seen_snoc whole l pre x)
        have hQ : (seen whole l pre).length = pre.length := by simp [seen]
        have HQ := Lib.hid hQ
        have hq40 : pre.length + 1 ≤ 41 := by omega
        clear hQ hlt
        by_cases hq : pre.length + 1 = m
        · have jq : ((pre.length : Int) + 1 == (m : Int)) = true := beq_iff_eq.2 (by omega)
          have HQM := Lib.hid hq
          clear hq
          gi_wp2_with (gi_at_builtin; refine rowAppendIn ?gd (.tmp 39) (.tmp 41) 49 ?ho Try.underlying49 infoSp rfl (by decide) (hrw.alloc _) ?hs (y := shareAt whole l x.val) rfl ?h1 (Blk.new _ _ 28) ?hx ?hl ?hb ?hz ?_; (case gd => rfl); (case ho => rfl); (case hs => rfl); (case h1 => simp [enc1, Value.oneCell']); (case hx => rfl); (case hl => have := HQ.out; unfold maxLen; omega); (case hb => have := HQ.out; omega); (case hz => simp; omega); intro g' cap' w' hr' hlow hko hbe; rw [HQ.out] at hr' ⊢; have hb' := (hb.alloc (.cells #[.int .i64 (shareAt whole l x.val)] 28)).heapEq (hlow _ (by omega)); have hc' := hb'.cell 0 rfl; have hf' := hb'.free 0; have h5' := ((y5r.alloc (.cells #[.int .i64 (shareAt whole l x.val)] 28)).heapEq (hlow _ (by omega))).cell 0 rfl)
          exact ⟨(KeepsOthers.alloc _ _).trans (hko.trans (KeepsOthers.setCell _ _ _)), rfl, ⟨_, hb'.set 0 _, by rw [HSN.out]; exact hr'.store (by omega) _⟩, Kp.setCell (Below.trans (hk.alloc _) (Below.mono hbe k4.size)) (Nat.le_refl _) _, by rw [List.length_append]; exact HQM.out⟩
        · have jq : ((pre.length : Int) + 1 == (m : Int)) = false := beq_eq_false_iff_ne.2 (by omega)
          have hp2 : pre.length + 1 < m := by omega
          clear hq
          gi_wp2_with (gi_at_builtin; refine rowAppendIn ?gd (.tmp 39) (.tmp 41) 49 ?ho Try.underlying49 infoSp rfl (by decide) (hrw.alloc _) ?hs (y := shareAt whole l x.val) rfl ?h1 (Blk.new _ _ 28) ?hx ?hl ?hb ?hz ?_; (case gd => rfl); (case ho => rfl); (case hs => rfl); (case h1 => simp [enc1, Value.oneCell']); (case hx => rfl); (case hl => have := HQ.out; unfold maxLen; omega); (case hb => have := HQ.out; omega); (case hz => simp; omega); intro g' cap' w' hr' hlow hko hbe; rw [HQ.out] at hr' ⊢; have hb' := (hb.alloc (.cells #[.int .i64 (shareAt whole l x.val)] 28)).heapEq (hlow _ (by omega)); have hc' := hb'.cell 0 rfl; have hf' := hb'.free 0; have h5' := ((y5r.alloc (.cells #[.int .i64 (shareAt whole l x.val)] 28)).heapEq (hlow _ (by omega))).cell 0 rfl)
          exact ⟨(KeepsOthers.alloc _ _).trans (hko.trans (KeepsOthers.setCell _ _ _)), (CK.alloc _ _).trans ((CK.below hbe (fun b h => (HBL.out b h).1)).trans (CK.set _ (fun b h => (HBL.out b h).2) _)), ⟨_, hb'.set 0 _, by rw [HSN.out]; exact hr'.store (by omega) _⟩, Kp.setCell (Below.trans (hk.alloc _) (Below.mono hbe k4.size)) (Nat.le_refl _) _, by have h1 := hbe.size; simp at h1 ⊢; omega, by rw [List.length_append]; exact hp2⟩
    case done =>
      rintro D xs W hD rfl ⟨_, _, _, hp⟩ hK
      exfalso
      rw [firsts_length (Nat.le_refl _), HLn.out] at hp
      omega
    case stop =>
      rintro D c pre W hD ⟨k, hk, rfl⟩ ⟨rfl, ⟨v, hb, hrw⟩, hkp, hp⟩ hK
      rw [firsts_length hk] at hp
      subst hp
      rw [seen_firsts whole l k hk] at hrw
      have hc := hb.cell 0 rfl
      have h5 := (y5.kp hkp).cell 0 rfl
      have hlk : ((shares whole l).take k).length = k := by rw [List.length_take, shares_length]; have := HLn.out; omega
      obtain ⟨a9, c9, rfl, s9⟩ := hrw.sl (fun _ => rfl)
      rw [hlk] at s9 hc
      have sT := (SL.out.kp hkp).take (k := k) hml
      have jlen : decide ((k : Int) ≤ (len : Int)) = true := decide_eq_true (by omega)
      rcases SL.out.2.2.2 with e | ⟨b, off, rfl, hbb, hrow⟩
      · have := SL.out.1; rw [e] at this; simp at this; omega
      · have cSm := fun (w' : World) (kk : Kp W w') => same8_yes a9 (some ⟨b, off, none⟩) c9 cL ((shares whole l).take k) w' (by rw [hlk]; exact s9.kp kk) (by rw [hlk]; exact sT.kp kk)
        rw [hlk] at cSm
        have CSM := Lib.hid cSm
        have hDW : D < W.heap.size := (Array.getElem?_eq_some_iff.1 hK).1
        have nO := hb.lt
        have n5 : w.heap.size < W.heap.size := (y5.kp hkp).lt
        have kwW := kw2.trans hkp
        have hkc : k ≤ cL := by omega
        clear cSm hlk s9 sT hrow hrw
        go_wp2
        refine wp_onlyN ?_
        (refine wp_region_held_drew (S := (fun w' => (∀ b o, b < W.heap.size → w'.cell? ⟨b, o, none⟩ = W.cell? ⟨b, o, none⟩) ∧ Kp W w')) (by kernel_rfl) ?_ (fun hHd => ?_); (focus ((try dsimp only); (first | with_reducible assumption | with_reducible exact held_start _ | with_reducible exact held_next (by assumption) (by assumption) | with_reducible exact held_alloc (by assumption) _ | with_reducible exact held_drew (by assumption) | ((with_reducible refine held_kp ?_); (repeat (first | with_reducible assumption | with_reducible exact Kp.refl _ | with_reducible refine Kp.drew ?_ | with_reducible refine Kp.drewN ?_ _ | with_reducible refine Kp.alloc ?_ _ | ((with_reducible refine Kp.setCell ?_ ?_ _); rotate_left; (focus (first | omega | (simp; done) | (simp; omega)))) | with_reducible refine Kp.trans ?_ (by assumption))))))))
        (refine takeH (i := 0) (oi := ?o1) (v := ?v1) ?h1 (by kernel_rfl) ?q1 (Or.inl ⟨?w1, ?y1⟩) (by assumption) ?r1; (case h1 => ((simp only [g1, g3]); rfl)); (case q1 => exact fun _ _ _ h => h); (case w1 => rfl); (case y1 => (intro w' hSw; (try dsimp only at hSw); go_simp; (try with_reducible rfl))); (try simp only [Act.put, s1, s2, s3]))
        (refine takeH (i := 1) (oi := ?o2) (v := ?v2) ?h2 (by kernel_rfl) ?q2 (Or.inl ⟨?w2, ?y2⟩) (by assumption) ?r2; (case h2 => ((simp only [g1, g2, g3]); rfl)); (case q2 => exact fun _ _ _ h => h); (case w2 => rfl); (case y2 => (intro w' hSw; (try dsimp only at hSw); go_simp; (try with_reducible rfl))); (try simp only [Act.put, s1, s2, s3]))
        (refine takeH (i := 2) (oi := ?o3) (v := ?v3) ?h3 (by kernel_rfl) ?q3 (Or.inl ⟨?w3, ?y3⟩) (by assumption) ?r3; (case h3 => ((simp only [g1, g2, g3]); rfl)); (case q3 => exact fun _ _ _ h => h); (case w3 => rfl); (case y3 => (intro w' hSw; (try dsimp only at hSw); go_simp; (try with_reducible rfl))); (try simp only [Act.put, s1, s2, s3]))
        (refine takeH (i := 3) (oi := ?o4) (v := ?v4) ?h4 (by kernel_rfl) ?q4 (Or.inl ⟨?w4, ?y4⟩) (by assumption) ?r4; (case h4 => ((simp only [g1, g2, g3]); rfl)); (case q4 => exact fun _ _ _ h => h); (case w4 => rfl); (case y4 => (intro w' hSw; (try dsimp only at hSw); go_simp; (try with_reducible rfl))); (try simp only [Act.put, s1, s2, s3]))
        (refine takeH (i := 4) (oi := ?o5) (v := ?v5) ?h5 (by kernel_rfl) ?q5 (Or.inl ⟨?w5, ?y5⟩) (by assumption) ?r5; (case h5 => ((simp only [g1, g2, g3]); rfl)); (case q5 => exact fun _ _ _ h => h); (case w5 => rfl); (case y5 => (intro w' hSw; (try dsimp only at hSw); go_simp; (try with_reducible rfl))); (try simp only [Act.put, s1, s2, s3]))
        (refine takeH (i := 5) (oi := ?o6) (v := ?v6) ?h6 (by kernel_rfl) ?q6 (Or.inl ⟨?w6, ?y6⟩) (by assumption) ?r6; (case h6 => ((simp only [g1, g2, g3]); rfl)); (case q6 => exact fun _ _ _ h => h); (case w6 => rfl); (case y6 => (intro w' hSw; (try dsimp only at hSw); go_simp; (try with_reducible rfl))); (try simp only [Act.put, s1, s2, s3]))
        (refine takeH (i := 6) (oi := ?o7) (v := ?v7) ?h7 (by kernel_rfl) ?q7 (Or.inl ⟨?w7, ?y7⟩) (by assumption) ?r7; (case h7 => ((simp only [g1, g2, g3]); rfl)); (case q7 => exact fun _ _ _ h => h); (case w7 => rfl); (case y7 => (intro w' hSw; (try dsimp only at hSw); go_simp; (try with_reducible rfl))); (try simp only [Act.put, s1, s2, s3]))
        (refine takeH (i := 7) (oi := ?o8) (v := ?v8) ?h8 (by kernel_rfl) ?q8 (Or.inl ⟨?w8, ?y8⟩) (by assumption) ?r8; (case h8 => ((simp only [g1, g2, g3]); rfl)); (case q8 => exact fun _ _ _ h => h); (case w8 => rfl); (case y8 => (intro w' hSw; (try dsimp only at hSw); go_simp; (try with_reducible rfl))); (try simp only [Act.put, s1, s2, s3]))
        (refine takeH (i := 8) (oi := ?o9) (v := ?v9) ?h9 (by kernel_rfl) ?q9 (Or.inl ⟨?w9, ?y9⟩) (by assumption) ?r9; (case h9 => ((simp only [g1, g2, g3]); rfl)); (case q9 => exact fun _ _ _ h => h); (case w9 => rfl); (case y9 => (intro w' hSw; (try dsimp only at hSw); go_simp; (try with_reducible rfl))); (try simp only [Act.put, s1, s2, s3]))
        (refine wpAnyH_ready (rs := [9]) (by kernel_rfl) (by simp) ?_; refine AllReadyH.cons (o := ?o10) ?h10 (fun K hK => ?s10) AllReadyH.nil; (case h10 => (first | ((simp only [g1, g2, g3]); rfl) | rfl)); go_simp; (first | (go_at_call 29; go_must (refine (CSM.out _ hHd.2).mono ?_); rintro e w6 ⟨rfl, kk⟩) | (go_at_call 24; go_must (refine (shareAwake_any _).mono ?_); rintro e w7 ⟨rfl, kk⟩)); (try dsimp only); refine hK.out _ _ ?_ (fun hHd => ?_); (focus ((try dsimp only); (first | with_reducible assumption | with_reducible exact held_next (by assumption) (by assumption) | with_reducible exact held_alloc (by assumption) _))); clear hK K; (try simp only [Act.put, s1, s2, s3]))
        (refine takeH (i := 10) (oi := ?o11) (v := ?v11) ?h11 (by kernel_rfl) ?q11 (Or.inl ⟨?w11, ?y11⟩) (by assumption) ?r11; (case h11 => ((simp only [g1, g2, g3]); rfl)); (case q11 => exact fun _ _ _ h => h); (case w11 => rfl); (case y11 => (intro w' hSw; (try dsimp only at hSw); go_simp; (try with_reducible rfl))); (try simp only [Act.put, s1, s2, s3]))
        (refine takeH (i := 11) (oi := ?o12) (v := ?v12) ?h12 (by kernel_rfl) ?q12 (Or.inl ⟨?w12, ?y12⟩) (by assumption) ?r12; (case h12 => ((simp only [g1, g2, g3]); rfl)); (case q12 => exact fun _ _ _ h => h); (case w12 => rfl); (case y12 => (intro w' hSw; (try dsimp only at hSw); go_simp; (try with_reducible rfl))); (try simp only [Act.put, s1, s2, s3]))
        (refine wpAnyH_ready (rs := [12]) (by kernel_rfl) (by simp) ?_; refine AllReadyH.cons (o := ?o13) ?h13 (fun K hK => ?s13) AllReadyH.nil; (case h13 => (first | ((simp only [g1, g2, g3]); rfl) | rfl)); go_simp; (first | (go_at_call 29; go_must (refine (CSM.out _ hHd.2).mono ?_); rintro e w6 ⟨rfl, kk⟩) | (go_at_call 24; go_must (refine (shareAwake_any _).mono ?_); rintro e w7 ⟨rfl, kk⟩)); (try dsimp only); refine hK.out _ _ ?_ (fun hHd => ?_); (focus ((try dsimp only); (first | with_reducible assumption | with_reducible exact held_next (by assumption) (by assumption) | with_reducible exact held_alloc (by assumption) _))); clear hK K; (try simp only [Act.put, s1, s2, s3]))
        (refine takeH (i := 13) (oi := ?o14) (v := ?v14) ?h14 (by kernel_rfl) ?q14 (Or.inl ⟨?w14, ?y14⟩) (by assumption) ?r14; (case h14 => ((simp only [g1, g2, g3]); rfl)); (case q14 => exact fun _ _ _ h => h); (case w14 => rfl); (case y14 => (intro w' hSw; (try dsimp only at hSw); go_simp; (try with_reducible rfl))); (try simp only [Act.put, s1, s2, s3]))
        (refine takeH (i := 14) (oi := ?o15) (v := ?v15) ?h15 (by kernel_rfl) ?q15 (Or.inl ⟨?w15, ?y15⟩) (by assumption) ?r15; (case h15 => ((simp only [g1, g2, g3]); rfl)); (case q15 => exact fun _ _ _ h => h); (case w15 => rfl); (case y15 => (intro w' hSw; (try dsimp only at hSw); go_simp; (try with_reducible rfl))); (try simp only [Act.put, s1, s2, s3]))
        refine wpAnyH_done (by kernel_rfl) ?_ _
        have k7 := hHd.2
        have hK7 := (Below.block k7 D hDW).trans hK
        dsimp only [onlyN]
        go_wp2
        refine ⟨by simp, .inl ⟨_, _, rfl, run_takeDeferred hK7, ?_⟩⟩
        exact ⟨_, results_tmp rfl _ _ _, rfl, (kwW.trans k7).mark _ (by have := kwW.size; have := k4.size; have := kw2.size; omega) hK7⟩
end Go.Proofs.Yteipfamaclildaa
