/- The law ShareTells: the walk. -/
import Derived.Test.YteipfamaclildaaSh2

namespace Go.Proofs.Yteipfamaclildaa

open Go.ChangeShapes Go.WideShapes Go.ChangeAt Go.RowKit Go.Shelf

attribute [local go_sem] Oper.semAt_some

theorem eqRes1 (d : Nat) (w : World) (a0 b0 : Int) (a1 b1 : Bool) :
    (Op.equalIn (d + 2) 53 (.agg #[.int .i64 a0, .bool a1]) (.agg #[.int .i64 b0, .bool b1])).run Try.prog w = .ok (a0 == b0 && a1 == b1) w := by
  have hu := Try.underlying53
  go_simp
  clear hu
  by_cases h0 : a0 = b0 <;> by_cases h1 : a1 = b1 <;> simp_all
theorem firsts_snoc {n k : Nat} (hk : k ≤ n) {p : List (Fin n)} {x : Fin n} (h : firsts n k = p ++ [x]) : x.val = p.length := by
  cases k with
  | zero => rw [firsts_zero] at h; simp at h
  | succ k =>
    rw [firsts_succ (by omega)] at h
    obtain ⟨h1, h2⟩ := List.append_inj' h rfl
    rw [List.singleton_inj] at h2
    rw [← h1, ← h2, firsts_length (by omega)]
theorem SlOk.nil {α : Type} (w : World) (n : Nat) (enc : α → List Value) : SlOk w n enc none 0 0 ([] : List α) := ⟨rfl, Nat.le_refl _, Nat.zero_le _, .inl rfl⟩

set_option maxRecDepth 100000 in
set_option maxHeartbeats 4000000 in
theorem shareTells_any (whole : Int) (P : SlV Int) (n : Int) (w : World) (hwb : -9223372036854775808 ≤ whole ∧ whole ≤ 9223372036854775807) (hP : SlOk w 1 enc1 P.a P.len P.cap P.l ∧ ∀ y, y ∈ P.l → I64 y) (_hn : -9223372036854775808 ≤ n ∧ n ≤ 9223372036854775807) :
    Calls Try.prog 8 #[.int .i64 whole, P.v, .int .i64 n] w fun e w' => e = .returned (.bool true) ∧ Kp w w' := by
  obtain ⟨a, len, cap, l⟩ := P
  obtain ⟨hl, hok⟩ := hP
  simp only [SlV.v] at *
  by_cases h40 : 40 < len
  · have j1 : decide ((40 : Int) < len) = true := decide_eq_true (by omega)
    clear hl hok hwb h40
    refine calls_marks Try.func8 rfl ?_
    simp only [Try.ntmps8, List.size_toArray, List.length_cons, List.length_nil, Nat.reduceAdd, Nat.reduceSub, Array.replicate_succ, Array.replicate_zero, List.push_toArray, List.append_toArray, List.nil_append, List.cons_append]
    go_wp2_with fail
    refine (shareAwake_any _).mono ?_
    rintro e w1 ⟨rfl, k1⟩
    have x6 : Blk w1 w.heap.size [.bool false] 4 := Blk.kp (by (repeat (first | with_reducible assumption | ((with_reducible refine Blk.newL ?_ ?_); (focus (first | (simp; done) | omega)); rfl) | with_reducible refine Blk.drew ?_ | with_reducible refine Blk.drewN ?_ _ | with_reducible refine Blk.alloc ?_ _ | ((with_reducible refine Blk.other ?_ ?_ _); rotate_left; (focus (first | with_reducible assumption | omega | (simp; done) | (simp; omega))))))) k1
    have c0 := x6.cell 0 rfl
    have f0 := x6.free 0
    go_wp2
    have z0 := (x6.set 0 (.bool true)).cell 0 rfl
    exact ⟨_, by simp [results, Try.results8, go_sem, z0], rfl, (by (repeat (first | with_reducible assumption | with_reducible exact Kp.refl _ | with_reducible refine Kp.drew ?_ | with_reducible refine Kp.drewN ?_ _ | with_reducible refine Kp.alloc ?_ _ | ((with_reducible refine Kp.setCell ?_ ?_ _); rotate_left; (focus (first | omega | (simp; done) | (simp; omega)))) | with_reducible refine Kp.trans ?_ (by assumption))))⟩
  have j1 : decide ((40 : Int) < len) = false := decide_eq_false (by omega)
  have hl40 : len ≤ 40 := by omega
  have hll := hl.1
  have eR := @eqRes1
  cases hs : shOk whole l with
  | false =>
    have cA := fun (w' : World) (k : Kp w w') => shareAll_no whole a len cap l w' (hl.kp k) hok hs
    have cU := fun (w' : World) (k : Kp w w') => shareUp_no whole n a len cap l w' (hl.kp k) hok hs
    have rA := fun (w' : World) (k : Kp w w') => refAll8_no whole a len cap l w' (hl.kp k) hok hs
    have rU := fun (w' : World) (k : Kp w w') => refUp8_no whole n a len cap l w' (hl.kp k) hok hs
    have rR := fun (w' : World) (k : Kp w w') => refRight8_any whole a len cap l w' (hl.kp k) hok
    rw [hs] at rR
    have cM := fun (w' : World) => same8_yes none none 0 0 [] w' (SlOk.nil _ _ _) (SlOk.nil _ _ _)
    simp only [List.length_nil] at cM
    have CA := Lib.hid cA; have CU := Lib.hid cU; have RA := Lib.hid rA; have RU := Lib.hid rU; have RR := Lib.hid rR; have CM := Lib.hid cM
    have HS := Lib.hid hs
    have HL := Lib.hid hl
    have HOK := Lib.hid hok
    clear cA cU rA rU rR cM hs hl hok hll
    refine calls_marks Try.func8 rfl ?_
    simp only [Try.ntmps8, List.size_toArray, List.length_cons, List.length_nil, Nat.reduceAdd, Nat.reduceSub, Array.replicate_succ, Array.replicate_zero, List.push_toArray, List.append_toArray, List.nil_append, List.cons_append]
    go_wp2_with fail
    refine (shareAwake_any _).mono ?_
    rintro e w1 ⟨rfl, k1⟩
    have x6 : Blk w1 w.heap.size [.bool false] 4 := Blk.kp (by (repeat (first | with_reducible assumption | ((with_reducible refine Blk.newL ?_ ?_); (focus (first | (simp; done) | omega)); rfl) | with_reducible refine Blk.drew ?_ | with_reducible refine Blk.drewN ?_ _ | with_reducible refine Blk.alloc ?_ _ | ((with_reducible refine Blk.other ?_ ?_ _); rotate_left; (focus (first | with_reducible assumption | omega | (simp; done) | (simp; omega))))))) k1
    have kw1 : Kp w w1 := ((by (repeat (first | with_reducible assumption | with_reducible exact Kp.refl _ | with_reducible refine Kp.drew ?_ | with_reducible refine Kp.drewN ?_ _ | with_reducible refine Kp.alloc ?_ _ | ((with_reducible refine Kp.setCell ?_ ?_ _); rotate_left; (focus (first | omega | (simp; done) | (simp; omega)))) | with_reducible refine Kp.trans ?_ (by assumption)))) : Kp w _).trans k1
    clear k1 j1
    go_wp2_with fail
    refine (CA.out _ kw1).mono ?_
    rintro e w2 ⟨rfl, k2⟩
    have x62 := x6.kp k2
    have kw2 := kw1.trans k2
    clear x6 kw1 k2
    go_wp2_with fail
    refine (CU.out _ kw2).mono ?_
    rintro e w3 ⟨rfl, k3⟩
    have x63 := x62.kp k3
    have kw3 := kw2.trans k3
    clear x62 kw2 k3 CA CU
    go_wp2_with fail
    refine (each_any whole a len cap _).mono ?_
    rintro e wd ⟨rfl, hwd⟩
    go_wp2
    clear hwd
    refine named_world (F := fun W => Blk W w3.heap.size [.slice none 0 0] 49 ∧ Blk W (w3.heap.size + 1) [.int .i64 whole] 28 ∧ Blk W (w3.heap.size + 2) [.slice a len cap] 49 ∧ Kp w3 W) ⟨(by (repeat (first | with_reducible assumption | ((with_reducible refine Blk.newL ?_ ?_); (focus (first | (simp; done) | omega)); rfl) | with_reducible refine Blk.drew ?_ | with_reducible refine Blk.drewN ?_ _ | with_reducible refine Blk.alloc ?_ _ | ((with_reducible refine Blk.other ?_ ?_ _); rotate_left; (focus (first | with_reducible assumption | omega | (simp; done) | (simp; omega))))))), (by (repeat (first | with_reducible assumption | ((with_reducible refine Blk.newL ?_ ?_); (focus (first | (simp; done) | omega)); rfl) | with_reducible refine Blk.drew ?_ | with_reducible refine Blk.drewN ?_ _ | with_reducible refine Blk.alloc ?_ _ | ((with_reducible refine Blk.other ?_ ?_ _); rotate_left; (focus (first | with_reducible assumption | omega | (simp; done) | (simp; omega))))))), (by (repeat (first | with_reducible assumption | ((with_reducible refine Blk.newL ?_ ?_); (focus (first | (simp; done) | omega)); rfl) | with_reducible refine Blk.drew ?_ | with_reducible refine Blk.drewN ?_ _ | with_reducible refine Blk.alloc ?_ _ | ((with_reducible refine Blk.other ?_ ?_ _); rotate_left; (focus (first | with_reducible assumption | omega | (simp; done) | (simp; omega))))))), (by (repeat (first | with_reducible assumption | with_reducible exact Kp.refl _ | with_reducible refine Kp.drew ?_ | with_reducible refine Kp.drewN ?_ _ | with_reducible refine Kp.alloc ?_ _ | ((with_reducible refine Kp.setCell ?_ ?_ _); rotate_left; (focus (first | omega | (simp; done) | (simp; omega)))) | with_reducible refine Kp.trans ?_ (by assumption))))⟩ ?_
    rintro w4 ⟨bO, bW, bP, k4⟩
    refine wp_rangeE (K := eachK (w3.heap.size + 1) a) (w0 := w4) rfl (enters_of Try.func58 (by kernel_rfl) rfl)
      (each_none 99 (by decide) (w3.heap.size + 1) (w3.heap.size + 2) whole a len cap l HOK.out HS.out w4 (bW.cell 0 rfl) (bP.cell 0 rfl) (HL.out.kp (kw3.trans k4))) (Below.refl _ _) (fun _ => rfl)
      (fun pre W => Blk W w3.heap.size [.slice none 0 0] 49 ∧ Kp w3 W)
      (fun _ _ _ => False)
      (fun s A B row hs hg hr => ⟨hs.1.grown hg (fun r e => (hr r e).2), hs.2.grown2 hg k4.size (fun r e => (hr r e).1)⟩)
      (fun _ _ _ _ _ hs _ _ => hs)
      ⟨bO, k4⟩ ?frame ?done ?stop
    case frame =>
      apply Exists.intro
      refine ⟨?_, ?_⟩
      · intro lp x W K hK
        gi_wp2
        exact hK
      · intro lp pre x W _ hlt
        exact absurd hlt (Nat.not_lt_zero _)
    case done =>
      rintro D xs W hD rfl ⟨yb, yk⟩ hK
      have x6W := x63.kp yk
      have kwW := kw3.trans yk
      have hDW : D < W.heap.size := (Array.getElem?_eq_some_iff.1 hK).1
      clear x63
      go_wp2_with fail
      refine (RA.out _ kwW).mono ?_
      rintro e w5 ⟨rfl, k5⟩
      go_wp2_with fail
      refine (RR.out _ (kwW.trans k5)).mono ?_
      rintro e w6 ⟨rfl, k6⟩
      have hO := ((yb.kp k5).kp k6)
      go_wp2_with fail
      refine (CM.out _).mono ?_
      rintro e w7 ⟨rfl, k7⟩
      have hO7 := (hO.kp k7).cell 0 rfl
      have kw7 := ((kwW.trans k5).trans k6).trans k7
      have kW7 := (k5.trans k6).trans k7
      clear hO k5 k6 k7
      go_wp2_with fail
      refine (CM.out _).mono ?_
      rintro e w8 ⟨rfl, k8⟩
      go_wp2_with fail
      refine (RU.out _ (kw7.trans k8)).mono ?_
      rintro e w9 ⟨rfl, k9⟩
      go_wp2_with fail
      refine (shareAwake_any _).mono ?_
      rintro e wa ⟨rfl, ka⟩
      have kWa := ((kW7.trans k8).trans k9).trans ka
      have x6a := x6W.kp kWa
      have hKa := (Below.block kWa D hDW).trans hK
      have c0 := x6a.cell 0 rfl
      have f0 := x6a.free 0
      have hne : D ≠ w.heap.size := by intro e; subst e; rw [x6a.heap] at hKa; cases hKa
      have kwa : Kp w wa := kwW.trans kWa
      have hKb : (wa.setCell ⟨w.heap.size, 0, none⟩ (.bool true)).heap[D]? = some (.deferred (some [])) := (Below.heap_setCell _ _ _ _ hne).trans hKa
      go_wp2
      refine ⟨by simp, .inl ⟨_, _, rfl, run_takeDeferred hKb, ?_⟩⟩
      have z0 := ((x6a.set 0 (.bool true)).grown (grownBy_putObj' _ D (.deferred none)) (fun r e => by cases e; exact ⟨_, hKb, rfl⟩)).cell 0 rfl
      exact ⟨_, by simp [results, Try.results8, go_sem, z0], rfl, Kp.mark ((kwa.setCell (p := ⟨w.heap.size, 0, none⟩) (Nat.le_refl _) _)) _ (by have := k4.size; have := kw3.size; omega) hKb⟩
    case stop =>
      rintro D c pre W _ _ h _
      exact h.elim
  | true =>
    have cA := fun (w' : World) (k : Kp w w') => shareAll_any whole a len cap l w' hwb (hl.kp k) hok (by omega) hs
    have cU := fun (w' : World) (k : Kp w w') => shareUp_any whole n a len cap l w' hwb (hl.kp k) hok hs
    have rA := fun (w' : World) (k : Kp w w') => refAll8_any whole a len cap l w' hwb (hl.kp k) hok (by omega) hs
    have rU := fun (w' : World) (k : Kp w w') => refUp8_any whole n a len cap l w' hwb (hl.kp k) hok hs
    have rR := fun (w' : World) (k : Kp w w') => refRight8_any whole a len cap l w' (hl.kp k) hok
    rw [hs] at rR
    obtain ⟨U, hU⟩ : ∃ U, upAt whole l (clampN n len) = U := ⟨_, rfl⟩
    rw [hU] at cU rU
    have hsl := shares_length whole l
    rw [hll] at hsl
    have cM := fun (a1 a2 : Option Addr) (c1 c2 : Nat) (w' : World) (h1 : SlOk w' 1 enc1 a1 len c1 (shares whole l)) (h2 : SlOk w' 1 enc1 a2 len c2 (shares whole l)) => same8_yes a1 a2 c1 c2 (shares whole l) w' (by rw [hsl]; exact h1) (by rw [hsl]; exact h2)
    rw [hsl] at cM
    have CA := Lib.hid cA; have CU := Lib.hid cU; have RA := Lib.hid rA; have RU := Lib.hid rU; have RR := Lib.hid rR; have CM := Lib.hid cM
    have HS := Lib.hid hs
    have HL := Lib.hid hl
    have HOK := Lib.hid hok
    have HLn := Lib.hid hll
    have HSL := Lib.hid hsl
    clear cA cU rA rU rR cM hs hl hok hll hU hsl
    refine calls_marks Try.func8 rfl ?_
    simp only [Try.ntmps8, List.size_toArray, List.length_cons, List.length_nil, Nat.reduceAdd, Nat.reduceSub, Array.replicate_succ, Array.replicate_zero, List.push_toArray, List.append_toArray, List.nil_append, List.cons_append]
    go_wp2_with fail
    refine (shareAwake_any _).mono ?_
    rintro e w1 ⟨rfl, k1⟩
    have x6 : Blk w1 w.heap.size [.bool false] 4 := Blk.kp (by (repeat (first | with_reducible assumption | ((with_reducible refine Blk.newL ?_ ?_); (focus (first | (simp; done) | omega)); rfl) | with_reducible refine Blk.drew ?_ | with_reducible refine Blk.drewN ?_ _ | with_reducible refine Blk.alloc ?_ _ | ((with_reducible refine Blk.other ?_ ?_ _); rotate_left; (focus (first | with_reducible assumption | omega | (simp; done) | (simp; omega))))))) k1
    have kw1 : Kp w w1 := ((by (repeat (first | with_reducible assumption | with_reducible exact Kp.refl _ | with_reducible refine Kp.drew ?_ | with_reducible refine Kp.drewN ?_ _ | with_reducible refine Kp.alloc ?_ _ | ((with_reducible refine Kp.setCell ?_ ?_ _); rotate_left; (focus (first | omega | (simp; done) | (simp; omega)))) | with_reducible refine Kp.trans ?_ (by assumption)))) : Kp w _).trans k1
    clear k1 j1
    go_wp2_with fail
    refine (CA.out _ kw1).mono ?_
    rintro e w2 ⟨v, rfl, hr, k2⟩
    obtain ⟨aL, cL, rfl, sL⟩ := hr.sl (fun _ => rfl)
    rw [HSL.out] at sL ⊢
    have x62 := x6.kp k2
    have kw2 := kw1.trans k2
    clear x6 kw1 k2 hr
    go_wp2_with fail
    refine (CU.out _ kw2).mono ?_
    rintro e w3 ⟨rfl, k3⟩
    have x63 := x62.kp k3
    have kw3 := kw2.trans k3
    have SL := Lib.hid (sL.kp k3)
    clear x62 kw2 k3 CA CU sL
    go_wp2_with fail
    refine (each_any whole a len cap _).mono ?_
    rintro e wd ⟨rfl, hwd⟩
    go_wp2
    clear hwd
    have hsz3 := x63.lt
    refine named_world (F := fun W => Blk W w3.heap.size [.slice none 0 0] 49 ∧ Blk W (w3.heap.size + 1) [.int .i64 whole] 28 ∧ Blk W (w3.heap.size + 2) [.slice a len cap] 49 ∧ Kp w3 W ∧ w3.heap.size + 3 = W.heap.size) ⟨(by (repeat (first | with_reducible assumption | ((with_reducible refine Blk.newL ?_ ?_); (focus (first | (simp; done) | omega)); rfl) | with_reducible refine Blk.drew ?_ | with_reducible refine Blk.drewN ?_ _ | with_reducible refine Blk.alloc ?_ _ | ((with_reducible refine Blk.other ?_ ?_ _); rotate_left; (focus (first | with_reducible assumption | omega | (simp; done) | (simp; omega))))))), (by (repeat (first | with_reducible assumption | ((with_reducible refine Blk.newL ?_ ?_); (focus (first | (simp; done) | omega)); rfl) | with_reducible refine Blk.drew ?_ | with_reducible refine Blk.drewN ?_ _ | with_reducible refine Blk.alloc ?_ _ | ((with_reducible refine Blk.other ?_ ?_ _); rotate_left; (focus (first | with_reducible assumption | omega | (simp; done) | (simp; omega))))))), (by (repeat (first | with_reducible assumption | ((with_reducible refine Blk.newL ?_ ?_); (focus (first | (simp; done) | omega)); rfl) | with_reducible refine Blk.drew ?_ | with_reducible refine Blk.drewN ?_ _ | with_reducible refine Blk.alloc ?_ _ | ((with_reducible refine Blk.other ?_ ?_ _); rotate_left; (focus (first | with_reducible assumption | omega | (simp; done) | (simp; omega))))))), (by (repeat (first | with_reducible assumption | with_reducible exact Kp.refl _ | with_reducible refine Kp.drew ?_ | with_reducible refine Kp.drewN ?_ _ | with_reducible refine Kp.alloc ?_ _ | ((with_reducible refine Kp.setCell ?_ ?_ _); rotate_left; (focus (first | omega | (simp; done) | (simp; omega)))) | with_reducible refine Kp.trans ?_ (by assumption)))), by simp⟩ ?_
    rintro w4 ⟨bO, bW, bP, k4, z4⟩
    have hpos := share_pos HS.out
    have hbl : ∀ b, eachK (w3.heap.size + 1) a b → b < w4.heap.size ∧ b ≠ w3.heap.size := by
      rintro b (rfl | ⟨off, sp, e⟩)
      · omega
      · have h1 := HL.out.block hpos e
        have h2 := kw3.size
        omega
    have HBL := Lib.hid hbl
    clear hbl
    refine wp_rangeE (K := eachK (w3.heap.size + 1) a) (w0 := w4) rfl (enters_of Try.func58 (by kernel_rfl) rfl)
      (each_stops 99 (by decide) (w3.heap.size + 1) (w3.heap.size + 2) whole a len cap l hwb HOK.out HS.out w4 (bW.cell 0 rfl) (bP.cell 0 rfl) (HL.out.kp (kw3.trans k4))) (Below.refl _ _) (fun _ => rfl)
      (fun pre W => (∃ v, Blk W w3.heap.size [v] 49 ∧ Row W w4.heap.size 28 1 enc1 v (seen whole l pre)) ∧ Kp w3 W ∧ w4.heap.size ≤ W.heap.size)
      (fun _ pre _ => ∃ (p : List (Fin l.length)) (x : Fin l.length), pre = p ++ [x] ∧ x.val ≠ p.length)
      (fun s A B row hs hg hr => ?_)
      (fun c s A B row hs hg hr => hs)
      ⟨⟨_, bO, Row.nil _ _ _ _ _⟩, k4, Nat.le_refl _⟩ ?frame ?done ?stop
    · obtain ⟨⟨v, hb, hrw⟩, hk, hz⟩ := hs
      exact ⟨⟨v, hb.grown hg (fun r e => (hr r e).2), hrw.grown hg (fun r e => (hr r e).2)⟩, hk.grown2 hg k4.size (fun r e => (hr r e).1), Nat.le_trans hz hg.size⟩
    case frame =>
      apply Exists.intro
      refine ⟨?_, ?_⟩
      · intro lp x W K hK
        gi_wp2
        exact hK
      · rintro lp pre x W ⟨⟨v, hb, hrw⟩, hk, hz⟩ hlt
        have HSN := Lib.hid (seen_snoc whole l pre x)
        have hQ : (seen whole l pre).length = pre.length := by simp [seen]
        obtain ⟨a9, c9, rfl, s9⟩ := hrw.sl (fun _ => rfl)
        have HQ := Lib.hid hQ
        rw [hQ] at hrw hb
        have hc := hb.cell 0 rfl
        have hf := hb.free 0
        have hq40 : pre.length + 1 ≤ 41 := by have := HLn.out; omega
        clear hQ s9 hlt
        by_cases hx : x.val = pre.length
        · have jx : ((x.val : Int) != (pre.length : Int)) = false := by rw [hx]; simp
          clear hx
          gi_wp2_with (gi_at_builtin; refine rowAppendIn ?gd (.tmp 43) (.tmp 45) 49 ?ho Try.underlying49 infoSp rfl (by decide) (hrw.alloc _) ?hs (y := shareAt whole l x.val) rfl ?h1 (Blk.new _ _ 28) ?hx ?hl ?hb ?hz ?_; (case gd => rfl); (case ho => rfl); (case hs => rfl); (case h1 => simp [enc1, Value.oneCell']); (case hx => rfl); (case hl => have := HQ.out; unfold maxLen; omega); (case hb => have := HQ.out; omega); (case hz => simp; omega); intro g' cap' w' hr' hlow hko hbe; have hb' := (hb.alloc (.cells #[.int .i64 (shareAt whole l x.val)] 28)).heapEq (hlow _ (by omega)); have hc' := hb'.cell 0 rfl; have hf' := hb'.free 0)
          exact ⟨(KeepsOthers.alloc _ _).trans (hko.trans (KeepsOthers.setCell _ _ _)), (CK.alloc _ _).trans ((CK.below hbe (fun b h => (HBL.out b h).1)).trans (CK.set _ (fun b h => (HBL.out b h).2) _)), ⟨_, hb'.set 0 _, by rw [HSN.out]; exact hr'.store (by omega) _⟩, Kp.setCell (Below.trans (hk.alloc _) (Below.mono hbe k4.size)) (Nat.le_refl _) _, by have h1 := hbe.size; simp at h1 ⊢; omega⟩
        · have jx : ((x.val : Int) != (pre.length : Int)) = true := by rw [bne_iff_ne]; omega
          have x6W := x63.kp hk
          have f6 := x6W.free 0
          have c6 := x6W.cell 0 rfl
          have HX := Lib.hid hx
          clear hx
          gi_wp2
          exact ⟨KeepsOthers.setCell _ _ _, pre, x, rfl, HX.out⟩
    case done =>
      rintro D xs W hD rfl ⟨⟨v, hb, hrw⟩, yk, _⟩ hK
      have hsf := seen_firsts whole l l.length (Nat.le_refl _)
      rw [List.take_of_length_le (by rw [shares_length]; exact Nat.le_refl _)] at hsf
      rw [hsf] at hrw
      obtain ⟨a9, c9, rfl, s9⟩ := hrw.sl (fun _ => rfl)
      rw [HSL.out] at s9 hb
      have x6W := x63.kp yk
      have kwW := kw3.trans yk
      have hDW : D < W.heap.size := (Array.getElem?_eq_some_iff.1 hK).1
      have S9 := Lib.hid s9
      clear x63 hsf hrw s9
      go_wp2_with fail
      refine (RA.out _ kwW).mono ?_
      rintro e w5 ⟨v5, rfl, hr5, k5⟩
      obtain ⟨aw, cw, rfl, sw⟩ := hr5.sl (fun _ => rfl)
      rw [HSL.out] at sw ⊢
      clear hr5
      go_wp2_with fail
      refine (RR.out _ (kwW.trans k5)).mono ?_
      rintro e w6 ⟨rfl, k6⟩
      have sL6 := ((SL.out.kp yk).kp k5).kp k6
      have sw6 := sw.kp k6
      have s96 := (S9.out.kp k5).kp k6
      have hO := (hb.kp k5).kp k6
      go_wp2_with fail
      refine (CM.out aL aw cL cw _ sL6 sw6).mono ?_
      rintro e w7 ⟨rfl, k7⟩
      have hO7 := (hO.kp k7).cell 0 rfl
      have kw7 := ((kwW.trans k5).trans k6).trans k7
      have kW7 := (k5.trans k6).trans k7
      have sw7 := sw6.kp k7
      have s97 := s96.kp k7
      clear hO k5 k6 k7 sL6 sw6 s96 sw
      go_wp2_with fail
      refine (CM.out a9 aw c9 cw _ s97 sw7).mono ?_
      rintro e w8 ⟨rfl, k8⟩
      clear s97 sw7
      go_wp2_with fail
      refine (RU.out _ (kw7.trans k8)).mono ?_
      rintro e w9 ⟨rfl, k9⟩
      go_wp2_with fail
      refine (shareAwake_any _).mono ?_
      rintro e wa ⟨rfl, ka⟩
      have kWa := ((kW7.trans k8).trans k9).trans ka
      have x6a := x6W.kp kWa
      have hKa := (Below.block kWa D hDW).trans hK
      have c0 := x6a.cell 0 rfl
      have f0 := x6a.free 0
      have hne : D ≠ w.heap.size := by intro e; subst e; rw [x6a.heap] at hKa; cases hKa
      have kwa : Kp w wa := kwW.trans kWa
      have hKb : (wa.setCell ⟨w.heap.size, 0, none⟩ (.bool true)).heap[D]? = some (.deferred (some [])) := (Below.heap_setCell _ _ _ _ hne).trans hKa
      go_wp2
      refine ⟨by simp, .inl ⟨_, _, rfl, run_takeDeferred hKb, ?_⟩⟩
      have z0 := ((x6a.set 0 (.bool true)).grown (grownBy_putObj' _ D (.deferred none)) (fun r e => by cases e; exact ⟨_, hKb, rfl⟩)).cell 0 rfl
      exact ⟨_, by simp [results, Try.results8, go_sem, z0], rfl, Kp.mark ((kwa.setCell (p := ⟨w.heap.size, 0, none⟩) (Nat.le_refl _) _)) _ (by have := k4.size; have := kw3.size; omega) hKb⟩
    case stop =>
      rintro D c pre W hD ⟨k, hk, rfl⟩ ⟨p, x, hp, hx⟩ hK
      exact absurd (firsts_snoc hk hp) hx
end Go.Proofs.Yteipfamaclildaa
