/- The law GsetAdds: the walk. -/
import Derived.Test.YteipfamaclildaaGset8P

import Derived.Test.YteipfamaclildaaSl

namespace Go.Proofs.Yteipfamaclildaa

open Go.ChangeShapes Go.WideShapes Go.ChangeAt Go.RowKit

set_option maxRecDepth 100000 in
theorem Open.open_totals {H : Type} {enc : TypeId × Value → H} {w : World} {r : Reach} {b0 : Nat} {v : Value} {d : DataW H} {p : List MemPlace}
    (hv : Value.okWide Try.prog w r b0 35 v) (h : DataW.Trod enc Try.prog w 0 (fun _ => true) true 35 v d p) : ∃ x : SlV Tot, v = x.v ∧ (SlOk w 6 Tot.cells x.a x.len x.cap x.l ∧ ∀ y, y ∈ x.l → Tot.ok y) := by
  have hc : Try.prog.cellsOf 31 = 6 := by kernel_rfl
  obtain ⟨a, len, cap, l, hv', hs, ho⟩ := Open.open_sl 4 Try.underlying35 hc (by decide) Open.flat_tot (ok := Tot.ok) (fun cs hcs => Tot.of_cells hcs) hv h
  exact ⟨⟨a, len, cap, l⟩, hv', hs, ho⟩

set_option maxRecDepth 100000 in
set_option maxHeartbeats 4000000 in
theorem gsetAdds_any (boxes : Int) (G : SlV Tot) (high : Int) (w : World) (_hb : -9223372036854775808 ≤ boxes ∧ boxes ≤ 9223372036854775807) (hG : SlOk w 6 Tot.cells G.a G.len G.cap G.l ∧ ∀ t, t ∈ G.l → Tot.ok t) (_hh : -9223372036854775808 ≤ high ∧ high ≤ 9223372036854775807) :
    Calls Try.prog 11 #[.int .i64 boxes, G.v, .int .i64 high] w fun e w' => e = .returned (.bool true) ∧ Kp w w' := by
  obtain ⟨a, len, cap, gl⟩ := G
  obtain ⟨hl, _⟩ := hG
  simp only [SlV.v] at *
  have cA := gsetAwake_any
  have CA := Lib.hid cA
  clear cA
  by_cases h40 : 40 < len
  · have j : decide ((40 : Int) < len) = true := decide_eq_true (by omega)
    clear hl _hb _hh
    go_enter Try.func11, Try.ntmps11
    go_wp2_with (go_at_call 38; go_must (refine (CA.out _).mono ?_); rintro e w5 ⟨rfl, kk⟩)
    go_ret
    exact ⟨rfl, (by (repeat (first | with_reducible assumption | with_reducible exact Kp.refl _ | with_reducible refine Kp.drew ?_ | with_reducible refine Kp.drewN ?_ _ | with_reducible refine Kp.alloc ?_ _ | ((with_reducible refine Kp.setCell ?_ ?_ _); rotate_left; (focus (first | omega | (simp; done) | (simp; omega)))) | with_reducible refine Kp.trans ?_ (by assumption))))⟩
  have j40 : decide ((40 : Int) < len) = false := decide_eq_false (by omega)
  by_cases hb0 : boxes < 0
  · clear hl _hb _hh
    go_enter Try.func11, Try.ntmps11
    go_wp2_with (go_at_call 38; go_must (refine (CA.out _).mono ?_); rintro e w5 ⟨rfl, kk⟩)
    go_ret
    exact ⟨rfl, (by (repeat (first | with_reducible assumption | with_reducible exact Kp.refl _ | with_reducible refine Kp.drew ?_ | with_reducible refine Kp.drewN ?_ _ | with_reducible refine Kp.alloc ?_ _ | ((with_reducible refine Kp.setCell ?_ ?_ _); rotate_left; (focus (first | omega | (simp; done) | (simp; omega)))) | with_reducible refine Kp.trans ?_ (by assumption))))⟩
  have jb0 : decide (boxes < 0) = false := decide_eq_false hb0
  by_cases hb1 : 1099511627776 < boxes
  · clear hl _hb _hh
    go_enter Try.func11, Try.ntmps11
    go_wp2_with (go_at_call 38; go_must (refine (CA.out _).mono ?_); rintro e w5 ⟨rfl, kk⟩)
    go_ret
    exact ⟨rfl, (by (repeat (first | with_reducible assumption | with_reducible exact Kp.refl _ | with_reducible refine Kp.drew ?_ | with_reducible refine Kp.drewN ?_ _ | with_reducible refine Kp.alloc ?_ _ | ((with_reducible refine Kp.setCell ?_ ?_ _); rotate_left; (focus (first | omega | (simp; done) | (simp; omega)))) | with_reducible refine Kp.trans ?_ (by assumption))))⟩
  have jb1 : decide (1099511627776 < boxes) = false := decide_eq_false hb1
  have hcap := hl.2.1
  have hmx := hl.2.2.1
  unfold maxLen at hmx
  have HL := Lib.hid hl
  clear hl _hb
  go_enter Try.func11, Try.ntmps11
  go_wp2
  clear j40 jb0 jb1
  refine named_world (F := fun W => Blk W w.heap.size (ints [boxes, 0, 0, 0, 0, 0]) 31 ∧ Kp w W ∧ w.heap.size + 1 = W.heap.size) ⟨(by (repeat (first | with_reducible assumption | ((with_reducible refine Blk.newL ?_ ?_); (focus (first | (simp; done) | omega)); rfl) | with_reducible refine Blk.drew ?_ | with_reducible refine Blk.drewN ?_ _ | with_reducible refine Blk.alloc ?_ _ | ((with_reducible refine Blk.other ?_ ?_ _); rotate_left; (focus (first | with_reducible assumption | omega | (simp; done) | (simp; omega))))))), (by (repeat (first | with_reducible assumption | with_reducible exact Kp.refl _ | with_reducible refine Kp.drew ?_ | with_reducible refine Kp.drewN ?_ _ | with_reducible refine Kp.alloc ?_ _ | ((with_reducible refine Kp.setCell ?_ ?_ _); rotate_left; (focus (first | omega | (simp; done) | (simp; omega)))) | with_reducible refine Kp.trans ?_ (by assumption)))), by simp⟩ ?_
  rintro w1 ⟨xb, k1, z1⟩
  go_loopw [8] (fun v8 wr => ∃ (k : Nat) (u0 u1 u2 u3 u4 u5 : Int), k ≤ len ∧ v8 = .int .i64 k ∧ Hid (tadd boxes (gl.take k) = ⟨u0, u1, u2, u3, u4, u5⟩ ∧ ∀ t ∈ gl.take k, smallG t) ∧ Blk wr w.heap.size (ints [u0, u1, u2, u3, u4, u5]) 31 ∧ Kp w wr) (fun v8 _ => len - (intOf v8).toNat)
  case atStart => exact ⟨0, _, _, _, _, _, _, Nat.zero_le _, rfl, Lib.hid ⟨by rw [List.take_zero]; exact tadd_nil boxes, by simp⟩, xb, k1⟩
  case round =>
    clear xb k1
    obtain ⟨k, u0, u1, u2, u3, u4, u5, hk, rfl, HT, yb, yk⟩ := hrel
    by_cases hlt : k < len
    · have hll := HL.out.1
      obtain ⟨t, ht⟩ : ∃ t, gl[k]? = some t := ⟨gl[k]'(by omega), List.getElem?_eq_getElem _⟩
      have hlk := HL.out.kp yk
      have hsn := tadd_snoc boxes ht
      rw [HT.out.1] at hsn
      have hwi := tadd_within ⟨by omega, by omega⟩ HT.out.2 (by rw [List.length_take]; omega)
      rw [HT.out.1] at hwi
      have htk : gl.take (k + 1) = gl.take k ++ [t] := by rw [List.take_add_one, ht]; rfl
      have HTK := Lib.hid htk
      obtain ⟨t0, t1, t2, t3, t4, t5⟩ := t
      simp only at hsn hwi
      have HSN := Lib.hid hsn
      rcases hlk.2.2.2 with e | ⟨b, off, rfl, hb, hrow⟩
      · rw [e] at ht; simp at ht
      · have hc : ∀ c v, (Tot.cells ⟨t0, t1, t2, t3, t4, t5⟩)[c]? = some v → wr.cell? ⟨b, off + k * 6 + c, none⟩ = some v := fun c v hv => hrow k _ ht c v hv
        have c0 := hc 0 _ rfl; have c1 := hc 1 _ rfl; have c2 := hc 2 _ rfl; have c3 := hc 3 _ rfl; have c4 := hc 4 _ rfl; have c5 := hc 5 _ rfl
        rw [Nat.add_zero] at c0
        simp only at c0 c1 c2 c3 c4 c5
        have cF := refField_any t0 t1 t2 t3 t4 t5
        have nb := yb.lt
        clear hc hrow ht hlk hll hsn htk
        cases hf : fldT ⟨t0, t1, t2, t3, t4, t5⟩ with
        | false =>
          rw [hf] at cF
          have CF := Lib.hid cF
          clear cF hf
          go_wp2_with (first
            | (go_at_call 41; go_must (refine (CF.out _).mono ?_); rintro e w5 ⟨rfl, kf⟩)
            | (go_at_call 38; go_must (refine (CA.out _).mono ?_); rintro e w5 ⟨rfl, kk⟩))
          go_ret
          exact ⟨rfl, (by (repeat (first | with_reducible assumption | with_reducible exact Kp.refl _ | with_reducible refine Kp.drew ?_ | with_reducible refine Kp.drewN ?_ _ | with_reducible refine Kp.alloc ?_ _ | ((with_reducible refine Kp.setCell ?_ ?_ _); rotate_left; (focus (first | omega | (simp; done) | (simp; omega)))) | with_reducible refine Kp.trans ?_ (by assumption))))⟩
        | true =>
          rw [hf] at cF
          have CF := Lib.hid cF
          obtain ⟨g0, g1, g2, g3, g4, g5⟩ := fldT_iff.1 hf
          replace g0 := inF_iff.1 g0; replace g1 := inF_iff.1 g1; replace g2 := inF_iff.1 g2; replace g3 := inF_iff.1 g3; replace g4 := inF_iff.1 g4; replace g5 := inF_iff.1 g5
          simp only at g0 g1 g2 g3 g4 g5
          clear cF hf
          go_wp2_with fail
          refine (CF.out _).mono ?_
          rintro e w5 ⟨rfl, kf⟩
          have x9 : Blk w5 wr.heap.size (ints [t0, t1, t2, t3, t4, t5]) 31 := Blk.kp (by (repeat (first | with_reducible assumption | ((with_reducible refine Blk.newL ?_ ?_); (focus (first | (simp; done) | omega)); rfl) | with_reducible refine Blk.drew ?_ | with_reducible refine Blk.drewN ?_ _ | with_reducible refine Blk.alloc ?_ _ | ((with_reducible refine Blk.other ?_ ?_ _); rotate_left; (focus (first | with_reducible assumption | omega | (simp; done) | (simp; omega))))))) kf
          have x7 := (yb.alloc (.cells #[.int .i64 t0, .int .i64 t1, .int .i64 t2, .int .i64 t3, .int .i64 t4, .int .i64 t5] 31)).kp kf
          have yk5 : Kp w w5 := (yk.alloc _).trans kf
          have n9 := x9.lt
          clear c0 c1 c2 c3 c4 c5 kf yb yk CF
          have c0 := x9.cell 0 rfl; have c1 := x9.cell 1 rfl; have c2 := x9.cell 2 rfl; have c3 := x9.cell 3 rfl; have c4 := x9.cell 4 rfl; have c5 := x9.cell 5 rfl
          have d0 := x7.cell 0 rfl; have d1 := x7.cell 1 rfl; have d2 := x7.cell 2 rfl; have d3 := x7.cell 3 rfl; have d4 := x7.cell 4 rfl; have d5 := x7.cell 5 rfl
          have f0 := x7.free 0; have f1 := x7.free 1; have f2 := x7.free 2; have f3 := x7.free 3; have f4 := x7.free 4; have f5 := x7.free 5
          have hne : ¬ wr.heap.size = w.heap.size := by omega
          have hne2 : ¬ w.heap.size = wr.heap.size := by omega
          by_cases qt0 : 1099511627776 < t0
          · have jt0 : decide (1099511627776 < t0) = true := decide_eq_true qt0
            go_wp2_with (go_at_call 38; go_must (refine (CA.out _).mono ?_); rintro e w6 ⟨rfl, kk⟩)
            go_ret
            exact ⟨rfl, (by (repeat (first | with_reducible assumption | with_reducible exact Kp.refl _ | with_reducible refine Kp.drew ?_ | with_reducible refine Kp.drewN ?_ _ | with_reducible refine Kp.alloc ?_ _ | ((with_reducible refine Kp.setCell ?_ ?_ _); rotate_left; (focus (first | omega | (simp; done) | (simp; omega)))) | with_reducible refine Kp.trans ?_ (by assumption))))⟩
          have jt0 : decide (1099511627776 < t0) = false := decide_eq_false qt0
          by_cases qt5 : 1099511627776 < t5
          · have jt5 : decide (1099511627776 < t5) = true := decide_eq_true qt5
            go_wp2_with (go_at_call 38; go_must (refine (CA.out _).mono ?_); rintro e w6 ⟨rfl, kk⟩)
            go_ret
            exact ⟨rfl, (by (repeat (first | with_reducible assumption | with_reducible exact Kp.refl _ | with_reducible refine Kp.drew ?_ | with_reducible refine Kp.drewN ?_ _ | with_reducible refine Kp.alloc ?_ _ | ((with_reducible refine Kp.setCell ?_ ?_ _); rotate_left; (focus (first | omega | (simp; done) | (simp; omega)))) | with_reducible refine Kp.trans ?_ (by assumption))))⟩
          have jt5 : decide (1099511627776 < t5) = false := decide_eq_false qt5
          by_cases qt1 : 1099511627776 < t1
          · have jt1 : decide (1099511627776 < t1) = true := decide_eq_true qt1
            go_wp2_with (go_at_call 38; go_must (refine (CA.out _).mono ?_); rintro e w6 ⟨rfl, kk⟩)
            go_ret
            exact ⟨rfl, (by (repeat (first | with_reducible assumption | with_reducible exact Kp.refl _ | with_reducible refine Kp.drew ?_ | with_reducible refine Kp.drewN ?_ _ | with_reducible refine Kp.alloc ?_ _ | ((with_reducible refine Kp.setCell ?_ ?_ _); rotate_left; (focus (first | omega | (simp; done) | (simp; omega)))) | with_reducible refine Kp.trans ?_ (by assumption))))⟩
          have jt1 : decide (1099511627776 < t1) = false := decide_eq_false qt1
          by_cases qt2 : 1099511627776 < t2
          · have jt2 : decide (1099511627776 < t2) = true := decide_eq_true qt2
            go_wp2_with (go_at_call 38; go_must (refine (CA.out _).mono ?_); rintro e w6 ⟨rfl, kk⟩)
            go_ret
            exact ⟨rfl, (by (repeat (first | with_reducible assumption | with_reducible exact Kp.refl _ | with_reducible refine Kp.drew ?_ | with_reducible refine Kp.drewN ?_ _ | with_reducible refine Kp.alloc ?_ _ | ((with_reducible refine Kp.setCell ?_ ?_ _); rotate_left; (focus (first | omega | (simp; done) | (simp; omega)))) | with_reducible refine Kp.trans ?_ (by assumption))))⟩
          have jt2 : decide (1099511627776 < t2) = false := decide_eq_false qt2
          by_cases qt3 : 1099511627776 < t3
          · have jt3 : decide (1099511627776 < t3) = true := decide_eq_true qt3
            go_wp2_with (go_at_call 38; go_must (refine (CA.out _).mono ?_); rintro e w6 ⟨rfl, kk⟩)
            go_ret
            exact ⟨rfl, (by (repeat (first | with_reducible assumption | with_reducible exact Kp.refl _ | with_reducible refine Kp.drew ?_ | with_reducible refine Kp.drewN ?_ _ | with_reducible refine Kp.alloc ?_ _ | ((with_reducible refine Kp.setCell ?_ ?_ _); rotate_left; (focus (first | omega | (simp; done) | (simp; omega)))) | with_reducible refine Kp.trans ?_ (by assumption))))⟩
          have jt3 : decide (1099511627776 < t3) = false := decide_eq_false qt3
          by_cases qt4 : 1099511627776 < t4
          · have jt4 : decide (1099511627776 < t4) = true := decide_eq_true qt4
            go_wp2_with (go_at_call 38; go_must (refine (CA.out _).mono ?_); rintro e w6 ⟨rfl, kk⟩)
            go_ret
            exact ⟨rfl, (by (repeat (first | with_reducible assumption | with_reducible exact Kp.refl _ | with_reducible refine Kp.drew ?_ | with_reducible refine Kp.drewN ?_ _ | with_reducible refine Kp.alloc ?_ _ | ((with_reducible refine Kp.setCell ?_ ?_ _); rotate_left; (focus (first | omega | (simp; done) | (simp; omega)))) | with_reducible refine Kp.trans ?_ (by assumption))))⟩
          have jt4 : decide (1099511627776 < t4) = false := decide_eq_false qt4
          have hsm : smallG ⟨t0, t1, t2, t3, t4, t5⟩ := by unfold smallG; simp only; omega
          have HSM := Lib.hid hsm
          clear hsm
          go_wp2
          refine wp_loop_rounds 5 ?_
          rw [rounds_succ]; go_wp2; go_region; go_wp2
          rw [rounds_succ]; go_wp2; go_region; go_wp2
          rw [rounds_succ]; go_wp2; go_region; go_wp2
          rw [rounds_succ]; go_wp2; go_region; go_wp2
          rw [rounds_succ]; go_wp2
          go_roundw
          case rel =>
            refine ⟨k + 1, _, _, _, _, _, _, by omega, by go_num, Lib.hid ⟨HSN.out, fun t ht => ?_⟩, ((((((x7.set 0 _).set 5 _).set 1 _).set 2 _).set 3 _).set 4 _).drew.drew.drew.drew, (by (repeat (first | with_reducible assumption | with_reducible exact Kp.refl _ | with_reducible refine Kp.drew ?_ | with_reducible refine Kp.drewN ?_ _ | with_reducible refine Kp.alloc ?_ _ | ((with_reducible refine Kp.setCell ?_ ?_ _); rotate_left; (focus (first | omega | (simp; done) | (simp; omega)))) | with_reducible refine Kp.trans ?_ (by assumption))))⟩
            rw [HTK.out] at ht
            rcases List.mem_append.1 ht with ht | ht
            · exact HT.out.2 t ht
            · rw [List.mem_singleton] at ht; subst ht; exact HSM.out
          case measure => simp [intOf]; omega
    · obtain rfl : k = len := by omega
      have hta : gl.take k = gl := List.take_of_length_le (Nat.le_of_eq HL.out.1)
      obtain ⟨ht1, ht2⟩ := HT.out
      rw [hta] at ht1 ht2
      have hgl := HL.out.1
      have hb01 : 0 ≤ boxes ∧ boxes ≤ 1099511627776 := ⟨by omega, by omega⟩
      have hfl : ∀ t ∈ gl, fldT t = true := fun t ht => smallG_fld (ht2 t ht)
      have key : ∃ s0 s1 s2 s3 s4 : Int, setOf ⟨u0, u1, u2, u3, u4, u5⟩ high false = ⟨s0, s1, s2, s3, s4⟩ ∧ (0 ≤ s0 ∧ s0 ≤ 3) ∧ inF s2 = true ∧ (-2251799813685248 ≤ s4 ∧ s4 ≤ 2251799813685248) ∧
          (((-1125899906842624 ≤ high ∧ high ≤ 1125899906842624) ∧ boxes + (sizesL s0 s1 s2 gl).sum + s4 = high ∧ (s4 = 0 ∨ s0 = 0 ∨ s0 = 3)) ∨ (¬ (-1125899906842624 ≤ high ∧ high ≤ 1125899906842624) ∧ s0 = 0 ∧ s1 = 0 ∧ s2 = 0 ∧ s3 = 0 ∧ s4 = 0)) := by
        by_cases hr : -1125899906842624 ≤ high ∧ high ≤ 1125899906842624
        · obtain ⟨q1, q2, q3, q4, q5⟩ := adds_up hb01 ht2 (by omega) hr.1 hr.2
          rw [ht1] at q1 q2 q3 q4 q5
          exact ⟨_, _, _, _, _, rfl, q1, q2, q3, .inl ⟨hr, q4, q5⟩⟩
        · have q := set_far (b := boxes) (gl := gl) hr
          rw [ht1] at q
          exact ⟨0, 0, 0, 0, 0, q, ⟨by decide, by decide⟩, by decide, ⟨by decide, by decide⟩, .inr ⟨hr, rfl, rfl, rfl, rfl, rfl⟩⟩
      obtain ⟨s0, s1, s2, s3, s4, hS, hh, ha, hle, hend⟩ := key
      have cO := gsetOf_any u0 u1 u2 u3 u4 u5 high false
      rw [hS] at cO
      simp only [Sett.v] at cO
      have cS := fun (w' : World) (kw : Kp w w') => sizes_any s0 s1 s2 s3 s4 a k cap gl w' hh.1 hh.2 ha (HL.out.kp kw) hfl (by omega)
      have hLl : (sizesL s0 s1 s2 gl).length = k := by unfold sizesL; rw [offL_length, natsG_length, hgl]
      have hLi := sizes_in (how := s0) (ord := s1) ht2 ha
      obtain ⟨L, hL⟩ : ∃ L, sizesL s0 s1 s2 gl = L := ⟨_, rfl⟩
      rw [hL] at cS hend hLl hLi
      have CO := Lib.hid cO; have CS := Lib.hid cS; have HE := Lib.hid hend; have HLL := Lib.hid hLl; have HLI := Lib.hid hLi
      clear cO cS hend hLl hLi hL hS hta ht1 ht2 hgl hfl HT hh ha
      have d0 := yb.cell 0 rfl; have d1 := yb.cell 1 rfl; have d2 := yb.cell 2 rfl; have d3 := yb.cell 3 rfl; have d4 := yb.cell 4 rfl; have d5 := yb.cell 5 rfl
      have n7 := yb.lt
      go_wp2_with fail
      refine (CO.out _).mono ?_
      rintro e w2 ⟨rfl, k2⟩
      have yk2 := yk.trans k2
      clear d0 d1 d2 d3 d4 d5 yb yk k2
      go_wp2_with fail
      refine (CS.out _ (yk2.alloc _)).mono ?_
      rintro e w3 ⟨v, rfl, hr, k3⟩
      obtain ⟨a12, c12, rfl, s12⟩ := hr.sl (fun _ => rfl)
      have x11 : Blk w3 w2.heap.size (ints [s0, s1, s2, s3, s4]) 69 := Blk.kp (by (repeat (first | with_reducible assumption | ((with_reducible refine Blk.newL ?_ ?_); (focus (first | (simp; done) | omega)); rfl) | with_reducible refine Blk.drew ?_ | with_reducible refine Blk.drewN ?_ _ | with_reducible refine Blk.alloc ?_ _ | ((with_reducible refine Blk.other ?_ ?_ _); rotate_left; (focus (first | with_reducible assumption | omega | (simp; done) | (simp; omega))))))) k3
      have yk3 : Kp w w3 := (yk2.alloc _).trans k3
      have hc12 := s12.2.1
      have hm12 := s12.2.2.1
      rw [HLL.out] at s12 hc12 ⊢
      unfold maxLen at hm12
      clear CO CS k3 yk2 hr
      go_wp2
      go_loop [13, 14] (fun v13 v14 => ∃ i : Nat, i ≤ k ∧ v14 = .int .i64 i ∧ v13 = .int .i64 (boxes + (L.take i).sum)) (fun _ v14 => k - (intOf v14).toNat)
      case atStart => exact ⟨0, Nat.zero_le _, rfl, by simp⟩
      case round =>
        obtain ⟨i, hi, rfl, hn⟩ := hrel
        by_cases hlt : i < k
        · subst hn
          obtain ⟨x, hx⟩ : ∃ x, L[i]? = some x := ⟨L[i]'(by have := HLL.out; omega), List.getElem?_eq_getElem _⟩
          have hsu := sum_succ hx
          have hx2 := HLI.out x (List.mem_of_getElem? hx)
          have hb1 := sum_within (L.take i) (fun y hy => HLI.out y (List.mem_of_mem_take hy))
          have hl1 : (L.take i).length ≤ 40 := by rw [List.length_take]; omega
          rcases s12.2.2.2 with e | ⟨b, off, rfl, hb, hrow⟩
          · rw [e] at hx; simp at hx
          · have c0 := hrow i _ hx 0 _ rfl
            rw [Nat.add_zero, Nat.mul_one] at c0
            have HSU := Lib.hid hsu
            obtain ⟨N, hN⟩ : ∃ N, (L.take i).sum = N := ⟨_, rfl⟩
            rw [hN] at hb1 HSU ⊢
            have hb2 : -90071992547409920 ≤ N ∧ N ≤ 90071992547409920 := by omega
            clear hsu hN hx hrow hb1 hl1
            go_wp2
            go_round
            case rel => exact ⟨i + 1, by omega, by go_num, by rw [HSU.out]; go_num⟩
            case measure => simp [intOf]; omega
        · obtain rfl : i = k := by omega
          have hb1 := sum_within L HLI.out
          rw [List.take_of_length_le (Nat.le_of_eq HLL.out)] at hn
          rw [HLL.out] at hb1
          have hend := HE.out
          obtain ⟨A, hA⟩ : ∃ A, boxes + L.sum = A := ⟨_, rfl⟩
          have hA2 : -90071992547409920 ≤ A ∧ A ≤ 91171504175187696 := by omega
          rw [hA] at hn hend
          subst hn
          have j1 : decide ((i : Int) < (i : Int)) = false := decide_eq_false (by omega)
          have eS := @eqSet
          clear hA hb1 HE HLI HLL s12
          have c0 := x11.cell 0 rfl; have c1 := x11.cell 1 rfl; have c2 := x11.cell 2 rfl; have c3 := x11.cell 3 rfl; have c4 := x11.cell 4 rfl
          rcases hend with ⟨⟨r1, r2⟩, q1, q2⟩ | ⟨hr, rfl, rfl, rfl, rfl, rfl⟩
          · have m1 : decide (high < -1125899906842624) = false := decide_eq_false (by omega)
            have m2 : decide (1125899906842624 < high) = false := decide_eq_false (by omega)
            have m3 : (A + s4 == high) = true := beq_iff_eq.2 q1
            clear q1
            by_cases e4 : s4 = 0
            · have m4 : (s4 == 0) = true := beq_iff_eq.2 e4
              clear q2 e4
              go_wp2_with (go_at_call 38; go_must (refine (CA.out _).mono ?_); rintro e w6 ⟨rfl, kk⟩)
              go_ret
              exact ⟨ret_bool (by first | rfl | simp), (by (repeat (first | with_reducible assumption | with_reducible exact Kp.refl _ | with_reducible refine Kp.drew ?_ | with_reducible refine Kp.drewN ?_ _ | with_reducible refine Kp.alloc ?_ _ | ((with_reducible refine Kp.setCell ?_ ?_ _); rotate_left; (focus (first | omega | (simp; done) | (simp; omega)))) | with_reducible refine Kp.trans ?_ (by assumption))))⟩
            · have m4 : (s4 == 0) = false := beq_eq_false_iff_ne.2 e4
              by_cases e0 : s0 = 0
              · have m5 : (s0 == 0) = true := beq_iff_eq.2 e0
                clear q2 e4 e0
                go_wp2_with (go_at_call 38; go_must (refine (CA.out _).mono ?_); rintro e w6 ⟨rfl, kk⟩)
                go_ret
                exact ⟨ret_bool (by first | rfl | simp), (by (repeat (first | with_reducible assumption | with_reducible exact Kp.refl _ | with_reducible refine Kp.drew ?_ | with_reducible refine Kp.drewN ?_ _ | with_reducible refine Kp.alloc ?_ _ | ((with_reducible refine Kp.setCell ?_ ?_ _); rotate_left; (focus (first | omega | (simp; done) | (simp; omega)))) | with_reducible refine Kp.trans ?_ (by assumption))))⟩
              · have m5 : (s0 == 0) = false := beq_eq_false_iff_ne.2 e0
                have m6 : (s0 == 3) = true := beq_iff_eq.2 (by omega)
                clear q2 e4 e0
                go_wp2_with (go_at_call 38; go_must (refine (CA.out _).mono ?_); rintro e w6 ⟨rfl, kk⟩)
                go_ret
                exact ⟨ret_bool (by first | rfl | simp), (by (repeat (first | with_reducible assumption | with_reducible exact Kp.refl _ | with_reducible refine Kp.drew ?_ | with_reducible refine Kp.drewN ?_ _ | with_reducible refine Kp.alloc ?_ _ | ((with_reducible refine Kp.setCell ?_ ?_ _); rotate_left; (focus (first | omega | (simp; done) | (simp; omega)))) | with_reducible refine Kp.trans ?_ (by assumption))))⟩
          · by_cases m : high < -1125899906842624
            · have m1 : decide (high < -1125899906842624) = true := decide_eq_true m
              clear hr
              go_wp2_with (go_at_call 38; go_must (refine (CA.out _).mono ?_); rintro e w6 ⟨rfl, kk⟩)
              go_ret
              exact ⟨ret_bool (by first | rfl | simp), (by (repeat (first | with_reducible assumption | with_reducible exact Kp.refl _ | with_reducible refine Kp.drew ?_ | with_reducible refine Kp.drewN ?_ _ | with_reducible refine Kp.alloc ?_ _ | ((with_reducible refine Kp.setCell ?_ ?_ _); rotate_left; (focus (first | omega | (simp; done) | (simp; omega)))) | with_reducible refine Kp.trans ?_ (by assumption))))⟩
            · have m1 : decide (high < -1125899906842624) = false := decide_eq_false m
              have m2 : decide (1125899906842624 < high) = true := decide_eq_true (by omega)
              clear hr
              go_wp2_with (go_at_call 38; go_must (refine (CA.out _).mono ?_); rintro e w6 ⟨rfl, kk⟩)
              go_ret
              exact ⟨ret_bool (by first | rfl | simp), (by (repeat (first | with_reducible assumption | with_reducible exact Kp.refl _ | with_reducible refine Kp.drew ?_ | with_reducible refine Kp.drewN ?_ _ | with_reducible refine Kp.alloc ?_ _ | ((with_reducible refine Kp.setCell ?_ ?_ _); rotate_left; (focus (first | omega | (simp; done) | (simp; omega)))) | with_reducible refine Kp.trans ?_ (by assumption))))⟩
end Go.Proofs.Yteipfamaclildaa
