/- The law IndexTexts: any entries as a text, any numbers in rows. -/
import Derived.Test.YtkgfnkfgmnijbaaDoorLaw9A

namespace Go.Proofs.YtkgfnkfgmnijbaaDoor

open Go.RowKit

theorem expL_all {rs : List Rn} {l : List Int} (h : expL rs = l) {k : Nat} (hk : rs.length ≤ k) : expL (rs.take k) = l := by rw [List.take_of_length_le hk, h]
theorem raw_all {w : World} {l : List Ent} (hg : ∀ y, y ∈ l → y.raw w) (h : ∀ y, y ∈ l → y.s.l.length ≤ 60 ∧ topsL y.s.l = false) : ∀ y, y ∈ l → y.good w := fun y hy => (hg y hy).good (by have := (h y hy).1; omega) (h y hy).2
theorem nums_ok {l : List Int} (h : ∀ z, z ∈ l → I64 z) (ht : topsL l = false) : ∀ z, z ∈ l → I64 z ∧ z ≠ 9223372036854775807 := fun z hz => ⟨h z hz, fun e => by
  unfold topsL at ht
  have := List.any_eq_false.1 ht z hz
  simp [e] at this⟩
theorem runs_i64 {l : List Int} (h : ∀ z, z ∈ l → I64 z ∧ z ≠ 9223372036854775807) : ∀ r, r ∈ runsL l → (I64 r.f ∧ r.f ≠ 9223372036854775807) ∧ (I64 r.t ∧ r.t ≠ 9223372036854775807) :=
  runs_in (P := fun z => I64 z ∧ z ≠ 9223372036854775807) l [] (fun r hr => by cases hr) h
set_option maxRecDepth 100000 in
set_option maxHeartbeats 8000000 in
theorem indexTexts_main (a pa : Option Addr) (cap pc : Nat) (l : List Ent) (p : List Int) (w : World) (he : Env w) (hl : SlOk w 2 Ent.cells a l.length cap l) (hg : ∀ y, y ∈ l → y.raw w) (hp : SlOk w 1 enc1 pa p.length pc p) (hpi : ∀ z, z ∈ p → I64 z)
    (h1 : l.length ≤ 60) (h2 : p.length ≤ 60) :
    Calls Tryd.prog 3 #[.slice a l.length cap, .slice pa p.length pc] w fun e w' => e = .returned (.bool true) ∧ Kp w w' := by
  have HE := Lib.hid he
  have HL := Lib.hid hl
  have HG := Lib.hid hg
  have HP := Lib.hid hp
  have HPI := Lib.hid hpi
  have CAW : Hid (∀ w', Kp w w' → Calls Tryd.prog 6 #[] w' fun e w'' => e = .returned (.bool true) ∧ Kp w' w'') := Lib.hid fun w' k => awake9_any w' (he.kp k)
  have hcl := hl.2.1
  have hcm := hl.2.2.1
  have hpl := hp.2.1
  have hpm := hp.2.2.1
  unfold maxLen at hcm hpm
  have j1 : decide ((60 : Int) < (l.length : Int)) = false := decide_eq_false (by omega)
  have j2 : decide ((60 : Int) < (p.length : Int)) = false := decide_eq_false (by omega)
  clear he hl hg hp hpi
  go_enter Tryd.func3, Tryd.ntmps3
  go_wp2_with fail
  go_loopw [5] (fun v5 wr => ∃ k : Nat, k ≤ l.length ∧ v5 = .int .i64 (k : Int) ∧ (∀ y, y ∈ l.take k → y.s.l.length ≤ 60 ∧ topsL y.s.l = false) ∧ Kp w wr) (fun v5 _ => l.length - (intOf v5).toNat)
  case atStart => exact ⟨0, Nat.zero_le _, rfl, fun y hy => (by simp at hy), (by (repeat (first | with_reducible assumption | with_reducible exact Kp.refl _ | with_reducible refine Kp.drew ?_ | with_reducible refine Kp.drewN ?_ _ | with_reducible refine Kp.alloc ?_ _ | ((with_reducible refine Kp.setCell ?_ ?_ _); rotate_left; (focus (first | omega | (simp; done) | (simp; omega)))) | with_reducible refine Kp.trans ?_ (by assumption))))⟩
  case round =>
    obtain ⟨k, hk, rfl, hall, xk⟩ := hrel
    by_cases hlt : k < l.length
    · obtain ⟨x, hx⟩ : ∃ x, l[k]? = some x := ⟨l[k], List.getElem?_eq_getElem hlt⟩
      obtain ⟨ga, go, rfl, hga, r1⟩ := entsOfSl (HL.out.kp xk) (by omega)
      have d1 := r1 k _ hx 1 _ rfl
      have hraw := (HG.out x (List.mem_of_getElem? hx)).kp xk
      obtain ⟨xn, ⟨sa, sl, sc, ss⟩⟩ := x
      obtain rfl : ss.length = sl := hraw.2.1.1
      have hslm := hraw.2.1.2.2.1
      have hslc := hraw.2.1.2.1
      unfold maxLen at hslm
      have CT := Lib.hid (fun w' (k : Kp wr w') => tops_any sa sc ss w' (hraw.2.1.kp k))
      have ji : decide ((k : Int) < (l.length : Int)) = true := decide_eq_true (by omega)
      have HAL := Lib.hid hall
      clear r1 hraw hall
      by_cases hs6 : ss.length ≤ 60
      · have j3 : decide ((60 : Int) < (ss.length : Int)) = false := decide_eq_false (by omega)
        cases ht : topsL ss
        · have HAL2 : Hid (∀ y, y ∈ l.take (k + 1) → y.s.l.length ≤ 60 ∧ topsL y.s.l = false) := Lib.hid fun y hy => by
            rw [take_snoc hx] at hy
            rcases List.mem_append.1 hy with hy | hy
            · exact HAL.out y hy
            · simp only [List.mem_singleton] at hy; subst hy; exact ⟨hs6, ht⟩
          rw [ht] at CT
          clear hx ht
          go_wp2_with fail
          refine (CT.out _ (by (repeat (first | with_reducible assumption | with_reducible exact Kp.refl _ | with_reducible refine Kp.drew ?_ | with_reducible refine Kp.drewN ?_ _ | with_reducible refine Kp.alloc ?_ _ | ((with_reducible refine Kp.setCell ?_ ?_ _); rotate_left; (focus (first | omega | (simp; done) | (simp; omega)))) | with_reducible refine Kp.trans ?_ (by assumption))))).mono ?_
          rintro e w3 ⟨rfl, k3⟩
          have kw3 : Kp w w3 := (xk.trans ((by (repeat (first | with_reducible assumption | with_reducible exact Kp.refl _ | with_reducible refine Kp.drew ?_ | with_reducible refine Kp.drewN ?_ _ | with_reducible refine Kp.alloc ?_ _ | ((with_reducible refine Kp.setCell ?_ ?_ _); rotate_left; (focus (first | omega | (simp; done) | (simp; omega)))) | with_reducible refine Kp.trans ?_ (by assumption)))) : Kp wr _)).trans k3
          clear k3
          go_wp2_with fail
          go_roundw
          case rel => exact ⟨k + 1, by omega, by go_num, HAL2.out, (by (repeat (first | with_reducible assumption | with_reducible exact Kp.refl _ | with_reducible refine Kp.drew ?_ | with_reducible refine Kp.drewN ?_ _ | with_reducible refine Kp.alloc ?_ _ | ((with_reducible refine Kp.setCell ?_ ?_ _); rotate_left; (focus (first | omega | (simp; done) | (simp; omega)))) | with_reducible refine Kp.trans ?_ (by assumption))))⟩
          case measure => simp [intOf]; omega
        · rw [ht] at CT
          clear hx ht
          go_wp2_with fail
          refine (CT.out _ (by (repeat (first | with_reducible assumption | with_reducible exact Kp.refl _ | with_reducible refine Kp.drew ?_ | with_reducible refine Kp.drewN ?_ _ | with_reducible refine Kp.alloc ?_ _ | ((with_reducible refine Kp.setCell ?_ ?_ _); rotate_left; (focus (first | omega | (simp; done) | (simp; omega)))) | with_reducible refine Kp.trans ?_ (by assumption))))).mono ?_
          rintro e w3 ⟨rfl, k3⟩
          have kw3 : Kp w w3 := (xk.trans ((by (repeat (first | with_reducible assumption | with_reducible exact Kp.refl _ | with_reducible refine Kp.drew ?_ | with_reducible refine Kp.drewN ?_ _ | with_reducible refine Kp.alloc ?_ _ | ((with_reducible refine Kp.setCell ?_ ?_ _); rotate_left; (focus (first | omega | (simp; done) | (simp; omega)))) | with_reducible refine Kp.trans ?_ (by assumption)))) : Kp wr _)).trans k3
          clear k3
          go_wp2_with fail
          refine (CAW.out _ kw3).mono ?_
          rintro e w4 ⟨rfl, k4⟩
          go_wp2_with fail
          (try go_ret)
          exact ⟨rfl, kw3.trans k4⟩
      · have j3 : decide ((60 : Int) < (ss.length : Int)) = true := decide_eq_true (by omega)
        clear hx
        go_wp2_with fail
        refine (CAW.out _ (by (repeat (first | with_reducible assumption | with_reducible exact Kp.refl _ | with_reducible refine Kp.drew ?_ | with_reducible refine Kp.drewN ?_ _ | with_reducible refine Kp.alloc ?_ _ | ((with_reducible refine Kp.setCell ?_ ?_ _); rotate_left; (focus (first | omega | (simp; done) | (simp; omega)))) | with_reducible refine Kp.trans ?_ (by assumption))))).mono ?_
        rintro e w4 ⟨rfl, k4⟩
        go_wp2_with fail
        (try go_ret)
        exact ⟨rfl, (xk.trans ((by (repeat (first | with_reducible assumption | with_reducible exact Kp.refl _ | with_reducible refine Kp.drew ?_ | with_reducible refine Kp.drewN ?_ _ | with_reducible refine Kp.alloc ?_ _ | ((with_reducible refine Kp.setCell ?_ ?_ _); rotate_left; (focus (first | omega | (simp; done) | (simp; omega)))) | with_reducible refine Kp.trans ?_ (by assumption)))) : Kp wr _)).trans k4⟩
    · obtain rfl : k = l.length := by omega
      have ji : decide ((l.length : Int) < (l.length : Int)) = false := decide_eq_false (by omega)
      rw [List.take_length] at hall
      have HGG := Lib.hid (fun w' (k : Kp w w') => fun y hy => (raw_all HG.out hall y hy).kp k)
      clear hall hk hlt
      cases ht : topsL p
      · have HPO := Lib.hid (nums_ok HPI.out ht)
        go_wp2_with fail
        refine (tops_any pa pc p _ (HP.out.kp xk)).mono ?_
        rintro e w3 ⟨rfl, k3⟩
        rw [ht]
        have kw3 := xk.trans k3
        clear k3 ht
        go_wp2_with fail
        refine (runs_any pa pc p _ (HP.out.kp kw3) (by omega) HPO.out).mono ?_
        rintro e w4 ⟨v4, rfl, hr4, k4⟩
        have kw4 := kw3.trans k4
        clear k4 kw3
        go_wp2_with fail
        refine (refRuns_any pa pc p _ (HP.out.kp kw4) (by omega) HPO.out).mono ?_
        rintro e w5 ⟨v5, rfl, hr5, k5⟩
        have kw5 := kw4.trans k5
        have hr45 := hr4.kp k5
        clear k5 kw4 hr4
        have HRI := Lib.hid (runs_i64 HPO.out)
        obtain ⟨hex, hrise⟩ := runsL_exp p
        have hrl : (runsL p).length ≤ p.length := by unfold runsL; have := runs_length p []; simpa using this
        obtain ⟨R, hR⟩ : ∃ R, runsL p = R := ⟨_, rfl⟩
        rw [hR] at hex hrise hrl hr5 hr45 HRI
        obtain ⟨a4, c4, rfl, s4⟩ := hr45.sl (fun _ => rfl)
        obtain ⟨a5, c5, rfl, s5⟩ := hr5.sl (fun _ => rfl)
        have HS4 := Lib.hid s4
        have HS5 := Lib.hid s5
        have m4 := s4.2.1
        have m5 := s5.2.1
        have m6 := s4.2.2.1
        have m7 := s5.2.2.1
        unfold maxLen at m6 m7
        have HEX := Lib.hid hex
        have HRS := Lib.hid hrise
        have HPP := Lib.hid (fun w' (k : Kp w5 w') => HP.out.kp (kw5.trans k))
        clear hr45 hr5 s4 s5 hex hrise hR HPI
        go_wp2_with fail
        go_loopw [8, 9] (fun v8 v9 wr => ∃ k : Nat, k ≤ R.length ∧ v9 = .int .i64 (k : Int) ∧ v8 = .int .i64 ((expL (R.take k)).length : Nat) ∧ Kp w5 wr) (fun _ v9 _ => R.length - (intOf v9).toNat)
        case atStart => exact ⟨0, Nat.zero_le _, rfl, rfl, (by (repeat (first | with_reducible assumption | with_reducible exact Kp.refl _ | with_reducible refine Kp.drew ?_ | with_reducible refine Kp.drewN ?_ _ | with_reducible refine Kp.alloc ?_ _ | ((with_reducible refine Kp.setCell ?_ ?_ _); rotate_left; (focus (first | omega | (simp; done) | (simp; omega)))) | with_reducible refine Kp.trans ?_ (by assumption))))⟩
        case round =>
          obtain ⟨k, hk, rfl, rfl, zk⟩ := hrel
          obtain ⟨wo, rfl⟩ : ∃ u, u = wr := ⟨_, rfl⟩
          by_cases hlt : k < R.length
          · obtain ⟨x, hx⟩ : ∃ x, R[k]? = some x := ⟨R[k], List.getElem?_eq_getElem hlt⟩
            obtain ⟨g4, o4, rfl, hg4, r4⟩ := entsOfSl (HS4.out.kp zk) (by omega)
            obtain ⟨g5, o5, rfl, hg5, r5⟩ := entsOfSl (HS5.out.kp zk) (by omega)
            obtain ⟨hstep, hat⟩ := exp_at HEX.out hx
            have hft := HRS.out x (List.mem_of_getElem? hx)
            obtain ⟨xf, xt⟩ := x
            have d0 := r4 k _ hx 0 _ rfl
            have d1 := r4 k _ hx 1 _ rfl
            have f0 := r5 k _ hx 0 _ rfl
            have f1 := r5 k _ hx 1 _ rfl
            simp only [Nat.add_zero] at d0 f0
            have ji : decide ((k : Int) < (R.length : Int)) = true := decide_eq_true (by omega)
            have HST := Lib.hid hstep
            have HAT := Lib.hid hat
            have HX := Lib.hid hx
            have hri := HRI.out _ (List.mem_of_getElem? hx)
            unfold I64 at hri
            simp only at hri hft
            have hlen : (expL (R.take (k + 1))).length = (expL (R.take k)).length + (xt + 1 - xf).toNat := by
              rw [hstep, List.length_append]; unfold expR; simp
            obtain ⟨N, hN⟩ : ∃ N, (expL (R.take k)).length = N := ⟨_, rfl⟩
            rw [hN] at hlen HAT ⊢
            have hNp : N + (xt + 1 - xf).toNat ≤ p.length := by
              have e := congrArg List.length HEX.out
              have e2 : expL R = expL (R.take (k + 1)) ++ expL (R.drop (k + 1)) := by
                conv => lhs; rw [← List.take_append_drop (k + 1) R]
                unfold expL
                rw [List.flatMap_append]
              rw [e2, List.length_append] at e
              omega
            clear r4 r5 hx hstep hat hN
            go_wp2_with fail
            (refine wp_region_held_drew (S := (fun w' => (∀ b o, b < wo.heap.size → w'.cell? ⟨b, o, none⟩ = wo.cell? ⟨b, o, none⟩) ∧ Kp wo w')) (by kernel_rfl) ?_ (fun hHd => ?_); (focus ((try dsimp only); (first | with_reducible assumption | with_reducible exact held_start _ | with_reducible exact held_next (by assumption) (by assumption) | with_reducible exact held_alloc (by assumption) _ | with_reducible exact held_drew (by assumption) | ((with_reducible refine held_kp ?_); (repeat (first | with_reducible assumption | with_reducible exact Kp.refl _ | with_reducible refine Kp.drew ?_ | with_reducible refine Kp.drewN ?_ _ | with_reducible refine Kp.alloc ?_ _ | ((with_reducible refine Kp.setCell ?_ ?_ _); rotate_left; (focus (first | omega | (simp; done) | (simp; omega)))) | with_reducible refine Kp.trans ?_ (by assumption))))))))
            (refine takeH (i := 0) (oi := ?o1) (v := ?v1) ?h1 (by kernel_rfl) ?q1 (Or.inl ⟨?w1, ?y1⟩) (by assumption) ?r1; (case h1 => ((simp only [g1, g3]); rfl)); (case q1 => exact fun _ _ _ h => h); (case w1 => rfl); (case y1 => (intro w' hSw; (try dsimp only at hSw); go_simp; (try with_reducible rfl))); (try simp only [Act.put, s1, s2, s3]))
            (refine takeH (i := 1) (oi := ?o2) (v := ?v2) ?h2 (by kernel_rfl) ?q2 (Or.inl ⟨?w2, ?y2⟩) (by assumption) ?r2; (case h2 => ((simp only [g1, g2, g3]); rfl)); (case q2 => exact fun _ _ _ h => h); (case w2 => rfl); (case y2 => (intro w' hSw; (try dsimp only at hSw); go_simp; (try with_reducible rfl))); (try simp only [Act.put, s1, s2, s3]))
            (refine takeH (i := 2) (oi := ?o3) (v := ?v3) ?h3 (by kernel_rfl) ?q3 (Or.inl ⟨?w3, ?y3⟩) (by assumption) ?r3; (case h3 => ((simp only [g1, g2, g3]); rfl)); (case q3 => exact fun _ _ _ h => h); (case w3 => rfl); (case y3 => (intro w' hSw; (try dsimp only at hSw); go_simp; (try with_reducible rfl))); (try simp only [Act.put, s1, s2, s3]))
            (refine takeH (i := 3) (oi := ?o4) (v := ?v4) ?h4 (by kernel_rfl) ?q4 (Or.inl ⟨?w4, ?y4⟩) (by assumption) ?r4; (case h4 => ((simp only [g1, g2, g3]); rfl)); (case q4 => exact fun _ _ _ h => h); (case w4 => rfl); (case y4 => (intro w' hSw; (try dsimp only at hSw); go_simp; (try with_reducible rfl))); (try simp only [Act.put, s1, s2, s3]))
            (refine takeH (i := 4) (oi := ?o5) (v := ?v5) ?h5 (by kernel_rfl) ?q5 (Or.inl ⟨?w5, ?y5⟩) (by assumption) ?r5; (case h5 => ((simp only [g1, g2, g3]); rfl)); (case q5 => exact fun _ _ _ h => h); (case w5 => rfl); (case y5 => (intro w' hSw; (try dsimp only at hSw); go_simp; (try with_reducible rfl))); (try simp only [Act.put, s1, s2, s3]))
            (refine takeH (i := 5) (oi := ?o6) (v := ?v6) ?h6 (by kernel_rfl) ?q6 (Or.inl ⟨?w6, ?y6⟩) (by assumption) ?r6; (case h6 => ((simp only [g1, g2, g3]); rfl)); (case q6 => exact fun _ _ _ h => h); (case w6 => rfl); (case y6 => (intro w' hSw; (try dsimp only at hSw); go_simp; (try with_reducible rfl))); (try simp only [Act.put, s1, s2, s3]))
            (refine takeH (i := 6) (oi := ?o7) (v := ?v7) ?h7 (by kernel_rfl) ?q7 (Or.inl ⟨?w7, ?y7⟩) (by assumption) ?r7; (case h7 => ((simp only [g1, g2, g3]); rfl)); (case q7 => exact fun _ _ _ h => h); (case w7 => rfl); (case y7 => (intro w' hSw; (try dsimp only at hSw); go_simp; (try with_reducible rfl))); (try simp only [Act.put, s1, s2, s3]))
            (refine takeH (i := 7) (oi := ?o8) (v := ?v8) ?h8 (by kernel_rfl) ?q8 (Or.inl ⟨?w8, ?y8⟩) (by assumption) ?r8; (case h8 => ((simp only [g1, g2, g3]); rfl)); (case q8 => exact fun _ _ _ h => h); (case w8 => rfl); (case y8 => (intro w' hSw; (try dsimp only at hSw); go_simp; (try with_reducible rfl))); (try simp only [Act.put, s1, s2, s3]))
            (refine takeH (i := 8) (oi := ?o9) (v := ?v9) ?h9 (by kernel_rfl) ?q9 (Or.inl ⟨?w9, ?y9⟩) (by assumption) ?r9; (case h9 => ((simp only [g1, g2, g3]); rfl)); (case q9 => exact fun _ _ _ h => h); (case w9 => rfl); (case y9 => (intro w' hSw; (try dsimp only at hSw); go_simp; (try with_reducible rfl))); (try simp only [Act.put, s1, s2, s3]))
            (refine takeH (i := 9) (oi := ?o10) (v := ?v10) ?h10 (by kernel_rfl) ?q10 (Or.inl ⟨?w10, ?y10⟩) (by assumption) ?r10; (case h10 => ((simp only [g1, g2, g3]); rfl)); (case q10 => exact fun _ _ _ h => h); (case w10 => rfl); (case y10 => (intro w' hSw; (try dsimp only at hSw); go_simp; (try with_reducible rfl))); (try simp only [Act.put, s1, s2, s3]))
            (refine takeH (i := 10) (oi := ?o11) (v := ?v11) ?h11 (by kernel_rfl) ?q11 (Or.inl ⟨?w11, ?y11⟩) (by assumption) ?r11; (case h11 => ((simp only [g1, g2, g3]); rfl)); (case q11 => exact fun _ _ _ h => h); (case w11 => rfl); (case y11 => (intro w' hSw; (try dsimp only at hSw); go_simp; (try with_reducible rfl))); (try simp only [Act.put, s1, s2, s3]))
            (refine takeH (i := 11) (oi := ?o12) (v := ?v12) ?h12 (by kernel_rfl) ?q12 (Or.inl ⟨?w12, ?y12⟩) (by assumption) ?r12; (case h12 => ((simp only [g1, g2, g3]); rfl)); (case q12 => exact fun _ _ _ h => h); (case w12 => rfl); (case y12 => (intro w' hSw; (try dsimp only at hSw); go_simp; (try with_reducible rfl))); (try simp only [Act.put, s1, s2, s3]))
            (refine takeH (i := 12) (oi := ?o13) (v := ?v13) ?h13 (by kernel_rfl) ?q13 (Or.inl ⟨?w13, ?y13⟩) (by assumption) ?r13; (case h13 => ((simp only [g1, g2, g3]); rfl)); (case q13 => exact fun _ _ _ h => h); (case w13 => rfl); (case y13 => (intro w' hSw; (try dsimp only at hSw); go_simp; (try with_reducible rfl))); (try simp only [Act.put, s1, s2, s3]))
            (refine takeH (i := 13) (oi := ?o14) (v := ?v14) ?h14 (by kernel_rfl) ?q14 (Or.inl ⟨?w14, ?y14⟩) (by assumption) ?r14; (case h14 => ((simp only [g1, g2, g3]); rfl)); (case q14 => exact fun _ _ _ h => h); (case w14 => rfl); (case y14 => (intro w' hSw; (try dsimp only at hSw); go_simp; (try with_reducible rfl))); (try simp only [Act.put, s1, s2, s3]))
            (refine takeH (i := 14) (oi := ?o15) (v := ?v15) ?h15 (by kernel_rfl) ?q15 (Or.inl ⟨?w15, ?y15⟩) (by assumption) ?r15; (case h15 => ((simp only [g1, g2, g3]); rfl)); (case q15 => exact fun _ _ _ h => h); (case w15 => rfl); (case y15 => (intro w' hSw; (try dsimp only at hSw); go_simp; (try with_reducible rfl))); (try simp only [Act.put, s1, s2, s3]))
            (refine takeH (i := 15) (oi := ?o16) (v := ?v16) ?h16 (by kernel_rfl) ?q16 (Or.inl ⟨?w16, ?y16⟩) (by assumption) ?r16; (case h16 => ((simp only [g1, g2, g3]); rfl)); (case q16 => exact fun _ _ _ h => h); (case w16 => rfl); (case y16 => (intro w' hSw; (try dsimp only at hSw); go_simp; (try with_reducible rfl))); (try simp only [Act.put, s1, s2, s3]))
            (refine takeH (i := 16) (oi := ?o17) (v := ?v17) ?h17 (by kernel_rfl) ?q17 (Or.inl ⟨?w17, ?y17⟩) (by assumption) ?r17; (case h17 => ((simp only [g1, g2, g3]); rfl)); (case q17 => exact fun _ _ _ h => h); (case w17 => rfl); (case y17 => (intro w' hSw; (try dsimp only at hSw); go_simp; (try with_reducible rfl))); (try simp only [Act.put, s1, s2, s3]))
            (refine takeH (i := 17) (oi := ?o18) (v := ?v18) ?h18 (by kernel_rfl) ?q18 (Or.inl ⟨?w18, ?y18⟩) (by assumption) ?r18; (case h18 => ((simp only [g1, g2, g3]); rfl)); (case q18 => exact fun _ _ _ h => h); (case w18 => rfl); (case y18 => (intro w' hSw; (try dsimp only at hSw); go_simp; (try with_reducible rfl))); (try simp only [Act.put, s1, s2, s3]))
            (refine takeH (i := 18) (oi := ?o19) (v := ?v19) ?h19 (by kernel_rfl) ?q19 (Or.inl ⟨?w19, ?y19⟩) (by assumption) ?r19; (case h19 => ((simp only [g1, g2, g3]); rfl)); (case q19 => exact fun _ _ _ h => h); (case w19 => rfl); (case y19 => (intro w' hSw; (try dsimp only at hSw); go_simp; (try with_reducible rfl))); (try simp only [Act.put, s1, s2, s3]))
            (refine takeH (i := 19) (oi := ?o20) (v := ?v20) ?h20 (by kernel_rfl) ?q20 (Or.inl ⟨?w20, ?y20⟩) (by assumption) ?r20; (case h20 => ((simp only [g1, g2, g3]); rfl)); (case q20 => exact fun _ _ _ h => h); (case w20 => rfl); (case y20 => (intro w' hSw; (try dsimp only at hSw); go_simp; (try with_reducible rfl))); (try simp only [Act.put, s1, s2, s3]))
            (refine takeH (i := 20) (oi := ?o21) (v := ?v21) ?h21 (by kernel_rfl) ?q21 (Or.inl ⟨?w21, ?y21⟩) (by assumption) ?r21; (case h21 => ((simp only [g1, g2, g3]); rfl)); (case q21 => exact fun _ _ _ h => h); (case w21 => rfl); (case y21 => (intro w' hSw; (try dsimp only at hSw); go_simp; (try with_reducible rfl))); (try simp only [Act.put, s1, s2, s3]))
            (refine takeH (i := 21) (oi := ?o22) (v := ?v22) ?h22 (by kernel_rfl) ?q22 (Or.inl ⟨?w22, ?y22⟩) (by assumption) ?r22; (case h22 => ((simp only [g1, g2, g3]); rfl)); (case q22 => exact fun _ _ _ h => h); (case w22 => rfl); (case y22 => (intro w' hSw; (try dsimp only at hSw); go_simp; (try with_reducible rfl))); (try simp only [Act.put, s1, s2, s3]))
            (refine takeH (i := 22) (oi := ?o23) (v := ?v23) ?h23 (by kernel_rfl) ?q23 (Or.inl ⟨?w23, ?y23⟩) (by assumption) ?r23; (case h23 => ((simp only [g1, g2, g3]); rfl)); (case q23 => exact fun _ _ _ h => h); (case w23 => rfl); (case y23 => (intro w' hSw; (try dsimp only at hSw); go_simp; (try with_reducible rfl))); (try simp only [Act.put, s1, s2, s3]))
            (refine takeH (i := 23) (oi := ?o24) (v := ?v24) ?h24 (by kernel_rfl) ?q24 (Or.inl ⟨?w24, ?y24⟩) (by assumption) ?r24; (case h24 => ((simp only [g1, g2, g3]); rfl)); (case q24 => exact fun _ _ _ h => h); (case w24 => rfl); (case y24 => (intro w' hSw; (try dsimp only at hSw); go_simp; (try with_reducible rfl))); (try simp only [Act.put, s1, s2, s3]))
            (refine takeH (i := 24) (oi := ?o25) (v := ?v25) ?h25 (by kernel_rfl) ?q25 (Or.inl ⟨?w25, ?y25⟩) (by assumption) ?r25; (case h25 => ((simp only [g1, g2, g3]); rfl)); (case q25 => exact fun _ _ _ h => h); (case w25 => rfl); (case y25 => (intro w' hSw; (try dsimp only at hSw); go_simp; (try with_reducible rfl))); (try simp only [Act.put, s1, s2, s3]))
            (refine takeH (i := 25) (oi := ?o26) (v := ?v26) ?h26 (by kernel_rfl) ?q26 (Or.inl ⟨?w26, ?y26⟩) (by assumption) ?r26; (case h26 => ((simp only [g1, g2, g3]); rfl)); (case q26 => exact fun _ _ _ h => h); (case w26 => rfl); (case y26 => (intro w' hSw; (try dsimp only at hSw); go_simp; (try with_reducible rfl))); (try simp only [Act.put, s1, s2, s3]))
            (refine takeH (i := 26) (oi := ?o27) (v := ?v27) ?h27 (by kernel_rfl) ?q27 (Or.inl ⟨?w27, ?y27⟩) (by assumption) ?r27; (case h27 => ((simp only [g1, g2, g3]); rfl)); (case q27 => exact fun _ _ _ h => h); (case w27 => rfl); (case y27 => (intro w' hSw; (try dsimp only at hSw); go_simp; (try with_reducible rfl))); (try simp only [Act.put, s1, s2, s3]))
            (refine takeH (i := 27) (oi := ?o28) (v := ?v28) ?h28 (by kernel_rfl) ?q28 (Or.inl ⟨?w28, ?y28⟩) (by assumption) ?r28; (case h28 => ((simp only [g1, g2, g3]); rfl)); (case q28 => exact fun _ _ _ h => h); (case w28 => rfl); (case y28 => (intro w' hSw; (try dsimp only at hSw); go_simp; (try with_reducible rfl))); (try simp only [Act.put, s1, s2, s3]))
            (refine takeH (i := 28) (oi := ?o29) (v := ?v29) ?h29 (by kernel_rfl) ?q29 (Or.inl ⟨?w29, ?y29⟩) (by assumption) ?r29; (case h29 => ((simp only [g1, g2, g3]); rfl)); (case q29 => exact fun _ _ _ h => h); (case w29 => rfl); (case y29 => (intro w' hSw; (try dsimp only at hSw); go_simp; (try with_reducible rfl))); (try simp only [Act.put, s1, s2, s3]))
            (refine takeH (i := 29) (oi := ?o30) (v := ?v30) ?h30 (by kernel_rfl) ?q30 (Or.inl ⟨?w30, ?y30⟩) (by assumption) ?r30; (case h30 => ((simp only [g1, g2, g3]); rfl)); (case q30 => exact fun _ _ _ h => h); (case w30 => rfl); (case y30 => (intro w' hSw; (try dsimp only at hSw); go_simp; (try with_reducible rfl))); (try simp only [Act.put, s1, s2, s3]))
            (refine takeH (i := 30) (oi := ?o31) (v := ?v31) ?h31 (by kernel_rfl) ?q31 (Or.inl ⟨?w31, ?y31⟩) (by assumption) ?r31; (case h31 => ((simp only [g1, g2, g3]); rfl)); (case q31 => exact fun _ _ _ h => h); (case w31 => rfl); (case y31 => (intro w' hSw; (try dsimp only at hSw); go_simp; (try with_reducible rfl))); (try simp only [Act.put, s1, s2, s3]))
            refine wpAnyH_done (by kernel_rfl) ?_ _
            clear hHd
            go_wp2_with fail
            go_loopw [8, 10] (fun v8 v10 wr' => ∃ j : Nat, (j : Int) ≤ xt + 1 - xf ∧ v10 = .int .i64 (xf + j) ∧ v8 = .int .i64 ((N + j : Nat) : Int) ∧ Kp w5 wr') (fun _ v10 _ => (xt + 1 - intOf v10).toNat)
            case atStart => exact ⟨0, by omega, by simp, by simp, (by (repeat (first | with_reducible assumption | with_reducible exact Kp.refl _ | with_reducible refine Kp.drew ?_ | with_reducible refine Kp.drewN ?_ _ | with_reducible refine Kp.alloc ?_ _ | ((with_reducible refine Kp.setCell ?_ ?_ _); rotate_left; (focus (first | omega | (simp; done) | (simp; omega)))) | with_reducible refine Kp.trans ?_ (by assumption))))⟩
            case round =>
              obtain ⟨j, hj, rfl, rfl, yk⟩ := hrel
              obtain ⟨g6, o6, e6, hg6, r6⟩ := entsOfSl (HS4.out.kp yk) (by omega)
              cases e6
              have d2 := r6 k _ HX.out 1 _ rfl
              by_cases hle : xf + (j : Int) ≤ xt
              · have hpj := HAT.out j (by show (j : Int) ≤ xt - xf; omega)
                obtain ⟨gp, op, rfl, hgp, rp⟩ := entsOfSl (HPP.out _ yk) (by omega)
                have dp := rp _ _ hpj 0 _ rfl
                simp only [Nat.add_zero, Nat.mul_one] at dp
                have jle : decide (xf + (j : Int) ≤ xt) = true := decide_eq_true hle
                obtain ⟨M, hM⟩ : ∃ M, N + j = M := ⟨_, rfl⟩
                have hMp : M < p.length := by omega
                have jge : decide ((p.length : Int) ≤ (M : Int)) = false := decide_eq_false (by omega)
                obtain ⟨z, hz⟩ : ∃ z, xf + (j : Int) = z := ⟨_, rfl⟩
                rw [hz] at dp jle ⊢
                rw [hM] at dp ⊢
                have jz : (z != z) = false := by simp
                have ez : IntKind.i64.wrap (z + 1) = z + 1 := by rw [IntKind.wrap_i64]; omega
                clear r6 rp hpj
                go_wp2_with fail
                go_roundw
                case rel => exact ⟨j + 1, by omega, by go_num, by go_num, (by (repeat (first | with_reducible assumption | with_reducible exact Kp.refl _ | with_reducible refine Kp.drew ?_ | with_reducible refine Kp.drewN ?_ _ | with_reducible refine Kp.alloc ?_ _ | ((with_reducible refine Kp.setCell ?_ ?_ _); rotate_left; (focus (first | omega | (simp; done) | (simp; omega)))) | with_reducible refine Kp.trans ?_ (by assumption))))⟩
                case measure => simp [intOf]; omega
              · have hjx : j = (xt + 1 - xf).toNat := by omega
                have jle : decide (xf + (j : Int) ≤ xt) = false := decide_eq_false hle
                have hL2 : N + j = (expL (R.take (k + 1))).length := by rw [hlen, hjx]
                rw [hL2]
                have HL2 := Lib.hid hL2
                clear r6 hlen hjx hL2
                go_wp2_with fail
                go_roundw
                case rel => exact ⟨k + 1, by omega, by go_num, rfl, (by (repeat (first | with_reducible assumption | with_reducible exact Kp.refl _ | with_reducible refine Kp.drew ?_ | with_reducible refine Kp.drewN ?_ _ | with_reducible refine Kp.alloc ?_ _ | ((with_reducible refine Kp.setCell ?_ ?_ _); rotate_left; (focus (first | omega | (simp; done) | (simp; omega)))) | with_reducible refine Kp.trans ?_ (by assumption))))⟩
                case measure => simp [intOf]; omega
          · obtain rfl : k = R.length := by omega
            have ji : decide ((R.length : Int) < (R.length : Int)) = false := decide_eq_false (by omega)
            have e1 : (expL (R.take R.length)).length = p.length := by rw [List.take_length, HEX.out]
            rw [e1]
            obtain ⟨T, hT⟩ : ∃ T, textL l = T := ⟨_, rfl⟩
            have kwr : Kp w _ := kw5.trans zk
            have je : ((p.length : Int) == (p.length : Int)) = true := by simp
            have jr : ((R.length : Int) == (R.length : Int)) = true := by simp
            have CT1 := Lib.hid (text_any a cap l _ (HE.out.kp kwr) (HL.out.kp kwr) (HGG.out _ kwr) (by omega))
            rw [hT] at CT1
            go_wp2_with fail
            refine CT1.out.mono ?_
            rintro e w6 ⟨rfl, k6⟩
            have kw6 := kwr.trans k6
            clear CT1 k6
            go_wp2_with fail
            refine (plain_any a cap l _ (HL.out.kp kw6) (by omega)).mono ?_
            rintro e w7 ⟨v7, rfl, hr7, k7⟩
            have kw7 := kw6.trans k7
            obtain ⟨a7, c7, rfl, s7⟩ := hr7.sl Ent.cells_len
            have CT2 := Lib.hid (refText_any a7 c7 l _ s7 (HGG.out _ kw7) (by omega))
            rw [hT] at CT2
            clear hr7 s7 k7 hT
            go_wp2_with fail
            refine CT2.out.mono ?_
            rintro e w8 ⟨rfl, k8⟩
            have kw8 := kw7.trans k8
            clear CT2 k8
            go_wp2_with fail
            refine (CAW.out _ kw8).mono ?_
            rintro e w9 ⟨rfl, k9⟩
            have kw9 := kw8.trans k9
            clear k9
            go_wp2_with fail
            (try go_ret)
            exact ⟨by first | rfl | simp, kw9⟩
      · go_wp2_with fail
        refine (tops_any pa pc p _ (HP.out.kp xk)).mono ?_
        rintro e w3 ⟨rfl, k3⟩
        rw [ht]
        have kw3 := xk.trans k3
        clear k3 ht
        go_wp2_with fail
        refine (CAW.out _ kw3).mono ?_
        rintro e w4 ⟨rfl, k4⟩
        go_wp2_with fail
        (try go_ret)
        exact ⟨rfl, kw3.trans k4⟩
set_option maxHeartbeats 1000000 in
theorem indexTexts_far (a pa : Option Addr) (len cap plen pc : Nat) (w : World) (he : Env w) (h : 60 < len ∨ 60 < plen) (h1 : len ≤ 9223372036854775807) (h2 : plen ≤ 9223372036854775807) :
    Calls Tryd.prog 3 #[.slice a len cap, .slice pa plen pc] w fun e w' => e = .returned (.bool true) ∧ Kp w w' := by
  have HE := Lib.hid he
  clear he
  by_cases h3 : 60 < len
  · have j1 : decide ((60 : Int) < (len : Int)) = true := decide_eq_true (by omega)
    have j2 : decide (60 < len) = true := decide_eq_true (by omega)
    go_enter Tryd.func3, Tryd.ntmps3
    go_wp2_with fail
    refine (awake9_any _ HE.out).mono ?_
    rintro e w7 ⟨rfl, k10⟩
    go_wp2_with fail
    (try go_ret)
    exact ⟨rfl, k10⟩
  · have j1 : decide ((60 : Int) < (len : Int)) = false := decide_eq_false (by omega)
    have j2 : decide (60 < len) = false := decide_eq_false (by omega)
    have j3 : decide ((60 : Int) < (plen : Int)) = true := decide_eq_true (by omega)
    have j4 : decide (60 < plen) = true := decide_eq_true (by omega)
    clear h
    go_enter Tryd.func3, Tryd.ntmps3
    go_wp2_with fail
    refine (awake9_any _ HE.out).mono ?_
    rintro e w7 ⟨rfl, k10⟩
    go_wp2_with fail
    (try go_ret)
    exact ⟨rfl, k10⟩
theorem indexTexts_row (x : SlV Ent) (p : SlV Int) (w : World) (hx : SlOk w 2 Ent.cells x.a x.len x.cap x.l ∧ ∀ y, y ∈ x.l → y.raw w) (hp : SlOk w 1 enc1 p.a p.len p.cap p.l ∧ ∀ z, z ∈ p.l → I64 z) (he : Env w) :
    Calls Tryd.prog 3 #[x.v, p.v] w fun e w' => e = .returned (.bool true) ∧ Kp w w' := by
  have e1 := hx.1.1
  have e2 := hp.1.1
  have q1 := hx.1.2.1
  have q2 := hx.1.2.2.1
  have q3 := hp.1.2.1
  have q4 := hp.1.2.2.1
  unfold maxLen at q2 q4
  by_cases h : 60 < x.len ∨ 60 < p.len
  · exact indexTexts_far _ _ _ _ _ _ w he h (by omega) (by omega)
  · have hx1 := hx.1
    have hp1 := hp.1
    unfold SlV.v
    rw [← e1] at h hx1 ⊢
    rw [← e2] at h hp1 ⊢
    exact indexTexts_main x.a p.a x.cap p.cap x.l p.l w he hx1 hx.2 hp1 hp.2 (by omega) (by omega)
end Go.Proofs.YtkgfnkfgmnijbaaDoor
