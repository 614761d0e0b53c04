/- The law MarkFollows: the walk. -/
import Derived.Test.YtiimbkiiffimiaaMark7

namespace Go.Proofs.Ytiimbkiiffimiaa

open Go.ChangeShapes Go.WideShapes Go.ChangeAt Go.RowKit Go.Shelf

theorem ofL_length (l : List Item) (cs : List Col) (P : Nat) : (ofL l cs P).length = nCh cs.length P := by unfold ofL; rw [List.length_map, List.length_range]
theorem ofL_get (l : List Item) (cs : List Col) (P k : Nat) (h : k < nCh cs.length P) : (ofL l cs P)[k]? = some (mkAt (pgs l cs P) k) := by
  unfold ofL
  rw [List.getElem?_map, List.getElem?_range h]; rfl

set_option maxRecDepth 100000 in
set_option maxHeartbeats 2000000 in
theorem markFollows_main (a ca : Option Addr) (cap ccap : Nat) (l : List Item) (cs : List Col) (P : Nat) (w : World) (hl : SlOk w 7 Item.cells a l.length cap l) (hc : SlOk w 6 Col.cells ca cs.length ccap cs) (h4 : l.length ≤ 100) (h6 : cs.length ≤ 60) (hP : 1 ≤ P) (hP2 : P ≤ 100) :
    Calls Try.prog 4 #[.slice a l.length cap, .slice ca cs.length ccap, .int .i64 (P : Int)] w fun e w' => e = .returned (.bool true) ∧ Kp w w' := by
  have C1 : Hid (∀ w', Kp w w' → Calls Try.prog 6 #[.slice a l.length cap, .slice ca cs.length ccap, .int .i64 (P : Int)] w' fun e w'' => ∃ v, e = .returned v ∧ Row w'' w'.heap.size 30 3 encM v (ofL l cs P) ∧ Kp w' w'') := Lib.hid fun w' k => markOf_yes a ca cap ccap l cs P w' (hl.kp k) (hc.kp k) h4 h6 hP (by omega)
  have HC := Lib.hid hc
  have HL := Lib.hid hl
  have hcl := hc.2.1
  have hcm := hc.2.2.1
  unfold maxLen at hcm
  have j1 : decide (100 < l.length) = false := decide_eq_false (by omega)
  have j2 : decide (60 < cs.length) = false := decide_eq_false (by omega)
  have j3 : decide ((100 : Int) < (l.length : Int)) = false := decide_eq_false (by omega)
  have j4 : decide ((60 : Int) < (cs.length : Int)) = false := decide_eq_false (by omega)
  have j5 : decide ((P : Int) < 1) = false := decide_eq_false (by omega)
  have j6 : decide ((100 : Int) < (P : Int)) = false := decide_eq_false (by omega)
  have j7 : decide (100 < P) = false := decide_eq_false (by omega)
  have hP0 : ¬ P = 0 := by omega
  have hML := ofL_length l cs P
  have hMG := ofL_get l cs P
  obtain ⟨M, hM⟩ : ∃ M, ofL l cs P = M := ⟨_, rfl⟩
  rw [hM] at C1 hML hMG
  have HML := Lib.hid hML
  have HMG := Lib.hid hMG
  have hM60 : M.length ≤ 60 := by rw [hML]; exact Nat.le_trans (nCh_le _ _ hP) h6
  clear hl hc hM hML hMG
  go_enter Try.func4, Try.ntmps4
  go_wp2_with fail
  refine (C1.out _ ((by (repeat (first | with_reducible assumption | with_reducible exact Kp.refl _ | with_reducible refine Kp.drew ?_ | with_reducible refine Kp.drewN ?_ _ | with_reducible refine Kp.alloc ?_ _ | ((with_reducible refine Kp.setCell ?_ ?_ _); rotate_left; (focus (first | omega | (simp; done) | (simp; omega)))) | with_reducible refine Kp.trans ?_ (by assumption)))) : Kp w _)).mono ?_
  rintro e w2 ⟨v1, rfl, xv1, k1⟩
  have kw2 := ((by (repeat (first | with_reducible assumption | with_reducible exact Kp.refl _ | with_reducible refine Kp.drew ?_ | with_reducible refine Kp.drewN ?_ _ | with_reducible refine Kp.alloc ?_ _ | ((with_reducible refine Kp.setCell ?_ ?_ _); rotate_left; (focus (first | omega | (simp; done) | (simp; omega)))) | with_reducible refine Kp.trans ?_ (by assumption)))) : Kp w _).trans k1
  obtain ⟨a1, c1, rfl, z1⟩ := xv1.sl (fun _ => rfl)
  have m1 := z1.2.1
  have m3 := z1.2.2.1
  unfold maxLen at m3
  have S1 := Lib.hid z1
  clear xv1 k1 z1 C1
  go_wp2
  go_loopw [8, 9] (fun v8 v9 wr => ∃ (k : Nat), k ≤ M.length ∧ v9 = .int .i64 k ∧ v8 = .int .i64 (lastK (pgs l cs P) k) ∧ Kp w2 wr) (fun _ v9 _ => M.length - (intOf v9).toNat)
  case atStart => exact ⟨0, Nat.zero_le _, rfl, rfl, (by (repeat (first | with_reducible assumption | with_reducible exact Kp.refl _ | with_reducible refine Kp.drew ?_ | with_reducible refine Kp.drewN ?_ _ | with_reducible refine Kp.alloc ?_ _ | ((with_reducible refine Kp.setCell ?_ ?_ _); rotate_left; (focus (first | omega | (simp; done) | (simp; omega)))) | with_reducible refine Kp.trans ?_ (by assumption))))⟩
  case round =>
    obtain ⟨k, hk, rfl, rfl, xk⟩ := hrel
    by_cases hlt : k < M.length
    · have hkN : k < nCh cs.length P := by rw [← HML.out]; exact hlt
      have hkl := (lt_nCh hP).1 hkN
      have hx := HMG.out k hkN
      have t1 := S1.out.kp xk
      rcases t1.2.2.2 with e | ⟨ga, oa, rfl, hga, r1⟩
      · rw [e] at hlt; simp at hlt
      rcases HC.out.2.2.2 with e | ⟨b, off, rfl, hb, _⟩
      · rw [e] at hkl; simp at hkl
      obtain ⟨p, hp⟩ : ∃ p, pgs l cs P k = p := ⟨_, rfl⟩
      obtain ⟨d, hd⟩ : ∃ d, lastK (pgs l cs P) k = d := ⟨_, rfl⟩
      have hmk : mkAt (pgs l cs P) k = ⟨d, p.headD d, p.getLastD d⟩ := by
        unfold mkAt
        rw [show lastK (pgs l cs P) (k + 1) = (pgs l cs P k).getLastD (lastK (pgs l cs P) k) from rfl, hd, hp]
      have HNX : Hid (lastK (pgs l cs P) (k + 1) = p.getLastD d) := Lib.hid (by
        rw [show lastK (pgs l cs P) (k + 1) = (pgs l cs P k).getLastD (lastK (pgs l cs P) k) from rfl, hd, hp])
      rw [hmk] at hx
      rw [hd]
      have d0 := r1 k _ hx 0 _ rfl; have d1 := r1 k _ hx 1 _ rfl; have d2 := r1 k _ hx 2 _ rfl
      simp only [Nat.add_zero] at d0
      have kw3 := kw2.trans xk
      obtain ⟨m, hm⟩ : ∃ m, min P (cs.length - k * P) = m := ⟨_, rfl⟩
      have hcs : SlOk w 6 Col.cells (some ⟨b, off + k * P * 6, none⟩) (chunkL cs P k).length (ccap - k * P) (chunkL cs P k) := HC.out.part (by omega) (by omega) (by omega) (by omega)
      have hcl2 := chunkL_length hkl
      have C2 : Hid (∀ w', Kp w w' → Calls Try.prog 11 #[.slice a l.length cap, .slice (some ⟨b, off + k * P * 6, none⟩) m (ccap - k * P)] w' fun e w'' => ∃ v, e = .returned v ∧ Row w'' w'.heap.size 3 1 enc1 v p ∧ Kp w' w'') := Lib.hid (fun w' kk => by
        have h := page_any a _ cap _ l (chunkL cs P k) w' (HL.out.kp kk) (hcs.kp kk) h4 (by omega)
        rw [hcl2, hm] at h
        unfold pgs at hp
        rw [hp] at h; exact h)
      obtain ⟨I, hI⟩ : ∃ I, k * P = I := ⟨_, rfl⟩
      obtain ⟨J, hJ⟩ : ∃ I, (k + 1) * P = I := ⟨_, rfl⟩
      have hIJ : J = I + P := by rw [← hI, ← hJ, Nat.add_mul, Nat.one_mul]
      have e1 : (k : Int) * (P : Int) = (I : Int) := by rw [← hI]; simp
      have e2 : ((k : Int) + 1) * (P : Int) = (J : Int) := by rw [← hJ]; simp
      rw [hI] at C2 hkl hm
      obtain ⟨E, hE, hmin, hif⟩ : ∃ E, E = I + m ∧ min (J : Int) (cs.length : Int) = (E : Int) ∧ (if cs.length < J then (cs.length : Int) else (J : Int)) = (E : Int) := ⟨_, rfl, by omega, by split <;> omega⟩
      have ew1 : IntKind.i64.wrap ((k : Int) * (P : Int)) = (I : Int) := by rw [e1, IntKind.wrap_i64]; omega
      have ew2 : IntKind.i64.wrap (((k : Int) + 1) * (P : Int)) = (J : Int) := by rw [e2, IntKind.wrap_i64]; omega
      have eE : E - I = m := by omega
      have hE1 : E ≤ ccap := by omega
      have hE2 : I ≤ E := by omega
      have hne : ¬ ccap = I := by omega
      have HXK := Lib.hid xk
      clear hcs hcl2 hI hJ hIJ hm hE hkl hx r1 t1 hp hd hmk e1 e2 S1 HC HL xk
      have j8 : (d != d) = false := by simp
      go_wp2_with fail
      refine (C2.out _ kw3).mono ?_
      rintro e w4 ⟨v2, rfl, xv2, k4⟩
      have kq : Kp wr w4 := k4
      have f0 := (kq.cell (p := ⟨ga, oa + k * 3, none⟩) hga).trans d0
      have f1 := (kq.cell (p := ⟨ga, oa + k * 3 + 1, none⟩) hga).trans d1
      have f2 := (kq.cell (p := ⟨ga, oa + k * 3 + 2, none⟩) hga).trans d2
      have ng : ga < w4.heap.size := Nat.lt_of_lt_of_le hga kq.size
      have KX : Hid (Kp w2 w4.drew) := Lib.hid (HXK.out.trans kq).drew
      obtain ⟨a2, c2, rfl, z2⟩ := xv2.sl (fun _ => rfl)
      clear xv2 k4 kq C2 hmin hif ew1 ew2 eE hE1 hE2 hne d0 d1 d2 kw3 z2 hga
      rcases p with _ | ⟨p0, _ | ⟨p1, q⟩⟩
      · simp only [List.headD_nil, List.getLastD_nil, List.length_nil] at f1 f2 HNX ⊢
        go_wp2_with fail
        (refine wp_region_held_drew (S := (fun w' => (∀ b o, b < w4.heap.size → w'.cell? ⟨b, o, none⟩ = w4.cell? ⟨b, o, none⟩) ∧ Kp w4 w')) (by kernel_rfl) ?_ (fun hHd => ?_); (focus ((try dsimp only); (first | with_reducible assumption | with_reducible exact held_start _ | with_reducible exact held_next (by assumption) (by assumption) | with_reducible exact held_alloc (by assumption) _ | with_reducible exact held_drew (by assumption) | ((with_reducible refine held_kp ?_); (repeat (first | with_reducible assumption | with_reducible exact Kp.refl _ | with_reducible refine Kp.drew ?_ | with_reducible refine Kp.drewN ?_ _ | with_reducible refine Kp.alloc ?_ _ | ((with_reducible refine Kp.setCell ?_ ?_ _); rotate_left; (focus (first | omega | (simp; done) | (simp; omega)))) | with_reducible refine Kp.trans ?_ (by assumption))))))))
        (refine takeH (i := 0) (oi := ?o1) (v := ?v1) ?h1 (by kernel_rfl) ?q1 (Or.inl ⟨?w1, ?y1⟩) (by assumption) ?r1; (case h1 => ((simp only [g1, g3]); rfl)); (case q1 => exact fun _ _ _ h => h); (case w1 => rfl); (case y1 => (intro w' hSw; (try dsimp only at hSw); go_simp; (try with_reducible rfl))); (try simp only [Act.put, s1, s2, s3]))
        (refine takeH (i := 1) (oi := ?o2) (v := ?v2) ?h2 (by kernel_rfl) ?q2 (Or.inl ⟨?w2, ?y2⟩) (by assumption) ?r2; (case h2 => ((simp only [g1, g2, g3]); rfl)); (case q2 => exact fun _ _ _ h => h); (case w2 => rfl); (case y2 => (intro w' hSw; (try dsimp only at hSw); go_simp; (try with_reducible rfl))); (try simp only [Act.put, s1, s2, s3]))
        (refine takeH (i := 2) (oi := ?o3) (v := ?v3) ?h3 (by kernel_rfl) ?q3 (Or.inl ⟨?w3, ?y3⟩) (by assumption) ?r3; (case h3 => ((simp only [g1, g2, g3]); rfl)); (case q3 => exact fun _ _ _ h => h); (case w3 => rfl); (case y3 => (intro w' hSw; (try dsimp only at hSw); go_simp; (try with_reducible rfl))); (try simp only [Act.put, s1, s2, s3]))
        (refine takeH (i := 3) (oi := ?o4) (v := ?v4) ?h4 (by kernel_rfl) ?q4 (Or.inl ⟨?w4, ?y4⟩) (by assumption) ?r4; (case h4 => ((simp only [g1, g2, g3]); rfl)); (case q4 => exact fun _ _ _ h => h); (case w4 => rfl); (case y4 => (intro w' hSw; (try dsimp only at hSw); go_simp; (try with_reducible rfl))); (try simp only [Act.put, s1, s2, s3]))
        (refine takeH (i := 4) (oi := ?o5) (v := ?v5) ?h5 (by kernel_rfl) ?q5 (Or.inl ⟨?w5, ?y5⟩) (by assumption) ?r5; (case h5 => ((simp only [g1, g2, g3]); rfl)); (case q5 => exact fun _ _ _ h => h); (case w5 => rfl); (case y5 => (intro w' hSw; (try dsimp only at hSw); go_simp; (try with_reducible rfl))); (try simp only [Act.put, s1, s2, s3]))
        (refine takeH (i := 5) (oi := ?o6) (v := ?v6) ?h6 (by kernel_rfl) ?q6 (Or.inl ⟨?w6, ?y6⟩) (by assumption) ?r6; (case h6 => ((simp only [g1, g2, g3]); rfl)); (case q6 => exact fun _ _ _ h => h); (case w6 => rfl); (case y6 => (intro w' hSw; (try dsimp only at hSw); go_simp; (try with_reducible rfl))); (try simp only [Act.put, s1, s2, s3]))
        (refine takeH (i := 6) (oi := ?o7) (v := ?v7) ?h7 (by kernel_rfl) ?q7 (Or.inl ⟨?w7, ?y7⟩) (by assumption) ?r7; (case h7 => ((simp only [g1, g2, g3]); rfl)); (case q7 => exact fun _ _ _ h => h); (case w7 => rfl); (case y7 => (intro w' hSw; (try dsimp only at hSw); go_simp; (try with_reducible rfl))); (try simp only [Act.put, s1, s2, s3]))
        (refine takeH (i := 7) (oi := ?o8) (v := ?v8) ?h8 (by kernel_rfl) ?q8 (Or.inl ⟨?w8, ?y8⟩) (by assumption) ?r8; (case h8 => ((simp only [g1, g2, g3]); rfl)); (case q8 => exact fun _ _ _ h => h); (case w8 => rfl); (case y8 => (intro w' hSw; (try dsimp only at hSw); go_simp; (try with_reducible rfl))); (try simp only [Act.put, s1, s2, s3]))
        (refine takeH (i := 8) (oi := ?o9) (v := ?v9) ?h9 (by kernel_rfl) ?q9 (Or.inl ⟨?w9, ?y9⟩) (by assumption) ?r9; (case h9 => ((simp only [g1, g2, g3]); rfl)); (case q9 => exact fun _ _ _ h => h); (case w9 => rfl); (case y9 => (intro w' hSw; (try dsimp only at hSw); go_simp; (try with_reducible rfl))); (try simp only [Act.put, s1, s2, s3]))
        (refine takeH (i := 9) (oi := ?o10) (v := ?v10) ?h10 (by kernel_rfl) ?q10 (Or.inl ⟨?w10, ?y10⟩) (by assumption) ?r10; (case h10 => ((simp only [g1, g2, g3]); rfl)); (case q10 => exact fun _ _ _ h => h); (case w10 => rfl); (case y10 => (intro w' hSw; (try dsimp only at hSw); go_simp; (try with_reducible rfl))); (try simp only [Act.put, s1, s2, s3]))
        (refine takeH (i := 10) (oi := ?o11) (v := ?v11) ?h11 (by kernel_rfl) ?q11 (Or.inl ⟨?w11, ?y11⟩) (by assumption) ?r11; (case h11 => ((simp only [g1, g2, g3]); rfl)); (case q11 => exact fun _ _ _ h => h); (case w11 => rfl); (case y11 => (intro w' hSw; (try dsimp only at hSw); go_simp; (try with_reducible rfl))); (try simp only [Act.put, s1, s2, s3]))
        (refine takeH (i := 11) (oi := ?o12) (v := ?v12) ?h12 (by kernel_rfl) ?q12 (Or.inl ⟨?w12, ?y12⟩) (by assumption) ?r12; (case h12 => ((simp only [g1, g2, g3]); rfl)); (case q12 => exact fun _ _ _ h => h); (case w12 => rfl); (case y12 => (intro w' hSw; (try dsimp only at hSw); go_simp; (try with_reducible rfl))); (try simp only [Act.put, s1, s2, s3]))
        (refine takeH (i := 12) (oi := ?o13) (v := ?v13) ?h13 (by kernel_rfl) ?q13 (Or.inl ⟨?w13, ?y13⟩) (by assumption) ?r13; (case h13 => ((simp only [g1, g2, g3]); rfl)); (case q13 => exact fun _ _ _ h => h); (case w13 => rfl); (case y13 => (intro w' hSw; (try dsimp only at hSw); go_simp; (try with_reducible rfl))); (try simp only [Act.put, s1, s2, s3]))
        (refine takeH (i := 13) (oi := ?o14) (v := ?v14) ?h14 (by kernel_rfl) ?q14 (Or.inl ⟨?w14, ?y14⟩) (by assumption) ?r14; (case h14 => ((simp only [g1, g2, g3]); rfl)); (case q14 => exact fun _ _ _ h => h); (case w14 => rfl); (case y14 => (intro w' hSw; (try dsimp only at hSw); go_simp; (try with_reducible rfl))); (try simp only [Act.put, s1, s2, s3]))
        (refine takeH (i := 14) (oi := ?o15) (v := ?v15) ?h15 (by kernel_rfl) ?q15 (Or.inl ⟨?w15, ?y15⟩) (by assumption) ?r15; (case h15 => ((simp only [g1, g2, g3]); rfl)); (case q15 => exact fun _ _ _ h => h); (case w15 => rfl); (case y15 => (intro w' hSw; (try dsimp only at hSw); go_simp; (try with_reducible rfl))); (try simp only [Act.put, s1, s2, s3]))
        (refine takeH (i := 15) (oi := ?o16) (v := ?v16) ?h16 (by kernel_rfl) ?q16 (Or.inl ⟨?w16, ?y16⟩) (by assumption) ?r16; (case h16 => ((simp only [g1, g2, g3]); rfl)); (case q16 => exact fun _ _ _ h => h); (case w16 => rfl); (case y16 => (intro w' hSw; (try dsimp only at hSw); go_simp; (try with_reducible rfl))); (try simp only [Act.put, s1, s2, s3]))
        (refine takeH (i := 16) (oi := ?o17) (v := ?v17) ?h17 (by kernel_rfl) ?q17 (Or.inl ⟨?w17, ?y17⟩) (by assumption) ?r17; (case h17 => ((simp only [g1, g2, g3]); rfl)); (case q17 => exact fun _ _ _ h => h); (case w17 => rfl); (case y17 => (intro w' hSw; (try dsimp only at hSw); go_simp; (try with_reducible rfl))); (try simp only [Act.put, s1, s2, s3]))
        (refine takeH (i := 17) (oi := ?o18) (v := ?v18) ?h18 (by kernel_rfl) ?q18 (Or.inl ⟨?w18, ?y18⟩) (by assumption) ?r18; (case h18 => ((simp only [g1, g2, g3]); rfl)); (case q18 => exact fun _ _ _ h => h); (case w18 => rfl); (case y18 => (intro w' hSw; (try dsimp only at hSw); go_simp; (try with_reducible rfl))); (try simp only [Act.put, s1, s2, s3]))
        (refine takeH (i := 18) (oi := ?o19) (v := ?v19) ?h19 (by kernel_rfl) ?q19 (Or.inl ⟨?w19, ?y19⟩) (by assumption) ?r19; (case h19 => ((simp only [g1, g2, g3]); rfl)); (case q19 => exact fun _ _ _ h => h); (case w19 => rfl); (case y19 => (intro w' hSw; (try dsimp only at hSw); go_simp; (try with_reducible rfl))); (try simp only [Act.put, s1, s2, s3]))
        (refine takeH (i := 19) (oi := ?o20) (v := ?v20) ?h20 (by kernel_rfl) ?q20 (Or.inl ⟨?w20, ?y20⟩) (by assumption) ?r20; (case h20 => ((simp only [g1, g2, g3]); rfl)); (case q20 => exact fun _ _ _ h => h); (case w20 => rfl); (case y20 => (intro w' hSw; (try dsimp only at hSw); go_simp; (try with_reducible rfl))); (try simp only [Act.put, s1, s2, s3]))
        (refine takeH (i := 20) (oi := ?o21) (v := ?v21) ?h21 (by kernel_rfl) ?q21 (Or.inl ⟨?w21, ?y21⟩) (by assumption) ?r21; (case h21 => ((simp only [g1, g2, g3]); rfl)); (case q21 => exact fun _ _ _ h => h); (case w21 => rfl); (case y21 => (intro w' hSw; (try dsimp only at hSw); go_simp; (try with_reducible rfl))); (try simp only [Act.put, s1, s2, s3]))
        (refine takeH (i := 21) (oi := ?o22) (v := ?v22) ?h22 (by kernel_rfl) ?q22 (Or.inl ⟨?w22, ?y22⟩) (by assumption) ?r22; (case h22 => ((simp only [g1, g2, g3]); rfl)); (case q22 => exact fun _ _ _ h => h); (case w22 => rfl); (case y22 => (intro w' hSw; (try dsimp only at hSw); go_simp; (try with_reducible rfl))); (try simp only [Act.put, s1, s2, s3]))
        (refine takeH (i := 22) (oi := ?o23) (v := ?v23) ?h23 (by kernel_rfl) ?q23 (Or.inl ⟨?w23, ?y23⟩) (by assumption) ?r23; (case h23 => ((simp only [g1, g2, g3]); rfl)); (case q23 => exact fun _ _ _ h => h); (case w23 => rfl); (case y23 => (intro w' hSw; (try dsimp only at hSw); go_simp; (try with_reducible rfl))); (try simp only [Act.put, s1, s2, s3]))
        (refine takeH (i := 23) (oi := ?o24) (v := ?v24) ?h24 (by kernel_rfl) ?q24 (Or.inl ⟨?w24, ?y24⟩) (by assumption) ?r24; (case h24 => ((simp only [g1, g2, g3]); rfl)); (case q24 => exact fun _ _ _ h => h); (case w24 => rfl); (case y24 => (intro w' hSw; (try dsimp only at hSw); go_simp; (try with_reducible rfl))); (try simp only [Act.put, s1, s2, s3]))
        (refine takeH (i := 24) (oi := ?o25) (v := ?v25) ?h25 (by kernel_rfl) ?q25 (Or.inl ⟨?w25, ?y25⟩) (by assumption) ?r25; (case h25 => ((simp only [g1, g2, g3]); rfl)); (case q25 => exact fun _ _ _ h => h); (case w25 => rfl); (case y25 => (intro w' hSw; (try dsimp only at hSw); go_simp; (try with_reducible rfl))); (try simp only [Act.put, s1, s2, s3]))
        (refine takeH (i := 25) (oi := ?o26) (v := ?v26) ?h26 (by kernel_rfl) ?q26 (Or.inl ⟨?w26, ?y26⟩) (by assumption) ?r26; (case h26 => ((simp only [g1, g2, g3]); rfl)); (case q26 => exact fun _ _ _ h => h); (case w26 => rfl); (case y26 => (intro w' hSw; (try dsimp only at hSw); go_simp; (try with_reducible rfl))); (try simp only [Act.put, s1, s2, s3]))
        (refine takeH (i := 26) (oi := ?o27) (v := undef) ?h27 (by kernel_rfl) ?q27 (Or.inr ⟨?w27, rfl⟩) (by assumption) ?r27; (case h27 => ((simp only [g1, g2, g3]); rfl)); (case q27 => exact fun _ _ _ h => h); (case w27 => rfl); (try simp only [Act.put, s1, s2, s3]))
        (refine takeH (i := 27) (oi := ?o28) (v := undef) ?h28 (by kernel_rfl) ?q28 (Or.inr ⟨?w28, rfl⟩) (by assumption) ?r28; (case h28 => ((simp only [g1, g2, g3]); rfl)); (case q28 => exact fun _ _ _ h => h); (case w28 => rfl); (try simp only [Act.put, s1, s2, s3]))
        (refine takeH (i := 28) (oi := ?o29) (v := undef) ?h29 (by kernel_rfl) ?q29 (Or.inr ⟨?w29, rfl⟩) (by assumption) ?r29; (case h29 => ((simp only [g1, g2, g3]); rfl)); (case q29 => exact fun _ _ _ h => h); (case w29 => rfl); (try simp only [Act.put, s1, s2, s3]))
        (refine takeH (i := 29) (oi := ?o30) (v := undef) ?h30 (by kernel_rfl) ?q30 (Or.inr ⟨?w30, rfl⟩) (by assumption) ?r30; (case h30 => ((simp only [g1, g2, g3]); rfl)); (case q30 => exact fun _ _ _ h => h); (case w30 => rfl); (try simp only [Act.put, s1, s2, s3]))
        (refine takeH (i := 30) (oi := ?o31) (v := undef) ?h31 (by kernel_rfl) ?q31 (Or.inr ⟨?w31, rfl⟩) (by assumption) ?r31; (case h31 => ((simp only [g1, g2, g3]); rfl)); (case q31 => exact fun _ _ _ h => h); (case w31 => rfl); (try simp only [Act.put, s1, s2, s3]))
        (refine takeH (i := 31) (oi := ?o32) (v := undef) ?h32 (by kernel_rfl) ?q32 (Or.inr ⟨?w32, rfl⟩) (by assumption) ?r32; (case h32 => ((simp only [g1, g2, g3]); rfl)); (case q32 => exact fun _ _ _ h => h); (case w32 => rfl); (try simp only [Act.put, s1, s2, s3]))
        (refine takeH (i := 32) (oi := ?o33) (v := undef) ?h33 (by kernel_rfl) ?q33 (Or.inr ⟨?w33, rfl⟩) (by assumption) ?r33; (case h33 => ((simp only [g1, g2, g3]); rfl)); (case q33 => exact fun _ _ _ h => h); (case w33 => rfl); (try simp only [Act.put, s1, s2, s3]))
        (refine takeH (i := 33) (oi := ?o34) (v := undef) ?h34 (by kernel_rfl) ?q34 (Or.inr ⟨?w34, rfl⟩) (by assumption) ?r34; (case h34 => ((simp only [g1, g2, g3]); rfl)); (case q34 => exact fun _ _ _ h => h); (case w34 => rfl); (try simp only [Act.put, s1, s2, s3]))
        (refine takeH (i := 34) (oi := ?o35) (v := undef) ?h35 (by kernel_rfl) ?q35 (Or.inr ⟨?w35, rfl⟩) (by assumption) ?r35; (case h35 => ((simp only [g1, g2, g3]); rfl)); (case q35 => exact fun _ _ _ h => h); (case w35 => rfl); (try simp only [Act.put, s1, s2, s3]))
        (refine takeH (i := 35) (oi := ?o36) (v := undef) ?h36 (by kernel_rfl) ?q36 (Or.inr ⟨?w36, rfl⟩) (by assumption) ?r36; (case h36 => ((simp only [g1, g2, g3]); rfl)); (case q36 => exact fun _ _ _ h => h); (case w36 => rfl); (try simp only [Act.put, s1, s2, s3]))
        (refine takeH (i := 36) (oi := ?o37) (v := undef) ?h37 (by kernel_rfl) ?q37 (Or.inr ⟨?w37, rfl⟩) (by assumption) ?r37; (case h37 => ((simp only [g1, g2, g3]); rfl)); (case q37 => exact fun _ _ _ h => h); (case w37 => rfl); (try simp only [Act.put, s1, s2, s3]))
        (refine takeH (i := 37) (oi := ?o38) (v := ?v38) ?h38 (by kernel_rfl) ?q38 (Or.inl ⟨?w38, ?y38⟩) (by assumption) ?r38; (case h38 => ((simp only [g1, g2, g3]); rfl)); (case q38 => exact fun _ _ _ h => h); (case w38 => rfl); (case y38 => (intro w' hSw; (try dsimp only at hSw); go_simp; (try with_reducible rfl))); (try simp only [Act.put, s1, s2, s3]))
        (refine takeH (i := 38) (oi := ?o39) (v := ?v39) ?h39 (by kernel_rfl) ?q39 (Or.inl ⟨?w39, ?y39⟩) (by assumption) ?r39; (case h39 => ((simp only [g1, g2, g3]); rfl)); (case q39 => exact fun _ _ _ h => h); (case w39 => rfl); (case y39 => (intro w' hSw; (try dsimp only at hSw); go_simp; (try with_reducible rfl))); (try simp only [Act.put, s1, s2, s3]))
        refine wpAnyH_done (by kernel_rfl) ?_ _
        go_wp2
        go_roundw
        case rel => exact ⟨k + 1, by omega, by go_num, by rw [HNX.out], KX.out⟩
        case measure => simp [intOf]; omega
      · have e3 : ([p0] : List Int).headD d = p0 := rfl
        have e4 : ([p0] : List Int).getLastD d = p0 := rfl
        have e5 : ([p0] : List Int).length = 1 := rfl
        rw [e3] at f1
        rw [e4] at f2 HNX
        rw [e5]
        have j9 : (p0 != p0) = false := by simp
        go_wp2_with fail
        (refine wp_region_held_drew (S := (fun w' => (∀ b o, b < w4.heap.size → w'.cell? ⟨b, o, none⟩ = w4.cell? ⟨b, o, none⟩) ∧ Kp w4 w')) (by kernel_rfl) ?_ (fun hHd => ?_); (focus ((try dsimp only); (first | with_reducible assumption | with_reducible exact held_start _ | with_reducible exact held_next (by assumption) (by assumption) | with_reducible exact held_alloc (by assumption) _ | with_reducible exact held_drew (by assumption) | ((with_reducible refine held_kp ?_); (repeat (first | with_reducible assumption | with_reducible exact Kp.refl _ | with_reducible refine Kp.drew ?_ | with_reducible refine Kp.drewN ?_ _ | with_reducible refine Kp.alloc ?_ _ | ((with_reducible refine Kp.setCell ?_ ?_ _); rotate_left; (focus (first | omega | (simp; done) | (simp; omega)))) | with_reducible refine Kp.trans ?_ (by assumption))))))))
        (refine takeH (i := 0) (oi := ?o40) (v := ?v40) ?h40 (by kernel_rfl) ?q40 (Or.inl ⟨?w40, ?y40⟩) (by assumption) ?r40; (case h40 => ((simp only [g1, g3]); rfl)); (case q40 => exact fun _ _ _ h => h); (case w40 => rfl); (case y40 => (intro w' hSw; (try dsimp only at hSw); go_simp; (try with_reducible rfl))); (try simp only [Act.put, s1, s2, s3]))
        (refine takeH (i := 1) (oi := ?o41) (v := ?v41) ?h41 (by kernel_rfl) ?q41 (Or.inl ⟨?w41, ?y41⟩) (by assumption) ?r41; (case h41 => ((simp only [g1, g2, g3]); rfl)); (case q41 => exact fun _ _ _ h => h); (case w41 => rfl); (case y41 => (intro w' hSw; (try dsimp only at hSw); go_simp; (try with_reducible rfl))); (try simp only [Act.put, s1, s2, s3]))
        (refine takeH (i := 2) (oi := ?o42) (v := ?v42) ?h42 (by kernel_rfl) ?q42 (Or.inl ⟨?w42, ?y42⟩) (by assumption) ?r42; (case h42 => ((simp only [g1, g2, g3]); rfl)); (case q42 => exact fun _ _ _ h => h); (case w42 => rfl); (case y42 => (intro w' hSw; (try dsimp only at hSw); go_simp; (try with_reducible rfl))); (try simp only [Act.put, s1, s2, s3]))
        (refine takeH (i := 3) (oi := ?o43) (v := ?v43) ?h43 (by kernel_rfl) ?q43 (Or.inl ⟨?w43, ?y43⟩) (by assumption) ?r43; (case h43 => ((simp only [g1, g2, g3]); rfl)); (case q43 => exact fun _ _ _ h => h); (case w43 => rfl); (case y43 => (intro w' hSw; (try dsimp only at hSw); go_simp; (try with_reducible rfl))); (try simp only [Act.put, s1, s2, s3]))
        (refine takeH (i := 4) (oi := ?o44) (v := undef) ?h44 (by kernel_rfl) ?q44 (Or.inr ⟨?w44, rfl⟩) (by assumption) ?r44; (case h44 => ((simp only [g1, g2, g3]); rfl)); (case q44 => exact fun _ _ _ h => h); (case w44 => rfl); (try simp only [Act.put, s1, s2, s3]))
        (refine takeH (i := 5) (oi := ?o45) (v := undef) ?h45 (by kernel_rfl) ?q45 (Or.inr ⟨?w45, rfl⟩) (by assumption) ?r45; (case h45 => ((simp only [g1, g2, g3]); rfl)); (case q45 => exact fun _ _ _ h => h); (case w45 => rfl); (try simp only [Act.put, s1, s2, s3]))
        (refine takeH (i := 6) (oi := ?o46) (v := undef) ?h46 (by kernel_rfl) ?q46 (Or.inr ⟨?w46, rfl⟩) (by assumption) ?r46; (case h46 => ((simp only [g1, g2, g3]); rfl)); (case q46 => exact fun _ _ _ h => h); (case w46 => rfl); (try simp only [Act.put, s1, s2, s3]))
        (refine takeH (i := 7) (oi := ?o47) (v := undef) ?h47 (by kernel_rfl) ?q47 (Or.inr ⟨?w47, rfl⟩) (by assumption) ?r47; (case h47 => ((simp only [g1, g2, g3]); rfl)); (case q47 => exact fun _ _ _ h => h); (case w47 => rfl); (try simp only [Act.put, s1, s2, s3]))
        (refine takeH (i := 8) (oi := ?o48) (v := undef) ?h48 (by kernel_rfl) ?q48 (Or.inr ⟨?w48, rfl⟩) (by assumption) ?r48; (case h48 => ((simp only [g1, g2, g3]); rfl)); (case q48 => exact fun _ _ _ h => h); (case w48 => rfl); (try simp only [Act.put, s1, s2, s3]))
        (refine takeH (i := 9) (oi := ?o49) (v := undef) ?h49 (by kernel_rfl) ?q49 (Or.inr ⟨?w49, rfl⟩) (by assumption) ?r49; (case h49 => ((simp only [g1, g2, g3]); rfl)); (case q49 => exact fun _ _ _ h => h); (case w49 => rfl); (try simp only [Act.put, s1, s2, s3]))
        (refine takeH (i := 10) (oi := ?o50) (v := undef) ?h50 (by kernel_rfl) ?q50 (Or.inr ⟨?w50, rfl⟩) (by assumption) ?r50; (case h50 => ((simp only [g1, g2, g3]); rfl)); (case q50 => exact fun _ _ _ h => h); (case w50 => rfl); (try simp only [Act.put, s1, s2, s3]))
        (refine takeH (i := 11) (oi := ?o51) (v := undef) ?h51 (by kernel_rfl) ?q51 (Or.inr ⟨?w51, rfl⟩) (by assumption) ?r51; (case h51 => ((simp only [g1, g2, g3]); rfl)); (case q51 => exact fun _ _ _ h => h); (case w51 => rfl); (try simp only [Act.put, s1, s2, s3]))
        (refine takeH (i := 12) (oi := ?o52) (v := undef) ?h52 (by kernel_rfl) ?q52 (Or.inr ⟨?w52, rfl⟩) (by assumption) ?r52; (case h52 => ((simp only [g1, g2, g3]); rfl)); (case q52 => exact fun _ _ _ h => h); (case w52 => rfl); (try simp only [Act.put, s1, s2, s3]))
        (refine takeH (i := 13) (oi := ?o53) (v := undef) ?h53 (by kernel_rfl) ?q53 (Or.inr ⟨?w53, rfl⟩) (by assumption) ?r53; (case h53 => ((simp only [g1, g2, g3]); rfl)); (case q53 => exact fun _ _ _ h => h); (case w53 => rfl); (try simp only [Act.put, s1, s2, s3]))
        (refine takeH (i := 14) (oi := ?o54) (v := undef) ?h54 (by kernel_rfl) ?q54 (Or.inr ⟨?w54, rfl⟩) (by assumption) ?r54; (case h54 => ((simp only [g1, g2, g3]); rfl)); (case q54 => exact fun _ _ _ h => h); (case w54 => rfl); (try simp only [Act.put, s1, s2, s3]))
        (refine takeH (i := 15) (oi := ?o55) (v := undef) ?h55 (by kernel_rfl) ?q55 (Or.inr ⟨?w55, rfl⟩) (by assumption) ?r55; (case h55 => ((simp only [g1, g2, g3]); rfl)); (case q55 => exact fun _ _ _ h => h); (case w55 => rfl); (try simp only [Act.put, s1, s2, s3]))
        (refine takeH (i := 16) (oi := ?o56) (v := undef) ?h56 (by kernel_rfl) ?q56 (Or.inr ⟨?w56, rfl⟩) (by assumption) ?r56; (case h56 => ((simp only [g1, g2, g3]); rfl)); (case q56 => exact fun _ _ _ h => h); (case w56 => rfl); (try simp only [Act.put, s1, s2, s3]))
        (refine takeH (i := 17) (oi := ?o57) (v := undef) ?h57 (by kernel_rfl) ?q57 (Or.inr ⟨?w57, rfl⟩) (by assumption) ?r57; (case h57 => ((simp only [g1, g2, g3]); rfl)); (case q57 => exact fun _ _ _ h => h); (case w57 => rfl); (try simp only [Act.put, s1, s2, s3]))
        (refine takeH (i := 18) (oi := ?o58) (v := undef) ?h58 (by kernel_rfl) ?q58 (Or.inr ⟨?w58, rfl⟩) (by assumption) ?r58; (case h58 => ((simp only [g1, g2, g3]); rfl)); (case q58 => exact fun _ _ _ h => h); (case w58 => rfl); (try simp only [Act.put, s1, s2, s3]))
        (refine takeH (i := 19) (oi := ?o59) (v := undef) ?h59 (by kernel_rfl) ?q59 (Or.inr ⟨?w59, rfl⟩) (by assumption) ?r59; (case h59 => ((simp only [g1, g2, g3]); rfl)); (case q59 => exact fun _ _ _ h => h); (case w59 => rfl); (try simp only [Act.put, s1, s2, s3]))
        (refine takeH (i := 20) (oi := ?o60) (v := ?v60) ?h60 (by kernel_rfl) ?q60 (Or.inl ⟨?w60, ?y60⟩) (by assumption) ?r60; (case h60 => ((simp only [g1, g2, g3]); rfl)); (case q60 => exact fun _ _ _ h => h); (case w60 => rfl); (case y60 => (intro w' hSw; (try dsimp only at hSw); go_simp; (try with_reducible rfl))); (try simp only [Act.put, s1, s2, s3]))
        (refine takeH (i := 21) (oi := ?o61) (v := ?v61) ?h61 (by kernel_rfl) ?q61 (Or.inl ⟨?w61, ?y61⟩) (by assumption) ?r61; (case h61 => ((simp only [g1, g2, g3]); rfl)); (case q61 => exact fun _ _ _ h => h); (case w61 => rfl); (case y61 => (intro w' hSw; (try dsimp only at hSw); go_simp; (try with_reducible rfl))); (try simp only [Act.put, s1, s2, s3]))
        (refine takeH (i := 22) (oi := ?o62) (v := ?v62) ?h62 (by kernel_rfl) ?q62 (Or.inl ⟨?w62, ?y62⟩) (by assumption) ?r62; (case h62 => ((simp only [g1, g2, g3]); rfl)); (case q62 => exact fun _ _ _ h => h); (case w62 => rfl); (case y62 => (intro w' hSw; (try dsimp only at hSw); go_simp; (try with_reducible rfl))); (try simp only [Act.put, s1, s2, s3]))
        (refine takeH (i := 23) (oi := ?o63) (v := ?v63) ?h63 (by kernel_rfl) ?q63 (Or.inl ⟨?w63, ?y63⟩) (by assumption) ?r63; (case h63 => ((simp only [g1, g2, g3]); rfl)); (case q63 => exact fun _ _ _ h => h); (case w63 => rfl); (case y63 => (intro w' hSw; (try dsimp only at hSw); go_simp; (try with_reducible rfl))); (try simp only [Act.put, s1, s2, s3]))
        (refine takeH (i := 24) (oi := ?o64) (v := ?v64) ?h64 (by kernel_rfl) ?q64 (Or.inl ⟨?w64, ?y64⟩) (by assumption) ?r64; (case h64 => ((simp only [g1, g2, g3]); rfl)); (case q64 => exact fun _ _ _ h => h); (case w64 => rfl); (case y64 => (intro w' hSw; (try dsimp only at hSw); go_simp; (try with_reducible rfl))); (try simp only [Act.put, s1, s2, s3]))
        (refine takeH (i := 25) (oi := ?o65) (v := ?v65) ?h65 (by kernel_rfl) ?q65 (Or.inl ⟨?w65, ?y65⟩) (by assumption) ?r65; (case h65 => ((simp only [g1, g2, g3]); rfl)); (case q65 => exact fun _ _ _ h => h); (case w65 => rfl); (case y65 => (intro w' hSw; (try dsimp only at hSw); go_simp; (try with_reducible rfl))); (try simp only [Act.put, s1, s2, s3]))
        (refine takeH (i := 26) (oi := ?o66) (v := ?v66) ?h66 (by kernel_rfl) ?q66 (Or.inl ⟨?w66, ?y66⟩) (by assumption) ?r66; (case h66 => ((simp only [g1, g2, g3]); rfl)); (case q66 => exact fun _ _ _ h => h); (case w66 => rfl); (case y66 => (intro w' hSw; (try dsimp only at hSw); go_simp; (try with_reducible rfl))); (try simp only [Act.put, s1, s2, s3]))
        (refine takeH (i := 27) (oi := ?o67) (v := ?v67) ?h67 (by kernel_rfl) ?q67 (Or.inl ⟨?w67, ?y67⟩) (by assumption) ?r67; (case h67 => ((simp only [g1, g2, g3]); rfl)); (case q67 => exact fun _ _ _ h => h); (case w67 => rfl); (case y67 => (intro w' hSw; (try dsimp only at hSw); go_simp; (try with_reducible rfl))); (try simp only [Act.put, s1, s2, s3]))
        (refine takeH (i := 28) (oi := ?o68) (v := ?v68) ?h68 (by kernel_rfl) ?q68 (Or.inl ⟨?w68, ?y68⟩) (by assumption) ?r68; (case h68 => ((simp only [g1, g2, g3]); rfl)); (case q68 => exact fun _ _ _ h => h); (case w68 => rfl); (case y68 => (intro w' hSw; (try dsimp only at hSw); go_simp; (try with_reducible rfl))); (try simp only [Act.put, s1, s2, s3]))
        (refine takeH (i := 29) (oi := ?o69) (v := ?v69) ?h69 (by kernel_rfl) ?q69 (Or.inl ⟨?w69, ?y69⟩) (by assumption) ?r69; (case h69 => ((simp only [g1, g2, g3]); rfl)); (case q69 => exact fun _ _ _ h => h); (case w69 => rfl); (case y69 => (intro w' hSw; (try dsimp only at hSw); go_simp; (try with_reducible rfl))); (try simp only [Act.put, s1, s2, s3]))
        (refine takeH (i := 30) (oi := ?o70) (v := ?v70) ?h70 (by kernel_rfl) ?q70 (Or.inl ⟨?w70, ?y70⟩) (by assumption) ?r70; (case h70 => ((simp only [g1, g2, g3]); rfl)); (case q70 => exact fun _ _ _ h => h); (case w70 => rfl); (case y70 => (intro w' hSw; (try dsimp only at hSw); go_simp; (try with_reducible rfl))); (try simp only [Act.put, s1, s2, s3]))
        (refine takeH (i := 31) (oi := ?o71) (v := ?v71) ?h71 (by kernel_rfl) ?q71 (Or.inl ⟨?w71, ?y71⟩) (by assumption) ?r71; (case h71 => ((simp only [g1, g2, g3]); rfl)); (case q71 => exact fun _ _ _ h => h); (case w71 => rfl); (case y71 => (intro w' hSw; (try dsimp only at hSw); go_simp; (try with_reducible rfl))); (try simp only [Act.put, s1, s2, s3]))
        (refine takeH (i := 32) (oi := ?o72) (v := ?v72) ?h72 (by kernel_rfl) ?q72 (Or.inl ⟨?w72, ?y72⟩) (by assumption) ?r72; (case h72 => ((simp only [g1, g2, g3]); rfl)); (case q72 => exact fun _ _ _ h => h); (case w72 => rfl); (case y72 => (intro w' hSw; (try dsimp only at hSw); go_simp; (try with_reducible rfl))); (try simp only [Act.put, s1, s2, s3]))
        (refine takeH (i := 33) (oi := ?o73) (v := ?v73) ?h73 (by kernel_rfl) ?q73 (Or.inl ⟨?w73, ?y73⟩) (by assumption) ?r73; (case h73 => ((simp only [g1, g2, g3]); rfl)); (case q73 => exact fun _ _ _ h => h); (case w73 => rfl); (case y73 => (intro w' hSw; (try dsimp only at hSw); go_simp; (try with_reducible rfl))); (try simp only [Act.put, s1, s2, s3]))
        (refine takeH (i := 34) (oi := ?o74) (v := ?v74) ?h74 (by kernel_rfl) ?q74 (Or.inl ⟨?w74, ?y74⟩) (by assumption) ?r74; (case h74 => ((simp only [g1, g2, g3]); rfl)); (case q74 => exact fun _ _ _ h => h); (case w74 => rfl); (case y74 => (intro w' hSw; (try dsimp only at hSw); go_simp; (try with_reducible rfl))); (try simp only [Act.put, s1, s2, s3]))
        (refine takeH (i := 35) (oi := ?o75) (v := ?v75) ?h75 (by kernel_rfl) ?q75 (Or.inl ⟨?w75, ?y75⟩) (by assumption) ?r75; (case h75 => ((simp only [g1, g2, g3]); rfl)); (case q75 => exact fun _ _ _ h => h); (case w75 => rfl); (case y75 => (intro w' hSw; (try dsimp only at hSw); go_simp; (try with_reducible rfl))); (try simp only [Act.put, s1, s2, s3]))
        (refine takeH (i := 36) (oi := ?o76) (v := ?v76) ?h76 (by kernel_rfl) ?q76 (Or.inl ⟨?w76, ?y76⟩) (by assumption) ?r76; (case h76 => ((simp only [g1, g2, g3]); rfl)); (case q76 => exact fun _ _ _ h => h); (case w76 => rfl); (case y76 => (intro w' hSw; (try dsimp only at hSw); go_simp; (try with_reducible rfl))); (try simp only [Act.put, s1, s2, s3]))
        (refine takeH (i := 37) (oi := ?o77) (v := ?v77) ?h77 (by kernel_rfl) ?q77 (Or.inl ⟨?w77, ?y77⟩) (by assumption) ?r77; (case h77 => ((simp only [g1, g2, g3]); rfl)); (case q77 => exact fun _ _ _ h => h); (case w77 => rfl); (case y77 => (intro w' hSw; (try dsimp only at hSw); go_simp; (try with_reducible rfl))); (try simp only [Act.put, s1, s2, s3]))
        (refine takeH (i := 38) (oi := ?o78) (v := ?v78) ?h78 (by kernel_rfl) ?q78 (Or.inl ⟨?w78, ?y78⟩) (by assumption) ?r78; (case h78 => ((simp only [g1, g2, g3]); rfl)); (case q78 => exact fun _ _ _ h => h); (case w78 => rfl); (case y78 => (intro w' hSw; (try dsimp only at hSw); go_simp; (try with_reducible rfl))); (try simp only [Act.put, s1, s2, s3]))
        refine wpAnyH_done (by kernel_rfl) ?_ _
        go_wp2
        go_roundw
        case rel => exact ⟨k + 1, by omega, by go_num, by rw [HNX.out], KX.out⟩
        case measure => simp [intOf]; omega
      · obtain ⟨t, ht⟩ : ∃ t, (p0 :: p1 :: q).getLastD d = t := ⟨_, rfl⟩
        obtain ⟨n, hn⟩ : ∃ n, (p0 :: p1 :: q).length = n := ⟨_, rfl⟩
        have hn2 : 2 ≤ n := by rw [← hn]; simp
        rw [ht] at f2 HNX
        rw [hn]
        have q1 : ¬ n = 0 := by omega
        have q2 : ¬ n = 1 := by omega
        have q3 : ((n : Int) == 0) = false := beq_eq_false_iff_ne.2 (by omega)
        have q4 : ((n : Int) == 1) = false := beq_eq_false_iff_ne.2 (by omega)
        clear ht hn
        go_wp2_with fail
        (refine wp_region_held_drew (S := (fun w' => (∀ b o, b < w4.heap.size → w'.cell? ⟨b, o, none⟩ = w4.cell? ⟨b, o, none⟩) ∧ Kp w4 w')) (by kernel_rfl) ?_ (fun hHd => ?_); (focus ((try dsimp only); (first | with_reducible assumption | with_reducible exact held_start _ | with_reducible exact held_next (by assumption) (by assumption) | with_reducible exact held_alloc (by assumption) _ | with_reducible exact held_drew (by assumption) | ((with_reducible refine held_kp ?_); (repeat (first | with_reducible assumption | with_reducible exact Kp.refl _ | with_reducible refine Kp.drew ?_ | with_reducible refine Kp.drewN ?_ _ | with_reducible refine Kp.alloc ?_ _ | ((with_reducible refine Kp.setCell ?_ ?_ _); rotate_left; (focus (first | omega | (simp; done) | (simp; omega)))) | with_reducible refine Kp.trans ?_ (by assumption))))))))
        (refine takeH (i := 0) (oi := ?o79) (v := ?v79) ?h79 (by kernel_rfl) ?q79 (Or.inl ⟨?w79, ?y79⟩) (by assumption) ?r79; (case h79 => ((simp only [g1, g3]); rfl)); (case q79 => exact fun _ _ _ h => h); (case w79 => rfl); (case y79 => (intro w' hSw; (try dsimp only at hSw); go_simp; (try with_reducible rfl))); (try simp only [Act.put, s1, s2, s3]))
        (refine takeH (i := 1) (oi := ?o80) (v := ?v80) ?h80 (by kernel_rfl) ?q80 (Or.inl ⟨?w80, ?y80⟩) (by assumption) ?r80; (case h80 => ((simp only [g1, g2, g3]); rfl)); (case q80 => exact fun _ _ _ h => h); (case w80 => rfl); (case y80 => (intro w' hSw; (try dsimp only at hSw); go_simp; (try with_reducible rfl))); (try simp only [Act.put, s1, s2, s3]))
        (refine takeH (i := 2) (oi := ?o81) (v := ?v81) ?h81 (by kernel_rfl) ?q81 (Or.inl ⟨?w81, ?y81⟩) (by assumption) ?r81; (case h81 => ((simp only [g1, g2, g3]); rfl)); (case q81 => exact fun _ _ _ h => h); (case w81 => rfl); (case y81 => (intro w' hSw; (try dsimp only at hSw); go_simp; (try with_reducible rfl))); (try simp only [Act.put, s1, s2, s3]))
        (refine takeH (i := 3) (oi := ?o82) (v := ?v82) ?h82 (by kernel_rfl) ?q82 (Or.inl ⟨?w82, ?y82⟩) (by assumption) ?r82; (case h82 => ((simp only [g1, g2, g3]); rfl)); (case q82 => exact fun _ _ _ h => h); (case w82 => rfl); (case y82 => (intro w' hSw; (try dsimp only at hSw); go_simp; (try with_reducible rfl))); (try simp only [Act.put, s1, s2, s3]))
        (refine takeH (i := 4) (oi := ?o83) (v := undef) ?h83 (by kernel_rfl) ?q83 (Or.inr ⟨?w83, rfl⟩) (by assumption) ?r83; (case h83 => ((simp only [g1, g2, g3]); rfl)); (case q83 => exact fun _ _ _ h => h); (case w83 => rfl); (try simp only [Act.put, s1, s2, s3]))
        (refine takeH (i := 5) (oi := ?o84) (v := undef) ?h84 (by kernel_rfl) ?q84 (Or.inr ⟨?w84, rfl⟩) (by assumption) ?r84; (case h84 => ((simp only [g1, g2, g3]); rfl)); (case q84 => exact fun _ _ _ h => h); (case w84 => rfl); (try simp only [Act.put, s1, s2, s3]))
        (refine takeH (i := 6) (oi := ?o85) (v := undef) ?h85 (by kernel_rfl) ?q85 (Or.inr ⟨?w85, rfl⟩) (by assumption) ?r85; (case h85 => ((simp only [g1, g2, g3]); rfl)); (case q85 => exact fun _ _ _ h => h); (case w85 => rfl); (try simp only [Act.put, s1, s2, s3]))
        (refine takeH (i := 7) (oi := ?o86) (v := undef) ?h86 (by kernel_rfl) ?q86 (Or.inr ⟨?w86, rfl⟩) (by assumption) ?r86; (case h86 => ((simp only [g1, g2, g3]); rfl)); (case q86 => exact fun _ _ _ h => h); (case w86 => rfl); (try simp only [Act.put, s1, s2, s3]))
        (refine takeH (i := 8) (oi := ?o87) (v := undef) ?h87 (by kernel_rfl) ?q87 (Or.inr ⟨?w87, rfl⟩) (by assumption) ?r87; (case h87 => ((simp only [g1, g2, g3]); rfl)); (case q87 => exact fun _ _ _ h => h); (case w87 => rfl); (try simp only [Act.put, s1, s2, s3]))
        (refine takeH (i := 9) (oi := ?o88) (v := undef) ?h88 (by kernel_rfl) ?q88 (Or.inr ⟨?w88, rfl⟩) (by assumption) ?r88; (case h88 => ((simp only [g1, g2, g3]); rfl)); (case q88 => exact fun _ _ _ h => h); (case w88 => rfl); (try simp only [Act.put, s1, s2, s3]))
        (refine takeH (i := 10) (oi := ?o89) (v := undef) ?h89 (by kernel_rfl) ?q89 (Or.inr ⟨?w89, rfl⟩) (by assumption) ?r89; (case h89 => ((simp only [g1, g2, g3]); rfl)); (case q89 => exact fun _ _ _ h => h); (case w89 => rfl); (try simp only [Act.put, s1, s2, s3]))
        (refine takeH (i := 11) (oi := ?o90) (v := undef) ?h90 (by kernel_rfl) ?q90 (Or.inr ⟨?w90, rfl⟩) (by assumption) ?r90; (case h90 => ((simp only [g1, g2, g3]); rfl)); (case q90 => exact fun _ _ _ h => h); (case w90 => rfl); (try simp only [Act.put, s1, s2, s3]))
        (refine takeH (i := 12) (oi := ?o91) (v := undef) ?h91 (by kernel_rfl) ?q91 (Or.inr ⟨?w91, rfl⟩) (by assumption) ?r91; (case h91 => ((simp only [g1, g2, g3]); rfl)); (case q91 => exact fun _ _ _ h => h); (case w91 => rfl); (try simp only [Act.put, s1, s2, s3]))
        (refine takeH (i := 13) (oi := ?o92) (v := undef) ?h92 (by kernel_rfl) ?q92 (Or.inr ⟨?w92, rfl⟩) (by assumption) ?r92; (case h92 => ((simp only [g1, g2, g3]); rfl)); (case q92 => exact fun _ _ _ h => h); (case w92 => rfl); (try simp only [Act.put, s1, s2, s3]))
        (refine takeH (i := 14) (oi := ?o93) (v := undef) ?h93 (by kernel_rfl) ?q93 (Or.inr ⟨?w93, rfl⟩) (by assumption) ?r93; (case h93 => ((simp only [g1, g2, g3]); rfl)); (case q93 => exact fun _ _ _ h => h); (case w93 => rfl); (try simp only [Act.put, s1, s2, s3]))
        (refine takeH (i := 15) (oi := ?o94) (v := undef) ?h94 (by kernel_rfl) ?q94 (Or.inr ⟨?w94, rfl⟩) (by assumption) ?r94; (case h94 => ((simp only [g1, g2, g3]); rfl)); (case q94 => exact fun _ _ _ h => h); (case w94 => rfl); (try simp only [Act.put, s1, s2, s3]))
        (refine takeH (i := 16) (oi := ?o95) (v := undef) ?h95 (by kernel_rfl) ?q95 (Or.inr ⟨?w95, rfl⟩) (by assumption) ?r95; (case h95 => ((simp only [g1, g2, g3]); rfl)); (case q95 => exact fun _ _ _ h => h); (case w95 => rfl); (try simp only [Act.put, s1, s2, s3]))
        (refine takeH (i := 17) (oi := ?o96) (v := undef) ?h96 (by kernel_rfl) ?q96 (Or.inr ⟨?w96, rfl⟩) (by assumption) ?r96; (case h96 => ((simp only [g1, g2, g3]); rfl)); (case q96 => exact fun _ _ _ h => h); (case w96 => rfl); (try simp only [Act.put, s1, s2, s3]))
        (refine takeH (i := 18) (oi := ?o97) (v := undef) ?h97 (by kernel_rfl) ?q97 (Or.inr ⟨?w97, rfl⟩) (by assumption) ?r97; (case h97 => ((simp only [g1, g2, g3]); rfl)); (case q97 => exact fun _ _ _ h => h); (case w97 => rfl); (try simp only [Act.put, s1, s2, s3]))
        (refine takeH (i := 19) (oi := ?o98) (v := undef) ?h98 (by kernel_rfl) ?q98 (Or.inr ⟨?w98, rfl⟩) (by assumption) ?r98; (case h98 => ((simp only [g1, g2, g3]); rfl)); (case q98 => exact fun _ _ _ h => h); (case w98 => rfl); (try simp only [Act.put, s1, s2, s3]))
        (refine takeH (i := 20) (oi := ?o99) (v := ?v99) ?h99 (by kernel_rfl) ?q99 (Or.inl ⟨?w99, ?y99⟩) (by assumption) ?r99; (case h99 => ((simp only [g1, g2, g3]); rfl)); (case q99 => exact fun _ _ _ h => h); (case w99 => rfl); (case y99 => (intro w' hSw; (try dsimp only at hSw); go_simp; (try with_reducible rfl))); (try simp only [Act.put, s1, s2, s3]))
        (refine takeH (i := 21) (oi := ?o100) (v := ?v100) ?h100 (by kernel_rfl) ?q100 (Or.inl ⟨?w100, ?y100⟩) (by assumption) ?r100; (case h100 => ((simp only [g1, g2, g3]); rfl)); (case q100 => exact fun _ _ _ h => h); (case w100 => rfl); (case y100 => (intro w' hSw; (try dsimp only at hSw); go_simp; (try with_reducible rfl))); (try simp only [Act.put, s1, s2, s3]))
        (refine takeH (i := 22) (oi := ?o101) (v := ?v101) ?h101 (by kernel_rfl) ?q101 (Or.inl ⟨?w101, ?y101⟩) (by assumption) ?r101; (case h101 => ((simp only [g1, g2, g3]); rfl)); (case q101 => exact fun _ _ _ h => h); (case w101 => rfl); (case y101 => (intro w' hSw; (try dsimp only at hSw); go_simp; (try with_reducible rfl))); (try simp only [Act.put, s1, s2, s3]))
        (refine takeH (i := 23) (oi := ?o102) (v := ?v102) ?h102 (by kernel_rfl) ?q102 (Or.inl ⟨?w102, ?y102⟩) (by assumption) ?r102; (case h102 => ((simp only [g1, g2, g3]); rfl)); (case q102 => exact fun _ _ _ h => h); (case w102 => rfl); (case y102 => (intro w' hSw; (try dsimp only at hSw); go_simp; (try with_reducible rfl))); (try simp only [Act.put, s1, s2, s3]))
        (refine takeH (i := 24) (oi := ?o103) (v := ?v103) ?h103 (by kernel_rfl) ?q103 (Or.inl ⟨?w103, ?y103⟩) (by assumption) ?r103; (case h103 => ((simp only [g1, g2, g3]); rfl)); (case q103 => exact fun _ _ _ h => h); (case w103 => rfl); (case y103 => (intro w' hSw; (try dsimp only at hSw); go_simp; (try with_reducible rfl))); (try simp only [Act.put, s1, s2, s3]))
        (refine takeH (i := 25) (oi := ?o104) (v := ?v104) ?h104 (by kernel_rfl) ?q104 (Or.inl ⟨?w104, ?y104⟩) (by assumption) ?r104; (case h104 => ((simp only [g1, g2, g3]); rfl)); (case q104 => exact fun _ _ _ h => h); (case w104 => rfl); (case y104 => (intro w' hSw; (try dsimp only at hSw); go_simp; (try with_reducible rfl))); (try simp only [Act.put, s1, s2, s3]))
        (refine takeH (i := 26) (oi := ?o105) (v := undef) ?h105 (by kernel_rfl) ?q105 (Or.inr ⟨?w105, rfl⟩) (by assumption) ?r105; (case h105 => ((simp only [g1, g2, g3]); rfl)); (case q105 => exact fun _ _ _ h => h); (case w105 => rfl); (try simp only [Act.put, s1, s2, s3]))
        (refine takeH (i := 27) (oi := ?o106) (v := undef) ?h106 (by kernel_rfl) ?q106 (Or.inr ⟨?w106, rfl⟩) (by assumption) ?r106; (case h106 => ((simp only [g1, g2, g3]); rfl)); (case q106 => exact fun _ _ _ h => h); (case w106 => rfl); (try simp only [Act.put, s1, s2, s3]))
        (refine takeH (i := 28) (oi := ?o107) (v := undef) ?h107 (by kernel_rfl) ?q107 (Or.inr ⟨?w107, rfl⟩) (by assumption) ?r107; (case h107 => ((simp only [g1, g2, g3]); rfl)); (case q107 => exact fun _ _ _ h => h); (case w107 => rfl); (try simp only [Act.put, s1, s2, s3]))
        (refine takeH (i := 29) (oi := ?o108) (v := undef) ?h108 (by kernel_rfl) ?q108 (Or.inr ⟨?w108, rfl⟩) (by assumption) ?r108; (case h108 => ((simp only [g1, g2, g3]); rfl)); (case q108 => exact fun _ _ _ h => h); (case w108 => rfl); (try simp only [Act.put, s1, s2, s3]))
        (refine takeH (i := 30) (oi := ?o109) (v := undef) ?h109 (by kernel_rfl) ?q109 (Or.inr ⟨?w109, rfl⟩) (by assumption) ?r109; (case h109 => ((simp only [g1, g2, g3]); rfl)); (case q109 => exact fun _ _ _ h => h); (case w109 => rfl); (try simp only [Act.put, s1, s2, s3]))
        (refine takeH (i := 31) (oi := ?o110) (v := undef) ?h110 (by kernel_rfl) ?q110 (Or.inr ⟨?w110, rfl⟩) (by assumption) ?r110; (case h110 => ((simp only [g1, g2, g3]); rfl)); (case q110 => exact fun _ _ _ h => h); (case w110 => rfl); (try simp only [Act.put, s1, s2, s3]))
        (refine takeH (i := 32) (oi := ?o111) (v := undef) ?h111 (by kernel_rfl) ?q111 (Or.inr ⟨?w111, rfl⟩) (by assumption) ?r111; (case h111 => ((simp only [g1, g2, g3]); rfl)); (case q111 => exact fun _ _ _ h => h); (case w111 => rfl); (try simp only [Act.put, s1, s2, s3]))
        (refine takeH (i := 33) (oi := ?o112) (v := undef) ?h112 (by kernel_rfl) ?q112 (Or.inr ⟨?w112, rfl⟩) (by assumption) ?r112; (case h112 => ((simp only [g1, g2, g3]); rfl)); (case q112 => exact fun _ _ _ h => h); (case w112 => rfl); (try simp only [Act.put, s1, s2, s3]))
        (refine takeH (i := 34) (oi := ?o113) (v := undef) ?h113 (by kernel_rfl) ?q113 (Or.inr ⟨?w113, rfl⟩) (by assumption) ?r113; (case h113 => ((simp only [g1, g2, g3]); rfl)); (case q113 => exact fun _ _ _ h => h); (case w113 => rfl); (try simp only [Act.put, s1, s2, s3]))
        (refine takeH (i := 35) (oi := ?o114) (v := undef) ?h114 (by kernel_rfl) ?q114 (Or.inr ⟨?w114, rfl⟩) (by assumption) ?r114; (case h114 => ((simp only [g1, g2, g3]); rfl)); (case q114 => exact fun _ _ _ h => h); (case w114 => rfl); (try simp only [Act.put, s1, s2, s3]))
        (refine takeH (i := 36) (oi := ?o115) (v := undef) ?h115 (by kernel_rfl) ?q115 (Or.inr ⟨?w115, rfl⟩) (by assumption) ?r115; (case h115 => ((simp only [g1, g2, g3]); rfl)); (case q115 => exact fun _ _ _ h => h); (case w115 => rfl); (try simp only [Act.put, s1, s2, s3]))
        (refine takeH (i := 37) (oi := ?o116) (v := ?v116) ?h116 (by kernel_rfl) ?q116 (Or.inl ⟨?w116, ?y116⟩) (by assumption) ?r116; (case h116 => ((simp only [g1, g2, g3]); rfl)); (case q116 => exact fun _ _ _ h => h); (case w116 => rfl); (case y116 => (intro w' hSw; (try dsimp only at hSw); go_simp; (try with_reducible rfl))); (try simp only [Act.put, s1, s2, s3]))
        (refine takeH (i := 38) (oi := ?o117) (v := ?v117) ?h117 (by kernel_rfl) ?q117 (Or.inl ⟨?w117, ?y117⟩) (by assumption) ?r117; (case h117 => ((simp only [g1, g2, g3]); rfl)); (case q117 => exact fun _ _ _ h => h); (case w117 => rfl); (case y117 => (intro w' hSw; (try dsimp only at hSw); go_simp; (try with_reducible rfl))); (try simp only [Act.put, s1, s2, s3]))
        refine wpAnyH_done (by kernel_rfl) ?_ _
        go_wp2
        go_roundw
        case rel => exact ⟨k + 1, by omega, by go_num, by rw [HNX.out], KX.out⟩
        case measure => simp [intOf]; omega
    · obtain rfl : k = M.length := by omega
      have j8 : decide ((M.length : Int) < (M.length : Int)) = false := decide_eq_false (by omega)
      have kw3 := kw2.trans xk
      have hq : ((cs.length : Int) + (P : Int) - 1) / (P : Int) = (M.length : Int) := by
        rw [HML.out]
        unfold nCh
        rw [Int.natCast_ediv]
        congr 1
        omega
      clear S1 xk kw2 hk hlt HC HL
      go_wp2_with fail
      refine (markAwake_any _).mono ?_
      rintro e w7 ⟨rfl, k10⟩
      go_wp2
      go_ret
      exact ⟨rfl, kw3.trans k10⟩
set_option maxHeartbeats 1000000 in
theorem markFollows_far (a ca : Option Addr) (len cap clen ccap : Nat) (per : Int) (w : World) (h : 100 < len ∨ 60 < clen ∨ per < 1 ∨ 100 < per) (h1 : len ≤ 9223372036854775807) (h2 : clen ≤ 9223372036854775807) :
    Calls Try.prog 4 #[.slice a len cap, .slice ca clen ccap, .int .i64 per] w fun e w' => e = .returned (.bool true) ∧ Kp w w' := by
  by_cases h3 : 100 < len
  · have j1 : decide ((100 : Int) < (len : Int)) = true := decide_eq_true (by omega)
    have j2 : decide (100 < len) = true := decide_eq_true (by omega)
    clear h
    go_enter Try.func4, Try.ntmps4
    go_wp2_with fail
    refine (markAwake_any _).mono ?_
    rintro e w7 ⟨rfl, k10⟩
    go_wp2
    go_ret
    exact ⟨rfl, k10⟩
  · have j1 : decide ((100 : Int) < (len : Int)) = false := decide_eq_false (by omega)
    have j2 : decide (100 < len) = false := decide_eq_false (by omega)
    by_cases h4 : 60 < clen
    · have j3 : decide ((60 : Int) < (clen : Int)) = true := decide_eq_true (by omega)
      have j4 : decide (60 < clen) = true := decide_eq_true (by omega)
      clear h
      go_enter Try.func4, Try.ntmps4
      go_wp2_with fail
      refine (markAwake_any _).mono ?_
      rintro e w7 ⟨rfl, k10⟩
      go_wp2
      go_ret
      exact ⟨rfl, k10⟩
    · have j3 : decide ((60 : Int) < (clen : Int)) = false := decide_eq_false (by omega)
      have j4 : decide (60 < clen) = false := decide_eq_false (by omega)
      by_cases h5 : per < 1
      · have j5 : decide (per < 1) = true := decide_eq_true h5
        clear h
        go_enter Try.func4, Try.ntmps4
        go_wp2_with fail
        refine (markAwake_any _).mono ?_
        rintro e w7 ⟨rfl, k10⟩
        go_wp2
        go_ret
        exact ⟨rfl, k10⟩
      · have j5 : decide (per < 1) = false := decide_eq_false h5
        have j6 : decide (100 < per) = true := decide_eq_true (by omega)
        clear h
        go_enter Try.func4, Try.ntmps4
        go_wp2_with fail
        refine (markAwake_any _).mono ?_
        rintro e w7 ⟨rfl, k10⟩
        go_wp2
        go_ret
        exact ⟨rfl, k10⟩
theorem markFollows_any (L : SlV Item) (C : SlV Col) (per : Int) (w : World) (hL : SlOk w 7 Item.cells L.a L.len L.cap L.l ∧ ∀ z, z ∈ L.l → Item.ok z) (hC : SlOk w 6 Col.cells C.a C.len C.cap C.l ∧ ∀ z, z ∈ C.l → Col.ok z) (_hp : -9223372036854775808 ≤ per ∧ per ≤ 9223372036854775807) :
    Calls Try.prog 4 #[.slice L.a L.len L.cap, .slice C.a C.len C.cap, .int .i64 per] w fun e w' => e = .returned (.bool true) ∧ Kp w w' := by
  have e1 := hL.1.1
  have e2 := hC.1.1
  have h1 := hL.1.2.1
  have h2 := hL.1.2.2.1
  have h3 := hC.1.2.1
  have h4 := hC.1.2.2.1
  unfold maxLen at h2 h4
  by_cases h : 100 < L.len ∨ 60 < C.len ∨ per < 1 ∨ 100 < per
  · exact markFollows_far _ _ _ _ _ _ _ w h (by omega) (by omega)
  · obtain ⟨La, Llen, Lc, Ll⟩ := L
    obtain ⟨Ca, Clen, Cc, Cl⟩ := C
    simp only at e1 e2 h ⊢
    subst e1; subst e2
    have e : per = ((per.toNat : Nat) : Int) := by omega
    have hh := markFollows_main La Ca Lc Cc Ll Cl per.toNat w hL.1 hC.1 (by omega) (by omega) (by omega) (by omega)
    rw [← e] at hh; exact hh
end Go.Proofs.Ytiimbkiiffimiaa
