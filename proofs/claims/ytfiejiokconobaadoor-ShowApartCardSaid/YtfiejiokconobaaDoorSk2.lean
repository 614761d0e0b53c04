/- What a lane shows at a height, and the lowest foot: the document's. -/
import Derived.Test.YtfiejiokconobaaDoorSk1

import Derived.Test.YtfiejiokconobaaDoorRputs

namespace Go.Proofs.YtfiejiokconobaaDoor

open Go.RowKit

set_option maxRecDepth 100000 in
set_option maxHeartbeats 4000000 in
theorem refAt_any (x : Int) (a : Option Addr) (cap : Nat) (l : List Put) (y : Int) (w : World) (hl : SlOk w 5 Put.cells a l.length cap l) :
    Calls Tryd.prog 32 #[.agg #[.int .i64 x, .slice a l.length cap], .int .i64 y] w fun e w' => e = .returned (sv [signB l y]) ∧ Kp w w' := by
  have HL := Lib.hid hl
  have hcl := hl.2.1
  have hcm := hl.2.2.1
  unfold maxLen at hcm
  clear hl
  go_enter Tryd.func32, Tryd.ntmps32
  go_wp2_with fail
  refine named_world (F := fun w0 => Blk w0 w.heap.size [.int .i64 x, .slice a l.length cap] 41 ∧ Kp w w0) ⟨(by (repeat (first | with_reducible assumption | ((with_reducible refine Blk.newL ?_ ?_); (focus (first | (simp; done) | omega)); rfl) | with_reducible refine Blk.drew ?_ | with_reducible refine Blk.drewN ?_ _ | with_reducible refine Blk.alloc ?_ _ | ((with_reducible refine Blk.other ?_ ?_ _); rotate_left; (focus (first | with_reducible assumption | omega | (simp; done) | (simp; omega))))))), (by (repeat (first | with_reducible assumption | with_reducible exact Kp.refl _ | with_reducible refine Kp.drew ?_ | with_reducible refine Kp.drewN ?_ _ | with_reducible refine Kp.alloc ?_ _ | ((with_reducible refine Kp.setCell ?_ ?_ _); rotate_left; (focus (first | omega | (simp; done) | (simp; omega)))) | with_reducible refine Kp.trans ?_ (by assumption))))⟩ ?_
  rintro w0 ⟨bx, kw0⟩
  go_wp2_with fail
  go_loopw [5] (fun v5 wr => ∃ (k : Nat), k ≤ l.length ∧ v5 = .int .i64 k ∧ (l.take k).find? (covers y) = none ∧ Kp w0 wr) (fun v5 _ => l.length - (intOf v5).toNat)
  case atStart => exact ⟨0, Nat.zero_le _, rfl, by simp, (by (repeat (first | with_reducible assumption | with_reducible exact Kp.refl _ | with_reducible refine Kp.drew ?_ | with_reducible refine Kp.drewN ?_ _ | with_reducible refine Kp.alloc ?_ _ | ((with_reducible refine Kp.setCell ?_ ?_ _); rotate_left; (focus (first | omega | (simp; done) | (simp; omega)))) | with_reducible refine Kp.trans ?_ (by assumption))))⟩
  case round =>
    obtain ⟨k, hk, rfl, hf, xk0⟩ := hrel
    have bx1 := (bx.kp xk0).cell 1 rfl
    have xk := kw0.trans xk0
    by_cases hlt : k < l.length
    · obtain ⟨p, hp⟩ : ∃ x, l[k]? = some x := ⟨l[k]'hlt, List.getElem?_eq_getElem _⟩
      obtain ⟨ga, oa, rfl, r1⟩ := HL.out.low (xk.ck) (by omega)
      have C1 := Lib.hid (refHeld_any p.y)
      have C2 := Lib.hid (refHeld_any p.h)
      have by1 := heldI_le p.y
      have bh1 := heldI_le p.h
      have HIT := Lib.hid (fun h => find_hit hf hp (c := covers y) h)
      have NXT := Lib.hid (fun h => find_next hf hp (c := covers y) h)
      have hcv : covers y p = (decide (heldI p.y ≤ y) && decide (y < heldI p.y + heldI p.h)) := rfl
      obtain ⟨p0, p1, p2, p3, p4⟩ := p
      have d0 := r1 k _ hp 0 _ rfl
      have d1 := r1 k _ hp 1 _ rfl
      have d2 := r1 k _ hp 2 _ rfl
      have d3 := r1 k _ hp 3 _ rfl
      have d4 := r1 k _ hp 4 _ rfl
      simp only [Nat.add_zero] at d0 d1 d2 d3 d4 hcv C1 C2 by1 bh1
      obtain ⟨Y, hY⟩ : ∃ Y, heldI p3 = Y := ⟨_, rfl⟩
      obtain ⟨H, hH⟩ : ∃ H, heldI p4 = H := ⟨_, rfl⟩
      rw [hY] at C1 hcv by1
      rw [hH] at C2 hcv bh1
      obtain ⟨by1, by2⟩ := by1
      obtain ⟨bh1, bh2⟩ := bh1
      have HCV := Lib.hid hcv
      have e1 : IntKind.i64.wrap (Y + H) = Y + H := by unfold IntKind.wrap; simp [IntKind.bits, IntKind.signed]; omega
      have j1 : decide ((k : Int) < (l.length : Int)) = true := decide_eq_true (by omega)
      clear r1 hp hf hcv hY hH
      by_cases c1 : Y ≤ y
      · have j2 : decide (Y ≤ y) = true := decide_eq_true c1
        by_cases c2 : y < Y + H
        · have j3 : decide (y < Y + H) = true := decide_eq_true c2
          have hs : signB l y = symB p0 := by
            unfold signB
            rw [HIT.out (by rw [HCV.out, j2, j3]; rfl)]; rfl
          have HSG := Lib.hid hs
          clear hs c1 c2
          by_cases q1 : p0 = 1
          · subst q1
            have hsy : signB l y = 35 := by rw [HSG.out]; rfl
            have HSY := Lib.hid hsy
            clear hsy HSG HCV HIT NXT
            go_wp2_with fail
            
            refine named_world (F := fun w1 => Blk w1 wr.heap.size [.int .i64 1, .int .i64 p1, .int .i64 p2, .int .i64 p3, .int .i64 p4] 30 ∧ Kp wr w1) ⟨(by (repeat (first | with_reducible assumption | ((with_reducible refine Blk.newL ?_ ?_); (focus (first | (simp; done) | omega)); rfl) | with_reducible refine Blk.drew ?_ | with_reducible refine Blk.drewN ?_ _ | with_reducible refine Blk.alloc ?_ _ | ((with_reducible refine Blk.other ?_ ?_ _); rotate_left; (focus (first | with_reducible assumption | omega | (simp; done) | (simp; omega))))))), (by (repeat (first | with_reducible assumption | with_reducible exact Kp.refl _ | with_reducible refine Kp.drew ?_ | with_reducible refine Kp.drewN ?_ _ | with_reducible refine Kp.alloc ?_ _ | ((with_reducible refine Kp.setCell ?_ ?_ _); rotate_left; (focus (first | omega | (simp; done) | (simp; omega)))) | with_reducible refine Kp.trans ?_ (by assumption))))⟩ ?_; rintro w1 ⟨bq, kw1⟩; have bq_0 := bq.cell 0 rfl; have bq_1 := bq.cell 1 rfl; have bq_2 := bq.cell 2 rfl; have bq_3 := bq.cell 3 rfl; have bq_4 := bq.cell 4 rfl; have bq_ne := bq.lt; have bq_n1 := Nat.lt_add_one_of_lt bq_ne; have bq_n2 := Nat.lt_add_one_of_lt bq_n1
            (refine wp_region_held_drew (S := (fun w' => (∀ b o, b < w1.heap.size → w'.cell? ⟨b, o, none⟩ = w1.cell? ⟨b, o, none⟩) ∧ Kp w1 w')) (by kernel_rfl) ?_ (fun hHd => ?_); (focus ((try dsimp only); (first | with_reducible assumption | with_reducible exact held_start _ | with_reducible exact held_next (by assumption) (by assumption) | with_reducible exact held_alloc (by assumption) _ | with_reducible exact held_drew (by assumption) | ((with_reducible refine held_kp ?_); (repeat (first | with_reducible assumption | with_reducible exact Kp.refl _ | with_reducible refine Kp.drew ?_ | with_reducible refine Kp.drewN ?_ _ | with_reducible refine Kp.alloc ?_ _ | ((with_reducible refine Kp.setCell ?_ ?_ _); rotate_left; (focus (first | omega | (simp; done) | (simp; omega)))) | with_reducible refine Kp.trans ?_ (by assumption))))))))
            (refine takeH (i := 0) (oi := ?o1) (v := ?v1) ?h1 (by kernel_rfl) ?q1 (Or.inl ⟨?w1, ?y1⟩) (by assumption) ?r1; (case h1 => ((simp only [g1, g3]); rfl)); (case q1 => exact fun _ _ _ h => h); (case w1 => rfl); (case y1 => (intro w' hSw; (try dsimp only at hSw); go_simp; (try with_reducible rfl))); (try simp only [Act.put, s1, s2, s3]))
            (refine takeH (i := 1) (oi := ?o2) (v := ?v2) ?h2 (by kernel_rfl) ?q2 (Or.inl ⟨?w2, ?y2⟩) (by assumption) ?r2; (case h2 => ((simp only [g1, g2, g3]); rfl)); (case q2 => exact fun _ _ _ h => h); (case w2 => rfl); (case y2 => (intro w' hSw; (try dsimp only at hSw); go_simp; (try with_reducible rfl))); (try simp only [Act.put, s1, s2, s3]))
            (refine takeH (i := 3) (oi := ?o3) (v := ?v3) ?h3 (by kernel_rfl) ?q3 (Or.inl ⟨?w3, ?y3⟩) (by assumption) ?r3; (case h3 => ((simp only [g1, g2, g3]); rfl)); (case q3 => exact fun _ _ _ h => h); (case w3 => rfl); (case y3 => (intro w' hSw; (try dsimp only at hSw); go_simp; (try with_reducible rfl))); (try simp only [Act.put, s1, s2, s3]))
            (refine wpAnyH_ready (rs := [2]) (by kernel_rfl) (by simp) ?_; refine AllReadyH.cons (o := ?o4) ?h4 (fun K hK => ?s4) AllReadyH.nil; (case h4 => (first | ((simp only [g1, g2, g3]); rfl) | rfl)); (go_simp; go_at_call 42; refine (C1.out _).mono ?_; rintro e w3 ⟨rfl, kk⟩; (try dsimp only)); refine hK.out _ _ ?_ (fun hHd => ?_); (focus ((try dsimp only); exact held_kp (hHd.2.trans kk))); clear hK K; (try simp only [Act.put]))
            (refine takeH (i := 4) (oi := ?o6) (v := ?v6) ?h6 (by kernel_rfl) ?q6 (Or.inl ⟨?w6, ?y6⟩) (by assumption) ?r6; (case h6 => ((simp only [g1, g2, g3]); rfl)); (case q6 => exact fun _ _ _ h => h); (case w6 => rfl); (case y6 => (intro w' hSw; (try dsimp only at hSw); go_simp; (try with_reducible rfl))); (try simp only [Act.put, s1, s2, s3]))
            (refine takeH (i := 5) (oi := ?o7) (v := ?v7) ?h7 (by kernel_rfl) ?q7 (Or.inl ⟨?w7, ?y7⟩) (by assumption) ?r7; (case h7 => ((simp only [g1, g2, g3]); rfl)); (case q7 => exact fun _ _ _ h => h); (case w7 => rfl); (case y7 => (intro w' hSw; (try dsimp only at hSw); go_simp; (try with_reducible rfl))); (try simp only [Act.put, s1, s2, s3]))
            (refine takeH (i := 6) (oi := ?o8) (v := ?v8) ?h8 (by kernel_rfl) ?q8 (Or.inl ⟨?w8, ?y8⟩) (by assumption) ?r8; (case h8 => ((simp only [g1, g2, g3]); rfl)); (case q8 => exact fun _ _ _ h => h); (case w8 => rfl); (case y8 => (intro w' hSw; (try dsimp only at hSw); go_simp; (try with_reducible rfl))); (try simp only [Act.put, s1, s2, s3]))
            (refine takeH (i := 7) (oi := ?o9) (v := ?v9) ?h9 (by kernel_rfl) ?q9 (Or.inl ⟨?w9, ?y9⟩) (by assumption) ?r9; (case h9 => ((simp only [g1, g2, g3]); rfl)); (case q9 => exact fun _ _ _ h => h); (case w9 => rfl); (case y9 => (intro w' hSw; (try dsimp only at hSw); go_simp; (try with_reducible rfl))); (try simp only [Act.put, s1, s2, s3]))
            (refine takeH (i := 9) (oi := ?o10) (v := ?v10) ?h10 (by kernel_rfl) ?q10 (Or.inl ⟨?w10, ?y10⟩) (by assumption) ?r10; (case h10 => ((simp only [g1, g2, g3]); rfl)); (case q10 => exact fun _ _ _ h => h); (case w10 => rfl); (case y10 => (intro w' hSw; (try dsimp only at hSw); go_simp; (try with_reducible rfl))); (try simp only [Act.put, s1, s2, s3]))
            (refine takeH (i := 10) (oi := ?o11) (v := ?v11) ?h11 (by kernel_rfl) ?q11 (Or.inl ⟨?w11, ?y11⟩) (by assumption) ?r11; (case h11 => ((simp only [g1, g2, g3]); rfl)); (case q11 => exact fun _ _ _ h => h); (case w11 => rfl); (case y11 => (intro w' hSw; (try dsimp only at hSw); go_simp; (try with_reducible rfl))); (try simp only [Act.put, s1, s2, s3]))
            (refine takeH (i := 13) (oi := ?o12) (v := ?v12) ?h12 (by kernel_rfl) ?q12 (Or.inl ⟨?w12, ?y12⟩) (by assumption) ?r12; (case h12 => ((simp only [g1, g2, g3]); rfl)); (case q12 => exact fun _ _ _ h => h); (case w12 => rfl); (case y12 => (intro w' hSw; (try dsimp only at hSw); go_simp; (try with_reducible rfl))); (try simp only [Act.put, s1, s2, s3]))
            (refine wpAnyH_ready (rs := [8]) (by kernel_rfl) (by simp) ?_; refine AllReadyH.cons (o := ?o13) ?h13 (fun K hK => ?s13) AllReadyH.nil; (case h13 => (first | ((simp only [g1, g2, g3]); rfl) | rfl)); (go_simp; go_at_call 42; refine (C1.out _).mono ?_; rintro e w4 ⟨rfl, kk⟩; (try dsimp only)); refine hK.out _ _ ?_ (fun hHd => ?_); (focus ((try dsimp only); exact held_kp (hHd.2.trans kk))); clear hK K; (try simp only [Act.put]))
            (refine wpAnyH_ready (rs := [11]) (by kernel_rfl) (by simp) ?_; refine AllReadyH.cons (o := ?o15) ?h15 (fun K hK => ?s15) AllReadyH.nil; (case h15 => (first | ((simp only [g1, g2, g3]); rfl) | rfl)); (go_simp; go_at_call 42; refine (C2.out _).mono ?_; rintro e w5 ⟨rfl, kk⟩; (try dsimp only)); refine hK.out _ _ ?_ (fun hHd => ?_); (focus ((try dsimp only); exact held_kp (hHd.2.trans kk))); clear hK K; (try simp only [Act.put]))
            (refine takeH (i := 12) (oi := ?o17) (v := ?v17) ?h17 (by kernel_rfl) ?q17 (Or.inl ⟨?w17, ?y17⟩) (by assumption) ?r17; (case h17 => ((simp only [g1, g2, g3]); rfl)); (case q17 => exact fun _ _ _ h => h); (case w17 => rfl); (case y17 => (intro w' hSw; (try dsimp only at hSw); go_simp; (try with_reducible rfl))); (try simp only [Act.put, s1, s2, s3]))
            (refine takeH (i := 14) (oi := ?o18) (v := ?v18) ?h18 (by kernel_rfl) ?q18 (Or.inl ⟨?w18, ?y18⟩) (by assumption) ?r18; (case h18 => ((simp only [g1, g2, g3]); rfl)); (case q18 => exact fun _ _ _ h => h); (case w18 => rfl); (case y18 => (intro w' hSw; (try dsimp only at hSw); go_simp; (try with_reducible rfl))); (try simp only [Act.put, s1, s2, s3]))
            (refine takeH (i := 15) (oi := ?o19) (v := ?v19) ?h19 (by kernel_rfl) ?q19 (Or.inl ⟨?w19, ?y19⟩) (by assumption) ?r19; (case h19 => ((simp only [g1, g2, g3]); rfl)); (case q19 => exact fun _ _ _ h => h); (case w19 => rfl); (case y19 => (intro w' hSw; (try dsimp only at hSw); go_simp; (try with_reducible rfl))); (try simp only [Act.put, s1, s2, s3]))
            refine wpAnyH_done (by kernel_rfl) ?_ _
            have kz := xk0.trans (kw1.trans hHd.2)
            have c0 := (bq.kp hHd.2).cell 0 rfl
            have kz2 := kw0.trans kz
            clear hHd
            go_wp2_with fail
            (try go_ret)
            exact ⟨by rw [HSY.out]; rfl, kz2⟩
          by_cases q2 : p0 = 2
          · subst q2
            have hsy : signB l y = 70 := by rw [HSG.out]; rfl
            have HSY := Lib.hid hsy
            clear hsy HSG HCV HIT NXT
            go_wp2_with fail
            
            refine named_world (F := fun w1 => Blk w1 wr.heap.size [.int .i64 2, .int .i64 p1, .int .i64 p2, .int .i64 p3, .int .i64 p4] 30 ∧ Kp wr w1) ⟨(by (repeat (first | with_reducible assumption | ((with_reducible refine Blk.newL ?_ ?_); (focus (first | (simp; done) | omega)); rfl) | with_reducible refine Blk.drew ?_ | with_reducible refine Blk.drewN ?_ _ | with_reducible refine Blk.alloc ?_ _ | ((with_reducible refine Blk.other ?_ ?_ _); rotate_left; (focus (first | with_reducible assumption | omega | (simp; done) | (simp; omega))))))), (by (repeat (first | with_reducible assumption | with_reducible exact Kp.refl _ | with_reducible refine Kp.drew ?_ | with_reducible refine Kp.drewN ?_ _ | with_reducible refine Kp.alloc ?_ _ | ((with_reducible refine Kp.setCell ?_ ?_ _); rotate_left; (focus (first | omega | (simp; done) | (simp; omega)))) | with_reducible refine Kp.trans ?_ (by assumption))))⟩ ?_; rintro w1 ⟨bq, kw1⟩; have bq_0 := bq.cell 0 rfl; have bq_1 := bq.cell 1 rfl; have bq_2 := bq.cell 2 rfl; have bq_3 := bq.cell 3 rfl; have bq_4 := bq.cell 4 rfl; have bq_ne := bq.lt; have bq_n1 := Nat.lt_add_one_of_lt bq_ne; have bq_n2 := Nat.lt_add_one_of_lt bq_n1
            (refine wp_region_held_drew (S := (fun w' => (∀ b o, b < w1.heap.size → w'.cell? ⟨b, o, none⟩ = w1.cell? ⟨b, o, none⟩) ∧ Kp w1 w')) (by kernel_rfl) ?_ (fun hHd => ?_); (focus ((try dsimp only); (first | with_reducible assumption | with_reducible exact held_start _ | with_reducible exact held_next (by assumption) (by assumption) | with_reducible exact held_alloc (by assumption) _ | with_reducible exact held_drew (by assumption) | ((with_reducible refine held_kp ?_); (repeat (first | with_reducible assumption | with_reducible exact Kp.refl _ | with_reducible refine Kp.drew ?_ | with_reducible refine Kp.drewN ?_ _ | with_reducible refine Kp.alloc ?_ _ | ((with_reducible refine Kp.setCell ?_ ?_ _); rotate_left; (focus (first | omega | (simp; done) | (simp; omega)))) | with_reducible refine Kp.trans ?_ (by assumption))))))))
            (refine takeH (i := 0) (oi := ?o20) (v := ?v20) ?h20 (by kernel_rfl) ?q20 (Or.inl ⟨?w20, ?y20⟩) (by assumption) ?r20; (case h20 => ((simp only [g1, g3]); rfl)); (case q20 => exact fun _ _ _ h => h); (case w20 => rfl); (case y20 => (intro w' hSw; (try dsimp only at hSw); go_simp; (try with_reducible rfl))); (try simp only [Act.put, s1, s2, s3]))
            (refine takeH (i := 1) (oi := ?o21) (v := ?v21) ?h21 (by kernel_rfl) ?q21 (Or.inl ⟨?w21, ?y21⟩) (by assumption) ?r21; (case h21 => ((simp only [g1, g2, g3]); rfl)); (case q21 => exact fun _ _ _ h => h); (case w21 => rfl); (case y21 => (intro w' hSw; (try dsimp only at hSw); go_simp; (try with_reducible rfl))); (try simp only [Act.put, s1, s2, s3]))
            (refine takeH (i := 3) (oi := ?o22) (v := ?v22) ?h22 (by kernel_rfl) ?q22 (Or.inl ⟨?w22, ?y22⟩) (by assumption) ?r22; (case h22 => ((simp only [g1, g2, g3]); rfl)); (case q22 => exact fun _ _ _ h => h); (case w22 => rfl); (case y22 => (intro w' hSw; (try dsimp only at hSw); go_simp; (try with_reducible rfl))); (try simp only [Act.put, s1, s2, s3]))
            (refine wpAnyH_ready (rs := [2]) (by kernel_rfl) (by simp) ?_; refine AllReadyH.cons (o := ?o23) ?h23 (fun K hK => ?s23) AllReadyH.nil; (case h23 => (first | ((simp only [g1, g2, g3]); rfl) | rfl)); (go_simp; go_at_call 42; refine (C1.out _).mono ?_; rintro e w3 ⟨rfl, kk⟩; (try dsimp only)); refine hK.out _ _ ?_ (fun hHd => ?_); (focus ((try dsimp only); exact held_kp (hHd.2.trans kk))); clear hK K; (try simp only [Act.put]))
            (refine takeH (i := 4) (oi := ?o25) (v := ?v25) ?h25 (by kernel_rfl) ?q25 (Or.inl ⟨?w25, ?y25⟩) (by assumption) ?r25; (case h25 => ((simp only [g1, g2, g3]); rfl)); (case q25 => exact fun _ _ _ h => h); (case w25 => rfl); (case y25 => (intro w' hSw; (try dsimp only at hSw); go_simp; (try with_reducible rfl))); (try simp only [Act.put, s1, s2, s3]))
            (refine takeH (i := 5) (oi := ?o26) (v := ?v26) ?h26 (by kernel_rfl) ?q26 (Or.inl ⟨?w26, ?y26⟩) (by assumption) ?r26; (case h26 => ((simp only [g1, g2, g3]); rfl)); (case q26 => exact fun _ _ _ h => h); (case w26 => rfl); (case y26 => (intro w' hSw; (try dsimp only at hSw); go_simp; (try with_reducible rfl))); (try simp only [Act.put, s1, s2, s3]))
            (refine takeH (i := 6) (oi := ?o27) (v := ?v27) ?h27 (by kernel_rfl) ?q27 (Or.inl ⟨?w27, ?y27⟩) (by assumption) ?r27; (case h27 => ((simp only [g1, g2, g3]); rfl)); (case q27 => exact fun _ _ _ h => h); (case w27 => rfl); (case y27 => (intro w' hSw; (try dsimp only at hSw); go_simp; (try with_reducible rfl))); (try simp only [Act.put, s1, s2, s3]))
            (refine takeH (i := 7) (oi := ?o28) (v := ?v28) ?h28 (by kernel_rfl) ?q28 (Or.inl ⟨?w28, ?y28⟩) (by assumption) ?r28; (case h28 => ((simp only [g1, g2, g3]); rfl)); (case q28 => exact fun _ _ _ h => h); (case w28 => rfl); (case y28 => (intro w' hSw; (try dsimp only at hSw); go_simp; (try with_reducible rfl))); (try simp only [Act.put, s1, s2, s3]))
            (refine takeH (i := 9) (oi := ?o29) (v := ?v29) ?h29 (by kernel_rfl) ?q29 (Or.inl ⟨?w29, ?y29⟩) (by assumption) ?r29; (case h29 => ((simp only [g1, g2, g3]); rfl)); (case q29 => exact fun _ _ _ h => h); (case w29 => rfl); (case y29 => (intro w' hSw; (try dsimp only at hSw); go_simp; (try with_reducible rfl))); (try simp only [Act.put, s1, s2, s3]))
            (refine takeH (i := 10) (oi := ?o30) (v := ?v30) ?h30 (by kernel_rfl) ?q30 (Or.inl ⟨?w30, ?y30⟩) (by assumption) ?r30; (case h30 => ((simp only [g1, g2, g3]); rfl)); (case q30 => exact fun _ _ _ h => h); (case w30 => rfl); (case y30 => (intro w' hSw; (try dsimp only at hSw); go_simp; (try with_reducible rfl))); (try simp only [Act.put, s1, s2, s3]))
            (refine takeH (i := 13) (oi := ?o31) (v := ?v31) ?h31 (by kernel_rfl) ?q31 (Or.inl ⟨?w31, ?y31⟩) (by assumption) ?r31; (case h31 => ((simp only [g1, g2, g3]); rfl)); (case q31 => exact fun _ _ _ h => h); (case w31 => rfl); (case y31 => (intro w' hSw; (try dsimp only at hSw); go_simp; (try with_reducible rfl))); (try simp only [Act.put, s1, s2, s3]))
            (refine wpAnyH_ready (rs := [8]) (by kernel_rfl) (by simp) ?_; refine AllReadyH.cons (o := ?o32) ?h32 (fun K hK => ?s32) AllReadyH.nil; (case h32 => (first | ((simp only [g1, g2, g3]); rfl) | rfl)); (go_simp; go_at_call 42; refine (C1.out _).mono ?_; rintro e w4 ⟨rfl, kk⟩; (try dsimp only)); refine hK.out _ _ ?_ (fun hHd => ?_); (focus ((try dsimp only); exact held_kp (hHd.2.trans kk))); clear hK K; (try simp only [Act.put]))
            (refine wpAnyH_ready (rs := [11]) (by kernel_rfl) (by simp) ?_; refine AllReadyH.cons (o := ?o34) ?h34 (fun K hK => ?s34) AllReadyH.nil; (case h34 => (first | ((simp only [g1, g2, g3]); rfl) | rfl)); (go_simp; go_at_call 42; refine (C2.out _).mono ?_; rintro e w5 ⟨rfl, kk⟩; (try dsimp only)); refine hK.out _ _ ?_ (fun hHd => ?_); (focus ((try dsimp only); exact held_kp (hHd.2.trans kk))); clear hK K; (try simp only [Act.put]))
            (refine takeH (i := 12) (oi := ?o36) (v := ?v36) ?h36 (by kernel_rfl) ?q36 (Or.inl ⟨?w36, ?y36⟩) (by assumption) ?r36; (case h36 => ((simp only [g1, g2, g3]); rfl)); (case q36 => exact fun _ _ _ h => h); (case w36 => rfl); (case y36 => (intro w' hSw; (try dsimp only at hSw); go_simp; (try with_reducible rfl))); (try simp only [Act.put, s1, s2, s3]))
            (refine takeH (i := 14) (oi := ?o37) (v := ?v37) ?h37 (by kernel_rfl) ?q37 (Or.inl ⟨?w37, ?y37⟩) (by assumption) ?r37; (case h37 => ((simp only [g1, g2, g3]); rfl)); (case q37 => exact fun _ _ _ h => h); (case w37 => rfl); (case y37 => (intro w' hSw; (try dsimp only at hSw); go_simp; (try with_reducible rfl))); (try simp only [Act.put, s1, s2, s3]))
            (refine takeH (i := 15) (oi := ?o38) (v := ?v38) ?h38 (by kernel_rfl) ?q38 (Or.inl ⟨?w38, ?y38⟩) (by assumption) ?r38; (case h38 => ((simp only [g1, g2, g3]); rfl)); (case q38 => exact fun _ _ _ h => h); (case w38 => rfl); (case y38 => (intro w' hSw; (try dsimp only at hSw); go_simp; (try with_reducible rfl))); (try simp only [Act.put, s1, s2, s3]))
            refine wpAnyH_done (by kernel_rfl) ?_ _
            have kz := xk0.trans (kw1.trans hHd.2)
            have c0 := (bq.kp hHd.2).cell 0 rfl
            have kz2 := kw0.trans kz
            clear hHd
            go_wp2_with fail
            (try go_ret)
            exact ⟨by rw [HSY.out]; rfl, kz2⟩
          by_cases q3 : p0 = 3
          · subst q3
            have hsy : signB l y = 45 := by rw [HSG.out]; rfl
            have HSY := Lib.hid hsy
            clear hsy HSG HCV HIT NXT
            go_wp2_with fail
            
            refine named_world (F := fun w1 => Blk w1 wr.heap.size [.int .i64 3, .int .i64 p1, .int .i64 p2, .int .i64 p3, .int .i64 p4] 30 ∧ Kp wr w1) ⟨(by (repeat (first | with_reducible assumption | ((with_reducible refine Blk.newL ?_ ?_); (focus (first | (simp; done) | omega)); rfl) | with_reducible refine Blk.drew ?_ | with_reducible refine Blk.drewN ?_ _ | with_reducible refine Blk.alloc ?_ _ | ((with_reducible refine Blk.other ?_ ?_ _); rotate_left; (focus (first | with_reducible assumption | omega | (simp; done) | (simp; omega))))))), (by (repeat (first | with_reducible assumption | with_reducible exact Kp.refl _ | with_reducible refine Kp.drew ?_ | with_reducible refine Kp.drewN ?_ _ | with_reducible refine Kp.alloc ?_ _ | ((with_reducible refine Kp.setCell ?_ ?_ _); rotate_left; (focus (first | omega | (simp; done) | (simp; omega)))) | with_reducible refine Kp.trans ?_ (by assumption))))⟩ ?_; rintro w1 ⟨bq, kw1⟩; have bq_0 := bq.cell 0 rfl; have bq_1 := bq.cell 1 rfl; have bq_2 := bq.cell 2 rfl; have bq_3 := bq.cell 3 rfl; have bq_4 := bq.cell 4 rfl; have bq_ne := bq.lt; have bq_n1 := Nat.lt_add_one_of_lt bq_ne; have bq_n2 := Nat.lt_add_one_of_lt bq_n1
            (refine wp_region_held_drew (S := (fun w' => (∀ b o, b < w1.heap.size → w'.cell? ⟨b, o, none⟩ = w1.cell? ⟨b, o, none⟩) ∧ Kp w1 w')) (by kernel_rfl) ?_ (fun hHd => ?_); (focus ((try dsimp only); (first | with_reducible assumption | with_reducible exact held_start _ | with_reducible exact held_next (by assumption) (by assumption) | with_reducible exact held_alloc (by assumption) _ | with_reducible exact held_drew (by assumption) | ((with_reducible refine held_kp ?_); (repeat (first | with_reducible assumption | with_reducible exact Kp.refl _ | with_reducible refine Kp.drew ?_ | with_reducible refine Kp.drewN ?_ _ | with_reducible refine Kp.alloc ?_ _ | ((with_reducible refine Kp.setCell ?_ ?_ _); rotate_left; (focus (first | omega | (simp; done) | (simp; omega)))) | with_reducible refine Kp.trans ?_ (by assumption))))))))
            (refine takeH (i := 0) (oi := ?o39) (v := ?v39) ?h39 (by kernel_rfl) ?q39 (Or.inl ⟨?w39, ?y39⟩) (by assumption) ?r39; (case h39 => ((simp only [g1, g3]); rfl)); (case q39 => exact fun _ _ _ h => h); (case w39 => rfl); (case y39 => (intro w' hSw; (try dsimp only at hSw); go_simp; (try with_reducible rfl))); (try simp only [Act.put, s1, s2, s3]))
            (refine takeH (i := 1) (oi := ?o40) (v := ?v40) ?h40 (by kernel_rfl) ?q40 (Or.inl ⟨?w40, ?y40⟩) (by assumption) ?r40; (case h40 => ((simp only [g1, g2, g3]); rfl)); (case q40 => exact fun _ _ _ h => h); (case w40 => rfl); (case y40 => (intro w' hSw; (try dsimp only at hSw); go_simp; (try with_reducible rfl))); (try simp only [Act.put, s1, s2, s3]))
            (refine takeH (i := 3) (oi := ?o41) (v := ?v41) ?h41 (by kernel_rfl) ?q41 (Or.inl ⟨?w41, ?y41⟩) (by assumption) ?r41; (case h41 => ((simp only [g1, g2, g3]); rfl)); (case q41 => exact fun _ _ _ h => h); (case w41 => rfl); (case y41 => (intro w' hSw; (try dsimp only at hSw); go_simp; (try with_reducible rfl))); (try simp only [Act.put, s1, s2, s3]))
            (refine wpAnyH_ready (rs := [2]) (by kernel_rfl) (by simp) ?_; refine AllReadyH.cons (o := ?o42) ?h42 (fun K hK => ?s42) AllReadyH.nil; (case h42 => (first | ((simp only [g1, g2, g3]); rfl) | rfl)); (go_simp; go_at_call 42; refine (C1.out _).mono ?_; rintro e w3 ⟨rfl, kk⟩; (try dsimp only)); refine hK.out _ _ ?_ (fun hHd => ?_); (focus ((try dsimp only); exact held_kp (hHd.2.trans kk))); clear hK K; (try simp only [Act.put]))
            (refine takeH (i := 4) (oi := ?o44) (v := ?v44) ?h44 (by kernel_rfl) ?q44 (Or.inl ⟨?w44, ?y44⟩) (by assumption) ?r44; (case h44 => ((simp only [g1, g2, g3]); rfl)); (case q44 => exact fun _ _ _ h => h); (case w44 => rfl); (case y44 => (intro w' hSw; (try dsimp only at hSw); go_simp; (try with_reducible rfl))); (try simp only [Act.put, s1, s2, s3]))
            (refine takeH (i := 5) (oi := ?o45) (v := ?v45) ?h45 (by kernel_rfl) ?q45 (Or.inl ⟨?w45, ?y45⟩) (by assumption) ?r45; (case h45 => ((simp only [g1, g2, g3]); rfl)); (case q45 => exact fun _ _ _ h => h); (case w45 => rfl); (case y45 => (intro w' hSw; (try dsimp only at hSw); go_simp; (try with_reducible rfl))); (try simp only [Act.put, s1, s2, s3]))
            (refine takeH (i := 6) (oi := ?o46) (v := ?v46) ?h46 (by kernel_rfl) ?q46 (Or.inl ⟨?w46, ?y46⟩) (by assumption) ?r46; (case h46 => ((simp only [g1, g2, g3]); rfl)); (case q46 => exact fun _ _ _ h => h); (case w46 => rfl); (case y46 => (intro w' hSw; (try dsimp only at hSw); go_simp; (try with_reducible rfl))); (try simp only [Act.put, s1, s2, s3]))
            (refine takeH (i := 7) (oi := ?o47) (v := ?v47) ?h47 (by kernel_rfl) ?q47 (Or.inl ⟨?w47, ?y47⟩) (by assumption) ?r47; (case h47 => ((simp only [g1, g2, g3]); rfl)); (case q47 => exact fun _ _ _ h => h); (case w47 => rfl); (case y47 => (intro w' hSw; (try dsimp only at hSw); go_simp; (try with_reducible rfl))); (try simp only [Act.put, s1, s2, s3]))
            (refine takeH (i := 9) (oi := ?o48) (v := ?v48) ?h48 (by kernel_rfl) ?q48 (Or.inl ⟨?w48, ?y48⟩) (by assumption) ?r48; (case h48 => ((simp only [g1, g2, g3]); rfl)); (case q48 => exact fun _ _ _ h => h); (case w48 => rfl); (case y48 => (intro w' hSw; (try dsimp only at hSw); go_simp; (try with_reducible rfl))); (try simp only [Act.put, s1, s2, s3]))
            (refine takeH (i := 10) (oi := ?o49) (v := ?v49) ?h49 (by kernel_rfl) ?q49 (Or.inl ⟨?w49, ?y49⟩) (by assumption) ?r49; (case h49 => ((simp only [g1, g2, g3]); rfl)); (case q49 => exact fun _ _ _ h => h); (case w49 => rfl); (case y49 => (intro w' hSw; (try dsimp only at hSw); go_simp; (try with_reducible rfl))); (try simp only [Act.put, s1, s2, s3]))
            (refine takeH (i := 13) (oi := ?o50) (v := ?v50) ?h50 (by kernel_rfl) ?q50 (Or.inl ⟨?w50, ?y50⟩) (by assumption) ?r50; (case h50 => ((simp only [g1, g2, g3]); rfl)); (case q50 => exact fun _ _ _ h => h); (case w50 => rfl); (case y50 => (intro w' hSw; (try dsimp only at hSw); go_simp; (try with_reducible rfl))); (try simp only [Act.put, s1, s2, s3]))
            (refine wpAnyH_ready (rs := [8]) (by kernel_rfl) (by simp) ?_; refine AllReadyH.cons (o := ?o51) ?h51 (fun K hK => ?s51) AllReadyH.nil; (case h51 => (first | ((simp only [g1, g2, g3]); rfl) | rfl)); (go_simp; go_at_call 42; refine (C1.out _).mono ?_; rintro e w4 ⟨rfl, kk⟩; (try dsimp only)); refine hK.out _ _ ?_ (fun hHd => ?_); (focus ((try dsimp only); exact held_kp (hHd.2.trans kk))); clear hK K; (try simp only [Act.put]))
            (refine wpAnyH_ready (rs := [11]) (by kernel_rfl) (by simp) ?_; refine AllReadyH.cons (o := ?o53) ?h53 (fun K hK => ?s53) AllReadyH.nil; (case h53 => (first | ((simp only [g1, g2, g3]); rfl) | rfl)); (go_simp; go_at_call 42; refine (C2.out _).mono ?_; rintro e w5 ⟨rfl, kk⟩; (try dsimp only)); refine hK.out _ _ ?_ (fun hHd => ?_); (focus ((try dsimp only); exact held_kp (hHd.2.trans kk))); clear hK K; (try simp only [Act.put]))
            (refine takeH (i := 12) (oi := ?o55) (v := ?v55) ?h55 (by kernel_rfl) ?q55 (Or.inl ⟨?w55, ?y55⟩) (by assumption) ?r55; (case h55 => ((simp only [g1, g2, g3]); rfl)); (case q55 => exact fun _ _ _ h => h); (case w55 => rfl); (case y55 => (intro w' hSw; (try dsimp only at hSw); go_simp; (try with_reducible rfl))); (try simp only [Act.put, s1, s2, s3]))
            (refine takeH (i := 14) (oi := ?o56) (v := ?v56) ?h56 (by kernel_rfl) ?q56 (Or.inl ⟨?w56, ?y56⟩) (by assumption) ?r56; (case h56 => ((simp only [g1, g2, g3]); rfl)); (case q56 => exact fun _ _ _ h => h); (case w56 => rfl); (case y56 => (intro w' hSw; (try dsimp only at hSw); go_simp; (try with_reducible rfl))); (try simp only [Act.put, s1, s2, s3]))
            (refine takeH (i := 15) (oi := ?o57) (v := ?v57) ?h57 (by kernel_rfl) ?q57 (Or.inl ⟨?w57, ?y57⟩) (by assumption) ?r57; (case h57 => ((simp only [g1, g2, g3]); rfl)); (case q57 => exact fun _ _ _ h => h); (case w57 => rfl); (case y57 => (intro w' hSw; (try dsimp only at hSw); go_simp; (try with_reducible rfl))); (try simp only [Act.put, s1, s2, s3]))
            refine wpAnyH_done (by kernel_rfl) ?_ _
            have kz := xk0.trans (kw1.trans hHd.2)
            have c0 := (bq.kp hHd.2).cell 0 rfl
            have kz2 := kw0.trans kz
            clear hHd
            go_wp2_with fail
            (try go_ret)
            exact ⟨by rw [HSY.out]; rfl, kz2⟩
          by_cases q4 : p0 = 4
          · subst q4
            have hsy : signB l y = 110 := by rw [HSG.out]; rfl
            have HSY := Lib.hid hsy
            clear hsy HSG HCV HIT NXT
            go_wp2_with fail
            
            refine named_world (F := fun w1 => Blk w1 wr.heap.size [.int .i64 4, .int .i64 p1, .int .i64 p2, .int .i64 p3, .int .i64 p4] 30 ∧ Kp wr w1) ⟨(by (repeat (first | with_reducible assumption | ((with_reducible refine Blk.newL ?_ ?_); (focus (first | (simp; done) | omega)); rfl) | with_reducible refine Blk.drew ?_ | with_reducible refine Blk.drewN ?_ _ | with_reducible refine Blk.alloc ?_ _ | ((with_reducible refine Blk.other ?_ ?_ _); rotate_left; (focus (first | with_reducible assumption | omega | (simp; done) | (simp; omega))))))), (by (repeat (first | with_reducible assumption | with_reducible exact Kp.refl _ | with_reducible refine Kp.drew ?_ | with_reducible refine Kp.drewN ?_ _ | with_reducible refine Kp.alloc ?_ _ | ((with_reducible refine Kp.setCell ?_ ?_ _); rotate_left; (focus (first | omega | (simp; done) | (simp; omega)))) | with_reducible refine Kp.trans ?_ (by assumption))))⟩ ?_; rintro w1 ⟨bq, kw1⟩; have bq_0 := bq.cell 0 rfl; have bq_1 := bq.cell 1 rfl; have bq_2 := bq.cell 2 rfl; have bq_3 := bq.cell 3 rfl; have bq_4 := bq.cell 4 rfl; have bq_ne := bq.lt; have bq_n1 := Nat.lt_add_one_of_lt bq_ne; have bq_n2 := Nat.lt_add_one_of_lt bq_n1
            (refine wp_region_held_drew (S := (fun w' => (∀ b o, b < w1.heap.size → w'.cell? ⟨b, o, none⟩ = w1.cell? ⟨b, o, none⟩) ∧ Kp w1 w')) (by kernel_rfl) ?_ (fun hHd => ?_); (focus ((try dsimp only); (first | with_reducible assumption | with_reducible exact held_start _ | with_reducible exact held_next (by assumption) (by assumption) | with_reducible exact held_alloc (by assumption) _ | with_reducible exact held_drew (by assumption) | ((with_reducible refine held_kp ?_); (repeat (first | with_reducible assumption | with_reducible exact Kp.refl _ | with_reducible refine Kp.drew ?_ | with_reducible refine Kp.drewN ?_ _ | with_reducible refine Kp.alloc ?_ _ | ((with_reducible refine Kp.setCell ?_ ?_ _); rotate_left; (focus (first | omega | (simp; done) | (simp; omega)))) | with_reducible refine Kp.trans ?_ (by assumption))))))))
            (refine takeH (i := 0) (oi := ?o58) (v := ?v58) ?h58 (by kernel_rfl) ?q58 (Or.inl ⟨?w58, ?y58⟩) (by assumption) ?r58; (case h58 => ((simp only [g1, g3]); rfl)); (case q58 => exact fun _ _ _ h => h); (case w58 => rfl); (case y58 => (intro w' hSw; (try dsimp only at hSw); go_simp; (try with_reducible rfl))); (try simp only [Act.put, s1, s2, s3]))
            (refine takeH (i := 1) (oi := ?o59) (v := ?v59) ?h59 (by kernel_rfl) ?q59 (Or.inl ⟨?w59, ?y59⟩) (by assumption) ?r59; (case h59 => ((simp only [g1, g2, g3]); rfl)); (case q59 => exact fun _ _ _ h => h); (case w59 => rfl); (case y59 => (intro w' hSw; (try dsimp only at hSw); go_simp; (try with_reducible rfl))); (try simp only [Act.put, s1, s2, s3]))
            (refine takeH (i := 3) (oi := ?o60) (v := ?v60) ?h60 (by kernel_rfl) ?q60 (Or.inl ⟨?w60, ?y60⟩) (by assumption) ?r60; (case h60 => ((simp only [g1, g2, g3]); rfl)); (case q60 => exact fun _ _ _ h => h); (case w60 => rfl); (case y60 => (intro w' hSw; (try dsimp only at hSw); go_simp; (try with_reducible rfl))); (try simp only [Act.put, s1, s2, s3]))
            (refine wpAnyH_ready (rs := [2]) (by kernel_rfl) (by simp) ?_; refine AllReadyH.cons (o := ?o61) ?h61 (fun K hK => ?s61) AllReadyH.nil; (case h61 => (first | ((simp only [g1, g2, g3]); rfl) | rfl)); (go_simp; go_at_call 42; refine (C1.out _).mono ?_; rintro e w3 ⟨rfl, kk⟩; (try dsimp only)); refine hK.out _ _ ?_ (fun hHd => ?_); (focus ((try dsimp only); exact held_kp (hHd.2.trans kk))); clear hK K; (try simp only [Act.put]))
            (refine takeH (i := 4) (oi := ?o63) (v := ?v63) ?h63 (by kernel_rfl) ?q63 (Or.inl ⟨?w63, ?y63⟩) (by assumption) ?r63; (case h63 => ((simp only [g1, g2, g3]); rfl)); (case q63 => exact fun _ _ _ h => h); (case w63 => rfl); (case y63 => (intro w' hSw; (try dsimp only at hSw); go_simp; (try with_reducible rfl))); (try simp only [Act.put, s1, s2, s3]))
            (refine takeH (i := 5) (oi := ?o64) (v := ?v64) ?h64 (by kernel_rfl) ?q64 (Or.inl ⟨?w64, ?y64⟩) (by assumption) ?r64; (case h64 => ((simp only [g1, g2, g3]); rfl)); (case q64 => exact fun _ _ _ h => h); (case w64 => rfl); (case y64 => (intro w' hSw; (try dsimp only at hSw); go_simp; (try with_reducible rfl))); (try simp only [Act.put, s1, s2, s3]))
            (refine takeH (i := 6) (oi := ?o65) (v := ?v65) ?h65 (by kernel_rfl) ?q65 (Or.inl ⟨?w65, ?y65⟩) (by assumption) ?r65; (case h65 => ((simp only [g1, g2, g3]); rfl)); (case q65 => exact fun _ _ _ h => h); (case w65 => rfl); (case y65 => (intro w' hSw; (try dsimp only at hSw); go_simp; (try with_reducible rfl))); (try simp only [Act.put, s1, s2, s3]))
            (refine takeH (i := 7) (oi := ?o66) (v := ?v66) ?h66 (by kernel_rfl) ?q66 (Or.inl ⟨?w66, ?y66⟩) (by assumption) ?r66; (case h66 => ((simp only [g1, g2, g3]); rfl)); (case q66 => exact fun _ _ _ h => h); (case w66 => rfl); (case y66 => (intro w' hSw; (try dsimp only at hSw); go_simp; (try with_reducible rfl))); (try simp only [Act.put, s1, s2, s3]))
            (refine takeH (i := 9) (oi := ?o67) (v := ?v67) ?h67 (by kernel_rfl) ?q67 (Or.inl ⟨?w67, ?y67⟩) (by assumption) ?r67; (case h67 => ((simp only [g1, g2, g3]); rfl)); (case q67 => exact fun _ _ _ h => h); (case w67 => rfl); (case y67 => (intro w' hSw; (try dsimp only at hSw); go_simp; (try with_reducible rfl))); (try simp only [Act.put, s1, s2, s3]))
            (refine takeH (i := 10) (oi := ?o68) (v := ?v68) ?h68 (by kernel_rfl) ?q68 (Or.inl ⟨?w68, ?y68⟩) (by assumption) ?r68; (case h68 => ((simp only [g1, g2, g3]); rfl)); (case q68 => exact fun _ _ _ h => h); (case w68 => rfl); (case y68 => (intro w' hSw; (try dsimp only at hSw); go_simp; (try with_reducible rfl))); (try simp only [Act.put, s1, s2, s3]))
            (refine takeH (i := 13) (oi := ?o69) (v := ?v69) ?h69 (by kernel_rfl) ?q69 (Or.inl ⟨?w69, ?y69⟩) (by assumption) ?r69; (case h69 => ((simp only [g1, g2, g3]); rfl)); (case q69 => exact fun _ _ _ h => h); (case w69 => rfl); (case y69 => (intro w' hSw; (try dsimp only at hSw); go_simp; (try with_reducible rfl))); (try simp only [Act.put, s1, s2, s3]))
            (refine wpAnyH_ready (rs := [8]) (by kernel_rfl) (by simp) ?_; refine AllReadyH.cons (o := ?o70) ?h70 (fun K hK => ?s70) AllReadyH.nil; (case h70 => (first | ((simp only [g1, g2, g3]); rfl) | rfl)); (go_simp; go_at_call 42; refine (C1.out _).mono ?_; rintro e w4 ⟨rfl, kk⟩; (try dsimp only)); refine hK.out _ _ ?_ (fun hHd => ?_); (focus ((try dsimp only); exact held_kp (hHd.2.trans kk))); clear hK K; (try simp only [Act.put]))
            (refine wpAnyH_ready (rs := [11]) (by kernel_rfl) (by simp) ?_; refine AllReadyH.cons (o := ?o72) ?h72 (fun K hK => ?s72) AllReadyH.nil; (case h72 => (first | ((simp only [g1, g2, g3]); rfl) | rfl)); (go_simp; go_at_call 42; refine (C2.out _).mono ?_; rintro e w5 ⟨rfl, kk⟩; (try dsimp only)); refine hK.out _ _ ?_ (fun hHd => ?_); (focus ((try dsimp only); exact held_kp (hHd.2.trans kk))); clear hK K; (try simp only [Act.put]))
            (refine takeH (i := 12) (oi := ?o74) (v := ?v74) ?h74 (by kernel_rfl) ?q74 (Or.inl ⟨?w74, ?y74⟩) (by assumption) ?r74; (case h74 => ((simp only [g1, g2, g3]); rfl)); (case q74 => exact fun _ _ _ h => h); (case w74 => rfl); (case y74 => (intro w' hSw; (try dsimp only at hSw); go_simp; (try with_reducible rfl))); (try simp only [Act.put, s1, s2, s3]))
            (refine takeH (i := 14) (oi := ?o75) (v := ?v75) ?h75 (by kernel_rfl) ?q75 (Or.inl ⟨?w75, ?y75⟩) (by assumption) ?r75; (case h75 => ((simp only [g1, g2, g3]); rfl)); (case q75 => exact fun _ _ _ h => h); (case w75 => rfl); (case y75 => (intro w' hSw; (try dsimp only at hSw); go_simp; (try with_reducible rfl))); (try simp only [Act.put, s1, s2, s3]))
            (refine takeH (i := 15) (oi := ?o76) (v := ?v76) ?h76 (by kernel_rfl) ?q76 (Or.inl ⟨?w76, ?y76⟩) (by assumption) ?r76; (case h76 => ((simp only [g1, g2, g3]); rfl)); (case q76 => exact fun _ _ _ h => h); (case w76 => rfl); (case y76 => (intro w' hSw; (try dsimp only at hSw); go_simp; (try with_reducible rfl))); (try simp only [Act.put, s1, s2, s3]))
            refine wpAnyH_done (by kernel_rfl) ?_ _
            have kz := xk0.trans (kw1.trans hHd.2)
            have c0 := (bq.kp hHd.2).cell 0 rfl
            have kz2 := kw0.trans kz
            clear hHd
            go_wp2_with fail
            (try go_ret)
            exact ⟨by rw [HSY.out]; rfl, kz2⟩
          have hsy : signB l y = 63 := by rw [HSG.out]; unfold symB; rw [if_neg q1, if_neg q2, if_neg q3, if_neg q4]
          have HSY := Lib.hid hsy
          clear hsy HSG HCV HIT NXT
          go_wp2_with fail
          
          refine named_world (F := fun w1 => Blk w1 wr.heap.size [.int .i64 p0, .int .i64 p1, .int .i64 p2, .int .i64 p3, .int .i64 p4] 30 ∧ Kp wr w1) ⟨(by (repeat (first | with_reducible assumption | ((with_reducible refine Blk.newL ?_ ?_); (focus (first | (simp; done) | omega)); rfl) | with_reducible refine Blk.drew ?_ | with_reducible refine Blk.drewN ?_ _ | with_reducible refine Blk.alloc ?_ _ | ((with_reducible refine Blk.other ?_ ?_ _); rotate_left; (focus (first | with_reducible assumption | omega | (simp; done) | (simp; omega))))))), (by (repeat (first | with_reducible assumption | with_reducible exact Kp.refl _ | with_reducible refine Kp.drew ?_ | with_reducible refine Kp.drewN ?_ _ | with_reducible refine Kp.alloc ?_ _ | ((with_reducible refine Kp.setCell ?_ ?_ _); rotate_left; (focus (first | omega | (simp; done) | (simp; omega)))) | with_reducible refine Kp.trans ?_ (by assumption))))⟩ ?_; rintro w1 ⟨bq, kw1⟩; have bq_0 := bq.cell 0 rfl; have bq_1 := bq.cell 1 rfl; have bq_2 := bq.cell 2 rfl; have bq_3 := bq.cell 3 rfl; have bq_4 := bq.cell 4 rfl; have bq_ne := bq.lt; have bq_n1 := Nat.lt_add_one_of_lt bq_ne; have bq_n2 := Nat.lt_add_one_of_lt bq_n1
          (refine wp_region_held_drew (S := (fun w' => (∀ b o, b < w1.heap.size → w'.cell? ⟨b, o, none⟩ = w1.cell? ⟨b, o, none⟩) ∧ Kp w1 w')) (by kernel_rfl) ?_ (fun hHd => ?_); (focus ((try dsimp only); (first | with_reducible assumption | with_reducible exact held_start _ | with_reducible exact held_next (by assumption) (by assumption) | with_reducible exact held_alloc (by assumption) _ | with_reducible exact held_drew (by assumption) | ((with_reducible refine held_kp ?_); (repeat (first | with_reducible assumption | with_reducible exact Kp.refl _ | with_reducible refine Kp.drew ?_ | with_reducible refine Kp.drewN ?_ _ | with_reducible refine Kp.alloc ?_ _ | ((with_reducible refine Kp.setCell ?_ ?_ _); rotate_left; (focus (first | omega | (simp; done) | (simp; omega)))) | with_reducible refine Kp.trans ?_ (by assumption))))))))
          (refine takeH (i := 0) (oi := ?o77) (v := ?v77) ?h77 (by kernel_rfl) ?q77 (Or.inl ⟨?w77, ?y77⟩) (by assumption) ?r77; (case h77 => ((simp only [g1, g3]); rfl)); (case q77 => exact fun _ _ _ h => h); (case w77 => rfl); (case y77 => (intro w' hSw; (try dsimp only at hSw); go_simp; (try with_reducible rfl))); (try simp only [Act.put, s1, s2, s3]))
          (refine takeH (i := 1) (oi := ?o78) (v := ?v78) ?h78 (by kernel_rfl) ?q78 (Or.inl ⟨?w78, ?y78⟩) (by assumption) ?r78; (case h78 => ((simp only [g1, g2, g3]); rfl)); (case q78 => exact fun _ _ _ h => h); (case w78 => rfl); (case y78 => (intro w' hSw; (try dsimp only at hSw); go_simp; (try with_reducible rfl))); (try simp only [Act.put, s1, s2, s3]))
          (refine takeH (i := 3) (oi := ?o79) (v := ?v79) ?h79 (by kernel_rfl) ?q79 (Or.inl ⟨?w79, ?y79⟩) (by assumption) ?r79; (case h79 => ((simp only [g1, g2, g3]); rfl)); (case q79 => exact fun _ _ _ h => h); (case w79 => rfl); (case y79 => (intro w' hSw; (try dsimp only at hSw); go_simp; (try with_reducible rfl))); (try simp only [Act.put, s1, s2, s3]))
          (refine wpAnyH_ready (rs := [2]) (by kernel_rfl) (by simp) ?_; refine AllReadyH.cons (o := ?o80) ?h80 (fun K hK => ?s80) AllReadyH.nil; (case h80 => (first | ((simp only [g1, g2, g3]); rfl) | rfl)); (go_simp; go_at_call 42; refine (C1.out _).mono ?_; rintro e w3 ⟨rfl, kk⟩; (try dsimp only)); refine hK.out _ _ ?_ (fun hHd => ?_); (focus ((try dsimp only); exact held_kp (hHd.2.trans kk))); clear hK K; (try simp only [Act.put]))
          (refine takeH (i := 4) (oi := ?o82) (v := ?v82) ?h82 (by kernel_rfl) ?q82 (Or.inl ⟨?w82, ?y82⟩) (by assumption) ?r82; (case h82 => ((simp only [g1, g2, g3]); rfl)); (case q82 => exact fun _ _ _ h => h); (case w82 => rfl); (case y82 => (intro w' hSw; (try dsimp only at hSw); go_simp; (try with_reducible rfl))); (try simp only [Act.put, s1, s2, s3]))
          (refine takeH (i := 5) (oi := ?o83) (v := ?v83) ?h83 (by kernel_rfl) ?q83 (Or.inl ⟨?w83, ?y83⟩) (by assumption) ?r83; (case h83 => ((simp only [g1, g2, g3]); rfl)); (case q83 => exact fun _ _ _ h => h); (case w83 => rfl); (case y83 => (intro w' hSw; (try dsimp only at hSw); go_simp; (try with_reducible rfl))); (try simp only [Act.put, s1, s2, s3]))
          (refine takeH (i := 6) (oi := ?o84) (v := ?v84) ?h84 (by kernel_rfl) ?q84 (Or.inl ⟨?w84, ?y84⟩) (by assumption) ?r84; (case h84 => ((simp only [g1, g2, g3]); rfl)); (case q84 => exact fun _ _ _ h => h); (case w84 => rfl); (case y84 => (intro w' hSw; (try dsimp only at hSw); go_simp; (try with_reducible rfl))); (try simp only [Act.put, s1, s2, s3]))
          (refine takeH (i := 7) (oi := ?o85) (v := ?v85) ?h85 (by kernel_rfl) ?q85 (Or.inl ⟨?w85, ?y85⟩) (by assumption) ?r85; (case h85 => ((simp only [g1, g2, g3]); rfl)); (case q85 => exact fun _ _ _ h => h); (case w85 => rfl); (case y85 => (intro w' hSw; (try dsimp only at hSw); go_simp; (try with_reducible rfl))); (try simp only [Act.put, s1, s2, s3]))
          (refine takeH (i := 9) (oi := ?o86) (v := ?v86) ?h86 (by kernel_rfl) ?q86 (Or.inl ⟨?w86, ?y86⟩) (by assumption) ?r86; (case h86 => ((simp only [g1, g2, g3]); rfl)); (case q86 => exact fun _ _ _ h => h); (case w86 => rfl); (case y86 => (intro w' hSw; (try dsimp only at hSw); go_simp; (try with_reducible rfl))); (try simp only [Act.put, s1, s2, s3]))
          (refine takeH (i := 10) (oi := ?o87) (v := ?v87) ?h87 (by kernel_rfl) ?q87 (Or.inl ⟨?w87, ?y87⟩) (by assumption) ?r87; (case h87 => ((simp only [g1, g2, g3]); rfl)); (case q87 => exact fun _ _ _ h => h); (case w87 => rfl); (case y87 => (intro w' hSw; (try dsimp only at hSw); go_simp; (try with_reducible rfl))); (try simp only [Act.put, s1, s2, s3]))
          (refine takeH (i := 13) (oi := ?o88) (v := ?v88) ?h88 (by kernel_rfl) ?q88 (Or.inl ⟨?w88, ?y88⟩) (by assumption) ?r88; (case h88 => ((simp only [g1, g2, g3]); rfl)); (case q88 => exact fun _ _ _ h => h); (case w88 => rfl); (case y88 => (intro w' hSw; (try dsimp only at hSw); go_simp; (try with_reducible rfl))); (try simp only [Act.put, s1, s2, s3]))
          (refine wpAnyH_ready (rs := [8]) (by kernel_rfl) (by simp) ?_; refine AllReadyH.cons (o := ?o89) ?h89 (fun K hK => ?s89) AllReadyH.nil; (case h89 => (first | ((simp only [g1, g2, g3]); rfl) | rfl)); (go_simp; go_at_call 42; refine (C1.out _).mono ?_; rintro e w4 ⟨rfl, kk⟩; (try dsimp only)); refine hK.out _ _ ?_ (fun hHd => ?_); (focus ((try dsimp only); exact held_kp (hHd.2.trans kk))); clear hK K; (try simp only [Act.put]))
          (refine wpAnyH_ready (rs := [11]) (by kernel_rfl) (by simp) ?_; refine AllReadyH.cons (o := ?o91) ?h91 (fun K hK => ?s91) AllReadyH.nil; (case h91 => (first | ((simp only [g1, g2, g3]); rfl) | rfl)); (go_simp; go_at_call 42; refine (C2.out _).mono ?_; rintro e w5 ⟨rfl, kk⟩; (try dsimp only)); refine hK.out _ _ ?_ (fun hHd => ?_); (focus ((try dsimp only); exact held_kp (hHd.2.trans kk))); clear hK K; (try simp only [Act.put]))
          (refine takeH (i := 12) (oi := ?o93) (v := ?v93) ?h93 (by kernel_rfl) ?q93 (Or.inl ⟨?w93, ?y93⟩) (by assumption) ?r93; (case h93 => ((simp only [g1, g2, g3]); rfl)); (case q93 => exact fun _ _ _ h => h); (case w93 => rfl); (case y93 => (intro w' hSw; (try dsimp only at hSw); go_simp; (try with_reducible rfl))); (try simp only [Act.put, s1, s2, s3]))
          (refine takeH (i := 14) (oi := ?o94) (v := ?v94) ?h94 (by kernel_rfl) ?q94 (Or.inl ⟨?w94, ?y94⟩) (by assumption) ?r94; (case h94 => ((simp only [g1, g2, g3]); rfl)); (case q94 => exact fun _ _ _ h => h); (case w94 => rfl); (case y94 => (intro w' hSw; (try dsimp only at hSw); go_simp; (try with_reducible rfl))); (try simp only [Act.put, s1, s2, s3]))
          (refine takeH (i := 15) (oi := ?o95) (v := ?v95) ?h95 (by kernel_rfl) ?q95 (Or.inl ⟨?w95, ?y95⟩) (by assumption) ?r95; (case h95 => ((simp only [g1, g2, g3]); rfl)); (case q95 => exact fun _ _ _ h => h); (case w95 => rfl); (case y95 => (intro w' hSw; (try dsimp only at hSw); go_simp; (try with_reducible rfl))); (try simp only [Act.put, s1, s2, s3]))
          refine wpAnyH_done (by kernel_rfl) ?_ _
          have kz := xk0.trans (kw1.trans hHd.2)
          have c0 := (bq.kp hHd.2).cell 0 rfl
          have kz2 := kw0.trans kz
          clear hHd
          go_wp2_with fail
          (try go_ret)
          exact ⟨by rw [HSY.out]; rfl, kz2⟩
        · have j3 : decide (y < Y + H) = false := decide_eq_false c2
          have nx := NXT.out (by rw [HCV.out, j2, j3]; rfl)
          have NX := Lib.hid nx
          clear nx c1 c2
          go_wp2_with fail
          
          refine named_world (F := fun w1 => Blk w1 wr.heap.size [.int .i64 p0, .int .i64 p1, .int .i64 p2, .int .i64 p3, .int .i64 p4] 30 ∧ Kp wr w1) ⟨(by (repeat (first | with_reducible assumption | ((with_reducible refine Blk.newL ?_ ?_); (focus (first | (simp; done) | omega)); rfl) | with_reducible refine Blk.drew ?_ | with_reducible refine Blk.drewN ?_ _ | with_reducible refine Blk.alloc ?_ _ | ((with_reducible refine Blk.other ?_ ?_ _); rotate_left; (focus (first | with_reducible assumption | omega | (simp; done) | (simp; omega))))))), (by (repeat (first | with_reducible assumption | with_reducible exact Kp.refl _ | with_reducible refine Kp.drew ?_ | with_reducible refine Kp.drewN ?_ _ | with_reducible refine Kp.alloc ?_ _ | ((with_reducible refine Kp.setCell ?_ ?_ _); rotate_left; (focus (first | omega | (simp; done) | (simp; omega)))) | with_reducible refine Kp.trans ?_ (by assumption))))⟩ ?_; rintro w1 ⟨bq, kw1⟩; have bq_0 := bq.cell 0 rfl; have bq_1 := bq.cell 1 rfl; have bq_2 := bq.cell 2 rfl; have bq_3 := bq.cell 3 rfl; have bq_4 := bq.cell 4 rfl; have bq_ne := bq.lt; have bq_n1 := Nat.lt_add_one_of_lt bq_ne; have bq_n2 := Nat.lt_add_one_of_lt bq_n1
          (refine wp_region_held_drew (S := (fun w' => (∀ b o, b < w1.heap.size → w'.cell? ⟨b, o, none⟩ = w1.cell? ⟨b, o, none⟩) ∧ Kp w1 w')) (by kernel_rfl) ?_ (fun hHd => ?_); (focus ((try dsimp only); (first | with_reducible assumption | with_reducible exact held_start _ | with_reducible exact held_next (by assumption) (by assumption) | with_reducible exact held_alloc (by assumption) _ | with_reducible exact held_drew (by assumption) | ((with_reducible refine held_kp ?_); (repeat (first | with_reducible assumption | with_reducible exact Kp.refl _ | with_reducible refine Kp.drew ?_ | with_reducible refine Kp.drewN ?_ _ | with_reducible refine Kp.alloc ?_ _ | ((with_reducible refine Kp.setCell ?_ ?_ _); rotate_left; (focus (first | omega | (simp; done) | (simp; omega)))) | with_reducible refine Kp.trans ?_ (by assumption))))))))
          (refine takeH (i := 0) (oi := ?o96) (v := ?v96) ?h96 (by kernel_rfl) ?q96 (Or.inl ⟨?w96, ?y96⟩) (by assumption) ?r96; (case h96 => ((simp only [g1, g3]); rfl)); (case q96 => exact fun _ _ _ h => h); (case w96 => rfl); (case y96 => (intro w' hSw; (try dsimp only at hSw); go_simp; (try with_reducible rfl))); (try simp only [Act.put, s1, s2, s3]))
          (refine takeH (i := 1) (oi := ?o97) (v := ?v97) ?h97 (by kernel_rfl) ?q97 (Or.inl ⟨?w97, ?y97⟩) (by assumption) ?r97; (case h97 => ((simp only [g1, g2, g3]); rfl)); (case q97 => exact fun _ _ _ h => h); (case w97 => rfl); (case y97 => (intro w' hSw; (try dsimp only at hSw); go_simp; (try with_reducible rfl))); (try simp only [Act.put, s1, s2, s3]))
          (refine takeH (i := 3) (oi := ?o98) (v := ?v98) ?h98 (by kernel_rfl) ?q98 (Or.inl ⟨?w98, ?y98⟩) (by assumption) ?r98; (case h98 => ((simp only [g1, g2, g3]); rfl)); (case q98 => exact fun _ _ _ h => h); (case w98 => rfl); (case y98 => (intro w' hSw; (try dsimp only at hSw); go_simp; (try with_reducible rfl))); (try simp only [Act.put, s1, s2, s3]))
          (refine wpAnyH_ready (rs := [2]) (by kernel_rfl) (by simp) ?_; refine AllReadyH.cons (o := ?o99) ?h99 (fun K hK => ?s99) AllReadyH.nil; (case h99 => (first | ((simp only [g1, g2, g3]); rfl) | rfl)); (go_simp; go_at_call 42; refine (C1.out _).mono ?_; rintro e w3 ⟨rfl, kk⟩; (try dsimp only)); refine hK.out _ _ ?_ (fun hHd => ?_); (focus ((try dsimp only); exact held_kp (hHd.2.trans kk))); clear hK K; (try simp only [Act.put]))
          (refine takeH (i := 4) (oi := ?o101) (v := ?v101) ?h101 (by kernel_rfl) ?q101 (Or.inl ⟨?w101, ?y101⟩) (by assumption) ?r101; (case h101 => ((simp only [g1, g2, g3]); rfl)); (case q101 => exact fun _ _ _ h => h); (case w101 => rfl); (case y101 => (intro w' hSw; (try dsimp only at hSw); go_simp; (try with_reducible rfl))); (try simp only [Act.put, s1, s2, s3]))
          (refine takeH (i := 5) (oi := ?o102) (v := ?v102) ?h102 (by kernel_rfl) ?q102 (Or.inl ⟨?w102, ?y102⟩) (by assumption) ?r102; (case h102 => ((simp only [g1, g2, g3]); rfl)); (case q102 => exact fun _ _ _ h => h); (case w102 => rfl); (case y102 => (intro w' hSw; (try dsimp only at hSw); go_simp; (try with_reducible rfl))); (try simp only [Act.put, s1, s2, s3]))
          (refine takeH (i := 6) (oi := ?o103) (v := ?v103) ?h103 (by kernel_rfl) ?q103 (Or.inl ⟨?w103, ?y103⟩) (by assumption) ?r103; (case h103 => ((simp only [g1, g2, g3]); rfl)); (case q103 => exact fun _ _ _ h => h); (case w103 => rfl); (case y103 => (intro w' hSw; (try dsimp only at hSw); go_simp; (try with_reducible rfl))); (try simp only [Act.put, s1, s2, s3]))
          (refine takeH (i := 7) (oi := ?o104) (v := ?v104) ?h104 (by kernel_rfl) ?q104 (Or.inl ⟨?w104, ?y104⟩) (by assumption) ?r104; (case h104 => ((simp only [g1, g2, g3]); rfl)); (case q104 => exact fun _ _ _ h => h); (case w104 => rfl); (case y104 => (intro w' hSw; (try dsimp only at hSw); go_simp; (try with_reducible rfl))); (try simp only [Act.put, s1, s2, s3]))
          (refine takeH (i := 9) (oi := ?o105) (v := ?v105) ?h105 (by kernel_rfl) ?q105 (Or.inl ⟨?w105, ?y105⟩) (by assumption) ?r105; (case h105 => ((simp only [g1, g2, g3]); rfl)); (case q105 => exact fun _ _ _ h => h); (case w105 => rfl); (case y105 => (intro w' hSw; (try dsimp only at hSw); go_simp; (try with_reducible rfl))); (try simp only [Act.put, s1, s2, s3]))
          (refine takeH (i := 10) (oi := ?o106) (v := ?v106) ?h106 (by kernel_rfl) ?q106 (Or.inl ⟨?w106, ?y106⟩) (by assumption) ?r106; (case h106 => ((simp only [g1, g2, g3]); rfl)); (case q106 => exact fun _ _ _ h => h); (case w106 => rfl); (case y106 => (intro w' hSw; (try dsimp only at hSw); go_simp; (try with_reducible rfl))); (try simp only [Act.put, s1, s2, s3]))
          (refine takeH (i := 13) (oi := ?o107) (v := ?v107) ?h107 (by kernel_rfl) ?q107 (Or.inl ⟨?w107, ?y107⟩) (by assumption) ?r107; (case h107 => ((simp only [g1, g2, g3]); rfl)); (case q107 => exact fun _ _ _ h => h); (case w107 => rfl); (case y107 => (intro w' hSw; (try dsimp only at hSw); go_simp; (try with_reducible rfl))); (try simp only [Act.put, s1, s2, s3]))
          (refine wpAnyH_ready (rs := [8]) (by kernel_rfl) (by simp) ?_; refine AllReadyH.cons (o := ?o108) ?h108 (fun K hK => ?s108) AllReadyH.nil; (case h108 => (first | ((simp only [g1, g2, g3]); rfl) | rfl)); (go_simp; go_at_call 42; refine (C1.out _).mono ?_; rintro e w4 ⟨rfl, kk⟩; (try dsimp only)); refine hK.out _ _ ?_ (fun hHd => ?_); (focus ((try dsimp only); exact held_kp (hHd.2.trans kk))); clear hK K; (try simp only [Act.put]))
          (refine wpAnyH_ready (rs := [11]) (by kernel_rfl) (by simp) ?_; refine AllReadyH.cons (o := ?o110) ?h110 (fun K hK => ?s110) AllReadyH.nil; (case h110 => (first | ((simp only [g1, g2, g3]); rfl) | rfl)); (go_simp; go_at_call 42; refine (C2.out _).mono ?_; rintro e w5 ⟨rfl, kk⟩; (try dsimp only)); refine hK.out _ _ ?_ (fun hHd => ?_); (focus ((try dsimp only); exact held_kp (hHd.2.trans kk))); clear hK K; (try simp only [Act.put]))
          (refine takeH (i := 12) (oi := ?o112) (v := ?v112) ?h112 (by kernel_rfl) ?q112 (Or.inl ⟨?w112, ?y112⟩) (by assumption) ?r112; (case h112 => ((simp only [g1, g2, g3]); rfl)); (case q112 => exact fun _ _ _ h => h); (case w112 => rfl); (case y112 => (intro w' hSw; (try dsimp only at hSw); go_simp; (try with_reducible rfl))); (try simp only [Act.put, s1, s2, s3]))
          (refine takeH (i := 14) (oi := ?o113) (v := ?v113) ?h113 (by kernel_rfl) ?q113 (Or.inl ⟨?w113, ?y113⟩) (by assumption) ?r113; (case h113 => ((simp only [g1, g2, g3]); rfl)); (case q113 => exact fun _ _ _ h => h); (case w113 => rfl); (case y113 => (intro w' hSw; (try dsimp only at hSw); go_simp; (try with_reducible rfl))); (try simp only [Act.put, s1, s2, s3]))
          (refine takeH (i := 15) (oi := ?o114) (v := ?v114) ?h114 (by kernel_rfl) ?q114 (Or.inl ⟨?w114, ?y114⟩) (by assumption) ?r114; (case h114 => ((simp only [g1, g2, g3]); rfl)); (case q114 => exact fun _ _ _ h => h); (case w114 => rfl); (case y114 => (intro w' hSw; (try dsimp only at hSw); go_simp; (try with_reducible rfl))); (try simp only [Act.put, s1, s2, s3]))
          refine wpAnyH_done (by kernel_rfl) ?_ _
          have kz := xk0.trans (kw1.trans hHd.2)
          go_wp2_with fail
          go_roundw
          case rel => exact ⟨k + 1, by omega, by go_num, NX.out, kz⟩
          case measure => simp [intOf]; omega
      · have j2 : decide (Y ≤ y) = false := decide_eq_false c1
        have nx := NXT.out (by rw [HCV.out, j2]; rfl)
        have NX := Lib.hid nx
        clear nx c1
        go_wp2_with fail
        
        refine named_world (F := fun w1 => Blk w1 wr.heap.size [.int .i64 p0, .int .i64 p1, .int .i64 p2, .int .i64 p3, .int .i64 p4] 30 ∧ Kp wr w1) ⟨(by (repeat (first | with_reducible assumption | ((with_reducible refine Blk.newL ?_ ?_); (focus (first | (simp; done) | omega)); rfl) | with_reducible refine Blk.drew ?_ | with_reducible refine Blk.drewN ?_ _ | with_reducible refine Blk.alloc ?_ _ | ((with_reducible refine Blk.other ?_ ?_ _); rotate_left; (focus (first | with_reducible assumption | omega | (simp; done) | (simp; omega))))))), (by (repeat (first | with_reducible assumption | with_reducible exact Kp.refl _ | with_reducible refine Kp.drew ?_ | with_reducible refine Kp.drewN ?_ _ | with_reducible refine Kp.alloc ?_ _ | ((with_reducible refine Kp.setCell ?_ ?_ _); rotate_left; (focus (first | omega | (simp; done) | (simp; omega)))) | with_reducible refine Kp.trans ?_ (by assumption))))⟩ ?_; rintro w1 ⟨bq, kw1⟩; have bq_0 := bq.cell 0 rfl; have bq_1 := bq.cell 1 rfl; have bq_2 := bq.cell 2 rfl; have bq_3 := bq.cell 3 rfl; have bq_4 := bq.cell 4 rfl; have bq_ne := bq.lt; have bq_n1 := Nat.lt_add_one_of_lt bq_ne; have bq_n2 := Nat.lt_add_one_of_lt bq_n1
        (refine wp_region_held_drew (S := (fun w' => (∀ b o, b < w1.heap.size → w'.cell? ⟨b, o, none⟩ = w1.cell? ⟨b, o, none⟩) ∧ Kp w1 w')) (by kernel_rfl) ?_ (fun hHd => ?_); (focus ((try dsimp only); (first | with_reducible assumption | with_reducible exact held_start _ | with_reducible exact held_next (by assumption) (by assumption) | with_reducible exact held_alloc (by assumption) _ | with_reducible exact held_drew (by assumption) | ((with_reducible refine held_kp ?_); (repeat (first | with_reducible assumption | with_reducible exact Kp.refl _ | with_reducible refine Kp.drew ?_ | with_reducible refine Kp.drewN ?_ _ | with_reducible refine Kp.alloc ?_ _ | ((with_reducible refine Kp.setCell ?_ ?_ _); rotate_left; (focus (first | omega | (simp; done) | (simp; omega)))) | with_reducible refine Kp.trans ?_ (by assumption))))))))
        (refine takeH (i := 0) (oi := ?o115) (v := ?v115) ?h115 (by kernel_rfl) ?q115 (Or.inl ⟨?w115, ?y115⟩) (by assumption) ?r115; (case h115 => ((simp only [g1, g3]); rfl)); (case q115 => exact fun _ _ _ h => h); (case w115 => rfl); (case y115 => (intro w' hSw; (try dsimp only at hSw); go_simp; (try with_reducible rfl))); (try simp only [Act.put, s1, s2, s3]))
        (refine takeH (i := 1) (oi := ?o116) (v := ?v116) ?h116 (by kernel_rfl) ?q116 (Or.inl ⟨?w116, ?y116⟩) (by assumption) ?r116; (case h116 => ((simp only [g1, g2, g3]); rfl)); (case q116 => exact fun _ _ _ h => h); (case w116 => rfl); (case y116 => (intro w' hSw; (try dsimp only at hSw); go_simp; (try with_reducible rfl))); (try simp only [Act.put, s1, s2, s3]))
        (refine takeH (i := 3) (oi := ?o117) (v := ?v117) ?h117 (by kernel_rfl) ?q117 (Or.inl ⟨?w117, ?y117⟩) (by assumption) ?r117; (case h117 => ((simp only [g1, g2, g3]); rfl)); (case q117 => exact fun _ _ _ h => h); (case w117 => rfl); (case y117 => (intro w' hSw; (try dsimp only at hSw); go_simp; (try with_reducible rfl))); (try simp only [Act.put, s1, s2, s3]))
        (refine wpAnyH_ready (rs := [2]) (by kernel_rfl) (by simp) ?_; refine AllReadyH.cons (o := ?o118) ?h118 (fun K hK => ?s118) AllReadyH.nil; (case h118 => (first | ((simp only [g1, g2, g3]); rfl) | rfl)); (go_simp; go_at_call 42; refine (C1.out _).mono ?_; rintro e w3 ⟨rfl, kk⟩; (try dsimp only)); refine hK.out _ _ ?_ (fun hHd => ?_); (focus ((try dsimp only); exact held_kp (hHd.2.trans kk))); clear hK K; (try simp only [Act.put]))
        (refine takeH (i := 4) (oi := ?o120) (v := ?v120) ?h120 (by kernel_rfl) ?q120 (Or.inl ⟨?w120, ?y120⟩) (by assumption) ?r120; (case h120 => ((simp only [g1, g2, g3]); rfl)); (case q120 => exact fun _ _ _ h => h); (case w120 => rfl); (case y120 => (intro w' hSw; (try dsimp only at hSw); go_simp; (try with_reducible rfl))); (try simp only [Act.put, s1, s2, s3]))
        (refine takeH (i := 5) (oi := ?o121) (v := ?v121) ?h121 (by kernel_rfl) ?q121 (Or.inl ⟨?w121, ?y121⟩) (by assumption) ?r121; (case h121 => ((simp only [g1, g2, g3]); rfl)); (case q121 => exact fun _ _ _ h => h); (case w121 => rfl); (case y121 => (intro w' hSw; (try dsimp only at hSw); go_simp; (try with_reducible rfl))); (try simp only [Act.put, s1, s2, s3]))
        (refine takeH (i := 6) (oi := ?o122) (v := undef) ?h122 (by kernel_rfl) ?q122 (Or.inr ⟨?w122, rfl⟩) (by assumption) ?r122; (case h122 => ((simp only [g1, g2, g3]); rfl)); (case q122 => exact fun _ _ _ h => h); (case w122 => rfl); (try simp only [Act.put, s1, s2, s3]))
        (refine takeH (i := 7) (oi := ?o123) (v := undef) ?h123 (by kernel_rfl) ?q123 (Or.inr ⟨?w123, rfl⟩) (by assumption) ?r123; (case h123 => ((simp only [g1, g2, g3]); rfl)); (case q123 => exact fun _ _ _ h => h); (case w123 => rfl); (try simp only [Act.put, s1, s2, s3]))
        (refine takeH (i := 8) (oi := ?o124) (v := undef) ?h124 (by kernel_rfl) ?q124 (Or.inr ⟨?w124, rfl⟩) (by assumption) ?r124; (case h124 => ((simp only [g1, g2, g3]); rfl)); (case q124 => exact fun _ _ _ h => h); (case w124 => rfl); (try simp only [Act.put, s1, s2, s3]))
        (refine takeH (i := 9) (oi := ?o125) (v := undef) ?h125 (by kernel_rfl) ?q125 (Or.inr ⟨?w125, rfl⟩) (by assumption) ?r125; (case h125 => ((simp only [g1, g2, g3]); rfl)); (case q125 => exact fun _ _ _ h => h); (case w125 => rfl); (try simp only [Act.put, s1, s2, s3]))
        (refine takeH (i := 10) (oi := ?o126) (v := undef) ?h126 (by kernel_rfl) ?q126 (Or.inr ⟨?w126, rfl⟩) (by assumption) ?r126; (case h126 => ((simp only [g1, g2, g3]); rfl)); (case q126 => exact fun _ _ _ h => h); (case w126 => rfl); (try simp only [Act.put, s1, s2, s3]))
        (refine takeH (i := 11) (oi := ?o127) (v := undef) ?h127 (by kernel_rfl) ?q127 (Or.inr ⟨?w127, rfl⟩) (by assumption) ?r127; (case h127 => ((simp only [g1, g2, g3]); rfl)); (case q127 => exact fun _ _ _ h => h); (case w127 => rfl); (try simp only [Act.put, s1, s2, s3]))
        (refine takeH (i := 12) (oi := ?o128) (v := undef) ?h128 (by kernel_rfl) ?q128 (Or.inr ⟨?w128, rfl⟩) (by assumption) ?r128; (case h128 => ((simp only [g1, g2, g3]); rfl)); (case q128 => exact fun _ _ _ h => h); (case w128 => rfl); (try simp only [Act.put, s1, s2, s3]))
        (refine takeH (i := 13) (oi := ?o129) (v := undef) ?h129 (by kernel_rfl) ?q129 (Or.inr ⟨?w129, rfl⟩) (by assumption) ?r129; (case h129 => ((simp only [g1, g2, g3]); rfl)); (case q129 => exact fun _ _ _ h => h); (case w129 => rfl); (try simp only [Act.put, s1, s2, s3]))
        (refine takeH (i := 14) (oi := ?o130) (v := undef) ?h130 (by kernel_rfl) ?q130 (Or.inr ⟨?w130, rfl⟩) (by assumption) ?r130; (case h130 => ((simp only [g1, g2, g3]); rfl)); (case q130 => exact fun _ _ _ h => h); (case w130 => rfl); (try simp only [Act.put, s1, s2, s3]))
        (refine takeH (i := 15) (oi := ?o131) (v := ?v131) ?h131 (by kernel_rfl) ?q131 (Or.inl ⟨?w131, ?y131⟩) (by assumption) ?r131; (case h131 => ((simp only [g1, g2, g3]); rfl)); (case q131 => exact fun _ _ _ h => h); (case w131 => rfl); (case y131 => (intro w' hSw; (try dsimp only at hSw); go_simp; (try with_reducible rfl))); (try simp only [Act.put, s1, s2, s3]))
        refine wpAnyH_done (by kernel_rfl) ?_ _
        have kz := xk0.trans (kw1.trans hHd.2)
        go_wp2_with fail
        go_roundw
        case rel => exact ⟨k + 1, by omega, by go_num, NX.out, kz⟩
        case measure => simp [intOf]; omega
    · obtain rfl : k = l.length := by omega
      have j1 : decide ((l.length : Int) < (l.length : Int)) = false := decide_eq_false (by omega)
      rw [List.take_length] at hf
      have hs : signB l y = 46 := by unfold signB; rw [hf]; rfl
      have HSY := Lib.hid hs
      clear hs hf
      go_wp2_with fail
      (try go_ret)
      exact ⟨by rw [HSY.out]; rfl, xk⟩
def footL (l : List Put) : Int := l.foldl (fun m p => max m (heldI p.y + heldI p.h)) 0
theorem footL_snoc {l : List Put} {k : Nat} {p : Put} (h : l[k]? = some p) : footL (l.take (k + 1)) = max (footL (l.take k)) (heldI p.y + heldI p.h) := by
  unfold footL
  rw [List.take_add_one, h, List.foldl_append]; simp
theorem footL_range (l : List Put) : 0 ≤ footL l ∧ footL l ≤ 2251799813685248 := by
  unfold footL
  have : ∀ (l : List Put) (m : Int), 0 ≤ m → m ≤ 2251799813685248 → 0 ≤ l.foldl (fun m p => max m (heldI p.y + heldI p.h)) m ∧ l.foldl (fun m p => max m (heldI p.y + heldI p.h)) m ≤ 2251799813685248 := by
    intro l
    induction l with
    | nil => intro m h1 h2; exact ⟨h1, h2⟩
    | cons p l ih =>
      intro m h1 h2
      have a := heldI_le p.y
      have b := heldI_le p.h
      refine ih _ ?_ ?_ <;> (dsimp only; omega)
  exact this l 0 (by omega) (by omega)
theorem putsOf_onlyOne (x : Page) : putsOf [x] = pagePuts x := by simp [putsOf]
theorem Page.good.one {w : World} {x : Page} (h : x.good w) : ∀ y, y ∈ [x] → y.good w := fun y hy => by
  simp only [List.mem_singleton] at hy
  subst hy; exact h
set_option maxRecDepth 100000 in
set_option maxHeartbeats 4000000 in
theorem foot_any (p : Page) (w : World) (hg : p.good w) (hN : (pagePuts p).length ≤ 1000000) :
    Calls Tryd.prog 31 #[.agg #[.slice p.s.a p.s.len p.s.cap, .int .i64 p.t, .int .i64 p.f, .int .i64 p.l]] w fun e w' => e = .returned (.int .i64 (footL (pagePuts p))) ∧ Kp w w' := by
  have C : Hid (∀ (b : Nat) (w' : World), Kp w w' → Blk w' b (Page.cells p) 39 → Calls Tryd.prog 16 #[.slice (some ⟨b, 0, none⟩) 1 1] w' fun e w'' => ∃ v, e = .returned v ∧ Row w'' w'.heap.size 30 5 Put.cells v (pagePuts p) ∧ Kp w' w'') := Lib.hid (fun b w' k hb => by
    have h := refPuts_any (some ⟨b, 0, none⟩) 1 [p] w' ⟨rfl, by simp, by unfold maxLen; omega, .inr ⟨b, 0, rfl, hb.lt, fun i x hx j v hv => by
      match i, hx with
      | 0, hx =>
        simp only [List.getElem?_cons_zero, Option.some.injEq] at hx
        subst hx
        simpa using hb.cell j hv⟩⟩ (hg.kp k).one (by rw [putsOf_onlyOne]; exact hN)
    rw [putsOf_onlyOne] at h
    exact h)
  obtain ⟨F, hF⟩ : ∃ F, pagePuts p = F := ⟨_, rfl⟩
  rw [hF] at C hN ⊢
  obtain ⟨⟨la, ll, lc, ls⟩, pt, pf, pl⟩ := p
  simp only at C ⊢
  clear hF hg
  go_enter Tryd.func31, Tryd.ntmps31
  go_wp2_with fail
  refine (C.out _ _ (by (repeat (first | with_reducible assumption | with_reducible exact Kp.refl _ | with_reducible refine Kp.drew ?_ | with_reducible refine Kp.drewN ?_ _ | with_reducible refine Kp.alloc ?_ _ | ((with_reducible refine Kp.setCell ?_ ?_ _); rotate_left; (focus (first | omega | (simp; done) | (simp; omega)))) | with_reducible refine Kp.trans ?_ (by assumption)))) (by (repeat (first | with_reducible assumption | ((with_reducible refine Blk.newL ?_ ?_); (focus (first | (simp; done) | omega)); rfl) | with_reducible refine Blk.drew ?_ | with_reducible refine Blk.drewN ?_ _ | with_reducible refine Blk.alloc ?_ _ | ((with_reducible refine Blk.other ?_ ?_ _); rotate_left; (focus (first | with_reducible assumption | omega | (simp; done) | (simp; omega)))))))).mono ?_
  rintro e w1 ⟨v, rfl, hr, k1⟩
  have kw1 : Kp w w1 := Kp.trans (by (repeat (first | with_reducible assumption | with_reducible exact Kp.refl _ | with_reducible refine Kp.drew ?_ | with_reducible refine Kp.drewN ?_ _ | with_reducible refine Kp.alloc ?_ _ | ((with_reducible refine Kp.setCell ?_ ?_ _); rotate_left; (focus (first | omega | (simp; done) | (simp; omega)))) | with_reducible refine Kp.trans ?_ (by assumption)))) k1
  obtain ⟨fa, fc, rfl, hfs⟩ := hr.sl (fun _ => rfl)
  have HL := Lib.hid hfs
  have hcl := hfs.2.1
  have hcm := hfs.2.2.1
  unfold maxLen at hcm
  obtain ⟨u, rfl⟩ : ∃ u, u = w1 := ⟨_, rfl⟩
  clear hr k1 hfs C
  go_wp2_with fail
  go_loopw [3, 5] (fun v3 v5 wr => ∃ (k : Nat), k ≤ F.length ∧ v5 = .int .i64 k ∧ v3 = .int .i64 (footL (F.take k)) ∧ Kp u wr) (fun _ v5 _ => F.length - (intOf v5).toNat)
  case atStart => exact ⟨0, Nat.zero_le _, rfl, rfl, (by (repeat (first | with_reducible assumption | with_reducible exact Kp.refl _ | with_reducible refine Kp.drew ?_ | with_reducible refine Kp.drewN ?_ _ | with_reducible refine Kp.alloc ?_ _ | ((with_reducible refine Kp.setCell ?_ ?_ _); rotate_left; (focus (first | omega | (simp; done) | (simp; omega)))) | with_reducible refine Kp.trans ?_ (by assumption))))⟩
  case round =>
    obtain ⟨k, hk, rfl, rfl, xk⟩ := hrel
    by_cases hlt : k < F.length
    · obtain ⟨p, hp⟩ : ∃ x, F[k]? = some x := ⟨F[k]'hlt, List.getElem?_eq_getElem _⟩
      have tl := HL.out.kp xk
      rcases tl.2.2.2 with e | ⟨ga, oa, rfl, hga, r1⟩
      · rw [e] at hlt; simp at hlt
      have C1 := Lib.hid (refHeld_any p.y)
      have C2 := Lib.hid (refHeld_any p.h)
      have by1 := heldI_le p.y
      have bh1 := heldI_le p.h
      have hsn := footL_snoc hp
      obtain ⟨p0, p1, p2, p3, p4⟩ := p
      have d3 := r1 k _ hp 3 _ rfl
      have d4 := r1 k _ hp 4 _ rfl
      simp only at d3 d4 hsn C1 C2 by1 bh1
      obtain ⟨Y, hY⟩ : ∃ Y, heldI p3 = Y := ⟨_, rfl⟩
      obtain ⟨H, hH⟩ : ∃ H, heldI p4 = H := ⟨_, rfl⟩
      obtain ⟨M, hM⟩ : ∃ M, footL (F.take k) = M := ⟨_, rfl⟩
      rw [hY] at C1 hsn by1
      rw [hH] at C2 hsn bh1
      rw [hM] at hsn ⊢
      obtain ⟨by1, by2⟩ := by1
      obtain ⟨bh1, bh2⟩ := bh1
      have e1 : IntKind.i64.wrap (Y + H) = Y + H := by unfold IntKind.wrap; simp [IntKind.bits, IntKind.signed]; omega
      have j1 : decide ((k : Int) < (F.length : Int)) = true := decide_eq_true (by omega)
      have HSN := Lib.hid hsn
      clear tl r1 hp hsn hY hH hM
      go_wp2_with fail
      (refine wp_region_held_drew (S := (fun w' => (∀ b o, b < wr.heap.size → w'.cell? ⟨b, o, none⟩ = wr.cell? ⟨b, o, none⟩) ∧ Kp wr w')) (by kernel_rfl) ?_ (fun hHd => ?_); (focus ((try dsimp only); (first | with_reducible assumption | with_reducible exact held_start _ | with_reducible exact held_next (by assumption) (by assumption) | with_reducible exact held_alloc (by assumption) _ | with_reducible exact held_drew (by assumption) | ((with_reducible refine held_kp ?_); (repeat (first | with_reducible assumption | with_reducible exact Kp.refl _ | with_reducible refine Kp.drew ?_ | with_reducible refine Kp.drewN ?_ _ | with_reducible refine Kp.alloc ?_ _ | ((with_reducible refine Kp.setCell ?_ ?_ _); rotate_left; (focus (first | omega | (simp; done) | (simp; omega)))) | with_reducible refine Kp.trans ?_ (by assumption))))))))
      (refine takeH (i := 0) (oi := ?o132) (v := ?v132) ?h132 (by kernel_rfl) ?q132 (Or.inl ⟨?w132, ?y132⟩) (by assumption) ?r132; (case h132 => ((simp only [g1, g3]); rfl)); (case q132 => exact fun _ _ _ h => h); (case w132 => rfl); (case y132 => (intro w' hSw; (try dsimp only at hSw); go_simp; (try with_reducible rfl))); (try simp only [Act.put, s1, s2, s3]))
      (refine takeH (i := 1) (oi := ?o133) (v := ?v133) ?h133 (by kernel_rfl) ?q133 (Or.inl ⟨?w133, ?y133⟩) (by assumption) ?r133; (case h133 => ((simp only [g1, g2, g3]); rfl)); (case q133 => exact fun _ _ _ h => h); (case w133 => rfl); (case y133 => (intro w' hSw; (try dsimp only at hSw); go_simp; (try with_reducible rfl))); (try simp only [Act.put, s1, s2, s3]))
      (refine takeH (i := 2) (oi := ?o134) (v := ?v134) ?h134 (by kernel_rfl) ?q134 (Or.inl ⟨?w134, ?y134⟩) (by assumption) ?r134; (case h134 => ((simp only [g1, g2, g3]); rfl)); (case q134 => exact fun _ _ _ h => h); (case w134 => rfl); (case y134 => (intro w' hSw; (try dsimp only at hSw); go_simp; (try with_reducible rfl))); (try simp only [Act.put, s1, s2, s3]))
      (refine takeH (i := 3) (oi := ?o135) (v := ?v135) ?h135 (by kernel_rfl) ?q135 (Or.inl ⟨?w135, ?y135⟩) (by assumption) ?r135; (case h135 => ((simp only [g1, g2, g3]); rfl)); (case q135 => exact fun _ _ _ h => h); (case w135 => rfl); (case y135 => (intro w' hSw; (try dsimp only at hSw); go_simp; (try with_reducible rfl))); (try simp only [Act.put, s1, s2, s3]))
      (refine takeH (i := 4) (oi := ?o136) (v := ?v136) ?h136 (by kernel_rfl) ?q136 (Or.inl ⟨?w136, ?y136⟩) (by assumption) ?r136; (case h136 => ((simp only [g1, g2, g3]); rfl)); (case q136 => exact fun _ _ _ h => h); (case w136 => rfl); (case y136 => (intro w' hSw; (try dsimp only at hSw); go_simp; (try with_reducible rfl))); (try simp only [Act.put, s1, s2, s3]))
      (refine takeH (i := 5) (oi := ?o137) (v := ?v137) ?h137 (by kernel_rfl) ?q137 (Or.inl ⟨?w137, ?y137⟩) (by assumption) ?r137; (case h137 => ((simp only [g1, g2, g3]); rfl)); (case q137 => exact fun _ _ _ h => h); (case w137 => rfl); (case y137 => (intro w' hSw; (try dsimp only at hSw); go_simp; (try with_reducible rfl))); (try simp only [Act.put, s1, s2, s3]))
      (refine takeH (i := 7) (oi := ?o138) (v := ?v138) ?h138 (by kernel_rfl) ?q138 (Or.inl ⟨?w138, ?y138⟩) (by assumption) ?r138; (case h138 => ((simp only [g1, g2, g3]); rfl)); (case q138 => exact fun _ _ _ h => h); (case w138 => rfl); (case y138 => (intro w' hSw; (try dsimp only at hSw); go_simp; (try with_reducible rfl))); (try simp only [Act.put, s1, s2, s3]))
      (refine takeH (i := 8) (oi := ?o139) (v := ?v139) ?h139 (by kernel_rfl) ?q139 (Or.inl ⟨?w139, ?y139⟩) (by assumption) ?r139; (case h139 => ((simp only [g1, g2, g3]); rfl)); (case q139 => exact fun _ _ _ h => h); (case w139 => rfl); (case y139 => (intro w' hSw; (try dsimp only at hSw); go_simp; (try with_reducible rfl))); (try simp only [Act.put, s1, s2, s3]))
      (refine takeH (i := 9) (oi := ?o140) (v := ?v140) ?h140 (by kernel_rfl) ?q140 (Or.inl ⟨?w140, ?y140⟩) (by assumption) ?r140; (case h140 => ((simp only [g1, g2, g3]); rfl)); (case q140 => exact fun _ _ _ h => h); (case w140 => rfl); (case y140 => (intro w' hSw; (try dsimp only at hSw); go_simp; (try with_reducible rfl))); (try simp only [Act.put, s1, s2, s3]))
      (refine takeH (i := 10) (oi := ?o141) (v := ?v141) ?h141 (by kernel_rfl) ?q141 (Or.inl ⟨?w141, ?y141⟩) (by assumption) ?r141; (case h141 => ((simp only [g1, g2, g3]); rfl)); (case q141 => exact fun _ _ _ h => h); (case w141 => rfl); (case y141 => (intro w' hSw; (try dsimp only at hSw); go_simp; (try with_reducible rfl))); (try simp only [Act.put, s1, s2, s3]))
      (refine takeH (i := 11) (oi := ?o142) (v := ?v142) ?h142 (by kernel_rfl) ?q142 (Or.inl ⟨?w142, ?y142⟩) (by assumption) ?r142; (case h142 => ((simp only [g1, g2, g3]); rfl)); (case q142 => exact fun _ _ _ h => h); (case w142 => rfl); (case y142 => (intro w' hSw; (try dsimp only at hSw); go_simp; (try with_reducible rfl))); (try simp only [Act.put, s1, s2, s3]))
      (refine wpAnyH_ready (rs := [6]) (by kernel_rfl) (by simp) ?_; refine AllReadyH.cons (o := ?o143) ?h143 (fun K hK => ?s143) AllReadyH.nil; (case h143 => (first | ((simp only [g1, g2, g3]); rfl) | rfl)); (go_simp; go_at_call 42; refine (C1.out _).mono ?_; rintro e w3 ⟨rfl, kk⟩; (try dsimp only)); refine hK.out _ _ ?_ (fun hHd => ?_); (focus ((try dsimp only); exact held_kp (hHd.2.trans kk))); clear hK K; (try simp only [Act.put]))
      (refine wpAnyH_ready (rs := [12]) (by kernel_rfl) (by simp) ?_; refine AllReadyH.cons (o := ?o145) ?h145 (fun K hK => ?s145) AllReadyH.nil; (case h145 => (first | ((simp only [g1, g2, g3]); rfl) | rfl)); (go_simp; go_at_call 42; refine (C2.out _).mono ?_; rintro e w4 ⟨rfl, kk⟩; (try dsimp only)); refine hK.out _ _ ?_ (fun hHd => ?_); (focus ((try dsimp only); exact held_kp (hHd.2.trans kk))); clear hK K; (try simp only [Act.put]))
      (refine takeH (i := 13) (oi := ?o147) (v := ?v147) ?h147 (by kernel_rfl) ?q147 (Or.inl ⟨?w147, ?y147⟩) (by assumption) ?r147; (case h147 => ((simp only [g1, g2, g3]); rfl)); (case q147 => exact fun _ _ _ h => h); (case w147 => rfl); (case y147 => (intro w' hSw; (try dsimp only at hSw); go_simp; (try with_reducible rfl))); (try simp only [Act.put, s1, s2, s3]))
      (refine takeH (i := 14) (oi := ?o148) (v := ?v148) ?h148 (by kernel_rfl) ?q148 (Or.inl ⟨?w148, ?y148⟩) (by assumption) ?r148; (case h148 => ((simp only [g1, g2, g3]); rfl)); (case q148 => exact fun _ _ _ h => h); (case w148 => rfl); (case y148 => (intro w' hSw; (try dsimp only at hSw); go_simp; (try with_reducible rfl))); (try simp only [Act.put, s1, s2, s3]))
      (refine takeH (i := 15) (oi := ?o149) (v := ?v149) ?h149 (by kernel_rfl) ?q149 (Or.inl ⟨?w149, ?y149⟩) (by assumption) ?r149; (case h149 => ((simp only [g1, g2, g3]); rfl)); (case q149 => exact fun _ _ _ h => h); (case w149 => rfl); (case y149 => (intro w' hSw; (try dsimp only at hSw); go_simp; (try with_reducible rfl))); (try simp only [Act.put, s1, s2, s3]))
      refine wpAnyH_done (by kernel_rfl) ?_ _
      have kz := xk.trans hHd.2
      go_wp2_with fail
      go_roundw
      case rel => exact ⟨k + 1, by omega, by go_num, by rw [HSN.out], kz⟩
      case measure => simp [intOf]; omega
    · obtain rfl : k = F.length := by omega
      have j1 : decide ((F.length : Int) < (F.length : Int)) = false := decide_eq_false (by omega)
      rw [List.take_length]
      have kz := kw1.trans xk
      go_wp2_with fail
      (try go_ret)
      exact ⟨rfl, kz⟩
end Go.Proofs.YtfiejiokconobaaDoor
