/- The laws GsetTells and GsetBad: the walks. -/
import Derived.Test.YteipfamaclildaaGset6

import Derived.Test.YteipfamaclildaaGset4

namespace Go.Proofs.Yteipfamaclildaa

open Go.ChangeShapes Go.WideShapes Go.ChangeAt Go.RowKit

set_option maxHeartbeats 1000000 in
theorem eqSet (d : Nat) (w : World) (a0 a1 a2 a3 a4 b0 b1 b2 b3 b4 : Int) :
    (Op.equalIn (d + 2) 69 (.agg #[.int .i64 a0, .int .i64 a1, .int .i64 a2, .int .i64 a3, .int .i64 a4]) (.agg #[.int .i64 b0, .int .i64 b1, .int .i64 b2, .int .i64 b3, .int .i64 b4])).run Try.prog w = .ok (a0 == b0 && (a1 == b1 && (a2 == b2 && (a3 == b3 && a4 == b4)))) w := by
  have hu := Try.underlying69
  go_simp
  clear hu
  by_cases h0 : a0 = b0 <;> by_cases h1 : a1 = b1 <;> by_cases h2 : a2 = b2 <;> by_cases h3 : a3 = b3 <;> by_cases h4 : a4 = b4 <;> simp_all
theorem SlOk.ofRow {α : Type} {n : Nat} {enc : α → List Value} {w : World} {b : Nat} {l : List α} {t : TypeId} (hn : ∀ x, (enc x).length = n) (h : Blk w b (l.flatMap enc) t) (hm : l.length ≤ maxLen) : SlOk w n enc (some ⟨b, 0, none⟩) l.length l.length l :=
  ⟨rfl, Nat.le_refl _, hm, .inr ⟨b, 0, rfl, h.lt, fun i x hx j v hv => by rw [Nat.zero_add]; exact h.cell (i * n + j) (flatMap_get hn l i x j v hx hv)⟩⟩

set_option maxRecDepth 100000 in
set_option maxHeartbeats 2000000 in
theorem gsetAwake_any (w : World) : Calls Try.prog 38 #[] w fun e w' => e = .returned (.bool true) ∧ Kp w w' := by
  have v1 : setOf ⟨10, 4, 0, 0, 0, 0⟩ 12 false = ⟨1, 0, 2, 4, 0⟩ := by rfl
  have v2 : setBad ⟨1, 0, 2, 4, 0⟩ 0 false = 12 := by decide
  have v3 : sizesL 1 0 2 [⟨3, 4, 0, 0, 0, 0⟩] = [5] := by decide
  have c1 := gsetOf_any 10 4 0 0 0 0 12 false
  have c2 := fun w => gsetBad_any 1 0 2 4 0 0 false w ⟨by decide, by decide⟩ ⟨by decide, by decide⟩ ⟨by decide, by decide⟩ (by decide)
  have c3 := fun (a : Option Addr) (w : World) (h : SlOk w 6 Tot.cells a 1 1 [⟨3, 4, 0, 0, 0, 0⟩]) => sizes_any 1 0 2 4 0 a 1 1 [⟨3, 4, 0, 0, 0, 0⟩] w (by decide) (by decide) (by decide) h (by decide) (by decide)
  rw [v1] at c1
  rw [v2] at c2
  rw [v3] at c3
  simp only [Sett.v] at c1
  have C1 := Lib.hid c1; have C2 := Lib.hid c2; have C3 := Lib.hid c3
  have eS := @eqSet
  clear v1 v2 v3 c1 c2 c3
  go_enter Try.func38, Try.ntmps38
  go_wp2_with fail
  refine (C1.out _).mono ?_
  rintro e w1 ⟨rfl, k1⟩
  have x1 : Kp w w1 := ((by (repeat (first | with_reducible assumption | with_reducible exact Kp.refl _ | with_reducible refine Kp.drew ?_ | with_reducible refine Kp.drewN ?_ _ | with_reducible refine Kp.alloc ?_ _ | ((with_reducible refine Kp.setCell ?_ ?_ _); rotate_left; (focus (first | omega | (simp; done) | (simp; omega)))) | with_reducible refine Kp.trans ?_ (by assumption)))) : Kp w _).trans k1
  clear k1
  go_wp2_with fail
  refine (C3.out (some ⟨w1.heap.size + 1, 0, none⟩) _ (SlOk.ofRow (t := 31) Tot.cells_len (by (repeat (first | with_reducible assumption | ((with_reducible refine Blk.newL ?_ ?_); (focus (first | (simp; done) | omega)); rfl) | with_reducible refine Blk.drew ?_ | with_reducible refine Blk.drewN ?_ _ | with_reducible refine Blk.alloc ?_ _ | ((with_reducible refine Blk.other ?_ ?_ _); rotate_left; (focus (first | with_reducible assumption | omega | (simp; done) | (simp; omega))))))) (by decide))).mono ?_
  rintro e w2 ⟨v, rfl, hr, k2⟩
  have x2 : Kp w w2 := Kp.trans ((by (repeat (first | with_reducible assumption | with_reducible exact Kp.refl _ | with_reducible refine Kp.drew ?_ | with_reducible refine Kp.drewN ?_ _ | with_reducible refine Kp.alloc ?_ _ | ((with_reducible refine Kp.setCell ?_ ?_ _); rotate_left; (focus (first | omega | (simp; done) | (simp; omega)))) | with_reducible refine Kp.trans ?_ (by assumption)))) : Kp w _) k2
  have b2 : Blk w2 w1.heap.size (ints [1, 0, 2, 4, 0]) 69 := Blk.kp (by (repeat (first | with_reducible assumption | ((with_reducible refine Blk.newL ?_ ?_); (focus (first | (simp; done) | omega)); rfl) | with_reducible refine Blk.drew ?_ | with_reducible refine Blk.drewN ?_ _ | with_reducible refine Blk.alloc ?_ _ | ((with_reducible refine Blk.other ?_ ?_ _); rotate_left; (focus (first | with_reducible assumption | omega | (simp; done) | (simp; omega))))))) k2
  obtain ⟨g, cap, rfl, hg1, hg2, hg3, hg4⟩ := hr.shape (by decide)
  have cg := hr.cellAt rfl (k := 0) (x := 5) rfl
  have c0 := b2.cell 0 rfl; have c1 := b2.cell 1 rfl; have c2 := b2.cell 2 rfl; have c3 := b2.cell 3 rfl; have c4 := b2.cell 4 rfl
  have n1 := b2.lt
  clear k2 hr x1 b2
  go_wp2_with (go_at_call 39; go_must (refine (C2.out _).mono ?_); rintro e w3 ⟨rfl, k3⟩; have cg3 := (k3.cell (p := ⟨g, 0, none⟩) hg2).trans cg)
  go_ret
  exact ⟨ret_bool (by first | rfl | decide | simp), (by (repeat (first | with_reducible assumption | with_reducible exact Kp.refl _ | with_reducible refine Kp.drew ?_ | with_reducible refine Kp.drewN ?_ _ | with_reducible refine Kp.alloc ?_ _ | ((with_reducible refine Kp.setCell ?_ ?_ _); rotate_left; (focus (first | omega | (simp; done) | (simp; omega)))) | with_reducible refine Kp.trans ?_ (by assumption))))⟩
set_option maxRecDepth 100000 in
set_option maxHeartbeats 2000000 in
theorem gsetTells_any (t : Tot) (high : Int) (last : Bool) (_ht : t.ok) (_hh : -9223372036854775808 ≤ high ∧ high ≤ 9223372036854775807) (w : World) :
    Calls Try.prog 9 #[t.v, .int .i64 high, .bool last] w fun e w' => e = .returned (.bool true) ∧ Kp w w' := by
  obtain ⟨a0, a1, a2, a3, a4, a5⟩ := t
  simp only [Tot.v]
  have c1 := gright_any a0 a1 a2 a3 a4 a5 high
  have c2 := refRight9_any a0 a1 a2 a3 a4 a5 high
  have c3 := gsetOf_any a0 a1 a2 a3 a4 a5 high last
  have c4 := refSetOf_any a0 a1 a2 a3 a4 a5 high last
  obtain ⟨⟨u0, u1, u2, u3, u4⟩, hu⟩ : ∃ u, setOf ⟨a0, a1, a2, a3, a4, a5⟩ high last = u := ⟨_, rfl⟩
  obtain ⟨b, hb⟩ : ∃ u, rightT ⟨a0, a1, a2, a3, a4, a5⟩ high = u := ⟨_, rfl⟩
  rw [hb] at c1 c2
  rw [hu] at c3 c4
  simp only [Sett.v] at c3 c4
  have C1 := Lib.hid c1; have C2 := Lib.hid c2; have C3 := Lib.hid c3; have C4 := Lib.hid c4
  clear c1 c2 c3 c4 hu hb _ht _hh
  have eS := @eqSet
  go_enter Try.func9, Try.ntmps9
  go_wp2_with fail
  
  refine named_world (F := fun w2 => Blk w2 w.heap.size (ints [a0, a1, a2, a3, a4, a5]) 31 ∧ Kp w w2) ⟨(by (repeat (first | with_reducible assumption | ((with_reducible refine Blk.newL ?_ ?_); (focus (first | (simp; done) | omega)); rfl) | with_reducible refine Blk.drew ?_ | with_reducible refine Blk.drewN ?_ _ | with_reducible refine Blk.alloc ?_ _ | ((with_reducible refine Blk.other ?_ ?_ _); rotate_left; (focus (first | with_reducible assumption | omega | (simp; done) | (simp; omega))))))), (by (repeat (first | with_reducible assumption | with_reducible exact Kp.refl _ | with_reducible refine Kp.drew ?_ | with_reducible refine Kp.drewN ?_ _ | with_reducible refine Kp.alloc ?_ _ | ((with_reducible refine Kp.setCell ?_ ?_ _); rotate_left; (focus (first | omega | (simp; done) | (simp; omega)))) | with_reducible refine Kp.trans ?_ (by assumption))))⟩ ?_; rintro w2 ⟨x3, kw2⟩; have x3_0 := x3.cell 0 rfl; have x3_1 := x3.cell 1 rfl; have x3_2 := x3.cell 2 rfl; have x3_3 := x3.cell 3 rfl; have x3_4 := x3.cell 4 rfl; have x3_5 := x3.cell 5 rfl; have x3_ne := x3.lt; have x3_n1 := Nat.lt_add_one_of_lt x3_ne; have x3_n2 := Nat.lt_add_one_of_lt x3_n1
  (refine wp_region_held_drew (S := (fun w' => (∀ b o, b < w2.heap.size → w'.cell? ⟨b, o, none⟩ = w2.cell? ⟨b, o, none⟩) ∧ Kp w2 w')) (by kernel_rfl) ?_ (fun hHd => ?_); (focus ((try dsimp only); (first | with_reducible assumption | with_reducible exact held_start _ | with_reducible exact held_next (by assumption) (by assumption) | with_reducible exact held_alloc (by assumption) _ | with_reducible exact held_drew (by assumption) | ((with_reducible refine held_kp ?_); (repeat (first | with_reducible assumption | with_reducible exact Kp.refl _ | with_reducible refine Kp.drew ?_ | with_reducible refine Kp.drewN ?_ _ | with_reducible refine Kp.alloc ?_ _ | ((with_reducible refine Kp.setCell ?_ ?_ _); rotate_left; (focus (first | omega | (simp; done) | (simp; omega)))) | with_reducible refine Kp.trans ?_ (by assumption))))))))
  (refine takeH (i := 0) (oi := ?o1) (v := ?v1) ?h1 (by kernel_rfl) ?q1 (Or.inl ⟨?w1, ?y1⟩) (by assumption) ?r1; (case h1 => ((simp only [g1, g3]); rfl)); (case q1 => exact fun _ _ _ h => h); (case w1 => rfl); (case y1 => (intro w' hSw; (try dsimp only at hSw); go_simp; (try with_reducible rfl))); (try simp only [Act.put, s1, s2, s3]))
  (refine takeH (i := 1) (oi := ?o2) (v := ?v2) ?h2 (by kernel_rfl) ?q2 (Or.inl ⟨?w2, ?y2⟩) (by assumption) ?r2; (case h2 => ((simp only [g1, g2, g3]); rfl)); (case q2 => exact fun _ _ _ h => h); (case w2 => rfl); (case y2 => (intro w' hSw; (try dsimp only at hSw); go_simp; (try with_reducible rfl))); (try simp only [Act.put, s1, s2, s3]))
  (refine takeH (i := 3) (oi := ?o3) (v := ?v3) ?h3 (by kernel_rfl) ?q3 (Or.inl ⟨?w3, ?y3⟩) (by assumption) ?r3; (case h3 => ((simp only [g1, g2, g3]); rfl)); (case q3 => exact fun _ _ _ h => h); (case w3 => rfl); (case y3 => (intro w' hSw; (try dsimp only at hSw); go_simp; (try with_reducible rfl))); (try simp only [Act.put, s1, s2, s3]))
  (refine takeH (i := 4) (oi := ?o4) (v := ?v4) ?h4 (by kernel_rfl) ?q4 (Or.inl ⟨?w4, ?y4⟩) (by assumption) ?r4; (case h4 => ((simp only [g1, g2, g3]); rfl)); (case q4 => exact fun _ _ _ h => h); (case w4 => rfl); (case y4 => (intro w' hSw; (try dsimp only at hSw); go_simp; (try with_reducible rfl))); (try simp only [Act.put, s1, s2, s3]))
  (refine wpAnyH_ready (rs := [2]) (by kernel_rfl) (by simp) ?_; refine AllReadyH.cons (o := ?o5) ?h5 (fun K hK => ?s5) AllReadyH.nil; (case h5 => (first | ((simp only [g1, g2, g3]); rfl) | rfl)); go_simp; (first | (go_at_call 34; go_must (refine (C1.out _).mono ?_); rintro e w5 ⟨rfl, kk⟩) | (go_at_call 35; go_must (refine (C2.out _).mono ?_); rintro e w5 ⟨rfl, kk⟩) | (go_at_call 36; go_must (refine (C3.out _).mono ?_); rintro e w5 ⟨rfl, kk⟩) | (go_at_call 37; go_must (refine (C4.out _).mono ?_); rintro e w5 ⟨rfl, kk⟩) | (go_at_call 38; go_must (refine (gsetAwake_any _).mono ?_); rintro e w5 ⟨rfl, kk⟩)); (try dsimp only); refine hK.out _ _ ?_ (fun hHd => ?_); (focus ((try dsimp only); (first | with_reducible assumption | with_reducible exact held_next (by assumption) (by assumption) | with_reducible exact held_alloc (by assumption) _))); clear hK K; (try simp only [Act.put, s1, s2, s3]))
  (refine wpAnyH_ready (rs := [5]) (by kernel_rfl) (by simp) ?_; refine AllReadyH.cons (o := ?o6) ?h6 (fun K hK => ?s6) AllReadyH.nil; (case h6 => (first | ((simp only [g1, g2, g3]); rfl) | rfl)); go_simp; (first | (go_at_call 34; go_must (refine (C1.out _).mono ?_); rintro e w5 ⟨rfl, kk⟩) | (go_at_call 35; go_must (refine (C2.out _).mono ?_); rintro e w5 ⟨rfl, kk⟩) | (go_at_call 36; go_must (refine (C3.out _).mono ?_); rintro e w5 ⟨rfl, kk⟩) | (go_at_call 37; go_must (refine (C4.out _).mono ?_); rintro e w5 ⟨rfl, kk⟩) | (go_at_call 38; go_must (refine (gsetAwake_any _).mono ?_); rintro e w5 ⟨rfl, kk⟩)); (try dsimp only); refine hK.out _ _ ?_ (fun hHd => ?_); (focus ((try dsimp only); (first | with_reducible assumption | with_reducible exact held_next (by assumption) (by assumption) | with_reducible exact held_alloc (by assumption) _))); clear hK K; (try simp only [Act.put, s1, s2, s3]))
  (refine takeH (i := 6) (oi := ?o7) (v := ?v7) ?h7 (by kernel_rfl) ?q7 (Or.inl ⟨?w7, ?y7⟩) (by assumption) ?r7; (case h7 => ((simp only [g1, g2, g3]); rfl)); (case q7 => exact fun _ _ _ h => h); (case w7 => rfl); (case y7 => (intro w' hSw; (try dsimp only at hSw); go_simp; (try with_reducible rfl))); (try simp only [Act.put, s1, s2, s3]))
  (refine takeH (i := 7) (oi := ?o8) (v := ?v8) ?h8 (by kernel_rfl) ?q8 (Or.inl ⟨?w8, ?y8⟩) (by assumption) ?r8; (case h8 => ((simp only [g1, g2, g3]); rfl)); (case q8 => exact fun _ _ _ h => h); (case w8 => rfl); (case y8 => (intro w' hSw; (try dsimp only at hSw); go_simp; (try with_reducible rfl))); (try simp only [Act.put, s1, s2, s3]))
  (refine takeH (i := 8) (oi := ?o9) (v := ?v9) ?h9 (by kernel_rfl) ?q9 (Or.inl ⟨?w9, ?y9⟩) (by assumption) ?r9; (case h9 => ((simp only [g1, g2, g3]); rfl)); (case q9 => exact fun _ _ _ h => h); (case w9 => rfl); (case y9 => (intro w' hSw; (try dsimp only at hSw); go_simp; (try with_reducible rfl))); (try simp only [Act.put, s1, s2, s3]))
  (refine takeH (i := 9) (oi := ?o10) (v := ?v10) ?h10 (by kernel_rfl) ?q10 (Or.inl ⟨?w10, ?y10⟩) (by assumption) ?r10; (case h10 => ((simp only [g1, g2, g3]); rfl)); (case q10 => exact fun _ _ _ h => h); (case w10 => rfl); (case y10 => (intro w' hSw; (try dsimp only at hSw); go_simp; (try with_reducible rfl))); (try simp only [Act.put, s1, s2, s3]))
  (refine takeH (i := 10) (oi := ?o11) (v := ?v11) ?h11 (by kernel_rfl) ?q11 (Or.inl ⟨?w11, ?y11⟩) (by assumption) ?r11; (case h11 => ((simp only [g1, g2, g3]); rfl)); (case q11 => exact fun _ _ _ h => h); (case w11 => rfl); (case y11 => (intro w' hSw; (try dsimp only at hSw); go_simp; (try with_reducible rfl))); (try simp only [Act.put, s1, s2, s3]))
  (refine takeH (i := 12) (oi := ?o12) (v := ?v12) ?h12 (by kernel_rfl) ?q12 (Or.inl ⟨?w12, ?y12⟩) (by assumption) ?r12; (case h12 => ((simp only [g1, g2, g3]); rfl)); (case q12 => exact fun _ _ _ h => h); (case w12 => rfl); (case y12 => (intro w' hSw; (try dsimp only at hSw); go_simp; (try with_reducible rfl))); (try simp only [Act.put, s1, s2, s3]))
  (refine takeH (i := 13) (oi := ?o13) (v := ?v13) ?h13 (by kernel_rfl) ?q13 (Or.inl ⟨?w13, ?y13⟩) (by assumption) ?r13; (case h13 => ((simp only [g1, g2, g3]); rfl)); (case q13 => exact fun _ _ _ h => h); (case w13 => rfl); (case y13 => (intro w' hSw; (try dsimp only at hSw); go_simp; (try with_reducible rfl))); (try simp only [Act.put, s1, s2, s3]))
  (refine takeH (i := 14) (oi := ?o14) (v := ?v14) ?h14 (by kernel_rfl) ?q14 (Or.inl ⟨?w14, ?y14⟩) (by assumption) ?r14; (case h14 => ((simp only [g1, g2, g3]); rfl)); (case q14 => exact fun _ _ _ h => h); (case w14 => rfl); (case y14 => (intro w' hSw; (try dsimp only at hSw); go_simp; (try with_reducible rfl))); (try simp only [Act.put, s1, s2, s3]))
  (refine wpAnyH_ready (rs := [11]) (by kernel_rfl) (by simp) ?_; refine AllReadyH.cons (o := ?o15) ?h15 (fun K hK => ?s15) AllReadyH.nil; (case h15 => (first | ((simp only [g1, g2, g3]); rfl) | rfl)); go_simp; (first | (go_at_call 34; go_must (refine (C1.out _).mono ?_); rintro e w5 ⟨rfl, kk⟩) | (go_at_call 35; go_must (refine (C2.out _).mono ?_); rintro e w5 ⟨rfl, kk⟩) | (go_at_call 36; go_must (refine (C3.out _).mono ?_); rintro e w5 ⟨rfl, kk⟩) | (go_at_call 37; go_must (refine (C4.out _).mono ?_); rintro e w5 ⟨rfl, kk⟩) | (go_at_call 38; go_must (refine (gsetAwake_any _).mono ?_); rintro e w5 ⟨rfl, kk⟩)); (try dsimp only); refine hK.out _ _ ?_ (fun hHd => ?_); (focus ((try dsimp only); (first | with_reducible assumption | with_reducible exact held_next (by assumption) (by assumption) | with_reducible exact held_alloc (by assumption) _))); clear hK K; (try simp only [Act.put, s1, s2, s3]))
  (refine wpAnyH_ready (rs := [15]) (by kernel_rfl) (by simp) ?_; refine AllReadyH.cons (o := ?o16) ?h16 (fun K hK => ?s16) AllReadyH.nil; (case h16 => (first | ((simp only [g1, g2, g3]); rfl) | rfl)); go_simp; (first | (go_at_call 34; go_must (refine (C1.out _).mono ?_); rintro e w5 ⟨rfl, kk⟩) | (go_at_call 35; go_must (refine (C2.out _).mono ?_); rintro e w5 ⟨rfl, kk⟩) | (go_at_call 36; go_must (refine (C3.out _).mono ?_); rintro e w5 ⟨rfl, kk⟩) | (go_at_call 37; go_must (refine (C4.out _).mono ?_); rintro e w5 ⟨rfl, kk⟩) | (go_at_call 38; go_must (refine (gsetAwake_any _).mono ?_); rintro e w5 ⟨rfl, kk⟩)); (try dsimp only); refine hK.out _ _ ?_ (fun hHd => ?_); (focus ((try dsimp only); (first | with_reducible assumption | with_reducible exact held_next (by assumption) (by assumption) | with_reducible exact held_alloc (by assumption) _))); clear hK K; (try simp only [Act.put, s1, s2, s3]))
  (refine takeH (i := 16) (oi := ?o17) (v := ?v17) ?h17 (by kernel_rfl) ?q17 (Or.inl ⟨?w17, ?y17⟩) (by assumption) ?r17; (case h17 => ((simp only [g1, g2, g3]); rfl)); (case q17 => exact fun _ _ _ h => h); (case w17 => rfl); (case y17 => (intro w' hSw; (try dsimp only at hSw); go_simp; (try with_reducible rfl))); (try simp only [Act.put, s1, s2, s3]))
  (refine takeH (i := 17) (oi := ?o18) (v := ?v18) ?h18 (by kernel_rfl) ?q18 (Or.inl ⟨?w18, ?y18⟩) (by assumption) ?r18; (case h18 => ((simp only [g1, g2, g3]); rfl)); (case q18 => exact fun _ _ _ h => h); (case w18 => rfl); (case y18 => (intro w' hSw; (try dsimp only at hSw); go_simp; (try with_reducible rfl))); (try simp only [Act.put, s1, s2, s3]))
  (refine takeH (i := 18) (oi := ?o19) (v := ?v19) ?h19 (by kernel_rfl) ?q19 (Or.inl ⟨?w19, ?y19⟩) (by assumption) ?r19; (case h19 => ((simp only [g1, g2, g3]); rfl)); (case q19 => exact fun _ _ _ h => h); (case w19 => rfl); (case y19 => (intro w' hSw; (try dsimp only at hSw); go_simp; (try with_reducible rfl))); (try simp only [Act.put, s1, s2, s3]))
  (refine wpAnyH_ready (rs := [19]) (by kernel_rfl) (by simp) ?_; refine AllReadyH.cons (o := ?o20) ?h20 (fun K hK => ?s20) AllReadyH.nil; (case h20 => (first | ((simp only [g1, g2, g3]); rfl) | rfl)); go_simp; (first | (go_at_call 34; go_must (refine (C1.out _).mono ?_); rintro e w5 ⟨rfl, kk⟩) | (go_at_call 35; go_must (refine (C2.out _).mono ?_); rintro e w5 ⟨rfl, kk⟩) | (go_at_call 36; go_must (refine (C3.out _).mono ?_); rintro e w5 ⟨rfl, kk⟩) | (go_at_call 37; go_must (refine (C4.out _).mono ?_); rintro e w5 ⟨rfl, kk⟩) | (go_at_call 38; go_must (refine (gsetAwake_any _).mono ?_); rintro e w5 ⟨rfl, kk⟩)); (try dsimp only); refine hK.out _ _ ?_ (fun hHd => ?_); (focus ((try dsimp only); (first | with_reducible assumption | with_reducible exact held_next (by assumption) (by assumption) | with_reducible exact held_alloc (by assumption) _))); clear hK K; (try simp only [Act.put, s1, s2, s3]))
  (refine takeH (i := 20) (oi := ?o21) (v := ?v21) ?h21 (by kernel_rfl) ?q21 (Or.inl ⟨?w21, ?y21⟩) (by assumption) ?r21; (case h21 => ((simp only [g1, g2, g3]); rfl)); (case q21 => exact fun _ _ _ h => h); (case w21 => rfl); (case y21 => (intro w' hSw; (try dsimp only at hSw); go_simp; (try with_reducible rfl))); (try simp only [Act.put, s1, s2, s3]))
  (refine takeH (i := 21) (oi := ?o22) (v := ?v22) ?h22 (by kernel_rfl) ?q22 (Or.inl ⟨?w22, ?y22⟩) (by assumption) ?r22; (case h22 => ((simp only [g1, g2, g3]); rfl)); (case q22 => exact fun _ _ _ h => h); (case w22 => rfl); (case y22 => (intro w' hSw; (try dsimp only at hSw); go_simp; (try with_reducible rfl))); (try simp only [Act.put, s1, s2, s3]))
  refine wpAnyH_done (by kernel_rfl) ?_ _
  go_wp2
  go_ret
  exact ⟨ret_bool (by first | rfl | simp), kw2.trans (hHd.2.trans (Kp.refl _))⟩
set_option maxRecDepth 100000 in
set_option maxHeartbeats 2000000 in
theorem gsetBadL_any (s : Sett) (spare : Int) (last : Bool) (hs : s.ok) (_hp : -9223372036854775808 ≤ spare ∧ spare ≤ 9223372036854775807) (w : World) :
    Calls Try.prog 10 #[s.v, .int .i64 spare, .bool last] w fun e w' => e = .returned (.bool true) ∧ Kp w w' := by
  obtain ⟨s0, s1, s2, s3, s4⟩ := s
  obtain ⟨_, _, h2, h3, h4⟩ := hs
  simp only [Sett.v] at h2 h3 h4 ⊢
  by_cases h60 : 1152921504606846976 < s3
  · have j : decide (1152921504606846976 < s3) = true := decide_eq_true h60
    clear h2 h3 h4 _hp
    go_enter Try.func10, Try.ntmps10
    go_wp2_with (go_at_call 38; go_must (refine (gsetAwake_any _).mono ?_); rintro e w5 ⟨rfl, kk⟩)
    go_ret
    exact ⟨rfl, (by (repeat (first | with_reducible assumption | with_reducible exact Kp.refl _ | with_reducible refine Kp.drew ?_ | with_reducible refine Kp.drewN ?_ _ | with_reducible refine Kp.alloc ?_ _ | ((with_reducible refine Kp.setCell ?_ ?_ _); rotate_left; (focus (first | omega | (simp; done) | (simp; omega)))) | with_reducible refine Kp.trans ?_ (by assumption))))⟩
  · have j : decide (1152921504606846976 < s3) = false := decide_eq_false h60
    have c1 := fun w => gsetBad_any s0 s1 s2 s3 s4 spare last w h2 h3 h4 (by omega)
    have c2 := fun w => refSetBad_any s0 s1 s2 s3 s4 spare last w h2 h3 h4 (by omega)
    obtain ⟨b, hb⟩ : ∃ u, setBad ⟨s0, s1, s2, s3, s4⟩ spare last = u := ⟨_, rfl⟩
    rw [hb] at c1 c2
    have C1 := Lib.hid c1; have C2 := Lib.hid c2
    clear c1 c2 hb h2 h3 h4 _hp h60
    go_enter Try.func10, Try.ntmps10
    go_wp2_with fail
    
    refine named_world (F := fun w2 => Blk w2 w.heap.size (ints [s0, s1, s2, s3, s4]) 69 ∧ Kp w w2) ⟨(by (repeat (first | with_reducible assumption | ((with_reducible refine Blk.newL ?_ ?_); (focus (first | (simp; done) | omega)); rfl) | with_reducible refine Blk.drew ?_ | with_reducible refine Blk.drewN ?_ _ | with_reducible refine Blk.alloc ?_ _ | ((with_reducible refine Blk.other ?_ ?_ _); rotate_left; (focus (first | with_reducible assumption | omega | (simp; done) | (simp; omega))))))), (by (repeat (first | with_reducible assumption | with_reducible exact Kp.refl _ | with_reducible refine Kp.drew ?_ | with_reducible refine Kp.drewN ?_ _ | with_reducible refine Kp.alloc ?_ _ | ((with_reducible refine Kp.setCell ?_ ?_ _); rotate_left; (focus (first | omega | (simp; done) | (simp; omega)))) | with_reducible refine Kp.trans ?_ (by assumption))))⟩ ?_; rintro w2 ⟨x3, kw2⟩; have x3_0 := x3.cell 0 rfl; have x3_1 := x3.cell 1 rfl; have x3_2 := x3.cell 2 rfl; have x3_3 := x3.cell 3 rfl; have x3_4 := x3.cell 4 rfl; have x3_ne := x3.lt; have x3_n1 := Nat.lt_add_one_of_lt x3_ne; have x3_n2 := Nat.lt_add_one_of_lt x3_n1
    (refine wp_region_held_drew (S := (fun w' => (∀ b o, b < w2.heap.size → w'.cell? ⟨b, o, none⟩ = w2.cell? ⟨b, o, none⟩) ∧ Kp w2 w')) (by kernel_rfl) ?_ (fun hHd => ?_); (focus ((try dsimp only); (first | with_reducible assumption | with_reducible exact held_start _ | with_reducible exact held_next (by assumption) (by assumption) | with_reducible exact held_alloc (by assumption) _ | with_reducible exact held_drew (by assumption) | ((with_reducible refine held_kp ?_); (repeat (first | with_reducible assumption | with_reducible exact Kp.refl _ | with_reducible refine Kp.drew ?_ | with_reducible refine Kp.drewN ?_ _ | with_reducible refine Kp.alloc ?_ _ | ((with_reducible refine Kp.setCell ?_ ?_ _); rotate_left; (focus (first | omega | (simp; done) | (simp; omega)))) | with_reducible refine Kp.trans ?_ (by assumption))))))))
    (refine takeH (i := 0) (oi := ?o23) (v := ?v23) ?h23 (by kernel_rfl) ?q23 (Or.inl ⟨?w23, ?y23⟩) (by assumption) ?r23; (case h23 => ((simp only [g1, g3]); rfl)); (case q23 => exact fun _ _ _ h => h); (case w23 => rfl); (case y23 => (intro w' hSw; (try dsimp only at hSw); go_simp; (try with_reducible rfl))); (try simp only [Act.put, s1, s2, s3]))
    (refine takeH (i := 1) (oi := ?o24) (v := ?v24) ?h24 (by kernel_rfl) ?q24 (Or.inl ⟨?w24, ?y24⟩) (by assumption) ?r24; (case h24 => ((simp only [g1, g2, g3]); rfl)); (case q24 => exact fun _ _ _ h => h); (case w24 => rfl); (case y24 => (intro w' hSw; (try dsimp only at hSw); go_simp; (try with_reducible rfl))); (try simp only [Act.put, s1, s2, s3]))
    (refine takeH (i := 2) (oi := ?o25) (v := ?v25) ?h25 (by kernel_rfl) ?q25 (Or.inl ⟨?w25, ?y25⟩) (by assumption) ?r25; (case h25 => ((simp only [g1, g2, g3]); rfl)); (case q25 => exact fun _ _ _ h => h); (case w25 => rfl); (case y25 => (intro w' hSw; (try dsimp only at hSw); go_simp; (try with_reducible rfl))); (try simp only [Act.put, s1, s2, s3]))
    (refine takeH (i := 4) (oi := ?o26) (v := ?v26) ?h26 (by kernel_rfl) ?q26 (Or.inl ⟨?w26, ?y26⟩) (by assumption) ?r26; (case h26 => ((simp only [g1, g2, g3]); rfl)); (case q26 => exact fun _ _ _ h => h); (case w26 => rfl); (case y26 => (intro w' hSw; (try dsimp only at hSw); go_simp; (try with_reducible rfl))); (try simp only [Act.put, s1, s2, s3]))
    (refine takeH (i := 5) (oi := ?o27) (v := ?v27) ?h27 (by kernel_rfl) ?q27 (Or.inl ⟨?w27, ?y27⟩) (by assumption) ?r27; (case h27 => ((simp only [g1, g2, g3]); rfl)); (case q27 => exact fun _ _ _ h => h); (case w27 => rfl); (case y27 => (intro w' hSw; (try dsimp only at hSw); go_simp; (try with_reducible rfl))); (try simp only [Act.put, s1, s2, s3]))
    (refine takeH (i := 6) (oi := ?o28) (v := ?v28) ?h28 (by kernel_rfl) ?q28 (Or.inl ⟨?w28, ?y28⟩) (by assumption) ?r28; (case h28 => ((simp only [g1, g2, g3]); rfl)); (case q28 => exact fun _ _ _ h => h); (case w28 => rfl); (case y28 => (intro w' hSw; (try dsimp only at hSw); go_simp; (try with_reducible rfl))); (try simp only [Act.put, s1, s2, s3]))
    (refine wpAnyH_ready (rs := [3]) (by kernel_rfl) (by simp) ?_; refine AllReadyH.cons (o := ?o29) ?h29 (fun K hK => ?s29) AllReadyH.nil; (case h29 => (first | ((simp only [g1, g2, g3]); rfl) | rfl)); go_simp; (first | (go_at_call 39; go_must (refine (C1.out _).mono ?_); rintro e w5 ⟨rfl, kk⟩) | (go_at_call 40; go_must (refine (C2.out _).mono ?_); rintro e w5 ⟨rfl, kk⟩) | (go_at_call 38; go_must (refine (gsetAwake_any _).mono ?_); rintro e w5 ⟨rfl, kk⟩)); (try dsimp only); refine hK.out _ _ ?_ (fun hHd => ?_); (focus ((try dsimp only); (first | with_reducible assumption | with_reducible exact held_next (by assumption) (by assumption) | with_reducible exact held_alloc (by assumption) _))); clear hK K; (try simp only [Act.put, s1, s2, s3]))
    (refine wpAnyH_ready (rs := [7]) (by kernel_rfl) (by simp) ?_; refine AllReadyH.cons (o := ?o30) ?h30 (fun K hK => ?s30) AllReadyH.nil; (case h30 => (first | ((simp only [g1, g2, g3]); rfl) | rfl)); go_simp; (first | (go_at_call 39; go_must (refine (C1.out _).mono ?_); rintro e w5 ⟨rfl, kk⟩) | (go_at_call 40; go_must (refine (C2.out _).mono ?_); rintro e w5 ⟨rfl, kk⟩) | (go_at_call 38; go_must (refine (gsetAwake_any _).mono ?_); rintro e w5 ⟨rfl, kk⟩)); (try dsimp only); refine hK.out _ _ ?_ (fun hHd => ?_); (focus ((try dsimp only); (first | with_reducible assumption | with_reducible exact held_next (by assumption) (by assumption) | with_reducible exact held_alloc (by assumption) _))); clear hK K; (try simp only [Act.put, s1, s2, s3]))
    (refine takeH (i := 8) (oi := ?o31) (v := ?v31) ?h31 (by kernel_rfl) ?q31 (Or.inl ⟨?w31, ?y31⟩) (by assumption) ?r31; (case h31 => ((simp only [g1, g2, g3]); rfl)); (case q31 => exact fun _ _ _ h => h); (case w31 => rfl); (case y31 => (intro w' hSw; (try dsimp only at hSw); go_simp; (try with_reducible rfl))); (try simp only [Act.put, s1, s2, s3]))
    (refine takeH (i := 9) (oi := ?o32) (v := ?v32) ?h32 (by kernel_rfl) ?q32 (Or.inl ⟨?w32, ?y32⟩) (by assumption) ?r32; (case h32 => ((simp only [g1, g2, g3]); rfl)); (case q32 => exact fun _ _ _ h => h); (case w32 => rfl); (case y32 => (intro w' hSw; (try dsimp only at hSw); go_simp; (try with_reducible rfl))); (try simp only [Act.put, s1, s2, s3]))
    (refine wpAnyH_ready (rs := [10]) (by kernel_rfl) (by simp) ?_; refine AllReadyH.cons (o := ?o33) ?h33 (fun K hK => ?s33) AllReadyH.nil; (case h33 => (first | ((simp only [g1, g2, g3]); rfl) | rfl)); go_simp; (first | (go_at_call 39; go_must (refine (C1.out _).mono ?_); rintro e w5 ⟨rfl, kk⟩) | (go_at_call 40; go_must (refine (C2.out _).mono ?_); rintro e w5 ⟨rfl, kk⟩) | (go_at_call 38; go_must (refine (gsetAwake_any _).mono ?_); rintro e w5 ⟨rfl, kk⟩)); (try dsimp only); refine hK.out _ _ ?_ (fun hHd => ?_); (focus ((try dsimp only); (first | with_reducible assumption | with_reducible exact held_next (by assumption) (by assumption) | with_reducible exact held_alloc (by assumption) _))); clear hK K; (try simp only [Act.put, s1, s2, s3]))
    (refine takeH (i := 11) (oi := ?o34) (v := ?v34) ?h34 (by kernel_rfl) ?q34 (Or.inl ⟨?w34, ?y34⟩) (by assumption) ?r34; (case h34 => ((simp only [g1, g2, g3]); rfl)); (case q34 => exact fun _ _ _ h => h); (case w34 => rfl); (case y34 => (intro w' hSw; (try dsimp only at hSw); go_simp; (try with_reducible rfl))); (try simp only [Act.put, s1, s2, s3]))
    (refine takeH (i := 12) (oi := ?o35) (v := ?v35) ?h35 (by kernel_rfl) ?q35 (Or.inl ⟨?w35, ?y35⟩) (by assumption) ?r35; (case h35 => ((simp only [g1, g2, g3]); rfl)); (case q35 => exact fun _ _ _ h => h); (case w35 => rfl); (case y35 => (intro w' hSw; (try dsimp only at hSw); go_simp; (try with_reducible rfl))); (try simp only [Act.put, s1, s2, s3]))
    refine wpAnyH_done (by kernel_rfl) ?_ _
    go_wp2
    go_ret
    exact ⟨ret_bool (by first | rfl | simp), kw2.trans (hHd.2.trans (Kp.refl _))⟩
end Go.Proofs.Yteipfamaclildaa
