/- A thing's text: the document's. -/
import Derived.Test.YtfiejiokconobaaDoorRline

namespace Go.Proofs.YtfiejiokconobaaDoor

open Go.RowKit

set_option maxRecDepth 100000 in
set_option maxHeartbeats 2000000 in
theorem refPut_box (p : Put) (hp : p.ok) (w : World) (hk : p.k = 1) :
    Calls Tryd.prog 15 #[.agg #[.int .i64 p.k, .int .i64 p.n, .int .i64 p.l, .int .i64 p.y, .int .i64 p.h]] w fun e w' => e = .returned (sv (lineL [98, 111, 120] [p.n, p.y, p.h])) ∧ Kp w w' := by
  obtain ⟨k, n, l, y, h⟩ := p
  simp only at hk ⊢
  subst hk
  have HP := Lib.hid hp
  have HI : Hid (∀ x, x ∈ [n, y, h] → I64 x) := Lib.hid (by
    obtain ⟨p0, p1, p2, p3, p4⟩ := HP.out
    simp only at p0 p1 p2 p3 p4
    intro x hx
    simp only [List.mem_cons, List.not_mem_nil, or_false] at hx
    rcases hx with rfl | rfl | rfl <;> assumption)
  clear hp
  go_enter Tryd.func15, Tryd.ntmps15
  go_wp2_with fail
  
  refine named_world (F := fun w1 => Blk w1 w.heap.size [.int .i64 1, .int .i64 n, .int .i64 l, .int .i64 y, .int .i64 h] 30 ∧ Kp w w1) ⟨(by (repeat (first | with_reducible assumption | ((with_reducible refine Blk.newL ?_ ?_); (focus (first | (simp; done) | omega)); rfl) | with_reducible refine Blk.drew ?_ | with_reducible refine Blk.drewN ?_ _ | with_reducible refine Blk.alloc ?_ _ | ((with_reducible refine Blk.other ?_ ?_ _); rotate_left; (focus (first | with_reducible assumption | omega | (simp; done) | (simp; omega))))))), (by (repeat (first | with_reducible assumption | with_reducible exact Kp.refl _ | with_reducible refine Kp.drew ?_ | with_reducible refine Kp.drewN ?_ _ | with_reducible refine Kp.alloc ?_ _ | ((with_reducible refine Kp.setCell ?_ ?_ _); rotate_left; (focus (first | omega | (simp; done) | (simp; omega)))) | with_reducible refine Kp.trans ?_ (by assumption))))⟩ ?_; rintro w1 ⟨bp, kw1⟩; have bp_0 := bp.cell 0 rfl; have bp_1 := bp.cell 1 rfl; have bp_2 := bp.cell 2 rfl; have bp_3 := bp.cell 3 rfl; have bp_4 := bp.cell 4 rfl; have bp_ne := bp.lt; have bp_n1 := Nat.lt_add_one_of_lt bp_ne; have bp_n2 := Nat.lt_add_one_of_lt bp_n1
  (refine wp_region_held_drew (S := (fun w' => (∀ b o, b < w1.heap.size → w'.cell? ⟨b, o, none⟩ = w1.cell? ⟨b, o, none⟩) ∧ Kp w1 w')) (by kernel_rfl) ?_ (fun hHd => ?_); (focus ((try dsimp only); (first | with_reducible assumption | with_reducible exact held_start _ | with_reducible exact held_next (by assumption) (by assumption) | with_reducible exact held_alloc (by assumption) _ | with_reducible exact held_drew (by assumption) | ((with_reducible refine held_kp ?_); (repeat (first | with_reducible assumption | with_reducible exact Kp.refl _ | with_reducible refine Kp.drew ?_ | with_reducible refine Kp.drewN ?_ _ | with_reducible refine Kp.alloc ?_ _ | ((with_reducible refine Kp.setCell ?_ ?_ _); rotate_left; (focus (first | omega | (simp; done) | (simp; omega)))) | with_reducible refine Kp.trans ?_ (by assumption))))))))
  (refine takeH (i := 0) (oi := ?o24) (v := ?v24) ?h24 (by kernel_rfl) ?q24 (Or.inl ⟨?w24, ?y24⟩) (by assumption) ?r24; (case h24 => ((simp only [g1, g3]); rfl)); (case q24 => exact fun _ _ _ h => h); (case w24 => rfl); (case y24 => (intro w' hSw; (try dsimp only at hSw); go_simp; (try with_reducible rfl))); (try simp only [Act.put, s1, s2, s3]))
  (refine takeH (i := 1) (oi := ?o25) (v := ?v25) ?h25 (by kernel_rfl) ?q25 (Or.inl ⟨?w25, ?y25⟩) (by assumption) ?r25; (case h25 => ((simp only [g1, g2, g3]); rfl)); (case q25 => exact fun _ _ _ h => h); (case w25 => rfl); (case y25 => (intro w' hSw; (try dsimp only at hSw); go_simp; (try with_reducible rfl))); (try simp only [Act.put, s1, s2, s3]))
  (refine takeH (i := 2) (oi := ?o26) (v := ?v26) ?h26 (by kernel_rfl) ?q26 (Or.inl ⟨?w26, ?y26⟩) (by assumption) ?r26; (case h26 => ((simp only [g1, g2, g3]); rfl)); (case q26 => exact fun _ _ _ h => h); (case w26 => rfl); (case y26 => (intro w' hSw; (try dsimp only at hSw); go_simp; (try with_reducible rfl))); (try simp only [Act.put, s1, s2, s3]))
  (refine takeH (i := 3) (oi := ?o27) (v := ?v27) ?h27 (by kernel_rfl) ?q27 (Or.inl ⟨?w27, ?y27⟩) (by assumption) ?r27; (case h27 => ((simp only [g1, g2, g3]); rfl)); (case q27 => exact fun _ _ _ h => h); (case w27 => rfl); (case y27 => (intro w' hSw; (try dsimp only at hSw); go_simp; (try with_reducible rfl))); (try simp only [Act.put, s1, s2, s3]))
  (refine takeH (i := 4) (oi := ?o28) (v := ?v28) ?h28 (by kernel_rfl) ?q28 (Or.inl ⟨?w28, ?y28⟩) (by assumption) ?r28; (case h28 => ((simp only [g1, g2, g3]); rfl)); (case q28 => exact fun _ _ _ h => h); (case w28 => rfl); (case y28 => (intro w' hSw; (try dsimp only at hSw); go_simp; (try with_reducible rfl))); (try simp only [Act.put, s1, s2, s3]))
  (refine takeH (i := 5) (oi := ?o29) (v := ?v29) ?h29 (by kernel_rfl) ?q29 (Or.inl ⟨?w29, ?y29⟩) (by assumption) ?r29; (case h29 => ((simp only [g1, g2, g3]); rfl)); (case q29 => exact fun _ _ _ h => h); (case w29 => rfl); (case y29 => (intro w' hSw; (try dsimp only at hSw); go_simp; (try with_reducible rfl))); (try simp only [Act.put, s1, s2, s3]))
  (refine takeH (i := 6) (oi := ?o30) (v := ?v30) ?h30 (by kernel_rfl) ?q30 (Or.inl ⟨?w30, ?y30⟩) (by assumption) ?r30; (case h30 => ((simp only [g1, g2, g3]); rfl)); (case q30 => exact fun _ _ _ h => h); (case w30 => rfl); (case y30 => (intro w' hSw; (try dsimp only at hSw); go_simp; (try with_reducible rfl))); (try simp only [Act.put, s1, s2, s3]))
  (refine takeH (i := 7) (oi := ?o31) (v := ?v31) ?h31 (by kernel_rfl) ?q31 (Or.inl ⟨?w31, ?y31⟩) (by assumption) ?r31; (case h31 => ((simp only [g1, g2, g3]); rfl)); (case q31 => exact fun _ _ _ h => h); (case w31 => rfl); (case y31 => (intro w' hSw; (try dsimp only at hSw); go_simp; (try with_reducible rfl))); (try simp only [Act.put, s1, s2, s3]))
  (refine takeH (i := 8) (oi := ?o32) (v := ?v32) ?h32 (by kernel_rfl) ?q32 (Or.inl ⟨?w32, ?y32⟩) (by assumption) ?r32; (case h32 => ((simp only [g1, g2, g3]); rfl)); (case q32 => exact fun _ _ _ h => h); (case w32 => rfl); (case y32 => (intro w' hSw; (try dsimp only at hSw); go_simp; (try with_reducible rfl))); (try simp only [Act.put, s1, s2, s3]))
  (refine takeH (i := 9) (oi := ?o33) (v := ?v33) ?h33 (by kernel_rfl) ?q33 (Or.inl ⟨?w33, ?y33⟩) (by assumption) ?r33; (case h33 => ((simp only [g1, g2, g3]); rfl)); (case q33 => exact fun _ _ _ h => h); (case w33 => rfl); (case y33 => (intro w' hSw; (try dsimp only at hSw); go_simp; (try with_reducible rfl))); (try simp only [Act.put, s1, s2, s3]))
  (refine takeH (i := 10) (oi := ?o34) (v := ?v34) ?h34 (by kernel_rfl) ?q34 (Or.inl ⟨?w34, ?y34⟩) (by assumption) ?r34; (case h34 => ((simp only [g1, g2, g3]); rfl)); (case q34 => exact fun _ _ _ h => h); (case w34 => rfl); (case y34 => (intro w' hSw; (try dsimp only at hSw); go_simp; (try with_reducible rfl))); (try simp only [Act.put, s1, s2, s3]))
  (refine takeH (i := 11) (oi := ?o35) (v := ?v35) ?h35 (by kernel_rfl) ?q35 (Or.inl ⟨?w35, ?y35⟩) (by assumption) ?r35; (case h35 => ((simp only [g1, g2, g3]); rfl)); (case q35 => exact fun _ _ _ h => h); (case w35 => rfl); (case y35 => (intro w' hSw; (try dsimp only at hSw); go_simp; (try with_reducible rfl))); (try simp only [Act.put, s1, s2, s3]))
  (refine takeH (i := 12) (oi := ?o36) (v := ?v36) ?h36 (by kernel_rfl) ?q36 (Or.inl ⟨?w36, ?y36⟩) (by assumption) ?r36; (case h36 => ((simp only [g1, g2, g3]); rfl)); (case q36 => exact fun _ _ _ h => h); (case w36 => rfl); (case y36 => (intro w' hSw; (try dsimp only at hSw); go_simp; (try with_reducible rfl))); (try simp only [Act.put, s1, s2, s3]))
  (refine takeH (i := 13) (oi := ?o37) (v := ?v37) ?h37 (by kernel_rfl) ?q37 (Or.inl ⟨?w37, ?y37⟩) (by assumption) ?r37; (case h37 => ((simp only [g1, g2, g3]); rfl)); (case q37 => exact fun _ _ _ h => h); (case w37 => rfl); (case y37 => (intro w' hSw; (try dsimp only at hSw); go_simp; (try with_reducible rfl))); (try simp only [Act.put, s1, s2, s3]))
  (refine takeH (i := 14) (oi := ?o38) (v := ?v38) ?h38 (by kernel_rfl) ?q38 (Or.inl ⟨?w38, ?y38⟩) (by assumption) ?r38; (case h38 => ((simp only [g1, g2, g3]); rfl)); (case q38 => exact fun _ _ _ h => h); (case w38 => rfl); (case y38 => (intro w' hSw; (try dsimp only at hSw); go_simp; (try with_reducible rfl))); (try simp only [Act.put, s1, s2, s3]))
  refine wpAnyH_done (by kernel_rfl) ?_ _
  go_wp2_with fail
  refine (refLine_any _ _ [98, 111, 120] [n, y, h] _ (sl_blk (t := 2) (by (repeat (first | with_reducible assumption | ((with_reducible refine Blk.newL ?_ ?_); (focus (first | (simp; done) | omega)); rfl) | with_reducible refine Blk.drew ?_ | with_reducible refine Blk.drewN ?_ _ | with_reducible refine Blk.alloc ?_ _ | ((with_reducible refine Blk.other ?_ ?_ _); rotate_left; (focus (first | with_reducible assumption | omega | (simp; done) | (simp; omega))))))) (by simp)) HI.out (by simp) (by simp)).mono ?_
  rintro e w3 ⟨rfl, kk⟩
  go_wp2_with fail
  (try go_ret)
  exact ⟨rfl, (by (repeat (first | with_reducible assumption | with_reducible exact Kp.refl _ | with_reducible refine Kp.drew ?_ | with_reducible refine Kp.drewN ?_ _ | with_reducible refine Kp.alloc ?_ _ | ((with_reducible refine Kp.setCell ?_ ?_ _); rotate_left; (focus (first | omega | (simp; done) | (simp; omega)))) | with_reducible refine Kp.trans ?_ (by assumption))))⟩
set_option maxRecDepth 100000 in
set_option maxHeartbeats 2000000 in
theorem refPut_float (p : Put) (hp : p.ok) (w : World) (hk : p.k = 2) :
    Calls Tryd.prog 15 #[.agg #[.int .i64 p.k, .int .i64 p.n, .int .i64 p.l, .int .i64 p.y, .int .i64 p.h]] w fun e w' => e = .returned (sv (lineL [102, 108, 111, 97, 116] [p.n, p.y, p.h])) ∧ Kp w w' := by
  obtain ⟨k, n, l, y, h⟩ := p
  simp only at hk ⊢
  subst hk
  have HP := Lib.hid hp
  have HI : Hid (∀ x, x ∈ [n, y, h] → I64 x) := Lib.hid (by
    obtain ⟨p0, p1, p2, p3, p4⟩ := HP.out
    simp only at p0 p1 p2 p3 p4
    intro x hx
    simp only [List.mem_cons, List.not_mem_nil, or_false] at hx
    rcases hx with rfl | rfl | rfl <;> assumption)
  clear hp
  go_enter Tryd.func15, Tryd.ntmps15
  go_wp2_with fail
  
  refine named_world (F := fun w1 => Blk w1 w.heap.size [.int .i64 2, .int .i64 n, .int .i64 l, .int .i64 y, .int .i64 h] 30 ∧ Kp w w1) ⟨(by (repeat (first | with_reducible assumption | ((with_reducible refine Blk.newL ?_ ?_); (focus (first | (simp; done) | omega)); rfl) | with_reducible refine Blk.drew ?_ | with_reducible refine Blk.drewN ?_ _ | with_reducible refine Blk.alloc ?_ _ | ((with_reducible refine Blk.other ?_ ?_ _); rotate_left; (focus (first | with_reducible assumption | omega | (simp; done) | (simp; omega))))))), (by (repeat (first | with_reducible assumption | with_reducible exact Kp.refl _ | with_reducible refine Kp.drew ?_ | with_reducible refine Kp.drewN ?_ _ | with_reducible refine Kp.alloc ?_ _ | ((with_reducible refine Kp.setCell ?_ ?_ _); rotate_left; (focus (first | omega | (simp; done) | (simp; omega)))) | with_reducible refine Kp.trans ?_ (by assumption))))⟩ ?_; rintro w1 ⟨bp, kw1⟩; have bp_0 := bp.cell 0 rfl; have bp_1 := bp.cell 1 rfl; have bp_2 := bp.cell 2 rfl; have bp_3 := bp.cell 3 rfl; have bp_4 := bp.cell 4 rfl; have bp_ne := bp.lt; have bp_n1 := Nat.lt_add_one_of_lt bp_ne; have bp_n2 := Nat.lt_add_one_of_lt bp_n1
  (refine wp_region_held_drew (S := (fun w' => (∀ b o, b < w1.heap.size → w'.cell? ⟨b, o, none⟩ = w1.cell? ⟨b, o, none⟩) ∧ Kp w1 w')) (by kernel_rfl) ?_ (fun hHd => ?_); (focus ((try dsimp only); (first | with_reducible assumption | with_reducible exact held_start _ | with_reducible exact held_next (by assumption) (by assumption) | with_reducible exact held_alloc (by assumption) _ | with_reducible exact held_drew (by assumption) | ((with_reducible refine held_kp ?_); (repeat (first | with_reducible assumption | with_reducible exact Kp.refl _ | with_reducible refine Kp.drew ?_ | with_reducible refine Kp.drewN ?_ _ | with_reducible refine Kp.alloc ?_ _ | ((with_reducible refine Kp.setCell ?_ ?_ _); rotate_left; (focus (first | omega | (simp; done) | (simp; omega)))) | with_reducible refine Kp.trans ?_ (by assumption))))))))
  (refine takeH (i := 0) (oi := ?o39) (v := ?v39) ?h39 (by kernel_rfl) ?q39 (Or.inl ⟨?w39, ?y39⟩) (by assumption) ?r39; (case h39 => ((simp only [g1, g3]); rfl)); (case q39 => exact fun _ _ _ h => h); (case w39 => rfl); (case y39 => (intro w' hSw; (try dsimp only at hSw); go_simp; (try with_reducible rfl))); (try simp only [Act.put, s1, s2, s3]))
  (refine takeH (i := 1) (oi := ?o40) (v := ?v40) ?h40 (by kernel_rfl) ?q40 (Or.inl ⟨?w40, ?y40⟩) (by assumption) ?r40; (case h40 => ((simp only [g1, g2, g3]); rfl)); (case q40 => exact fun _ _ _ h => h); (case w40 => rfl); (case y40 => (intro w' hSw; (try dsimp only at hSw); go_simp; (try with_reducible rfl))); (try simp only [Act.put, s1, s2, s3]))
  (refine takeH (i := 2) (oi := ?o41) (v := ?v41) ?h41 (by kernel_rfl) ?q41 (Or.inl ⟨?w41, ?y41⟩) (by assumption) ?r41; (case h41 => ((simp only [g1, g2, g3]); rfl)); (case q41 => exact fun _ _ _ h => h); (case w41 => rfl); (case y41 => (intro w' hSw; (try dsimp only at hSw); go_simp; (try with_reducible rfl))); (try simp only [Act.put, s1, s2, s3]))
  (refine takeH (i := 3) (oi := ?o42) (v := ?v42) ?h42 (by kernel_rfl) ?q42 (Or.inl ⟨?w42, ?y42⟩) (by assumption) ?r42; (case h42 => ((simp only [g1, g2, g3]); rfl)); (case q42 => exact fun _ _ _ h => h); (case w42 => rfl); (case y42 => (intro w' hSw; (try dsimp only at hSw); go_simp; (try with_reducible rfl))); (try simp only [Act.put, s1, s2, s3]))
  (refine takeH (i := 4) (oi := ?o43) (v := ?v43) ?h43 (by kernel_rfl) ?q43 (Or.inl ⟨?w43, ?y43⟩) (by assumption) ?r43; (case h43 => ((simp only [g1, g2, g3]); rfl)); (case q43 => exact fun _ _ _ h => h); (case w43 => rfl); (case y43 => (intro w' hSw; (try dsimp only at hSw); go_simp; (try with_reducible rfl))); (try simp only [Act.put, s1, s2, s3]))
  (refine takeH (i := 5) (oi := ?o44) (v := ?v44) ?h44 (by kernel_rfl) ?q44 (Or.inl ⟨?w44, ?y44⟩) (by assumption) ?r44; (case h44 => ((simp only [g1, g2, g3]); rfl)); (case q44 => exact fun _ _ _ h => h); (case w44 => rfl); (case y44 => (intro w' hSw; (try dsimp only at hSw); go_simp; (try with_reducible rfl))); (try simp only [Act.put, s1, s2, s3]))
  (refine takeH (i := 6) (oi := ?o45) (v := ?v45) ?h45 (by kernel_rfl) ?q45 (Or.inl ⟨?w45, ?y45⟩) (by assumption) ?r45; (case h45 => ((simp only [g1, g2, g3]); rfl)); (case q45 => exact fun _ _ _ h => h); (case w45 => rfl); (case y45 => (intro w' hSw; (try dsimp only at hSw); go_simp; (try with_reducible rfl))); (try simp only [Act.put, s1, s2, s3]))
  (refine takeH (i := 7) (oi := ?o46) (v := ?v46) ?h46 (by kernel_rfl) ?q46 (Or.inl ⟨?w46, ?y46⟩) (by assumption) ?r46; (case h46 => ((simp only [g1, g2, g3]); rfl)); (case q46 => exact fun _ _ _ h => h); (case w46 => rfl); (case y46 => (intro w' hSw; (try dsimp only at hSw); go_simp; (try with_reducible rfl))); (try simp only [Act.put, s1, s2, s3]))
  (refine takeH (i := 8) (oi := ?o47) (v := ?v47) ?h47 (by kernel_rfl) ?q47 (Or.inl ⟨?w47, ?y47⟩) (by assumption) ?r47; (case h47 => ((simp only [g1, g2, g3]); rfl)); (case q47 => exact fun _ _ _ h => h); (case w47 => rfl); (case y47 => (intro w' hSw; (try dsimp only at hSw); go_simp; (try with_reducible rfl))); (try simp only [Act.put, s1, s2, s3]))
  (refine takeH (i := 9) (oi := ?o48) (v := ?v48) ?h48 (by kernel_rfl) ?q48 (Or.inl ⟨?w48, ?y48⟩) (by assumption) ?r48; (case h48 => ((simp only [g1, g2, g3]); rfl)); (case q48 => exact fun _ _ _ h => h); (case w48 => rfl); (case y48 => (intro w' hSw; (try dsimp only at hSw); go_simp; (try with_reducible rfl))); (try simp only [Act.put, s1, s2, s3]))
  (refine takeH (i := 10) (oi := ?o49) (v := ?v49) ?h49 (by kernel_rfl) ?q49 (Or.inl ⟨?w49, ?y49⟩) (by assumption) ?r49; (case h49 => ((simp only [g1, g2, g3]); rfl)); (case q49 => exact fun _ _ _ h => h); (case w49 => rfl); (case y49 => (intro w' hSw; (try dsimp only at hSw); go_simp; (try with_reducible rfl))); (try simp only [Act.put, s1, s2, s3]))
  (refine takeH (i := 11) (oi := ?o50) (v := ?v50) ?h50 (by kernel_rfl) ?q50 (Or.inl ⟨?w50, ?y50⟩) (by assumption) ?r50; (case h50 => ((simp only [g1, g2, g3]); rfl)); (case q50 => exact fun _ _ _ h => h); (case w50 => rfl); (case y50 => (intro w' hSw; (try dsimp only at hSw); go_simp; (try with_reducible rfl))); (try simp only [Act.put, s1, s2, s3]))
  (refine takeH (i := 12) (oi := ?o51) (v := ?v51) ?h51 (by kernel_rfl) ?q51 (Or.inl ⟨?w51, ?y51⟩) (by assumption) ?r51; (case h51 => ((simp only [g1, g2, g3]); rfl)); (case q51 => exact fun _ _ _ h => h); (case w51 => rfl); (case y51 => (intro w' hSw; (try dsimp only at hSw); go_simp; (try with_reducible rfl))); (try simp only [Act.put, s1, s2, s3]))
  (refine takeH (i := 13) (oi := ?o52) (v := ?v52) ?h52 (by kernel_rfl) ?q52 (Or.inl ⟨?w52, ?y52⟩) (by assumption) ?r52; (case h52 => ((simp only [g1, g2, g3]); rfl)); (case q52 => exact fun _ _ _ h => h); (case w52 => rfl); (case y52 => (intro w' hSw; (try dsimp only at hSw); go_simp; (try with_reducible rfl))); (try simp only [Act.put, s1, s2, s3]))
  (refine takeH (i := 14) (oi := ?o53) (v := ?v53) ?h53 (by kernel_rfl) ?q53 (Or.inl ⟨?w53, ?y53⟩) (by assumption) ?r53; (case h53 => ((simp only [g1, g2, g3]); rfl)); (case q53 => exact fun _ _ _ h => h); (case w53 => rfl); (case y53 => (intro w' hSw; (try dsimp only at hSw); go_simp; (try with_reducible rfl))); (try simp only [Act.put, s1, s2, s3]))
  refine wpAnyH_done (by kernel_rfl) ?_ _
  go_wp2_with fail
  refine (refLine_any _ _ [102, 108, 111, 97, 116] [n, y, h] _ (sl_blk (t := 2) (by (repeat (first | with_reducible assumption | ((with_reducible refine Blk.newL ?_ ?_); (focus (first | (simp; done) | omega)); rfl) | with_reducible refine Blk.drew ?_ | with_reducible refine Blk.drewN ?_ _ | with_reducible refine Blk.alloc ?_ _ | ((with_reducible refine Blk.other ?_ ?_ _); rotate_left; (focus (first | with_reducible assumption | omega | (simp; done) | (simp; omega))))))) (by simp)) HI.out (by simp) (by simp)).mono ?_
  rintro e w3 ⟨rfl, kk⟩
  go_wp2_with fail
  (try go_ret)
  exact ⟨rfl, (by (repeat (first | with_reducible assumption | with_reducible exact Kp.refl _ | with_reducible refine Kp.drew ?_ | with_reducible refine Kp.drewN ?_ _ | with_reducible refine Kp.alloc ?_ _ | ((with_reducible refine Kp.setCell ?_ ?_ _); rotate_left; (focus (first | omega | (simp; done) | (simp; omega)))) | with_reducible refine Kp.trans ?_ (by assumption))))⟩
set_option maxRecDepth 100000 in
set_option maxHeartbeats 2000000 in
theorem refPut_rule (p : Put) (hp : p.ok) (w : World) (hk : p.k = 3) :
    Calls Tryd.prog 15 #[.agg #[.int .i64 p.k, .int .i64 p.n, .int .i64 p.l, .int .i64 p.y, .int .i64 p.h]] w fun e w' => e = .returned (sv (lineL [114, 117, 108, 101] [p.y, p.h])) ∧ Kp w w' := by
  obtain ⟨k, n, l, y, h⟩ := p
  simp only at hk ⊢
  subst hk
  have HP := Lib.hid hp
  have HI : Hid (∀ x, x ∈ [y, h] → I64 x) := Lib.hid (by
    obtain ⟨p0, p1, p2, p3, p4⟩ := HP.out
    simp only at p0 p1 p2 p3 p4
    intro x hx
    simp only [List.mem_cons, List.not_mem_nil, or_false] at hx
    rcases hx with rfl | rfl <;> assumption)
  clear hp
  go_enter Tryd.func15, Tryd.ntmps15
  go_wp2_with fail
  
  refine named_world (F := fun w1 => Blk w1 w.heap.size [.int .i64 3, .int .i64 n, .int .i64 l, .int .i64 y, .int .i64 h] 30 ∧ Kp w w1) ⟨(by (repeat (first | with_reducible assumption | ((with_reducible refine Blk.newL ?_ ?_); (focus (first | (simp; done) | omega)); rfl) | with_reducible refine Blk.drew ?_ | with_reducible refine Blk.drewN ?_ _ | with_reducible refine Blk.alloc ?_ _ | ((with_reducible refine Blk.other ?_ ?_ _); rotate_left; (focus (first | with_reducible assumption | omega | (simp; done) | (simp; omega))))))), (by (repeat (first | with_reducible assumption | with_reducible exact Kp.refl _ | with_reducible refine Kp.drew ?_ | with_reducible refine Kp.drewN ?_ _ | with_reducible refine Kp.alloc ?_ _ | ((with_reducible refine Kp.setCell ?_ ?_ _); rotate_left; (focus (first | omega | (simp; done) | (simp; omega)))) | with_reducible refine Kp.trans ?_ (by assumption))))⟩ ?_; rintro w1 ⟨bp, kw1⟩; have bp_0 := bp.cell 0 rfl; have bp_1 := bp.cell 1 rfl; have bp_2 := bp.cell 2 rfl; have bp_3 := bp.cell 3 rfl; have bp_4 := bp.cell 4 rfl; have bp_ne := bp.lt; have bp_n1 := Nat.lt_add_one_of_lt bp_ne; have bp_n2 := Nat.lt_add_one_of_lt bp_n1
  (refine wp_region_held_drew (S := (fun w' => (∀ b o, b < w1.heap.size → w'.cell? ⟨b, o, none⟩ = w1.cell? ⟨b, o, none⟩) ∧ Kp w1 w')) (by kernel_rfl) ?_ (fun hHd => ?_); (focus ((try dsimp only); (first | with_reducible assumption | with_reducible exact held_start _ | with_reducible exact held_next (by assumption) (by assumption) | with_reducible exact held_alloc (by assumption) _ | with_reducible exact held_drew (by assumption) | ((with_reducible refine held_kp ?_); (repeat (first | with_reducible assumption | with_reducible exact Kp.refl _ | with_reducible refine Kp.drew ?_ | with_reducible refine Kp.drewN ?_ _ | with_reducible refine Kp.alloc ?_ _ | ((with_reducible refine Kp.setCell ?_ ?_ _); rotate_left; (focus (first | omega | (simp; done) | (simp; omega)))) | with_reducible refine Kp.trans ?_ (by assumption))))))))
  (refine takeH (i := 0) (oi := ?o54) (v := ?v54) ?h54 (by kernel_rfl) ?q54 (Or.inl ⟨?w54, ?y54⟩) (by assumption) ?r54; (case h54 => ((simp only [g1, g3]); rfl)); (case q54 => exact fun _ _ _ h => h); (case w54 => rfl); (case y54 => (intro w' hSw; (try dsimp only at hSw); go_simp; (try with_reducible rfl))); (try simp only [Act.put, s1, s2, s3]))
  (refine takeH (i := 1) (oi := ?o55) (v := ?v55) ?h55 (by kernel_rfl) ?q55 (Or.inl ⟨?w55, ?y55⟩) (by assumption) ?r55; (case h55 => ((simp only [g1, g2, g3]); rfl)); (case q55 => exact fun _ _ _ h => h); (case w55 => rfl); (case y55 => (intro w' hSw; (try dsimp only at hSw); go_simp; (try with_reducible rfl))); (try simp only [Act.put, s1, s2, s3]))
  (refine takeH (i := 2) (oi := ?o56) (v := ?v56) ?h56 (by kernel_rfl) ?q56 (Or.inl ⟨?w56, ?y56⟩) (by assumption) ?r56; (case h56 => ((simp only [g1, g2, g3]); rfl)); (case q56 => exact fun _ _ _ h => h); (case w56 => rfl); (case y56 => (intro w' hSw; (try dsimp only at hSw); go_simp; (try with_reducible rfl))); (try simp only [Act.put, s1, s2, s3]))
  (refine takeH (i := 3) (oi := ?o57) (v := ?v57) ?h57 (by kernel_rfl) ?q57 (Or.inl ⟨?w57, ?y57⟩) (by assumption) ?r57; (case h57 => ((simp only [g1, g2, g3]); rfl)); (case q57 => exact fun _ _ _ h => h); (case w57 => rfl); (case y57 => (intro w' hSw; (try dsimp only at hSw); go_simp; (try with_reducible rfl))); (try simp only [Act.put, s1, s2, s3]))
  (refine takeH (i := 4) (oi := ?o58) (v := ?v58) ?h58 (by kernel_rfl) ?q58 (Or.inl ⟨?w58, ?y58⟩) (by assumption) ?r58; (case h58 => ((simp only [g1, g2, g3]); rfl)); (case q58 => exact fun _ _ _ h => h); (case w58 => rfl); (case y58 => (intro w' hSw; (try dsimp only at hSw); go_simp; (try with_reducible rfl))); (try simp only [Act.put, s1, s2, s3]))
  (refine takeH (i := 5) (oi := ?o59) (v := ?v59) ?h59 (by kernel_rfl) ?q59 (Or.inl ⟨?w59, ?y59⟩) (by assumption) ?r59; (case h59 => ((simp only [g1, g2, g3]); rfl)); (case q59 => exact fun _ _ _ h => h); (case w59 => rfl); (case y59 => (intro w' hSw; (try dsimp only at hSw); go_simp; (try with_reducible rfl))); (try simp only [Act.put, s1, s2, s3]))
  (refine takeH (i := 6) (oi := ?o60) (v := ?v60) ?h60 (by kernel_rfl) ?q60 (Or.inl ⟨?w60, ?y60⟩) (by assumption) ?r60; (case h60 => ((simp only [g1, g2, g3]); rfl)); (case q60 => exact fun _ _ _ h => h); (case w60 => rfl); (case y60 => (intro w' hSw; (try dsimp only at hSw); go_simp; (try with_reducible rfl))); (try simp only [Act.put, s1, s2, s3]))
  (refine takeH (i := 7) (oi := ?o61) (v := ?v61) ?h61 (by kernel_rfl) ?q61 (Or.inl ⟨?w61, ?y61⟩) (by assumption) ?r61; (case h61 => ((simp only [g1, g2, g3]); rfl)); (case q61 => exact fun _ _ _ h => h); (case w61 => rfl); (case y61 => (intro w' hSw; (try dsimp only at hSw); go_simp; (try with_reducible rfl))); (try simp only [Act.put, s1, s2, s3]))
  (refine takeH (i := 8) (oi := ?o62) (v := ?v62) ?h62 (by kernel_rfl) ?q62 (Or.inl ⟨?w62, ?y62⟩) (by assumption) ?r62; (case h62 => ((simp only [g1, g2, g3]); rfl)); (case q62 => exact fun _ _ _ h => h); (case w62 => rfl); (case y62 => (intro w' hSw; (try dsimp only at hSw); go_simp; (try with_reducible rfl))); (try simp only [Act.put, s1, s2, s3]))
  (refine takeH (i := 9) (oi := ?o63) (v := ?v63) ?h63 (by kernel_rfl) ?q63 (Or.inl ⟨?w63, ?y63⟩) (by assumption) ?r63; (case h63 => ((simp only [g1, g2, g3]); rfl)); (case q63 => exact fun _ _ _ h => h); (case w63 => rfl); (case y63 => (intro w' hSw; (try dsimp only at hSw); go_simp; (try with_reducible rfl))); (try simp only [Act.put, s1, s2, s3]))
  (refine takeH (i := 10) (oi := ?o64) (v := ?v64) ?h64 (by kernel_rfl) ?q64 (Or.inl ⟨?w64, ?y64⟩) (by assumption) ?r64; (case h64 => ((simp only [g1, g2, g3]); rfl)); (case q64 => exact fun _ _ _ h => h); (case w64 => rfl); (case y64 => (intro w' hSw; (try dsimp only at hSw); go_simp; (try with_reducible rfl))); (try simp only [Act.put, s1, s2, s3]))
  (refine takeH (i := 11) (oi := ?o65) (v := ?v65) ?h65 (by kernel_rfl) ?q65 (Or.inl ⟨?w65, ?y65⟩) (by assumption) ?r65; (case h65 => ((simp only [g1, g2, g3]); rfl)); (case q65 => exact fun _ _ _ h => h); (case w65 => rfl); (case y65 => (intro w' hSw; (try dsimp only at hSw); go_simp; (try with_reducible rfl))); (try simp only [Act.put, s1, s2, s3]))
  (refine takeH (i := 12) (oi := ?o66) (v := ?v66) ?h66 (by kernel_rfl) ?q66 (Or.inl ⟨?w66, ?y66⟩) (by assumption) ?r66; (case h66 => ((simp only [g1, g2, g3]); rfl)); (case q66 => exact fun _ _ _ h => h); (case w66 => rfl); (case y66 => (intro w' hSw; (try dsimp only at hSw); go_simp; (try with_reducible rfl))); (try simp only [Act.put, s1, s2, s3]))
  (refine takeH (i := 13) (oi := ?o67) (v := ?v67) ?h67 (by kernel_rfl) ?q67 (Or.inl ⟨?w67, ?y67⟩) (by assumption) ?r67; (case h67 => ((simp only [g1, g2, g3]); rfl)); (case q67 => exact fun _ _ _ h => h); (case w67 => rfl); (case y67 => (intro w' hSw; (try dsimp only at hSw); go_simp; (try with_reducible rfl))); (try simp only [Act.put, s1, s2, s3]))
  (refine takeH (i := 14) (oi := ?o68) (v := ?v68) ?h68 (by kernel_rfl) ?q68 (Or.inl ⟨?w68, ?y68⟩) (by assumption) ?r68; (case h68 => ((simp only [g1, g2, g3]); rfl)); (case q68 => exact fun _ _ _ h => h); (case w68 => rfl); (case y68 => (intro w' hSw; (try dsimp only at hSw); go_simp; (try with_reducible rfl))); (try simp only [Act.put, s1, s2, s3]))
  refine wpAnyH_done (by kernel_rfl) ?_ _
  go_wp2_with fail
  refine (refLine_any _ _ [114, 117, 108, 101] [y, h] _ (sl_blk (t := 2) (by (repeat (first | with_reducible assumption | ((with_reducible refine Blk.newL ?_ ?_); (focus (first | (simp; done) | omega)); rfl) | with_reducible refine Blk.drew ?_ | with_reducible refine Blk.drewN ?_ _ | with_reducible refine Blk.alloc ?_ _ | ((with_reducible refine Blk.other ?_ ?_ _); rotate_left; (focus (first | with_reducible assumption | omega | (simp; done) | (simp; omega))))))) (by simp)) HI.out (by simp) (by simp)).mono ?_
  rintro e w3 ⟨rfl, kk⟩
  go_wp2_with fail
  (try go_ret)
  exact ⟨rfl, (by (repeat (first | with_reducible assumption | with_reducible exact Kp.refl _ | with_reducible refine Kp.drew ?_ | with_reducible refine Kp.drewN ?_ _ | with_reducible refine Kp.alloc ?_ _ | ((with_reducible refine Kp.setCell ?_ ?_ _); rotate_left; (focus (first | omega | (simp; done) | (simp; omega)))) | with_reducible refine Kp.trans ?_ (by assumption))))⟩
set_option maxRecDepth 100000 in
set_option maxHeartbeats 2000000 in
theorem refPut_line (p : Put) (hp : p.ok) (w : World) (hk : p.k = 4) :
    Calls Tryd.prog 15 #[.agg #[.int .i64 p.k, .int .i64 p.n, .int .i64 p.l, .int .i64 p.y, .int .i64 p.h]] w fun e w' => e = .returned (sv (lineL [108, 105, 110, 101] [p.n, p.l, p.y, p.h])) ∧ Kp w w' := by
  obtain ⟨k, n, l, y, h⟩ := p
  simp only at hk ⊢
  subst hk
  have HP := Lib.hid hp
  have HI : Hid (∀ x, x ∈ [n, l, y, h] → I64 x) := Lib.hid (by
    obtain ⟨p0, p1, p2, p3, p4⟩ := HP.out
    simp only at p0 p1 p2 p3 p4
    intro x hx
    simp only [List.mem_cons, List.not_mem_nil, or_false] at hx
    rcases hx with rfl | rfl | rfl | rfl <;> assumption)
  clear hp
  go_enter Tryd.func15, Tryd.ntmps15
  go_wp2_with fail
  
  refine named_world (F := fun w1 => Blk w1 w.heap.size [.int .i64 4, .int .i64 n, .int .i64 l, .int .i64 y, .int .i64 h] 30 ∧ Kp w w1) ⟨(by (repeat (first | with_reducible assumption | ((with_reducible refine Blk.newL ?_ ?_); (focus (first | (simp; done) | omega)); rfl) | with_reducible refine Blk.drew ?_ | with_reducible refine Blk.drewN ?_ _ | with_reducible refine Blk.alloc ?_ _ | ((with_reducible refine Blk.other ?_ ?_ _); rotate_left; (focus (first | with_reducible assumption | omega | (simp; done) | (simp; omega))))))), (by (repeat (first | with_reducible assumption | with_reducible exact Kp.refl _ | with_reducible refine Kp.drew ?_ | with_reducible refine Kp.drewN ?_ _ | with_reducible refine Kp.alloc ?_ _ | ((with_reducible refine Kp.setCell ?_ ?_ _); rotate_left; (focus (first | omega | (simp; done) | (simp; omega)))) | with_reducible refine Kp.trans ?_ (by assumption))))⟩ ?_; rintro w1 ⟨bp, kw1⟩; have bp_0 := bp.cell 0 rfl; have bp_1 := bp.cell 1 rfl; have bp_2 := bp.cell 2 rfl; have bp_3 := bp.cell 3 rfl; have bp_4 := bp.cell 4 rfl; have bp_ne := bp.lt; have bp_n1 := Nat.lt_add_one_of_lt bp_ne; have bp_n2 := Nat.lt_add_one_of_lt bp_n1
  (refine wp_region_held_drew (S := (fun w' => (∀ b o, b < w1.heap.size → w'.cell? ⟨b, o, none⟩ = w1.cell? ⟨b, o, none⟩) ∧ Kp w1 w')) (by kernel_rfl) ?_ (fun hHd => ?_); (focus ((try dsimp only); (first | with_reducible assumption | with_reducible exact held_start _ | with_reducible exact held_next (by assumption) (by assumption) | with_reducible exact held_alloc (by assumption) _ | with_reducible exact held_drew (by assumption) | ((with_reducible refine held_kp ?_); (repeat (first | with_reducible assumption | with_reducible exact Kp.refl _ | with_reducible refine Kp.drew ?_ | with_reducible refine Kp.drewN ?_ _ | with_reducible refine Kp.alloc ?_ _ | ((with_reducible refine Kp.setCell ?_ ?_ _); rotate_left; (focus (first | omega | (simp; done) | (simp; omega)))) | with_reducible refine Kp.trans ?_ (by assumption))))))))
  (refine takeH (i := 0) (oi := ?o69) (v := ?v69) ?h69 (by kernel_rfl) ?q69 (Or.inl ⟨?w69, ?y69⟩) (by assumption) ?r69; (case h69 => ((simp only [g1, g3]); rfl)); (case q69 => exact fun _ _ _ h => h); (case w69 => rfl); (case y69 => (intro w' hSw; (try dsimp only at hSw); go_simp; (try with_reducible rfl))); (try simp only [Act.put, s1, s2, s3]))
  (refine takeH (i := 1) (oi := ?o70) (v := ?v70) ?h70 (by kernel_rfl) ?q70 (Or.inl ⟨?w70, ?y70⟩) (by assumption) ?r70; (case h70 => ((simp only [g1, g2, g3]); rfl)); (case q70 => exact fun _ _ _ h => h); (case w70 => rfl); (case y70 => (intro w' hSw; (try dsimp only at hSw); go_simp; (try with_reducible rfl))); (try simp only [Act.put, s1, s2, s3]))
  (refine takeH (i := 2) (oi := ?o71) (v := ?v71) ?h71 (by kernel_rfl) ?q71 (Or.inl ⟨?w71, ?y71⟩) (by assumption) ?r71; (case h71 => ((simp only [g1, g2, g3]); rfl)); (case q71 => exact fun _ _ _ h => h); (case w71 => rfl); (case y71 => (intro w' hSw; (try dsimp only at hSw); go_simp; (try with_reducible rfl))); (try simp only [Act.put, s1, s2, s3]))
  (refine takeH (i := 3) (oi := ?o72) (v := ?v72) ?h72 (by kernel_rfl) ?q72 (Or.inl ⟨?w72, ?y72⟩) (by assumption) ?r72; (case h72 => ((simp only [g1, g2, g3]); rfl)); (case q72 => exact fun _ _ _ h => h); (case w72 => rfl); (case y72 => (intro w' hSw; (try dsimp only at hSw); go_simp; (try with_reducible rfl))); (try simp only [Act.put, s1, s2, s3]))
  (refine takeH (i := 4) (oi := ?o73) (v := ?v73) ?h73 (by kernel_rfl) ?q73 (Or.inl ⟨?w73, ?y73⟩) (by assumption) ?r73; (case h73 => ((simp only [g1, g2, g3]); rfl)); (case q73 => exact fun _ _ _ h => h); (case w73 => rfl); (case y73 => (intro w' hSw; (try dsimp only at hSw); go_simp; (try with_reducible rfl))); (try simp only [Act.put, s1, s2, s3]))
  (refine takeH (i := 5) (oi := ?o74) (v := ?v74) ?h74 (by kernel_rfl) ?q74 (Or.inl ⟨?w74, ?y74⟩) (by assumption) ?r74; (case h74 => ((simp only [g1, g2, g3]); rfl)); (case q74 => exact fun _ _ _ h => h); (case w74 => rfl); (case y74 => (intro w' hSw; (try dsimp only at hSw); go_simp; (try with_reducible rfl))); (try simp only [Act.put, s1, s2, s3]))
  (refine takeH (i := 6) (oi := ?o75) (v := ?v75) ?h75 (by kernel_rfl) ?q75 (Or.inl ⟨?w75, ?y75⟩) (by assumption) ?r75; (case h75 => ((simp only [g1, g2, g3]); rfl)); (case q75 => exact fun _ _ _ h => h); (case w75 => rfl); (case y75 => (intro w' hSw; (try dsimp only at hSw); go_simp; (try with_reducible rfl))); (try simp only [Act.put, s1, s2, s3]))
  (refine takeH (i := 7) (oi := ?o76) (v := ?v76) ?h76 (by kernel_rfl) ?q76 (Or.inl ⟨?w76, ?y76⟩) (by assumption) ?r76; (case h76 => ((simp only [g1, g2, g3]); rfl)); (case q76 => exact fun _ _ _ h => h); (case w76 => rfl); (case y76 => (intro w' hSw; (try dsimp only at hSw); go_simp; (try with_reducible rfl))); (try simp only [Act.put, s1, s2, s3]))
  (refine takeH (i := 8) (oi := ?o77) (v := ?v77) ?h77 (by kernel_rfl) ?q77 (Or.inl ⟨?w77, ?y77⟩) (by assumption) ?r77; (case h77 => ((simp only [g1, g2, g3]); rfl)); (case q77 => exact fun _ _ _ h => h); (case w77 => rfl); (case y77 => (intro w' hSw; (try dsimp only at hSw); go_simp; (try with_reducible rfl))); (try simp only [Act.put, s1, s2, s3]))
  (refine takeH (i := 9) (oi := ?o78) (v := ?v78) ?h78 (by kernel_rfl) ?q78 (Or.inl ⟨?w78, ?y78⟩) (by assumption) ?r78; (case h78 => ((simp only [g1, g2, g3]); rfl)); (case q78 => exact fun _ _ _ h => h); (case w78 => rfl); (case y78 => (intro w' hSw; (try dsimp only at hSw); go_simp; (try with_reducible rfl))); (try simp only [Act.put, s1, s2, s3]))
  (refine takeH (i := 10) (oi := ?o79) (v := ?v79) ?h79 (by kernel_rfl) ?q79 (Or.inl ⟨?w79, ?y79⟩) (by assumption) ?r79; (case h79 => ((simp only [g1, g2, g3]); rfl)); (case q79 => exact fun _ _ _ h => h); (case w79 => rfl); (case y79 => (intro w' hSw; (try dsimp only at hSw); go_simp; (try with_reducible rfl))); (try simp only [Act.put, s1, s2, s3]))
  (refine takeH (i := 11) (oi := ?o80) (v := ?v80) ?h80 (by kernel_rfl) ?q80 (Or.inl ⟨?w80, ?y80⟩) (by assumption) ?r80; (case h80 => ((simp only [g1, g2, g3]); rfl)); (case q80 => exact fun _ _ _ h => h); (case w80 => rfl); (case y80 => (intro w' hSw; (try dsimp only at hSw); go_simp; (try with_reducible rfl))); (try simp only [Act.put, s1, s2, s3]))
  (refine takeH (i := 12) (oi := ?o81) (v := ?v81) ?h81 (by kernel_rfl) ?q81 (Or.inl ⟨?w81, ?y81⟩) (by assumption) ?r81; (case h81 => ((simp only [g1, g2, g3]); rfl)); (case q81 => exact fun _ _ _ h => h); (case w81 => rfl); (case y81 => (intro w' hSw; (try dsimp only at hSw); go_simp; (try with_reducible rfl))); (try simp only [Act.put, s1, s2, s3]))
  (refine takeH (i := 13) (oi := ?o82) (v := ?v82) ?h82 (by kernel_rfl) ?q82 (Or.inl ⟨?w82, ?y82⟩) (by assumption) ?r82; (case h82 => ((simp only [g1, g2, g3]); rfl)); (case q82 => exact fun _ _ _ h => h); (case w82 => rfl); (case y82 => (intro w' hSw; (try dsimp only at hSw); go_simp; (try with_reducible rfl))); (try simp only [Act.put, s1, s2, s3]))
  (refine takeH (i := 14) (oi := ?o83) (v := ?v83) ?h83 (by kernel_rfl) ?q83 (Or.inl ⟨?w83, ?y83⟩) (by assumption) ?r83; (case h83 => ((simp only [g1, g2, g3]); rfl)); (case q83 => exact fun _ _ _ h => h); (case w83 => rfl); (case y83 => (intro w' hSw; (try dsimp only at hSw); go_simp; (try with_reducible rfl))); (try simp only [Act.put, s1, s2, s3]))
  refine wpAnyH_done (by kernel_rfl) ?_ _
  go_wp2_with fail
  refine (refLine_any _ _ [108, 105, 110, 101] [n, l, y, h] _ (sl_blk (t := 2) (by (repeat (first | with_reducible assumption | ((with_reducible refine Blk.newL ?_ ?_); (focus (first | (simp; done) | omega)); rfl) | with_reducible refine Blk.drew ?_ | with_reducible refine Blk.drewN ?_ _ | with_reducible refine Blk.alloc ?_ _ | ((with_reducible refine Blk.other ?_ ?_ _); rotate_left; (focus (first | with_reducible assumption | omega | (simp; done) | (simp; omega))))))) (by simp)) HI.out (by simp) (by simp)).mono ?_
  rintro e w3 ⟨rfl, kk⟩
  go_wp2_with fail
  (try go_ret)
  exact ⟨rfl, (by (repeat (first | with_reducible assumption | with_reducible exact Kp.refl _ | with_reducible refine Kp.drew ?_ | with_reducible refine Kp.drewN ?_ _ | with_reducible refine Kp.alloc ?_ _ | ((with_reducible refine Kp.setCell ?_ ?_ _); rotate_left; (focus (first | omega | (simp; done) | (simp; omega)))) | with_reducible refine Kp.trans ?_ (by assumption))))⟩
set_option maxRecDepth 100000 in
set_option maxHeartbeats 2000000 in
theorem refPut_thing (p : Put) (hp : p.ok) (w : World) (n1 : p.k ≠ 1) (n2 : p.k ≠ 2) (n3 : p.k ≠ 3) (n4 : p.k ≠ 4) :
    Calls Tryd.prog 15 #[.agg #[.int .i64 p.k, .int .i64 p.n, .int .i64 p.l, .int .i64 p.y, .int .i64 p.h]] w fun e w' => e = .returned (sv (lineL [116, 104, 105, 110, 103] [p.k, p.n, p.l, p.y, p.h])) ∧ Kp w w' := by
  obtain ⟨k, n, l, y, h⟩ := p
  simp only at n1 n2 n3 n4 ⊢
  have HP := Lib.hid hp
  have HI : Hid (∀ x, x ∈ [k, n, l, y, h] → I64 x) := Lib.hid (by
    obtain ⟨p0, p1, p2, p3, p4⟩ := HP.out
    simp only at p0 p1 p2 p3 p4
    intro x hx
    simp only [List.mem_cons, List.not_mem_nil, or_false] at hx
    rcases hx with rfl | rfl | rfl | rfl | rfl <;> assumption)
  clear hp
  go_enter Tryd.func15, Tryd.ntmps15
  go_wp2_with fail
  
  refine named_world (F := fun w1 => Blk w1 w.heap.size [.int .i64 k, .int .i64 n, .int .i64 l, .int .i64 y, .int .i64 h] 30 ∧ Kp w w1) ⟨(by (repeat (first | with_reducible assumption | ((with_reducible refine Blk.newL ?_ ?_); (focus (first | (simp; done) | omega)); rfl) | with_reducible refine Blk.drew ?_ | with_reducible refine Blk.drewN ?_ _ | with_reducible refine Blk.alloc ?_ _ | ((with_reducible refine Blk.other ?_ ?_ _); rotate_left; (focus (first | with_reducible assumption | omega | (simp; done) | (simp; omega))))))), (by (repeat (first | with_reducible assumption | with_reducible exact Kp.refl _ | with_reducible refine Kp.drew ?_ | with_reducible refine Kp.drewN ?_ _ | with_reducible refine Kp.alloc ?_ _ | ((with_reducible refine Kp.setCell ?_ ?_ _); rotate_left; (focus (first | omega | (simp; done) | (simp; omega)))) | with_reducible refine Kp.trans ?_ (by assumption))))⟩ ?_; rintro w1 ⟨bp, kw1⟩; have bp_0 := bp.cell 0 rfl; have bp_1 := bp.cell 1 rfl; have bp_2 := bp.cell 2 rfl; have bp_3 := bp.cell 3 rfl; have bp_4 := bp.cell 4 rfl; have bp_ne := bp.lt; have bp_n1 := Nat.lt_add_one_of_lt bp_ne; have bp_n2 := Nat.lt_add_one_of_lt bp_n1
  (refine wp_region_held_drew (S := (fun w' => (∀ b o, b < w1.heap.size → w'.cell? ⟨b, o, none⟩ = w1.cell? ⟨b, o, none⟩) ∧ Kp w1 w')) (by kernel_rfl) ?_ (fun hHd => ?_); (focus ((try dsimp only); (first | with_reducible assumption | with_reducible exact held_start _ | with_reducible exact held_next (by assumption) (by assumption) | with_reducible exact held_alloc (by assumption) _ | with_reducible exact held_drew (by assumption) | ((with_reducible refine held_kp ?_); (repeat (first | with_reducible assumption | with_reducible exact Kp.refl _ | with_reducible refine Kp.drew ?_ | with_reducible refine Kp.drewN ?_ _ | with_reducible refine Kp.alloc ?_ _ | ((with_reducible refine Kp.setCell ?_ ?_ _); rotate_left; (focus (first | omega | (simp; done) | (simp; omega)))) | with_reducible refine Kp.trans ?_ (by assumption))))))))
  (refine takeH (i := 0) (oi := ?o84) (v := ?v84) ?h84 (by kernel_rfl) ?q84 (Or.inl ⟨?w84, ?y84⟩) (by assumption) ?r84; (case h84 => ((simp only [g1, g3]); rfl)); (case q84 => exact fun _ _ _ h => h); (case w84 => rfl); (case y84 => (intro w' hSw; (try dsimp only at hSw); go_simp; (try with_reducible rfl))); (try simp only [Act.put, s1, s2, s3]))
  (refine takeH (i := 1) (oi := ?o85) (v := ?v85) ?h85 (by kernel_rfl) ?q85 (Or.inl ⟨?w85, ?y85⟩) (by assumption) ?r85; (case h85 => ((simp only [g1, g2, g3]); rfl)); (case q85 => exact fun _ _ _ h => h); (case w85 => rfl); (case y85 => (intro w' hSw; (try dsimp only at hSw); go_simp; (try with_reducible rfl))); (try simp only [Act.put, s1, s2, s3]))
  (refine takeH (i := 2) (oi := ?o86) (v := ?v86) ?h86 (by kernel_rfl) ?q86 (Or.inl ⟨?w86, ?y86⟩) (by assumption) ?r86; (case h86 => ((simp only [g1, g2, g3]); rfl)); (case q86 => exact fun _ _ _ h => h); (case w86 => rfl); (case y86 => (intro w' hSw; (try dsimp only at hSw); go_simp; (try with_reducible rfl))); (try simp only [Act.put, s1, s2, s3]))
  (refine takeH (i := 3) (oi := ?o87) (v := ?v87) ?h87 (by kernel_rfl) ?q87 (Or.inl ⟨?w87, ?y87⟩) (by assumption) ?r87; (case h87 => ((simp only [g1, g2, g3]); rfl)); (case q87 => exact fun _ _ _ h => h); (case w87 => rfl); (case y87 => (intro w' hSw; (try dsimp only at hSw); go_simp; (try with_reducible rfl))); (try simp only [Act.put, s1, s2, s3]))
  (refine takeH (i := 4) (oi := ?o88) (v := ?v88) ?h88 (by kernel_rfl) ?q88 (Or.inl ⟨?w88, ?y88⟩) (by assumption) ?r88; (case h88 => ((simp only [g1, g2, g3]); rfl)); (case q88 => exact fun _ _ _ h => h); (case w88 => rfl); (case y88 => (intro w' hSw; (try dsimp only at hSw); go_simp; (try with_reducible rfl))); (try simp only [Act.put, s1, s2, s3]))
  (refine takeH (i := 5) (oi := ?o89) (v := ?v89) ?h89 (by kernel_rfl) ?q89 (Or.inl ⟨?w89, ?y89⟩) (by assumption) ?r89; (case h89 => ((simp only [g1, g2, g3]); rfl)); (case q89 => exact fun _ _ _ h => h); (case w89 => rfl); (case y89 => (intro w' hSw; (try dsimp only at hSw); go_simp; (try with_reducible rfl))); (try simp only [Act.put, s1, s2, s3]))
  (refine takeH (i := 6) (oi := ?o90) (v := ?v90) ?h90 (by kernel_rfl) ?q90 (Or.inl ⟨?w90, ?y90⟩) (by assumption) ?r90; (case h90 => ((simp only [g1, g2, g3]); rfl)); (case q90 => exact fun _ _ _ h => h); (case w90 => rfl); (case y90 => (intro w' hSw; (try dsimp only at hSw); go_simp; (try with_reducible rfl))); (try simp only [Act.put, s1, s2, s3]))
  (refine takeH (i := 7) (oi := ?o91) (v := ?v91) ?h91 (by kernel_rfl) ?q91 (Or.inl ⟨?w91, ?y91⟩) (by assumption) ?r91; (case h91 => ((simp only [g1, g2, g3]); rfl)); (case q91 => exact fun _ _ _ h => h); (case w91 => rfl); (case y91 => (intro w' hSw; (try dsimp only at hSw); go_simp; (try with_reducible rfl))); (try simp only [Act.put, s1, s2, s3]))
  (refine takeH (i := 8) (oi := ?o92) (v := ?v92) ?h92 (by kernel_rfl) ?q92 (Or.inl ⟨?w92, ?y92⟩) (by assumption) ?r92; (case h92 => ((simp only [g1, g2, g3]); rfl)); (case q92 => exact fun _ _ _ h => h); (case w92 => rfl); (case y92 => (intro w' hSw; (try dsimp only at hSw); go_simp; (try with_reducible rfl))); (try simp only [Act.put, s1, s2, s3]))
  (refine takeH (i := 9) (oi := ?o93) (v := ?v93) ?h93 (by kernel_rfl) ?q93 (Or.inl ⟨?w93, ?y93⟩) (by assumption) ?r93; (case h93 => ((simp only [g1, g2, g3]); rfl)); (case q93 => exact fun _ _ _ h => h); (case w93 => rfl); (case y93 => (intro w' hSw; (try dsimp only at hSw); go_simp; (try with_reducible rfl))); (try simp only [Act.put, s1, s2, s3]))
  (refine takeH (i := 10) (oi := ?o94) (v := ?v94) ?h94 (by kernel_rfl) ?q94 (Or.inl ⟨?w94, ?y94⟩) (by assumption) ?r94; (case h94 => ((simp only [g1, g2, g3]); rfl)); (case q94 => exact fun _ _ _ h => h); (case w94 => rfl); (case y94 => (intro w' hSw; (try dsimp only at hSw); go_simp; (try with_reducible rfl))); (try simp only [Act.put, s1, s2, s3]))
  (refine takeH (i := 11) (oi := ?o95) (v := ?v95) ?h95 (by kernel_rfl) ?q95 (Or.inl ⟨?w95, ?y95⟩) (by assumption) ?r95; (case h95 => ((simp only [g1, g2, g3]); rfl)); (case q95 => exact fun _ _ _ h => h); (case w95 => rfl); (case y95 => (intro w' hSw; (try dsimp only at hSw); go_simp; (try with_reducible rfl))); (try simp only [Act.put, s1, s2, s3]))
  (refine takeH (i := 12) (oi := ?o96) (v := ?v96) ?h96 (by kernel_rfl) ?q96 (Or.inl ⟨?w96, ?y96⟩) (by assumption) ?r96; (case h96 => ((simp only [g1, g2, g3]); rfl)); (case q96 => exact fun _ _ _ h => h); (case w96 => rfl); (case y96 => (intro w' hSw; (try dsimp only at hSw); go_simp; (try with_reducible rfl))); (try simp only [Act.put, s1, s2, s3]))
  (refine takeH (i := 13) (oi := ?o97) (v := ?v97) ?h97 (by kernel_rfl) ?q97 (Or.inl ⟨?w97, ?y97⟩) (by assumption) ?r97; (case h97 => ((simp only [g1, g2, g3]); rfl)); (case q97 => exact fun _ _ _ h => h); (case w97 => rfl); (case y97 => (intro w' hSw; (try dsimp only at hSw); go_simp; (try with_reducible rfl))); (try simp only [Act.put, s1, s2, s3]))
  (refine takeH (i := 14) (oi := ?o98) (v := ?v98) ?h98 (by kernel_rfl) ?q98 (Or.inl ⟨?w98, ?y98⟩) (by assumption) ?r98; (case h98 => ((simp only [g1, g2, g3]); rfl)); (case q98 => exact fun _ _ _ h => h); (case w98 => rfl); (case y98 => (intro w' hSw; (try dsimp only at hSw); go_simp; (try with_reducible rfl))); (try simp only [Act.put, s1, s2, s3]))
  refine wpAnyH_done (by kernel_rfl) ?_ _
  go_wp2_with fail
  refine (refLine_any _ _ [116, 104, 105, 110, 103] [k, n, l, y, h] _ (sl_blk (t := 2) (by (repeat (first | with_reducible assumption | ((with_reducible refine Blk.newL ?_ ?_); (focus (first | (simp; done) | omega)); rfl) | with_reducible refine Blk.drew ?_ | with_reducible refine Blk.drewN ?_ _ | with_reducible refine Blk.alloc ?_ _ | ((with_reducible refine Blk.other ?_ ?_ _); rotate_left; (focus (first | with_reducible assumption | omega | (simp; done) | (simp; omega))))))) (by simp)) HI.out (by simp) (by simp)).mono ?_
  rintro e w3 ⟨rfl, kk⟩
  go_wp2_with fail
  (try go_ret)
  exact ⟨rfl, (by (repeat (first | with_reducible assumption | with_reducible exact Kp.refl _ | with_reducible refine Kp.drew ?_ | with_reducible refine Kp.drewN ?_ _ | with_reducible refine Kp.alloc ?_ _ | ((with_reducible refine Kp.setCell ?_ ?_ _); rotate_left; (focus (first | omega | (simp; done) | (simp; omega)))) | with_reducible refine Kp.trans ?_ (by assumption))))⟩
theorem refPut_any (p : Put) (hp : p.ok) (w : World) :
    Calls Tryd.prog 15 #[.agg #[.int .i64 p.k, .int .i64 p.n, .int .i64 p.l, .int .i64 p.y, .int .i64 p.h]] w fun e w' => e = .returned (sv (putL p)) ∧ Kp w w' := by
  unfold putL
  by_cases h1 : p.k = 1
  · rw [if_pos h1]; exact refPut_box p hp w h1
  · rw [if_neg h1]
    by_cases h2 : p.k = 2
    · rw [if_pos h2]; exact refPut_float p hp w h2
    · rw [if_neg h2]
      by_cases h3 : p.k = 3
      · rw [if_pos h3]; exact refPut_rule p hp w h3
      · rw [if_neg h3]
        by_cases h4 : p.k = 4
        · rw [if_pos h4]; exact refPut_line p hp w h4
        · rw [if_neg h4]; exact refPut_thing p hp w h1 h2 h3 h4
end Go.Proofs.YtfiejiokconobaaDoor
