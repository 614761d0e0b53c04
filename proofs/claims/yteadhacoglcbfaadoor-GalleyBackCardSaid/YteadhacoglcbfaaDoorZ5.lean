/- Part 5 of the proof: A galley's lines: the thing of a line. -/
import Derived.Test.YteadhacoglcbfaaDoorZ4
namespace Go.Proofs.YteadhacoglcbfaaDoor

open Go.ChangeShapes Go.WideShapes Go.ChangeAt Go.RowKit Go.Shelf

set_option maxRecDepth 100000 in
set_option maxHeartbeats 4000000 in
theorem putBox_yes (a : Option Addr) (c : Nat) (n y x : Int) (w : World) (hl : SlOk w 1 enc1 a 3 c [n, y, x]) :
    Calls Tryd.prog 26 #[.agg #[sv wBox, .slice a 3 c]] w fun e w' => e = .returned (.agg (Put.cells ⟨1, n, 0, y, x⟩).toArray) ∧ Kp w w' := by
  have hcl := hl.2.1
  have hcm := hl.2.2.1
  unfold maxLen at hcm
  rcases hl.2.2.2 with e | ⟨ga, oa, rfl, hga, r1⟩
  · cases e
  have d0 := r1 0 _ rfl 0 _ rfl
  have d1 := r1 1 _ rfl 0 _ rfl
  have d2 := r1 2 _ rfl 0 _ rfl
  simp only [Nat.add_zero, Nat.mul_one] at d0 d1 d2
  clear hl r1
  go_enter Tryd.func26, Tryd.ntmps26
  go_wp2_with fail
  refine (many_yes wBox (some ⟨ga, oa, none⟩) 3 c _).mono ?_
  rintro e w1 ⟨rfl, k1⟩
  have kw1 : Kp w w1 := ((by (repeat (first | with_reducible assumption | with_reducible exact Kp.refl _ | with_reducible refine Kp.drew ?_ | with_reducible refine Kp.drewN ?_ _ | with_reducible refine Kp.alloc ?_ _ | ((with_reducible refine Kp.setCell ?_ ?_ _); rotate_left; (focus (first | omega | (simp; done) | (simp; omega)))) | with_reducible refine Kp.trans ?_ (by assumption)))) : Kp w _).trans k1
  have bl : Blk w1 w.heap.size [sv wBox, .slice (some ⟨ga, oa, none⟩) 3 c] 58 := Blk.kp (by (repeat (first | with_reducible assumption | ((with_reducible refine Blk.newL ?_ ?_); (focus (first | (simp; done) | omega)); rfl) | with_reducible refine Blk.drew ?_ | with_reducible refine Blk.drewN ?_ _ | with_reducible refine Blk.alloc ?_ _ | ((with_reducible refine Blk.other ?_ ?_ _); rotate_left; (focus (first | with_reducible assumption | omega | (simp; done) | (simp; omega))))))) k1
  have bp : Blk w1 (w.heap.size + 1) [.int .i64 0, .int .i64 0, .int .i64 0, .int .i64 0, .int .i64 0] 33 := Blk.kp (by (repeat (first | with_reducible assumption | ((with_reducible refine Blk.newL ?_ ?_); (focus (first | (simp; done) | omega)); rfl) | with_reducible refine Blk.drew ?_ | with_reducible refine Blk.drewN ?_ _ | with_reducible refine Blk.alloc ?_ _ | ((with_reducible refine Blk.other ?_ ?_ _); rotate_left; (focus (first | with_reducible assumption | omega | (simp; done) | (simp; omega))))))) k1
  have bl0 := bl.cell 0 rfl
  have f0 := bp.free 0
  have z0 := bp.cell 0 rfl
  have f1 := bp.free 1
  have z1 := bp.cell 1 rfl
  have f2 := bp.free 2
  have z2 := bp.cell 2 rfl
  have f3 := bp.free 3
  have z3 := bp.cell 3 rfl
  have f4 := bp.free 4
  have z4 := bp.cell 4 rfl
  clear k1
  go_wp2_with fail
  (refine wp_region_held_drew (S := (fun w' => (∀ b o, b < w.heap.size → w'.cell? ⟨b, o, none⟩ = w.cell? ⟨b, o, none⟩) ∧ Kp w w')) (by kernel_rfl) ?_ (fun hHd => ?_); (focus ((try dsimp only); (first | with_reducible assumption | with_reducible exact held_start _ | with_reducible exact held_next (by assumption) (by assumption) | with_reducible exact held_alloc (by assumption) _ | with_reducible exact held_drew (by assumption) | ((with_reducible refine held_kp ?_); (repeat (first | with_reducible assumption | with_reducible exact Kp.refl _ | with_reducible refine Kp.drew ?_ | with_reducible refine Kp.drewN ?_ _ | with_reducible refine Kp.alloc ?_ _ | ((with_reducible refine Kp.setCell ?_ ?_ _); rotate_left; (focus (first | omega | (simp; done) | (simp; omega)))) | with_reducible refine Kp.trans ?_ (by assumption))))))))
  (refine takeH (i := 0) (oi := ?o66) (v := ?v66) ?h66 (by kernel_rfl) ?q66 (Or.inl ⟨?w66, ?y66⟩) (by assumption) ?r66; (case h66 => ((simp only [g1, g3]); rfl)); (case q66 => exact fun _ _ _ h => h); (case w66 => rfl); (case y66 => (intro w' hSw; (try dsimp only at hSw); go_simp; (try with_reducible rfl))); (try simp only [Act.put, s1, s2, s3]))
  (refine takeH (i := 1) (oi := ?o67) (v := ?v67) ?h67 (by kernel_rfl) ?q67 (Or.inl ⟨?w67, ?y67⟩) (by assumption) ?r67; (case h67 => ((simp only [g1, g2, g3]); rfl)); (case q67 => exact fun _ _ _ h => h); (case w67 => rfl); (case y67 => (intro w' hSw; (try dsimp only at hSw); go_simp; (try with_reducible rfl))); (try simp only [Act.put, s1, s2, s3]))
  (refine takeH (i := 2) (oi := ?o68) (v := ?v68) ?h68 (by kernel_rfl) ?q68 (Or.inl ⟨?w68, ?y68⟩) (by assumption) ?r68; (case h68 => ((simp only [g1, g2, g3]); rfl)); (case q68 => exact fun _ _ _ h => h); (case w68 => rfl); (case y68 => (intro w' hSw; (try dsimp only at hSw); go_simp; (try with_reducible rfl))); (try simp only [Act.put, s1, s2, s3]))
  (refine takeH (i := 3) (oi := ?o69) (v := ?v69) ?h69 (by kernel_rfl) ?q69 (Or.inl ⟨?w69, ?y69⟩) (by assumption) ?r69; (case h69 => ((simp only [g1, g2, g3]); rfl)); (case q69 => exact fun _ _ _ h => h); (case w69 => rfl); (case y69 => (intro w' hSw; (try dsimp only at hSw); go_simp; (try with_reducible rfl))); (try simp only [Act.put, s1, s2, s3]))
  (refine takeH (i := 4) (oi := ?o70) (v := ?v70) ?h70 (by kernel_rfl) ?q70 (Or.inl ⟨?w70, ?y70⟩) (by assumption) ?r70; (case h70 => ((simp only [g1, g2, g3]); rfl)); (case q70 => exact fun _ _ _ h => h); (case w70 => rfl); (case y70 => (intro w' hSw; (try dsimp only at hSw); go_simp; (try with_reducible rfl))); (try simp only [Act.put, s1, s2, s3]))
  (refine takeH (i := 5) (oi := ?o71) (v := ?v71) ?h71 (by kernel_rfl) ?q71 (Or.inl ⟨?w71, ?y71⟩) (by assumption) ?r71; (case h71 => ((simp only [g1, g2, g3]); rfl)); (case q71 => exact fun _ _ _ h => h); (case w71 => rfl); (case y71 => (intro w' hSw; (try dsimp only at hSw); go_simp; (try with_reducible rfl))); (try simp only [Act.put, s1, s2, s3]))
  (refine takeH (i := 6) (oi := ?o72) (v := ?v72) ?h72 (by kernel_rfl) ?q72 (Or.inl ⟨?w72, ?y72⟩) (by assumption) ?r72; (case h72 => ((simp only [g1, g2, g3]); rfl)); (case q72 => exact fun _ _ _ h => h); (case w72 => rfl); (case y72 => (intro w' hSw; (try dsimp only at hSw); go_simp; (try with_reducible rfl))); (try simp only [Act.put, s1, s2, s3]))
  (refine takeH (i := 7) (oi := ?o73) (v := ?v73) ?h73 (by kernel_rfl) ?q73 (Or.inl ⟨?w73, ?y73⟩) (by assumption) ?r73; (case h73 => ((simp only [g1, g2, g3]); rfl)); (case q73 => exact fun _ _ _ h => h); (case w73 => rfl); (case y73 => (intro w' hSw; (try dsimp only at hSw); go_simp; (try with_reducible rfl))); (try simp only [Act.put, s1, s2, s3]))
  (refine takeH (i := 8) (oi := ?o74) (v := ?v74) ?h74 (by kernel_rfl) ?q74 (Or.inl ⟨?w74, ?y74⟩) (by assumption) ?r74; (case h74 => ((simp only [g1, g2, g3]); rfl)); (case q74 => exact fun _ _ _ h => h); (case w74 => rfl); (case y74 => (intro w' hSw; (try dsimp only at hSw); go_simp; (try with_reducible rfl))); (try simp only [Act.put, s1, s2, s3]))
  (refine takeH (i := 9) (oi := ?o75) (v := ?v75) ?h75 (by kernel_rfl) ?q75 (Or.inl ⟨?w75, ?y75⟩) (by assumption) ?r75; (case h75 => ((simp only [g1, g2, g3]); rfl)); (case q75 => exact fun _ _ _ h => h); (case w75 => rfl); (case y75 => (intro w' hSw; (try dsimp only at hSw); go_simp; (try with_reducible rfl))); (try simp only [Act.put, s1, s2, s3]))
  (refine wpAnyH_ready (rs := [10]) (by kernel_rfl) (by simp) ?_; refine AllReadyH.cons (o := ?o76) ?h76 (fun K hK => ?s76) AllReadyH.nil; (case h76 => (first | ((simp only [g1, g2, g3]); rfl) | rfl)); go_simp; (try dsimp only); refine hK.out _ _ ?_ (fun hHd => ?_); (focus ((try dsimp only); (first | with_reducible assumption | with_reducible exact held_start _ | with_reducible exact held_next (by assumption) (by assumption) | with_reducible exact held_alloc (by assumption) _ | with_reducible exact held_drew (by assumption) | ((with_reducible refine held_kp ?_); (repeat (first | with_reducible assumption | with_reducible exact Kp.refl _ | with_reducible refine Kp.drew ?_ | with_reducible refine Kp.drewN ?_ _ | with_reducible refine Kp.alloc ?_ _ | ((with_reducible refine Kp.setCell ?_ ?_ _); rotate_left; (focus (first | omega | (simp; done) | (simp; omega)))) | with_reducible refine Kp.trans ?_ (by assumption))))))); clear hK K; (try simp only [Act.put, s1, s2, s3]))
  (refine wpAnyH_ready (rs := [11]) (by kernel_rfl) (by simp) ?_; refine AllReadyH.cons (o := ?o77) ?h77 (fun K hK => ?s77) AllReadyH.nil; (case h77 => (first | ((simp only [g1, g2, g3]); rfl) | rfl)); go_simp; (try dsimp only); refine hK.out _ _ ?_ (fun hHd => ?_); (focus ((try dsimp only); (first | with_reducible assumption | with_reducible exact held_start _ | with_reducible exact held_next (by assumption) (by assumption) | with_reducible exact held_alloc (by assumption) _ | with_reducible exact held_drew (by assumption) | ((with_reducible refine held_kp ?_); (repeat (first | with_reducible assumption | with_reducible exact Kp.refl _ | with_reducible refine Kp.drew ?_ | with_reducible refine Kp.drewN ?_ _ | with_reducible refine Kp.alloc ?_ _ | ((with_reducible refine Kp.setCell ?_ ?_ _); rotate_left; (focus (first | omega | (simp; done) | (simp; omega)))) | with_reducible refine Kp.trans ?_ (by assumption))))))); clear hK K; (try simp only [Act.put, s1, s2, s3]))
  refine wpAnyH_done (by kernel_rfl) ?_ _
  clear hHd
  have bl2 := (bl.alloc (.cells #[.int .i64 1, .int .i64 n, .int .i64 0, .int .i64 y, .int .i64 x] 33)).cell 0 rfl
  clear bl0
  have bp2 : Blk _ (w.heap.size + 1) _ _ := bp.alloc (.cells #[.int .i64 1, .int .i64 n, .int .i64 0, .int .i64 y, .int .i64 x] 33)
  clear f0 z0 f1 z1 f2 z2 f3 z3 f4 z4
  have f0 := bp2.free 0
  have z0 := bp2.cell 0 rfl
  have f1 := bp2.free 1
  have z1 := bp2.cell 1 rfl
  have f2 := bp2.free 2
  have z2 := bp2.cell 2 rfl
  have f3 := bp2.free 3
  have z3 := bp2.cell 3 rfl
  have f4 := bp2.free 4
  have z4 := bp2.cell 4 rfl
  go_wp2_with fail
  have zz := (((((bp2.set 0 (.int .i64 1)).set 1 (.int .i64 n)).set 2 (.int .i64 0)).set 3 (.int .i64 y)).set 4 (.int .i64 x)).drew
  have q0 := zz.cell 0 rfl
  have q1 := zz.cell 1 rfl
  have q2 := zz.cell 2 rfl
  have q3 := zz.cell 3 rfl
  have q4 := zz.cell 4 rfl
  clear z0 z1 z2 z3 z4
  refine bodyPost_ret (v := .agg #[.int .i64 1, .int .i64 n, .int .i64 0, .int .i64 y, .int .i64 x]) (by simp [results, Tryd.results26, go_sem, q0, q1, q2, q3, q4]) rfl ?_
  exact ⟨rfl, (by (repeat (first | with_reducible assumption | with_reducible exact Kp.refl _ | with_reducible refine Kp.drew ?_ | with_reducible refine Kp.drewN ?_ _ | with_reducible refine Kp.alloc ?_ _ | ((with_reducible refine Kp.setCell ?_ ?_ _); rotate_left; (focus (first | omega | (simp; done) | (simp; omega)))) | with_reducible refine Kp.trans ?_ (by assumption))))⟩
set_option maxRecDepth 100000 in
set_option maxHeartbeats 4000000 in
theorem putFloat_yes (a : Option Addr) (c : Nat) (n y x : Int) (w : World) (hl : SlOk w 1 enc1 a 3 c [n, y, x]) :
    Calls Tryd.prog 26 #[.agg #[sv wFloat, .slice a 3 c]] w fun e w' => e = .returned (.agg (Put.cells ⟨2, n, 0, y, x⟩).toArray) ∧ Kp w w' := by
  have hcl := hl.2.1
  have hcm := hl.2.2.1
  unfold maxLen at hcm
  rcases hl.2.2.2 with e | ⟨ga, oa, rfl, hga, r1⟩
  · cases e
  have d0 := r1 0 _ rfl 0 _ rfl
  have d1 := r1 1 _ rfl 0 _ rfl
  have d2 := r1 2 _ rfl 0 _ rfl
  simp only [Nat.add_zero, Nat.mul_one] at d0 d1 d2
  clear hl r1
  go_enter Tryd.func26, Tryd.ntmps26
  go_wp2_with fail
  refine (many_yes wFloat (some ⟨ga, oa, none⟩) 3 c _).mono ?_
  rintro e w1 ⟨rfl, k1⟩
  have kw1 : Kp w w1 := ((by (repeat (first | with_reducible assumption | with_reducible exact Kp.refl _ | with_reducible refine Kp.drew ?_ | with_reducible refine Kp.drewN ?_ _ | with_reducible refine Kp.alloc ?_ _ | ((with_reducible refine Kp.setCell ?_ ?_ _); rotate_left; (focus (first | omega | (simp; done) | (simp; omega)))) | with_reducible refine Kp.trans ?_ (by assumption)))) : Kp w _).trans k1
  have bl : Blk w1 w.heap.size [sv wFloat, .slice (some ⟨ga, oa, none⟩) 3 c] 58 := Blk.kp (by (repeat (first | with_reducible assumption | ((with_reducible refine Blk.newL ?_ ?_); (focus (first | (simp; done) | omega)); rfl) | with_reducible refine Blk.drew ?_ | with_reducible refine Blk.drewN ?_ _ | with_reducible refine Blk.alloc ?_ _ | ((with_reducible refine Blk.other ?_ ?_ _); rotate_left; (focus (first | with_reducible assumption | omega | (simp; done) | (simp; omega))))))) k1
  have bp : Blk w1 (w.heap.size + 1) [.int .i64 0, .int .i64 0, .int .i64 0, .int .i64 0, .int .i64 0] 33 := Blk.kp (by (repeat (first | with_reducible assumption | ((with_reducible refine Blk.newL ?_ ?_); (focus (first | (simp; done) | omega)); rfl) | with_reducible refine Blk.drew ?_ | with_reducible refine Blk.drewN ?_ _ | with_reducible refine Blk.alloc ?_ _ | ((with_reducible refine Blk.other ?_ ?_ _); rotate_left; (focus (first | with_reducible assumption | omega | (simp; done) | (simp; omega))))))) k1
  have bl0 := bl.cell 0 rfl
  have f0 := bp.free 0
  have z0 := bp.cell 0 rfl
  have f1 := bp.free 1
  have z1 := bp.cell 1 rfl
  have f2 := bp.free 2
  have z2 := bp.cell 2 rfl
  have f3 := bp.free 3
  have z3 := bp.cell 3 rfl
  have f4 := bp.free 4
  have z4 := bp.cell 4 rfl
  clear k1
  go_wp2_with fail
  (refine wp_region_held_drew (S := (fun w' => (∀ b o, b < w.heap.size → w'.cell? ⟨b, o, none⟩ = w.cell? ⟨b, o, none⟩) ∧ Kp w w')) (by kernel_rfl) ?_ (fun hHd => ?_); (focus ((try dsimp only); (first | with_reducible assumption | with_reducible exact held_start _ | with_reducible exact held_next (by assumption) (by assumption) | with_reducible exact held_alloc (by assumption) _ | with_reducible exact held_drew (by assumption) | ((with_reducible refine held_kp ?_); (repeat (first | with_reducible assumption | with_reducible exact Kp.refl _ | with_reducible refine Kp.drew ?_ | with_reducible refine Kp.drewN ?_ _ | with_reducible refine Kp.alloc ?_ _ | ((with_reducible refine Kp.setCell ?_ ?_ _); rotate_left; (focus (first | omega | (simp; done) | (simp; omega)))) | with_reducible refine Kp.trans ?_ (by assumption))))))))
  (refine takeH (i := 0) (oi := ?o78) (v := ?v78) ?h78 (by kernel_rfl) ?q78 (Or.inl ⟨?w78, ?y78⟩) (by assumption) ?r78; (case h78 => ((simp only [g1, g3]); rfl)); (case q78 => exact fun _ _ _ h => h); (case w78 => rfl); (case y78 => (intro w' hSw; (try dsimp only at hSw); go_simp; (try with_reducible rfl))); (try simp only [Act.put, s1, s2, s3]))
  (refine takeH (i := 1) (oi := ?o79) (v := ?v79) ?h79 (by kernel_rfl) ?q79 (Or.inl ⟨?w79, ?y79⟩) (by assumption) ?r79; (case h79 => ((simp only [g1, g2, g3]); rfl)); (case q79 => exact fun _ _ _ h => h); (case w79 => rfl); (case y79 => (intro w' hSw; (try dsimp only at hSw); go_simp; (try with_reducible rfl))); (try simp only [Act.put, s1, s2, s3]))
  (refine takeH (i := 2) (oi := ?o80) (v := ?v80) ?h80 (by kernel_rfl) ?q80 (Or.inl ⟨?w80, ?y80⟩) (by assumption) ?r80; (case h80 => ((simp only [g1, g2, g3]); rfl)); (case q80 => exact fun _ _ _ h => h); (case w80 => rfl); (case y80 => (intro w' hSw; (try dsimp only at hSw); go_simp; (try with_reducible rfl))); (try simp only [Act.put, s1, s2, s3]))
  (refine takeH (i := 3) (oi := ?o81) (v := ?v81) ?h81 (by kernel_rfl) ?q81 (Or.inl ⟨?w81, ?y81⟩) (by assumption) ?r81; (case h81 => ((simp only [g1, g2, g3]); rfl)); (case q81 => exact fun _ _ _ h => h); (case w81 => rfl); (case y81 => (intro w' hSw; (try dsimp only at hSw); go_simp; (try with_reducible rfl))); (try simp only [Act.put, s1, s2, s3]))
  (refine takeH (i := 4) (oi := ?o82) (v := ?v82) ?h82 (by kernel_rfl) ?q82 (Or.inl ⟨?w82, ?y82⟩) (by assumption) ?r82; (case h82 => ((simp only [g1, g2, g3]); rfl)); (case q82 => exact fun _ _ _ h => h); (case w82 => rfl); (case y82 => (intro w' hSw; (try dsimp only at hSw); go_simp; (try with_reducible rfl))); (try simp only [Act.put, s1, s2, s3]))
  (refine takeH (i := 5) (oi := ?o83) (v := ?v83) ?h83 (by kernel_rfl) ?q83 (Or.inl ⟨?w83, ?y83⟩) (by assumption) ?r83; (case h83 => ((simp only [g1, g2, g3]); rfl)); (case q83 => exact fun _ _ _ h => h); (case w83 => rfl); (case y83 => (intro w' hSw; (try dsimp only at hSw); go_simp; (try with_reducible rfl))); (try simp only [Act.put, s1, s2, s3]))
  (refine takeH (i := 6) (oi := ?o84) (v := ?v84) ?h84 (by kernel_rfl) ?q84 (Or.inl ⟨?w84, ?y84⟩) (by assumption) ?r84; (case h84 => ((simp only [g1, g2, g3]); rfl)); (case q84 => exact fun _ _ _ h => h); (case w84 => rfl); (case y84 => (intro w' hSw; (try dsimp only at hSw); go_simp; (try with_reducible rfl))); (try simp only [Act.put, s1, s2, s3]))
  (refine takeH (i := 7) (oi := ?o85) (v := ?v85) ?h85 (by kernel_rfl) ?q85 (Or.inl ⟨?w85, ?y85⟩) (by assumption) ?r85; (case h85 => ((simp only [g1, g2, g3]); rfl)); (case q85 => exact fun _ _ _ h => h); (case w85 => rfl); (case y85 => (intro w' hSw; (try dsimp only at hSw); go_simp; (try with_reducible rfl))); (try simp only [Act.put, s1, s2, s3]))
  (refine takeH (i := 8) (oi := ?o86) (v := ?v86) ?h86 (by kernel_rfl) ?q86 (Or.inl ⟨?w86, ?y86⟩) (by assumption) ?r86; (case h86 => ((simp only [g1, g2, g3]); rfl)); (case q86 => exact fun _ _ _ h => h); (case w86 => rfl); (case y86 => (intro w' hSw; (try dsimp only at hSw); go_simp; (try with_reducible rfl))); (try simp only [Act.put, s1, s2, s3]))
  (refine takeH (i := 9) (oi := ?o87) (v := ?v87) ?h87 (by kernel_rfl) ?q87 (Or.inl ⟨?w87, ?y87⟩) (by assumption) ?r87; (case h87 => ((simp only [g1, g2, g3]); rfl)); (case q87 => exact fun _ _ _ h => h); (case w87 => rfl); (case y87 => (intro w' hSw; (try dsimp only at hSw); go_simp; (try with_reducible rfl))); (try simp only [Act.put, s1, s2, s3]))
  (refine wpAnyH_ready (rs := [10]) (by kernel_rfl) (by simp) ?_; refine AllReadyH.cons (o := ?o88) ?h88 (fun K hK => ?s88) AllReadyH.nil; (case h88 => (first | ((simp only [g1, g2, g3]); rfl) | rfl)); go_simp; (try dsimp only); refine hK.out _ _ ?_ (fun hHd => ?_); (focus ((try dsimp only); (first | with_reducible assumption | with_reducible exact held_start _ | with_reducible exact held_next (by assumption) (by assumption) | with_reducible exact held_alloc (by assumption) _ | with_reducible exact held_drew (by assumption) | ((with_reducible refine held_kp ?_); (repeat (first | with_reducible assumption | with_reducible exact Kp.refl _ | with_reducible refine Kp.drew ?_ | with_reducible refine Kp.drewN ?_ _ | with_reducible refine Kp.alloc ?_ _ | ((with_reducible refine Kp.setCell ?_ ?_ _); rotate_left; (focus (first | omega | (simp; done) | (simp; omega)))) | with_reducible refine Kp.trans ?_ (by assumption))))))); clear hK K; (try simp only [Act.put, s1, s2, s3]))
  (refine wpAnyH_ready (rs := [11]) (by kernel_rfl) (by simp) ?_; refine AllReadyH.cons (o := ?o89) ?h89 (fun K hK => ?s89) AllReadyH.nil; (case h89 => (first | ((simp only [g1, g2, g3]); rfl) | rfl)); go_simp; (try dsimp only); refine hK.out _ _ ?_ (fun hHd => ?_); (focus ((try dsimp only); (first | with_reducible assumption | with_reducible exact held_start _ | with_reducible exact held_next (by assumption) (by assumption) | with_reducible exact held_alloc (by assumption) _ | with_reducible exact held_drew (by assumption) | ((with_reducible refine held_kp ?_); (repeat (first | with_reducible assumption | with_reducible exact Kp.refl _ | with_reducible refine Kp.drew ?_ | with_reducible refine Kp.drewN ?_ _ | with_reducible refine Kp.alloc ?_ _ | ((with_reducible refine Kp.setCell ?_ ?_ _); rotate_left; (focus (first | omega | (simp; done) | (simp; omega)))) | with_reducible refine Kp.trans ?_ (by assumption))))))); clear hK K; (try simp only [Act.put, s1, s2, s3]))
  refine wpAnyH_done (by kernel_rfl) ?_ _
  clear hHd
  have bl2 := (bl.alloc (.cells #[.int .i64 1, .int .i64 n, .int .i64 0, .int .i64 y, .int .i64 x] 33)).cell 0 rfl
  clear bl0
  have bp2 : Blk _ (w.heap.size + 1) _ _ := bp.alloc (.cells #[.int .i64 2, .int .i64 n, .int .i64 0, .int .i64 y, .int .i64 x] 33)
  clear f0 z0 f1 z1 f2 z2 f3 z3 f4 z4
  have f0 := bp2.free 0
  have z0 := bp2.cell 0 rfl
  have f1 := bp2.free 1
  have z1 := bp2.cell 1 rfl
  have f2 := bp2.free 2
  have z2 := bp2.cell 2 rfl
  have f3 := bp2.free 3
  have z3 := bp2.cell 3 rfl
  have f4 := bp2.free 4
  have z4 := bp2.cell 4 rfl
  go_wp2_with fail
  have zz := (((((bp2.set 0 (.int .i64 2)).set 1 (.int .i64 n)).set 2 (.int .i64 0)).set 3 (.int .i64 y)).set 4 (.int .i64 x)).drew
  have q0 := zz.cell 0 rfl
  have q1 := zz.cell 1 rfl
  have q2 := zz.cell 2 rfl
  have q3 := zz.cell 3 rfl
  have q4 := zz.cell 4 rfl
  clear z0 z1 z2 z3 z4
  refine bodyPost_ret (v := .agg #[.int .i64 2, .int .i64 n, .int .i64 0, .int .i64 y, .int .i64 x]) (by simp [results, Tryd.results26, go_sem, q0, q1, q2, q3, q4]) rfl ?_
  exact ⟨rfl, (by (repeat (first | with_reducible assumption | with_reducible exact Kp.refl _ | with_reducible refine Kp.drew ?_ | with_reducible refine Kp.drewN ?_ _ | with_reducible refine Kp.alloc ?_ _ | ((with_reducible refine Kp.setCell ?_ ?_ _); rotate_left; (focus (first | omega | (simp; done) | (simp; omega)))) | with_reducible refine Kp.trans ?_ (by assumption))))⟩
set_option maxRecDepth 100000 in
set_option maxHeartbeats 4000000 in
theorem putRule_yes (a : Option Addr) (c : Nat) (y x : Int) (w : World) (hl : SlOk w 1 enc1 a 2 c [y, x]) :
    Calls Tryd.prog 26 #[.agg #[sv wRule, .slice a 2 c]] w fun e w' => e = .returned (.agg (Put.cells ⟨3, 0, 0, y, x⟩).toArray) ∧ Kp w w' := by
  have hcl := hl.2.1
  have hcm := hl.2.2.1
  unfold maxLen at hcm
  rcases hl.2.2.2 with e | ⟨ga, oa, rfl, hga, r1⟩
  · cases e
  have d0 := r1 0 _ rfl 0 _ rfl
  have d1 := r1 1 _ rfl 0 _ rfl
  simp only [Nat.add_zero, Nat.mul_one] at d0 d1
  clear hl r1
  go_enter Tryd.func26, Tryd.ntmps26
  go_wp2_with fail
  refine (many_yes wRule (some ⟨ga, oa, none⟩) 2 c _).mono ?_
  rintro e w1 ⟨rfl, k1⟩
  have kw1 : Kp w w1 := ((by (repeat (first | with_reducible assumption | with_reducible exact Kp.refl _ | with_reducible refine Kp.drew ?_ | with_reducible refine Kp.drewN ?_ _ | with_reducible refine Kp.alloc ?_ _ | ((with_reducible refine Kp.setCell ?_ ?_ _); rotate_left; (focus (first | omega | (simp; done) | (simp; omega)))) | with_reducible refine Kp.trans ?_ (by assumption)))) : Kp w _).trans k1
  have bl : Blk w1 w.heap.size [sv wRule, .slice (some ⟨ga, oa, none⟩) 2 c] 58 := Blk.kp (by (repeat (first | with_reducible assumption | ((with_reducible refine Blk.newL ?_ ?_); (focus (first | (simp; done) | omega)); rfl) | with_reducible refine Blk.drew ?_ | with_reducible refine Blk.drewN ?_ _ | with_reducible refine Blk.alloc ?_ _ | ((with_reducible refine Blk.other ?_ ?_ _); rotate_left; (focus (first | with_reducible assumption | omega | (simp; done) | (simp; omega))))))) k1
  have bp : Blk w1 (w.heap.size + 1) [.int .i64 0, .int .i64 0, .int .i64 0, .int .i64 0, .int .i64 0] 33 := Blk.kp (by (repeat (first | with_reducible assumption | ((with_reducible refine Blk.newL ?_ ?_); (focus (first | (simp; done) | omega)); rfl) | with_reducible refine Blk.drew ?_ | with_reducible refine Blk.drewN ?_ _ | with_reducible refine Blk.alloc ?_ _ | ((with_reducible refine Blk.other ?_ ?_ _); rotate_left; (focus (first | with_reducible assumption | omega | (simp; done) | (simp; omega))))))) k1
  have bl0 := bl.cell 0 rfl
  have f0 := bp.free 0
  have z0 := bp.cell 0 rfl
  have f1 := bp.free 1
  have z1 := bp.cell 1 rfl
  have f2 := bp.free 2
  have z2 := bp.cell 2 rfl
  have f3 := bp.free 3
  have z3 := bp.cell 3 rfl
  have f4 := bp.free 4
  have z4 := bp.cell 4 rfl
  clear k1
  go_wp2_with fail
  (refine wp_region_held_drew (S := (fun w' => (∀ b o, b < w.heap.size → w'.cell? ⟨b, o, none⟩ = w.cell? ⟨b, o, none⟩) ∧ Kp w w')) (by kernel_rfl) ?_ (fun hHd => ?_); (focus ((try dsimp only); (first | with_reducible assumption | with_reducible exact held_start _ | with_reducible exact held_next (by assumption) (by assumption) | with_reducible exact held_alloc (by assumption) _ | with_reducible exact held_drew (by assumption) | ((with_reducible refine held_kp ?_); (repeat (first | with_reducible assumption | with_reducible exact Kp.refl _ | with_reducible refine Kp.drew ?_ | with_reducible refine Kp.drewN ?_ _ | with_reducible refine Kp.alloc ?_ _ | ((with_reducible refine Kp.setCell ?_ ?_ _); rotate_left; (focus (first | omega | (simp; done) | (simp; omega)))) | with_reducible refine Kp.trans ?_ (by assumption))))))))
  (refine takeH (i := 0) (oi := ?o90) (v := ?v90) ?h90 (by kernel_rfl) ?q90 (Or.inl ⟨?w90, ?y90⟩) (by assumption) ?r90; (case h90 => ((simp only [g1, g3]); rfl)); (case q90 => exact fun _ _ _ h => h); (case w90 => rfl); (case y90 => (intro w' hSw; (try dsimp only at hSw); go_simp; (try with_reducible rfl))); (try simp only [Act.put, s1, s2, s3]))
  (refine takeH (i := 1) (oi := ?o91) (v := ?v91) ?h91 (by kernel_rfl) ?q91 (Or.inl ⟨?w91, ?y91⟩) (by assumption) ?r91; (case h91 => ((simp only [g1, g2, g3]); rfl)); (case q91 => exact fun _ _ _ h => h); (case w91 => rfl); (case y91 => (intro w' hSw; (try dsimp only at hSw); go_simp; (try with_reducible rfl))); (try simp only [Act.put, s1, s2, s3]))
  (refine takeH (i := 2) (oi := ?o92) (v := ?v92) ?h92 (by kernel_rfl) ?q92 (Or.inl ⟨?w92, ?y92⟩) (by assumption) ?r92; (case h92 => ((simp only [g1, g2, g3]); rfl)); (case q92 => exact fun _ _ _ h => h); (case w92 => rfl); (case y92 => (intro w' hSw; (try dsimp only at hSw); go_simp; (try with_reducible rfl))); (try simp only [Act.put, s1, s2, s3]))
  (refine takeH (i := 3) (oi := ?o93) (v := ?v93) ?h93 (by kernel_rfl) ?q93 (Or.inl ⟨?w93, ?y93⟩) (by assumption) ?r93; (case h93 => ((simp only [g1, g2, g3]); rfl)); (case q93 => exact fun _ _ _ h => h); (case w93 => rfl); (case y93 => (intro w' hSw; (try dsimp only at hSw); go_simp; (try with_reducible rfl))); (try simp only [Act.put, s1, s2, s3]))
  (refine takeH (i := 4) (oi := ?o94) (v := ?v94) ?h94 (by kernel_rfl) ?q94 (Or.inl ⟨?w94, ?y94⟩) (by assumption) ?r94; (case h94 => ((simp only [g1, g2, g3]); rfl)); (case q94 => exact fun _ _ _ h => h); (case w94 => rfl); (case y94 => (intro w' hSw; (try dsimp only at hSw); go_simp; (try with_reducible rfl))); (try simp only [Act.put, s1, s2, s3]))
  (refine takeH (i := 5) (oi := ?o95) (v := ?v95) ?h95 (by kernel_rfl) ?q95 (Or.inl ⟨?w95, ?y95⟩) (by assumption) ?r95; (case h95 => ((simp only [g1, g2, g3]); rfl)); (case q95 => exact fun _ _ _ h => h); (case w95 => rfl); (case y95 => (intro w' hSw; (try dsimp only at hSw); go_simp; (try with_reducible rfl))); (try simp only [Act.put, s1, s2, s3]))
  (refine takeH (i := 6) (oi := ?o96) (v := ?v96) ?h96 (by kernel_rfl) ?q96 (Or.inl ⟨?w96, ?y96⟩) (by assumption) ?r96; (case h96 => ((simp only [g1, g2, g3]); rfl)); (case q96 => exact fun _ _ _ h => h); (case w96 => rfl); (case y96 => (intro w' hSw; (try dsimp only at hSw); go_simp; (try with_reducible rfl))); (try simp only [Act.put, s1, s2, s3]))
  (refine wpAnyH_ready (rs := [7]) (by kernel_rfl) (by simp) ?_; refine AllReadyH.cons (o := ?o97) ?h97 (fun K hK => ?s97) AllReadyH.nil; (case h97 => (first | ((simp only [g1, g2, g3]); rfl) | rfl)); go_simp; (try dsimp only); refine hK.out _ _ ?_ (fun hHd => ?_); (focus ((try dsimp only); (first | with_reducible assumption | with_reducible exact held_start _ | with_reducible exact held_next (by assumption) (by assumption) | with_reducible exact held_alloc (by assumption) _ | with_reducible exact held_drew (by assumption) | ((with_reducible refine held_kp ?_); (repeat (first | with_reducible assumption | with_reducible exact Kp.refl _ | with_reducible refine Kp.drew ?_ | with_reducible refine Kp.drewN ?_ _ | with_reducible refine Kp.alloc ?_ _ | ((with_reducible refine Kp.setCell ?_ ?_ _); rotate_left; (focus (first | omega | (simp; done) | (simp; omega)))) | with_reducible refine Kp.trans ?_ (by assumption))))))); clear hK K; (try simp only [Act.put, s1, s2, s3]))
  refine wpAnyH_done (by kernel_rfl) ?_ _
  clear hHd
  go_wp2_with fail
  have zz := (((((bp.set 0 (.int .i64 3)).set 1 (.int .i64 0)).set 2 (.int .i64 0)).set 3 (.int .i64 y)).set 4 (.int .i64 x)).drew
  have q0 := zz.cell 0 rfl
  have q1 := zz.cell 1 rfl
  have q2 := zz.cell 2 rfl
  have q3 := zz.cell 3 rfl
  have q4 := zz.cell 4 rfl
  clear z0 z1 z2 z3 z4
  refine bodyPost_ret (v := .agg #[.int .i64 3, .int .i64 0, .int .i64 0, .int .i64 y, .int .i64 x]) (by simp [results, Tryd.results26, go_sem, q0, q1, q2, q3, q4]) rfl ?_
  exact ⟨rfl, (by (repeat (first | with_reducible assumption | with_reducible exact Kp.refl _ | with_reducible refine Kp.drew ?_ | with_reducible refine Kp.drewN ?_ _ | with_reducible refine Kp.alloc ?_ _ | ((with_reducible refine Kp.setCell ?_ ?_ _); rotate_left; (focus (first | omega | (simp; done) | (simp; omega)))) | with_reducible refine Kp.trans ?_ (by assumption))))⟩
set_option maxRecDepth 100000 in
set_option maxHeartbeats 4000000 in
theorem putLine_yes (a : Option Addr) (c : Nat) (n l y x : Int) (w : World) (hl : SlOk w 1 enc1 a 4 c [n, l, y, x]) :
    Calls Tryd.prog 26 #[.agg #[sv wLine, .slice a 4 c]] w fun e w' => e = .returned (.agg (Put.cells ⟨4, n, l, y, x⟩).toArray) ∧ Kp w w' := by
  have hcl := hl.2.1
  have hcm := hl.2.2.1
  unfold maxLen at hcm
  rcases hl.2.2.2 with e | ⟨ga, oa, rfl, hga, r1⟩
  · cases e
  have d0 := r1 0 _ rfl 0 _ rfl
  have d1 := r1 1 _ rfl 0 _ rfl
  have d2 := r1 2 _ rfl 0 _ rfl
  have d3 := r1 3 _ rfl 0 _ rfl
  simp only [Nat.add_zero, Nat.mul_one] at d0 d1 d2 d3
  clear hl r1
  go_enter Tryd.func26, Tryd.ntmps26
  go_wp2_with fail
  refine (many_yes wLine (some ⟨ga, oa, none⟩) 4 c _).mono ?_
  rintro e w1 ⟨rfl, k1⟩
  have kw1 : Kp w w1 := ((by (repeat (first | with_reducible assumption | with_reducible exact Kp.refl _ | with_reducible refine Kp.drew ?_ | with_reducible refine Kp.drewN ?_ _ | with_reducible refine Kp.alloc ?_ _ | ((with_reducible refine Kp.setCell ?_ ?_ _); rotate_left; (focus (first | omega | (simp; done) | (simp; omega)))) | with_reducible refine Kp.trans ?_ (by assumption)))) : Kp w _).trans k1
  have bl : Blk w1 w.heap.size [sv wLine, .slice (some ⟨ga, oa, none⟩) 4 c] 58 := Blk.kp (by (repeat (first | with_reducible assumption | ((with_reducible refine Blk.newL ?_ ?_); (focus (first | (simp; done) | omega)); rfl) | with_reducible refine Blk.drew ?_ | with_reducible refine Blk.drewN ?_ _ | with_reducible refine Blk.alloc ?_ _ | ((with_reducible refine Blk.other ?_ ?_ _); rotate_left; (focus (first | with_reducible assumption | omega | (simp; done) | (simp; omega))))))) k1
  have bp : Blk w1 (w.heap.size + 1) [.int .i64 0, .int .i64 0, .int .i64 0, .int .i64 0, .int .i64 0] 33 := Blk.kp (by (repeat (first | with_reducible assumption | ((with_reducible refine Blk.newL ?_ ?_); (focus (first | (simp; done) | omega)); rfl) | with_reducible refine Blk.drew ?_ | with_reducible refine Blk.drewN ?_ _ | with_reducible refine Blk.alloc ?_ _ | ((with_reducible refine Blk.other ?_ ?_ _); rotate_left; (focus (first | with_reducible assumption | omega | (simp; done) | (simp; omega))))))) k1
  have bl0 := bl.cell 0 rfl
  have f0 := bp.free 0
  have z0 := bp.cell 0 rfl
  have f1 := bp.free 1
  have z1 := bp.cell 1 rfl
  have f2 := bp.free 2
  have z2 := bp.cell 2 rfl
  have f3 := bp.free 3
  have z3 := bp.cell 3 rfl
  have f4 := bp.free 4
  have z4 := bp.cell 4 rfl
  clear k1
  go_wp2_with fail
  (refine wp_region_held_drew (S := (fun w' => (∀ b o, b < w.heap.size → w'.cell? ⟨b, o, none⟩ = w.cell? ⟨b, o, none⟩) ∧ Kp w w')) (by kernel_rfl) ?_ (fun hHd => ?_); (focus ((try dsimp only); (first | with_reducible assumption | with_reducible exact held_start _ | with_reducible exact held_next (by assumption) (by assumption) | with_reducible exact held_alloc (by assumption) _ | with_reducible exact held_drew (by assumption) | ((with_reducible refine held_kp ?_); (repeat (first | with_reducible assumption | with_reducible exact Kp.refl _ | with_reducible refine Kp.drew ?_ | with_reducible refine Kp.drewN ?_ _ | with_reducible refine Kp.alloc ?_ _ | ((with_reducible refine Kp.setCell ?_ ?_ _); rotate_left; (focus (first | omega | (simp; done) | (simp; omega)))) | with_reducible refine Kp.trans ?_ (by assumption))))))))
  (refine takeH (i := 0) (oi := ?o98) (v := ?v98) ?h98 (by kernel_rfl) ?q98 (Or.inl ⟨?w98, ?y98⟩) (by assumption) ?r98; (case h98 => ((simp only [g1, g3]); rfl)); (case q98 => exact fun _ _ _ h => h); (case w98 => rfl); (case y98 => (intro w' hSw; (try dsimp only at hSw); go_simp; (try with_reducible rfl))); (try simp only [Act.put, s1, s2, s3]))
  (refine takeH (i := 1) (oi := ?o99) (v := ?v99) ?h99 (by kernel_rfl) ?q99 (Or.inl ⟨?w99, ?y99⟩) (by assumption) ?r99; (case h99 => ((simp only [g1, g2, g3]); rfl)); (case q99 => exact fun _ _ _ h => h); (case w99 => rfl); (case y99 => (intro w' hSw; (try dsimp only at hSw); go_simp; (try with_reducible rfl))); (try simp only [Act.put, s1, s2, s3]))
  (refine takeH (i := 2) (oi := ?o100) (v := ?v100) ?h100 (by kernel_rfl) ?q100 (Or.inl ⟨?w100, ?y100⟩) (by assumption) ?r100; (case h100 => ((simp only [g1, g2, g3]); rfl)); (case q100 => exact fun _ _ _ h => h); (case w100 => rfl); (case y100 => (intro w' hSw; (try dsimp only at hSw); go_simp; (try with_reducible rfl))); (try simp only [Act.put, s1, s2, s3]))
  (refine takeH (i := 3) (oi := ?o101) (v := ?v101) ?h101 (by kernel_rfl) ?q101 (Or.inl ⟨?w101, ?y101⟩) (by assumption) ?r101; (case h101 => ((simp only [g1, g2, g3]); rfl)); (case q101 => exact fun _ _ _ h => h); (case w101 => rfl); (case y101 => (intro w' hSw; (try dsimp only at hSw); go_simp; (try with_reducible rfl))); (try simp only [Act.put, s1, s2, s3]))
  (refine takeH (i := 4) (oi := ?o102) (v := ?v102) ?h102 (by kernel_rfl) ?q102 (Or.inl ⟨?w102, ?y102⟩) (by assumption) ?r102; (case h102 => ((simp only [g1, g2, g3]); rfl)); (case q102 => exact fun _ _ _ h => h); (case w102 => rfl); (case y102 => (intro w' hSw; (try dsimp only at hSw); go_simp; (try with_reducible rfl))); (try simp only [Act.put, s1, s2, s3]))
  (refine takeH (i := 5) (oi := ?o103) (v := ?v103) ?h103 (by kernel_rfl) ?q103 (Or.inl ⟨?w103, ?y103⟩) (by assumption) ?r103; (case h103 => ((simp only [g1, g2, g3]); rfl)); (case q103 => exact fun _ _ _ h => h); (case w103 => rfl); (case y103 => (intro w' hSw; (try dsimp only at hSw); go_simp; (try with_reducible rfl))); (try simp only [Act.put, s1, s2, s3]))
  (refine takeH (i := 6) (oi := ?o104) (v := ?v104) ?h104 (by kernel_rfl) ?q104 (Or.inl ⟨?w104, ?y104⟩) (by assumption) ?r104; (case h104 => ((simp only [g1, g2, g3]); rfl)); (case q104 => exact fun _ _ _ h => h); (case w104 => rfl); (case y104 => (intro w' hSw; (try dsimp only at hSw); go_simp; (try with_reducible rfl))); (try simp only [Act.put, s1, s2, s3]))
  (refine takeH (i := 7) (oi := ?o105) (v := ?v105) ?h105 (by kernel_rfl) ?q105 (Or.inl ⟨?w105, ?y105⟩) (by assumption) ?r105; (case h105 => ((simp only [g1, g2, g3]); rfl)); (case q105 => exact fun _ _ _ h => h); (case w105 => rfl); (case y105 => (intro w' hSw; (try dsimp only at hSw); go_simp; (try with_reducible rfl))); (try simp only [Act.put, s1, s2, s3]))
  (refine takeH (i := 8) (oi := ?o106) (v := ?v106) ?h106 (by kernel_rfl) ?q106 (Or.inl ⟨?w106, ?y106⟩) (by assumption) ?r106; (case h106 => ((simp only [g1, g2, g3]); rfl)); (case q106 => exact fun _ _ _ h => h); (case w106 => rfl); (case y106 => (intro w' hSw; (try dsimp only at hSw); go_simp; (try with_reducible rfl))); (try simp only [Act.put, s1, s2, s3]))
  (refine takeH (i := 9) (oi := ?o107) (v := ?v107) ?h107 (by kernel_rfl) ?q107 (Or.inl ⟨?w107, ?y107⟩) (by assumption) ?r107; (case h107 => ((simp only [g1, g2, g3]); rfl)); (case q107 => exact fun _ _ _ h => h); (case w107 => rfl); (case y107 => (intro w' hSw; (try dsimp only at hSw); go_simp; (try with_reducible rfl))); (try simp only [Act.put, s1, s2, s3]))
  (refine takeH (i := 10) (oi := ?o108) (v := ?v108) ?h108 (by kernel_rfl) ?q108 (Or.inl ⟨?w108, ?y108⟩) (by assumption) ?r108; (case h108 => ((simp only [g1, g2, g3]); rfl)); (case q108 => exact fun _ _ _ h => h); (case w108 => rfl); (case y108 => (intro w' hSw; (try dsimp only at hSw); go_simp; (try with_reducible rfl))); (try simp only [Act.put, s1, s2, s3]))
  (refine takeH (i := 11) (oi := ?o109) (v := ?v109) ?h109 (by kernel_rfl) ?q109 (Or.inl ⟨?w109, ?y109⟩) (by assumption) ?r109; (case h109 => ((simp only [g1, g2, g3]); rfl)); (case q109 => exact fun _ _ _ h => h); (case w109 => rfl); (case y109 => (intro w' hSw; (try dsimp only at hSw); go_simp; (try with_reducible rfl))); (try simp only [Act.put, s1, s2, s3]))
  (refine takeH (i := 12) (oi := ?o110) (v := ?v110) ?h110 (by kernel_rfl) ?q110 (Or.inl ⟨?w110, ?y110⟩) (by assumption) ?r110; (case h110 => ((simp only [g1, g2, g3]); rfl)); (case q110 => exact fun _ _ _ h => h); (case w110 => rfl); (case y110 => (intro w' hSw; (try dsimp only at hSw); go_simp; (try with_reducible rfl))); (try simp only [Act.put, s1, s2, s3]))
  (refine wpAnyH_ready (rs := [13]) (by kernel_rfl) (by simp) ?_; refine AllReadyH.cons (o := ?o111) ?h111 (fun K hK => ?s111) AllReadyH.nil; (case h111 => (first | ((simp only [g1, g2, g3]); rfl) | rfl)); go_simp; (try dsimp only); refine hK.out _ _ ?_ (fun hHd => ?_); (focus ((try dsimp only); (first | with_reducible assumption | with_reducible exact held_start _ | with_reducible exact held_next (by assumption) (by assumption) | with_reducible exact held_alloc (by assumption) _ | with_reducible exact held_drew (by assumption) | ((with_reducible refine held_kp ?_); (repeat (first | with_reducible assumption | with_reducible exact Kp.refl _ | with_reducible refine Kp.drew ?_ | with_reducible refine Kp.drewN ?_ _ | with_reducible refine Kp.alloc ?_ _ | ((with_reducible refine Kp.setCell ?_ ?_ _); rotate_left; (focus (first | omega | (simp; done) | (simp; omega)))) | with_reducible refine Kp.trans ?_ (by assumption))))))); clear hK K; (try simp only [Act.put, s1, s2, s3]))
  refine wpAnyH_done (by kernel_rfl) ?_ _
  clear hHd
  go_wp2_with fail
  have zz := (((((bp.set 0 (.int .i64 4)).set 1 (.int .i64 n)).set 2 (.int .i64 l)).set 3 (.int .i64 y)).set 4 (.int .i64 x)).drew
  have q0 := zz.cell 0 rfl
  have q1 := zz.cell 1 rfl
  have q2 := zz.cell 2 rfl
  have q3 := zz.cell 3 rfl
  have q4 := zz.cell 4 rfl
  clear z0 z1 z2 z3 z4
  refine bodyPost_ret (v := .agg #[.int .i64 4, .int .i64 n, .int .i64 l, .int .i64 y, .int .i64 x]) (by simp [results, Tryd.results26, go_sem, q0, q1, q2, q3, q4]) rfl ?_
  exact ⟨rfl, (by (repeat (first | with_reducible assumption | with_reducible exact Kp.refl _ | with_reducible refine Kp.drew ?_ | with_reducible refine Kp.drewN ?_ _ | with_reducible refine Kp.alloc ?_ _ | ((with_reducible refine Kp.setCell ?_ ?_ _); rotate_left; (focus (first | omega | (simp; done) | (simp; omega)))) | with_reducible refine Kp.trans ?_ (by assumption))))⟩
set_option maxRecDepth 100000 in
set_option maxHeartbeats 4000000 in
theorem putThing_low (a : Option Addr) (c : Nat) (k n l y x : Int) (w : World) (hl : SlOk w 1 enc1 a 5 c [k, n, l, y, x]) (hk : k < 1) :
    Calls Tryd.prog 26 #[.agg #[sv wThing, .slice a 5 c]] w fun e w' => e = .returned (.agg (Put.cells ⟨k, n, l, y, x⟩).toArray) ∧ Kp w w' := by
  have t0 : decide (k < 1) = true := decide_eq_true (by omega)
  have hcl := hl.2.1
  have hcm := hl.2.2.1
  unfold maxLen at hcm
  rcases hl.2.2.2 with e | ⟨ga, oa, rfl, hga, r1⟩
  · cases e
  have d0 := r1 0 _ rfl 0 _ rfl
  have d1 := r1 1 _ rfl 0 _ rfl
  have d2 := r1 2 _ rfl 0 _ rfl
  have d3 := r1 3 _ rfl 0 _ rfl
  have d4 := r1 4 _ rfl 0 _ rfl
  simp only [Nat.add_zero, Nat.mul_one] at d0 d1 d2 d3 d4
  clear hl r1
  go_enter Tryd.func26, Tryd.ntmps26
  go_wp2_with fail
  refine (many_yes wThing (some ⟨ga, oa, none⟩) 5 c _).mono ?_
  rintro e w1 ⟨rfl, k1⟩
  have kw1 : Kp w w1 := ((by (repeat (first | with_reducible assumption | with_reducible exact Kp.refl _ | with_reducible refine Kp.drew ?_ | with_reducible refine Kp.drewN ?_ _ | with_reducible refine Kp.alloc ?_ _ | ((with_reducible refine Kp.setCell ?_ ?_ _); rotate_left; (focus (first | omega | (simp; done) | (simp; omega)))) | with_reducible refine Kp.trans ?_ (by assumption)))) : Kp w _).trans k1
  have bl : Blk w1 w.heap.size [sv wThing, .slice (some ⟨ga, oa, none⟩) 5 c] 58 := Blk.kp (by (repeat (first | with_reducible assumption | ((with_reducible refine Blk.newL ?_ ?_); (focus (first | (simp; done) | omega)); rfl) | with_reducible refine Blk.drew ?_ | with_reducible refine Blk.drewN ?_ _ | with_reducible refine Blk.alloc ?_ _ | ((with_reducible refine Blk.other ?_ ?_ _); rotate_left; (focus (first | with_reducible assumption | omega | (simp; done) | (simp; omega))))))) k1
  have bp : Blk w1 (w.heap.size + 1) [.int .i64 0, .int .i64 0, .int .i64 0, .int .i64 0, .int .i64 0] 33 := Blk.kp (by (repeat (first | with_reducible assumption | ((with_reducible refine Blk.newL ?_ ?_); (focus (first | (simp; done) | omega)); rfl) | with_reducible refine Blk.drew ?_ | with_reducible refine Blk.drewN ?_ _ | with_reducible refine Blk.alloc ?_ _ | ((with_reducible refine Blk.other ?_ ?_ _); rotate_left; (focus (first | with_reducible assumption | omega | (simp; done) | (simp; omega))))))) k1
  have bl0 := bl.cell 0 rfl
  have f0 := bp.free 0
  have z0 := bp.cell 0 rfl
  have f1 := bp.free 1
  have z1 := bp.cell 1 rfl
  have f2 := bp.free 2
  have z2 := bp.cell 2 rfl
  have f3 := bp.free 3
  have z3 := bp.cell 3 rfl
  have f4 := bp.free 4
  have z4 := bp.cell 4 rfl
  clear k1
  go_wp2_with fail
  (refine wp_region_held_drew (S := (fun w' => (∀ b o, b < w.heap.size → w'.cell? ⟨b, o, none⟩ = w.cell? ⟨b, o, none⟩) ∧ Kp w w')) (by kernel_rfl) ?_ (fun hHd => ?_); (focus ((try dsimp only); (first | with_reducible assumption | with_reducible exact held_start _ | with_reducible exact held_next (by assumption) (by assumption) | with_reducible exact held_alloc (by assumption) _ | with_reducible exact held_drew (by assumption) | ((with_reducible refine held_kp ?_); (repeat (first | with_reducible assumption | with_reducible exact Kp.refl _ | with_reducible refine Kp.drew ?_ | with_reducible refine Kp.drewN ?_ _ | with_reducible refine Kp.alloc ?_ _ | ((with_reducible refine Kp.setCell ?_ ?_ _); rotate_left; (focus (first | omega | (simp; done) | (simp; omega)))) | with_reducible refine Kp.trans ?_ (by assumption))))))))
  (refine takeH (i := 0) (oi := ?o112) (v := ?v112) ?h112 (by kernel_rfl) ?q112 (Or.inl ⟨?w112, ?y112⟩) (by assumption) ?r112; (case h112 => ((simp only [g1, g3]); rfl)); (case q112 => exact fun _ _ _ h => h); (case w112 => rfl); (case y112 => (intro w' hSw; (try dsimp only at hSw); go_simp; (try with_reducible rfl))); (try simp only [Act.put, s1, s2, s3]))
  (refine takeH (i := 1) (oi := ?o113) (v := ?v113) ?h113 (by kernel_rfl) ?q113 (Or.inl ⟨?w113, ?y113⟩) (by assumption) ?r113; (case h113 => ((simp only [g1, g2, g3]); rfl)); (case q113 => exact fun _ _ _ h => h); (case w113 => rfl); (case y113 => (intro w' hSw; (try dsimp only at hSw); go_simp; (try with_reducible rfl))); (try simp only [Act.put, s1, s2, s3]))
  (refine takeH (i := 2) (oi := ?o114) (v := ?v114) ?h114 (by kernel_rfl) ?q114 (Or.inl ⟨?w114, ?y114⟩) (by assumption) ?r114; (case h114 => ((simp only [g1, g2, g3]); rfl)); (case q114 => exact fun _ _ _ h => h); (case w114 => rfl); (case y114 => (intro w' hSw; (try dsimp only at hSw); go_simp; (try with_reducible rfl))); (try simp only [Act.put, s1, s2, s3]))
  (refine takeH (i := 3) (oi := ?o115) (v := ?v115) ?h115 (by kernel_rfl) ?q115 (Or.inl ⟨?w115, ?y115⟩) (by assumption) ?r115; (case h115 => ((simp only [g1, g2, g3]); rfl)); (case q115 => exact fun _ _ _ h => h); (case w115 => rfl); (case y115 => (intro w' hSw; (try dsimp only at hSw); go_simp; (try with_reducible rfl))); (try simp only [Act.put, s1, s2, s3]))
  (refine takeH (i := 4) (oi := ?o116) (v := ?v116) ?h116 (by kernel_rfl) ?q116 (Or.inl ⟨?w116, ?y116⟩) (by assumption) ?r116; (case h116 => ((simp only [g1, g2, g3]); rfl)); (case q116 => exact fun _ _ _ h => h); (case w116 => rfl); (case y116 => (intro w' hSw; (try dsimp only at hSw); go_simp; (try with_reducible rfl))); (try simp only [Act.put, s1, s2, s3]))
  (refine takeH (i := 5) (oi := ?o117) (v := ?v117) ?h117 (by kernel_rfl) ?q117 (Or.inl ⟨?w117, ?y117⟩) (by assumption) ?r117; (case h117 => ((simp only [g1, g2, g3]); rfl)); (case q117 => exact fun _ _ _ h => h); (case w117 => rfl); (case y117 => (intro w' hSw; (try dsimp only at hSw); go_simp; (try with_reducible rfl))); (try simp only [Act.put, s1, s2, s3]))
  (refine takeH (i := 6) (oi := ?o118) (v := ?v118) ?h118 (by kernel_rfl) ?q118 (Or.inl ⟨?w118, ?y118⟩) (by assumption) ?r118; (case h118 => ((simp only [g1, g2, g3]); rfl)); (case q118 => exact fun _ _ _ h => h); (case w118 => rfl); (case y118 => (intro w' hSw; (try dsimp only at hSw); go_simp; (try with_reducible rfl))); (try simp only [Act.put, s1, s2, s3]))
  (refine takeH (i := 7) (oi := ?o119) (v := ?v119) ?h119 (by kernel_rfl) ?q119 (Or.inl ⟨?w119, ?y119⟩) (by assumption) ?r119; (case h119 => ((simp only [g1, g2, g3]); rfl)); (case q119 => exact fun _ _ _ h => h); (case w119 => rfl); (case y119 => (intro w' hSw; (try dsimp only at hSw); go_simp; (try with_reducible rfl))); (try simp only [Act.put, s1, s2, s3]))
  (refine takeH (i := 8) (oi := ?o120) (v := ?v120) ?h120 (by kernel_rfl) ?q120 (Or.inl ⟨?w120, ?y120⟩) (by assumption) ?r120; (case h120 => ((simp only [g1, g2, g3]); rfl)); (case q120 => exact fun _ _ _ h => h); (case w120 => rfl); (case y120 => (intro w' hSw; (try dsimp only at hSw); go_simp; (try with_reducible rfl))); (try simp only [Act.put, s1, s2, s3]))
  (refine takeH (i := 9) (oi := ?o121) (v := ?v121) ?h121 (by kernel_rfl) ?q121 (Or.inl ⟨?w121, ?y121⟩) (by assumption) ?r121; (case h121 => ((simp only [g1, g2, g3]); rfl)); (case q121 => exact fun _ _ _ h => h); (case w121 => rfl); (case y121 => (intro w' hSw; (try dsimp only at hSw); go_simp; (try with_reducible rfl))); (try simp only [Act.put, s1, s2, s3]))
  (refine takeH (i := 10) (oi := ?o122) (v := ?v122) ?h122 (by kernel_rfl) ?q122 (Or.inl ⟨?w122, ?y122⟩) (by assumption) ?r122; (case h122 => ((simp only [g1, g2, g3]); rfl)); (case q122 => exact fun _ _ _ h => h); (case w122 => rfl); (case y122 => (intro w' hSw; (try dsimp only at hSw); go_simp; (try with_reducible rfl))); (try simp only [Act.put, s1, s2, s3]))
  (refine takeH (i := 11) (oi := ?o123) (v := ?v123) ?h123 (by kernel_rfl) ?q123 (Or.inl ⟨?w123, ?y123⟩) (by assumption) ?r123; (case h123 => ((simp only [g1, g2, g3]); rfl)); (case q123 => exact fun _ _ _ h => h); (case w123 => rfl); (case y123 => (intro w' hSw; (try dsimp only at hSw); go_simp; (try with_reducible rfl))); (try simp only [Act.put, s1, s2, s3]))
  (refine takeH (i := 12) (oi := ?o124) (v := ?v124) ?h124 (by kernel_rfl) ?q124 (Or.inl ⟨?w124, ?y124⟩) (by assumption) ?r124; (case h124 => ((simp only [g1, g2, g3]); rfl)); (case q124 => exact fun _ _ _ h => h); (case w124 => rfl); (case y124 => (intro w' hSw; (try dsimp only at hSw); go_simp; (try with_reducible rfl))); (try simp only [Act.put, s1, s2, s3]))
  (refine takeH (i := 13) (oi := ?o125) (v := ?v125) ?h125 (by kernel_rfl) ?q125 (Or.inl ⟨?w125, ?y125⟩) (by assumption) ?r125; (case h125 => ((simp only [g1, g2, g3]); rfl)); (case q125 => exact fun _ _ _ h => h); (case w125 => rfl); (case y125 => (intro w' hSw; (try dsimp only at hSw); go_simp; (try with_reducible rfl))); (try simp only [Act.put, s1, s2, s3]))
  (refine takeH (i := 14) (oi := ?o126) (v := ?v126) ?h126 (by kernel_rfl) ?q126 (Or.inl ⟨?w126, ?y126⟩) (by assumption) ?r126; (case h126 => ((simp only [g1, g2, g3]); rfl)); (case q126 => exact fun _ _ _ h => h); (case w126 => rfl); (case y126 => (intro w' hSw; (try dsimp only at hSw); go_simp; (try with_reducible rfl))); (try simp only [Act.put, s1, s2, s3]))
  (refine takeH (i := 15) (oi := ?o127) (v := ?v127) ?h127 (by kernel_rfl) ?q127 (Or.inl ⟨?w127, ?y127⟩) (by assumption) ?r127; (case h127 => ((simp only [g1, g2, g3]); rfl)); (case q127 => exact fun _ _ _ h => h); (case w127 => rfl); (case y127 => (intro w' hSw; (try dsimp only at hSw); go_simp; (try with_reducible rfl))); (try simp only [Act.put, s1, s2, s3]))
  (refine wpAnyH_ready (rs := [16]) (by kernel_rfl) (by simp) ?_; refine AllReadyH.cons (o := ?o128) ?h128 (fun K hK => ?s128) AllReadyH.nil; (case h128 => (first | ((simp only [g1, g2, g3]); rfl) | rfl)); go_simp; (try dsimp only); refine hK.out _ _ ?_ (fun hHd => ?_); (focus ((try dsimp only); (first | with_reducible assumption | with_reducible exact held_start _ | with_reducible exact held_next (by assumption) (by assumption) | with_reducible exact held_alloc (by assumption) _ | with_reducible exact held_drew (by assumption) | ((with_reducible refine held_kp ?_); (repeat (first | with_reducible assumption | with_reducible exact Kp.refl _ | with_reducible refine Kp.drew ?_ | with_reducible refine Kp.drewN ?_ _ | with_reducible refine Kp.alloc ?_ _ | ((with_reducible refine Kp.setCell ?_ ?_ _); rotate_left; (focus (first | omega | (simp; done) | (simp; omega)))) | with_reducible refine Kp.trans ?_ (by assumption))))))); clear hK K; (try simp only [Act.put, s1, s2, s3]))
  (refine wpAnyH_ready (rs := [17]) (by kernel_rfl) (by simp) ?_; refine AllReadyH.cons (o := ?o129) ?h129 (fun K hK => ?s129) AllReadyH.nil; (case h129 => (first | ((simp only [g1, g2, g3]); rfl) | rfl)); go_simp; (try dsimp only); refine hK.out _ _ ?_ (fun hHd => ?_); (focus ((try dsimp only); (first | with_reducible assumption | with_reducible exact held_start _ | with_reducible exact held_next (by assumption) (by assumption) | with_reducible exact held_alloc (by assumption) _ | with_reducible exact held_drew (by assumption) | ((with_reducible refine held_kp ?_); (repeat (first | with_reducible assumption | with_reducible exact Kp.refl _ | with_reducible refine Kp.drew ?_ | with_reducible refine Kp.drewN ?_ _ | with_reducible refine Kp.alloc ?_ _ | ((with_reducible refine Kp.setCell ?_ ?_ _); rotate_left; (focus (first | omega | (simp; done) | (simp; omega)))) | with_reducible refine Kp.trans ?_ (by assumption))))))); clear hK K; (try simp only [Act.put, s1, s2, s3]))
  refine wpAnyH_done (by kernel_rfl) ?_ _
  clear hHd
  have bl2 := (bl.alloc (.cells #[.int .i64 k, .int .i64 n, .int .i64 l, .int .i64 y, .int .i64 x] 33)).cell 0 rfl
  clear bl0
  have bp2 : Blk _ (w.heap.size + 1) _ _ := bp.alloc (.cells #[.int .i64 k, .int .i64 n, .int .i64 l, .int .i64 y, .int .i64 x] 33)
  clear f0 z0 f1 z1 f2 z2 f3 z3 f4 z4
  have f0 := bp2.free 0
  have z0 := bp2.cell 0 rfl
  have f1 := bp2.free 1
  have z1 := bp2.cell 1 rfl
  have f2 := bp2.free 2
  have z2 := bp2.cell 2 rfl
  have f3 := bp2.free 3
  have z3 := bp2.cell 3 rfl
  have f4 := bp2.free 4
  have z4 := bp2.cell 4 rfl
  go_wp2_with fail
  have zz := (((((bp2.set 0 (.int .i64 k)).set 1 (.int .i64 n)).set 2 (.int .i64 l)).set 3 (.int .i64 y)).set 4 (.int .i64 x)).drew
  have q0 := zz.cell 0 rfl
  have q1 := zz.cell 1 rfl
  have q2 := zz.cell 2 rfl
  have q3 := zz.cell 3 rfl
  have q4 := zz.cell 4 rfl
  clear z0 z1 z2 z3 z4
  refine bodyPost_ret (v := .agg #[.int .i64 k, .int .i64 n, .int .i64 l, .int .i64 y, .int .i64 x]) (by simp [results, Tryd.results26, go_sem, q0, q1, q2, q3, q4]) rfl ?_
  exact ⟨rfl, (by (repeat (first | with_reducible assumption | with_reducible exact Kp.refl _ | with_reducible refine Kp.drew ?_ | with_reducible refine Kp.drewN ?_ _ | with_reducible refine Kp.alloc ?_ _ | ((with_reducible refine Kp.setCell ?_ ?_ _); rotate_left; (focus (first | omega | (simp; done) | (simp; omega)))) | with_reducible refine Kp.trans ?_ (by assumption))))⟩
set_option maxRecDepth 100000 in
set_option maxHeartbeats 4000000 in
theorem putThing_high (a : Option Addr) (c : Nat) (k n l y x : Int) (w : World) (hl : SlOk w 1 enc1 a 5 c [k, n, l, y, x]) (hk : ¬ k < 1) (hk4 : 4 < k) :
    Calls Tryd.prog 26 #[.agg #[sv wThing, .slice a 5 c]] w fun e w' => e = .returned (.agg (Put.cells ⟨k, n, l, y, x⟩).toArray) ∧ Kp w w' := by
  have t0 : decide (k < 1) = false := decide_eq_false (by omega)
  have t1 : decide (4 < k) = true := decide_eq_true (by omega)
  have hcl := hl.2.1
  have hcm := hl.2.2.1
  unfold maxLen at hcm
  rcases hl.2.2.2 with e | ⟨ga, oa, rfl, hga, r1⟩
  · cases e
  have d0 := r1 0 _ rfl 0 _ rfl
  have d1 := r1 1 _ rfl 0 _ rfl
  have d2 := r1 2 _ rfl 0 _ rfl
  have d3 := r1 3 _ rfl 0 _ rfl
  have d4 := r1 4 _ rfl 0 _ rfl
  simp only [Nat.add_zero, Nat.mul_one] at d0 d1 d2 d3 d4
  clear hl r1
  go_enter Tryd.func26, Tryd.ntmps26
  go_wp2_with fail
  refine (many_yes wThing (some ⟨ga, oa, none⟩) 5 c _).mono ?_
  rintro e w1 ⟨rfl, k1⟩
  have kw1 : Kp w w1 := ((by (repeat (first | with_reducible assumption | with_reducible exact Kp.refl _ | with_reducible refine Kp.drew ?_ | with_reducible refine Kp.drewN ?_ _ | with_reducible refine Kp.alloc ?_ _ | ((with_reducible refine Kp.setCell ?_ ?_ _); rotate_left; (focus (first | omega | (simp; done) | (simp; omega)))) | with_reducible refine Kp.trans ?_ (by assumption)))) : Kp w _).trans k1
  have bl : Blk w1 w.heap.size [sv wThing, .slice (some ⟨ga, oa, none⟩) 5 c] 58 := Blk.kp (by (repeat (first | with_reducible assumption | ((with_reducible refine Blk.newL ?_ ?_); (focus (first | (simp; done) | omega)); rfl) | with_reducible refine Blk.drew ?_ | with_reducible refine Blk.drewN ?_ _ | with_reducible refine Blk.alloc ?_ _ | ((with_reducible refine Blk.other ?_ ?_ _); rotate_left; (focus (first | with_reducible assumption | omega | (simp; done) | (simp; omega))))))) k1
  have bp : Blk w1 (w.heap.size + 1) [.int .i64 0, .int .i64 0, .int .i64 0, .int .i64 0, .int .i64 0] 33 := Blk.kp (by (repeat (first | with_reducible assumption | ((with_reducible refine Blk.newL ?_ ?_); (focus (first | (simp; done) | omega)); rfl) | with_reducible refine Blk.drew ?_ | with_reducible refine Blk.drewN ?_ _ | with_reducible refine Blk.alloc ?_ _ | ((with_reducible refine Blk.other ?_ ?_ _); rotate_left; (focus (first | with_reducible assumption | omega | (simp; done) | (simp; omega))))))) k1
  have bl0 := bl.cell 0 rfl
  have f0 := bp.free 0
  have z0 := bp.cell 0 rfl
  have f1 := bp.free 1
  have z1 := bp.cell 1 rfl
  have f2 := bp.free 2
  have z2 := bp.cell 2 rfl
  have f3 := bp.free 3
  have z3 := bp.cell 3 rfl
  have f4 := bp.free 4
  have z4 := bp.cell 4 rfl
  clear k1
  go_wp2_with fail
  (refine wp_region_held_drew (S := (fun w' => (∀ b o, b < w.heap.size → w'.cell? ⟨b, o, none⟩ = w.cell? ⟨b, o, none⟩) ∧ Kp w w')) (by kernel_rfl) ?_ (fun hHd => ?_); (focus ((try dsimp only); (first | with_reducible assumption | with_reducible exact held_start _ | with_reducible exact held_next (by assumption) (by assumption) | with_reducible exact held_alloc (by assumption) _ | with_reducible exact held_drew (by assumption) | ((with_reducible refine held_kp ?_); (repeat (first | with_reducible assumption | with_reducible exact Kp.refl _ | with_reducible refine Kp.drew ?_ | with_reducible refine Kp.drewN ?_ _ | with_reducible refine Kp.alloc ?_ _ | ((with_reducible refine Kp.setCell ?_ ?_ _); rotate_left; (focus (first | omega | (simp; done) | (simp; omega)))) | with_reducible refine Kp.trans ?_ (by assumption))))))))
  (refine takeH (i := 0) (oi := ?o130) (v := ?v130) ?h130 (by kernel_rfl) ?q130 (Or.inl ⟨?w130, ?y130⟩) (by assumption) ?r130; (case h130 => ((simp only [g1, g3]); rfl)); (case q130 => exact fun _ _ _ h => h); (case w130 => rfl); (case y130 => (intro w' hSw; (try dsimp only at hSw); go_simp; (try with_reducible rfl))); (try simp only [Act.put, s1, s2, s3]))
  (refine takeH (i := 1) (oi := ?o131) (v := ?v131) ?h131 (by kernel_rfl) ?q131 (Or.inl ⟨?w131, ?y131⟩) (by assumption) ?r131; (case h131 => ((simp only [g1, g2, g3]); rfl)); (case q131 => exact fun _ _ _ h => h); (case w131 => rfl); (case y131 => (intro w' hSw; (try dsimp only at hSw); go_simp; (try with_reducible rfl))); (try simp only [Act.put, s1, s2, s3]))
  (refine takeH (i := 2) (oi := ?o132) (v := ?v132) ?h132 (by kernel_rfl) ?q132 (Or.inl ⟨?w132, ?y132⟩) (by assumption) ?r132; (case h132 => ((simp only [g1, g2, g3]); rfl)); (case q132 => exact fun _ _ _ h => h); (case w132 => rfl); (case y132 => (intro w' hSw; (try dsimp only at hSw); go_simp; (try with_reducible rfl))); (try simp only [Act.put, s1, s2, s3]))
  (refine takeH (i := 3) (oi := ?o133) (v := ?v133) ?h133 (by kernel_rfl) ?q133 (Or.inl ⟨?w133, ?y133⟩) (by assumption) ?r133; (case h133 => ((simp only [g1, g2, g3]); rfl)); (case q133 => exact fun _ _ _ h => h); (case w133 => rfl); (case y133 => (intro w' hSw; (try dsimp only at hSw); go_simp; (try with_reducible rfl))); (try simp only [Act.put, s1, s2, s3]))
  (refine takeH (i := 4) (oi := ?o134) (v := ?v134) ?h134 (by kernel_rfl) ?q134 (Or.inl ⟨?w134, ?y134⟩) (by assumption) ?r134; (case h134 => ((simp only [g1, g2, g3]); rfl)); (case q134 => exact fun _ _ _ h => h); (case w134 => rfl); (case y134 => (intro w' hSw; (try dsimp only at hSw); go_simp; (try with_reducible rfl))); (try simp only [Act.put, s1, s2, s3]))
  (refine takeH (i := 5) (oi := ?o135) (v := ?v135) ?h135 (by kernel_rfl) ?q135 (Or.inl ⟨?w135, ?y135⟩) (by assumption) ?r135; (case h135 => ((simp only [g1, g2, g3]); rfl)); (case q135 => exact fun _ _ _ h => h); (case w135 => rfl); (case y135 => (intro w' hSw; (try dsimp only at hSw); go_simp; (try with_reducible rfl))); (try simp only [Act.put, s1, s2, s3]))
  (refine takeH (i := 6) (oi := ?o136) (v := ?v136) ?h136 (by kernel_rfl) ?q136 (Or.inl ⟨?w136, ?y136⟩) (by assumption) ?r136; (case h136 => ((simp only [g1, g2, g3]); rfl)); (case q136 => exact fun _ _ _ h => h); (case w136 => rfl); (case y136 => (intro w' hSw; (try dsimp only at hSw); go_simp; (try with_reducible rfl))); (try simp only [Act.put, s1, s2, s3]))
  (refine takeH (i := 7) (oi := ?o137) (v := ?v137) ?h137 (by kernel_rfl) ?q137 (Or.inl ⟨?w137, ?y137⟩) (by assumption) ?r137; (case h137 => ((simp only [g1, g2, g3]); rfl)); (case q137 => exact fun _ _ _ h => h); (case w137 => rfl); (case y137 => (intro w' hSw; (try dsimp only at hSw); go_simp; (try with_reducible rfl))); (try simp only [Act.put, s1, s2, s3]))
  (refine takeH (i := 8) (oi := ?o138) (v := ?v138) ?h138 (by kernel_rfl) ?q138 (Or.inl ⟨?w138, ?y138⟩) (by assumption) ?r138; (case h138 => ((simp only [g1, g2, g3]); rfl)); (case q138 => exact fun _ _ _ h => h); (case w138 => rfl); (case y138 => (intro w' hSw; (try dsimp only at hSw); go_simp; (try with_reducible rfl))); (try simp only [Act.put, s1, s2, s3]))
  (refine takeH (i := 9) (oi := ?o139) (v := ?v139) ?h139 (by kernel_rfl) ?q139 (Or.inl ⟨?w139, ?y139⟩) (by assumption) ?r139; (case h139 => ((simp only [g1, g2, g3]); rfl)); (case q139 => exact fun _ _ _ h => h); (case w139 => rfl); (case y139 => (intro w' hSw; (try dsimp only at hSw); go_simp; (try with_reducible rfl))); (try simp only [Act.put, s1, s2, s3]))
  (refine takeH (i := 10) (oi := ?o140) (v := ?v140) ?h140 (by kernel_rfl) ?q140 (Or.inl ⟨?w140, ?y140⟩) (by assumption) ?r140; (case h140 => ((simp only [g1, g2, g3]); rfl)); (case q140 => exact fun _ _ _ h => h); (case w140 => rfl); (case y140 => (intro w' hSw; (try dsimp only at hSw); go_simp; (try with_reducible rfl))); (try simp only [Act.put, s1, s2, s3]))
  (refine takeH (i := 11) (oi := ?o141) (v := ?v141) ?h141 (by kernel_rfl) ?q141 (Or.inl ⟨?w141, ?y141⟩) (by assumption) ?r141; (case h141 => ((simp only [g1, g2, g3]); rfl)); (case q141 => exact fun _ _ _ h => h); (case w141 => rfl); (case y141 => (intro w' hSw; (try dsimp only at hSw); go_simp; (try with_reducible rfl))); (try simp only [Act.put, s1, s2, s3]))
  (refine takeH (i := 12) (oi := ?o142) (v := ?v142) ?h142 (by kernel_rfl) ?q142 (Or.inl ⟨?w142, ?y142⟩) (by assumption) ?r142; (case h142 => ((simp only [g1, g2, g3]); rfl)); (case q142 => exact fun _ _ _ h => h); (case w142 => rfl); (case y142 => (intro w' hSw; (try dsimp only at hSw); go_simp; (try with_reducible rfl))); (try simp only [Act.put, s1, s2, s3]))
  (refine takeH (i := 13) (oi := ?o143) (v := ?v143) ?h143 (by kernel_rfl) ?q143 (Or.inl ⟨?w143, ?y143⟩) (by assumption) ?r143; (case h143 => ((simp only [g1, g2, g3]); rfl)); (case q143 => exact fun _ _ _ h => h); (case w143 => rfl); (case y143 => (intro w' hSw; (try dsimp only at hSw); go_simp; (try with_reducible rfl))); (try simp only [Act.put, s1, s2, s3]))
  (refine takeH (i := 14) (oi := ?o144) (v := ?v144) ?h144 (by kernel_rfl) ?q144 (Or.inl ⟨?w144, ?y144⟩) (by assumption) ?r144; (case h144 => ((simp only [g1, g2, g3]); rfl)); (case q144 => exact fun _ _ _ h => h); (case w144 => rfl); (case y144 => (intro w' hSw; (try dsimp only at hSw); go_simp; (try with_reducible rfl))); (try simp only [Act.put, s1, s2, s3]))
  (refine takeH (i := 15) (oi := ?o145) (v := ?v145) ?h145 (by kernel_rfl) ?q145 (Or.inl ⟨?w145, ?y145⟩) (by assumption) ?r145; (case h145 => ((simp only [g1, g2, g3]); rfl)); (case q145 => exact fun _ _ _ h => h); (case w145 => rfl); (case y145 => (intro w' hSw; (try dsimp only at hSw); go_simp; (try with_reducible rfl))); (try simp only [Act.put, s1, s2, s3]))
  (refine wpAnyH_ready (rs := [16]) (by kernel_rfl) (by simp) ?_; refine AllReadyH.cons (o := ?o146) ?h146 (fun K hK => ?s146) AllReadyH.nil; (case h146 => (first | ((simp only [g1, g2, g3]); rfl) | rfl)); go_simp; (try dsimp only); refine hK.out _ _ ?_ (fun hHd => ?_); (focus ((try dsimp only); (first | with_reducible assumption | with_reducible exact held_start _ | with_reducible exact held_next (by assumption) (by assumption) | with_reducible exact held_alloc (by assumption) _ | with_reducible exact held_drew (by assumption) | ((with_reducible refine held_kp ?_); (repeat (first | with_reducible assumption | with_reducible exact Kp.refl _ | with_reducible refine Kp.drew ?_ | with_reducible refine Kp.drewN ?_ _ | with_reducible refine Kp.alloc ?_ _ | ((with_reducible refine Kp.setCell ?_ ?_ _); rotate_left; (focus (first | omega | (simp; done) | (simp; omega)))) | with_reducible refine Kp.trans ?_ (by assumption))))))); clear hK K; (try simp only [Act.put, s1, s2, s3]))
  (refine wpAnyH_ready (rs := [17]) (by kernel_rfl) (by simp) ?_; refine AllReadyH.cons (o := ?o147) ?h147 (fun K hK => ?s147) AllReadyH.nil; (case h147 => (first | ((simp only [g1, g2, g3]); rfl) | rfl)); go_simp; (try dsimp only); refine hK.out _ _ ?_ (fun hHd => ?_); (focus ((try dsimp only); (first | with_reducible assumption | with_reducible exact held_start _ | with_reducible exact held_next (by assumption) (by assumption) | with_reducible exact held_alloc (by assumption) _ | with_reducible exact held_drew (by assumption) | ((with_reducible refine held_kp ?_); (repeat (first | with_reducible assumption | with_reducible exact Kp.refl _ | with_reducible refine Kp.drew ?_ | with_reducible refine Kp.drewN ?_ _ | with_reducible refine Kp.alloc ?_ _ | ((with_reducible refine Kp.setCell ?_ ?_ _); rotate_left; (focus (first | omega | (simp; done) | (simp; omega)))) | with_reducible refine Kp.trans ?_ (by assumption))))))); clear hK K; (try simp only [Act.put, s1, s2, s3]))
  refine wpAnyH_done (by kernel_rfl) ?_ _
  clear hHd
  have bl2 := (bl.alloc (.cells #[.int .i64 k, .int .i64 n, .int .i64 l, .int .i64 y, .int .i64 x] 33)).cell 0 rfl
  clear bl0
  have bp2 : Blk _ (w.heap.size + 1) _ _ := bp.alloc (.cells #[.int .i64 k, .int .i64 n, .int .i64 l, .int .i64 y, .int .i64 x] 33)
  clear f0 z0 f1 z1 f2 z2 f3 z3 f4 z4
  have f0 := bp2.free 0
  have z0 := bp2.cell 0 rfl
  have f1 := bp2.free 1
  have z1 := bp2.cell 1 rfl
  have f2 := bp2.free 2
  have z2 := bp2.cell 2 rfl
  have f3 := bp2.free 3
  have z3 := bp2.cell 3 rfl
  have f4 := bp2.free 4
  have z4 := bp2.cell 4 rfl
  go_wp2_with fail
  have zz := (((((bp2.set 0 (.int .i64 k)).set 1 (.int .i64 n)).set 2 (.int .i64 l)).set 3 (.int .i64 y)).set 4 (.int .i64 x)).drew
  have q0 := zz.cell 0 rfl
  have q1 := zz.cell 1 rfl
  have q2 := zz.cell 2 rfl
  have q3 := zz.cell 3 rfl
  have q4 := zz.cell 4 rfl
  clear z0 z1 z2 z3 z4
  refine bodyPost_ret (v := .agg #[.int .i64 k, .int .i64 n, .int .i64 l, .int .i64 y, .int .i64 x]) (by simp [results, Tryd.results26, go_sem, q0, q1, q2, q3, q4]) rfl ?_
  exact ⟨rfl, (by (repeat (first | with_reducible assumption | with_reducible exact Kp.refl _ | with_reducible refine Kp.drew ?_ | with_reducible refine Kp.drewN ?_ _ | with_reducible refine Kp.alloc ?_ _ | ((with_reducible refine Kp.setCell ?_ ?_ _); rotate_left; (focus (first | omega | (simp; done) | (simp; omega)))) | with_reducible refine Kp.trans ?_ (by assumption))))⟩
set_option maxRecDepth 100000 in
set_option maxHeartbeats 4000000 in
theorem putThing_no (a : Option Addr) (c : Nat) (k n l y x : Int) (w : World) (hl : SlOk w 1 enc1 a 5 c [k, n, l, y, x]) (hk : ¬ k < 1) (hk4 : ¬ 4 < k) :
    Calls Tryd.prog 26 #[.agg #[sv wThing, .slice a 5 c]] w fun e w' => e = .panicked gone ∧ Kp w w' := by
  have t0 : decide (k < 1) = false := decide_eq_false hk
  have t1 : decide (4 < k) = false := decide_eq_false hk4
  have hcl := hl.2.1
  have hcm := hl.2.2.1
  unfold maxLen at hcm
  rcases hl.2.2.2 with e | ⟨ga, oa, rfl, hga, r1⟩
  · cases e
  have d0 := r1 0 _ rfl 0 _ rfl
  have d1 := r1 1 _ rfl 0 _ rfl
  have d2 := r1 2 _ rfl 0 _ rfl
  have d3 := r1 3 _ rfl 0 _ rfl
  have d4 := r1 4 _ rfl 0 _ rfl
  simp only [Nat.add_zero, Nat.mul_one] at d0 d1 d2 d3 d4
  clear hl r1
  go_enter Tryd.func26, Tryd.ntmps26
  go_wp2_with fail
  refine (many_yes wThing (some ⟨ga, oa, none⟩) 5 c _).mono ?_
  rintro e w1 ⟨rfl, k1⟩
  have kw1 : Kp w w1 := ((by (repeat (first | with_reducible assumption | with_reducible exact Kp.refl _ | with_reducible refine Kp.drew ?_ | with_reducible refine Kp.drewN ?_ _ | with_reducible refine Kp.alloc ?_ _ | ((with_reducible refine Kp.setCell ?_ ?_ _); rotate_left; (focus (first | omega | (simp; done) | (simp; omega)))) | with_reducible refine Kp.trans ?_ (by assumption)))) : Kp w _).trans k1
  have bl : Blk w1 w.heap.size [sv wThing, .slice (some ⟨ga, oa, none⟩) 5 c] 58 := Blk.kp (by (repeat (first | with_reducible assumption | ((with_reducible refine Blk.newL ?_ ?_); (focus (first | (simp; done) | omega)); rfl) | with_reducible refine Blk.drew ?_ | with_reducible refine Blk.drewN ?_ _ | with_reducible refine Blk.alloc ?_ _ | ((with_reducible refine Blk.other ?_ ?_ _); rotate_left; (focus (first | with_reducible assumption | omega | (simp; done) | (simp; omega))))))) k1
  have bp : Blk w1 (w.heap.size + 1) [.int .i64 0, .int .i64 0, .int .i64 0, .int .i64 0, .int .i64 0] 33 := Blk.kp (by (repeat (first | with_reducible assumption | ((with_reducible refine Blk.newL ?_ ?_); (focus (first | (simp; done) | omega)); rfl) | with_reducible refine Blk.drew ?_ | with_reducible refine Blk.drewN ?_ _ | with_reducible refine Blk.alloc ?_ _ | ((with_reducible refine Blk.other ?_ ?_ _); rotate_left; (focus (first | with_reducible assumption | omega | (simp; done) | (simp; omega))))))) k1
  have bl0 := bl.cell 0 rfl
  have f0 := bp.free 0
  have z0 := bp.cell 0 rfl
  have f1 := bp.free 1
  have z1 := bp.cell 1 rfl
  have f2 := bp.free 2
  have z2 := bp.cell 2 rfl
  have f3 := bp.free 3
  have z3 := bp.cell 3 rfl
  have f4 := bp.free 4
  have z4 := bp.cell 4 rfl
  clear k1
  go_wp2_with fail
  (refine wp_region_held_drew (S := (fun w' => (∀ b o, b < w.heap.size → w'.cell? ⟨b, o, none⟩ = w.cell? ⟨b, o, none⟩) ∧ Kp w w')) (by kernel_rfl) ?_ (fun hHd => ?_); (focus ((try dsimp only); (first | with_reducible assumption | with_reducible exact held_start _ | with_reducible exact held_next (by assumption) (by assumption) | with_reducible exact held_alloc (by assumption) _ | with_reducible exact held_drew (by assumption) | ((with_reducible refine held_kp ?_); (repeat (first | with_reducible assumption | with_reducible exact Kp.refl _ | with_reducible refine Kp.drew ?_ | with_reducible refine Kp.drewN ?_ _ | with_reducible refine Kp.alloc ?_ _ | ((with_reducible refine Kp.setCell ?_ ?_ _); rotate_left; (focus (first | omega | (simp; done) | (simp; omega)))) | with_reducible refine Kp.trans ?_ (by assumption))))))))
  (refine takeH (i := 0) (oi := ?o148) (v := ?v148) ?h148 (by kernel_rfl) ?q148 (Or.inl ⟨?w148, ?y148⟩) (by assumption) ?r148; (case h148 => ((simp only [g1, g3]); rfl)); (case q148 => exact fun _ _ _ h => h); (case w148 => rfl); (case y148 => (intro w' hSw; (try dsimp only at hSw); go_simp; (try with_reducible rfl))); (try simp only [Act.put, s1, s2, s3]))
  (refine takeH (i := 1) (oi := ?o149) (v := ?v149) ?h149 (by kernel_rfl) ?q149 (Or.inl ⟨?w149, ?y149⟩) (by assumption) ?r149; (case h149 => ((simp only [g1, g2, g3]); rfl)); (case q149 => exact fun _ _ _ h => h); (case w149 => rfl); (case y149 => (intro w' hSw; (try dsimp only at hSw); go_simp; (try with_reducible rfl))); (try simp only [Act.put, s1, s2, s3]))
  (refine takeH (i := 2) (oi := ?o150) (v := ?v150) ?h150 (by kernel_rfl) ?q150 (Or.inl ⟨?w150, ?y150⟩) (by assumption) ?r150; (case h150 => ((simp only [g1, g2, g3]); rfl)); (case q150 => exact fun _ _ _ h => h); (case w150 => rfl); (case y150 => (intro w' hSw; (try dsimp only at hSw); go_simp; (try with_reducible rfl))); (try simp only [Act.put, s1, s2, s3]))
  (refine takeH (i := 3) (oi := ?o151) (v := ?v151) ?h151 (by kernel_rfl) ?q151 (Or.inl ⟨?w151, ?y151⟩) (by assumption) ?r151; (case h151 => ((simp only [g1, g2, g3]); rfl)); (case q151 => exact fun _ _ _ h => h); (case w151 => rfl); (case y151 => (intro w' hSw; (try dsimp only at hSw); go_simp; (try with_reducible rfl))); (try simp only [Act.put, s1, s2, s3]))
  (refine takeH (i := 4) (oi := ?o152) (v := ?v152) ?h152 (by kernel_rfl) ?q152 (Or.inl ⟨?w152, ?y152⟩) (by assumption) ?r152; (case h152 => ((simp only [g1, g2, g3]); rfl)); (case q152 => exact fun _ _ _ h => h); (case w152 => rfl); (case y152 => (intro w' hSw; (try dsimp only at hSw); go_simp; (try with_reducible rfl))); (try simp only [Act.put, s1, s2, s3]))
  (refine takeH (i := 5) (oi := ?o153) (v := ?v153) ?h153 (by kernel_rfl) ?q153 (Or.inl ⟨?w153, ?y153⟩) (by assumption) ?r153; (case h153 => ((simp only [g1, g2, g3]); rfl)); (case q153 => exact fun _ _ _ h => h); (case w153 => rfl); (case y153 => (intro w' hSw; (try dsimp only at hSw); go_simp; (try with_reducible rfl))); (try simp only [Act.put, s1, s2, s3]))
  (refine takeH (i := 6) (oi := ?o154) (v := ?v154) ?h154 (by kernel_rfl) ?q154 (Or.inl ⟨?w154, ?y154⟩) (by assumption) ?r154; (case h154 => ((simp only [g1, g2, g3]); rfl)); (case q154 => exact fun _ _ _ h => h); (case w154 => rfl); (case y154 => (intro w' hSw; (try dsimp only at hSw); go_simp; (try with_reducible rfl))); (try simp only [Act.put, s1, s2, s3]))
  (refine takeH (i := 7) (oi := ?o155) (v := ?v155) ?h155 (by kernel_rfl) ?q155 (Or.inl ⟨?w155, ?y155⟩) (by assumption) ?r155; (case h155 => ((simp only [g1, g2, g3]); rfl)); (case q155 => exact fun _ _ _ h => h); (case w155 => rfl); (case y155 => (intro w' hSw; (try dsimp only at hSw); go_simp; (try with_reducible rfl))); (try simp only [Act.put, s1, s2, s3]))
  (refine takeH (i := 8) (oi := ?o156) (v := ?v156) ?h156 (by kernel_rfl) ?q156 (Or.inl ⟨?w156, ?y156⟩) (by assumption) ?r156; (case h156 => ((simp only [g1, g2, g3]); rfl)); (case q156 => exact fun _ _ _ h => h); (case w156 => rfl); (case y156 => (intro w' hSw; (try dsimp only at hSw); go_simp; (try with_reducible rfl))); (try simp only [Act.put, s1, s2, s3]))
  (refine takeH (i := 9) (oi := ?o157) (v := ?v157) ?h157 (by kernel_rfl) ?q157 (Or.inl ⟨?w157, ?y157⟩) (by assumption) ?r157; (case h157 => ((simp only [g1, g2, g3]); rfl)); (case q157 => exact fun _ _ _ h => h); (case w157 => rfl); (case y157 => (intro w' hSw; (try dsimp only at hSw); go_simp; (try with_reducible rfl))); (try simp only [Act.put, s1, s2, s3]))
  (refine takeH (i := 10) (oi := ?o158) (v := ?v158) ?h158 (by kernel_rfl) ?q158 (Or.inl ⟨?w158, ?y158⟩) (by assumption) ?r158; (case h158 => ((simp only [g1, g2, g3]); rfl)); (case q158 => exact fun _ _ _ h => h); (case w158 => rfl); (case y158 => (intro w' hSw; (try dsimp only at hSw); go_simp; (try with_reducible rfl))); (try simp only [Act.put, s1, s2, s3]))
  (refine takeH (i := 11) (oi := ?o159) (v := ?v159) ?h159 (by kernel_rfl) ?q159 (Or.inl ⟨?w159, ?y159⟩) (by assumption) ?r159; (case h159 => ((simp only [g1, g2, g3]); rfl)); (case q159 => exact fun _ _ _ h => h); (case w159 => rfl); (case y159 => (intro w' hSw; (try dsimp only at hSw); go_simp; (try with_reducible rfl))); (try simp only [Act.put, s1, s2, s3]))
  (refine takeH (i := 12) (oi := ?o160) (v := ?v160) ?h160 (by kernel_rfl) ?q160 (Or.inl ⟨?w160, ?y160⟩) (by assumption) ?r160; (case h160 => ((simp only [g1, g2, g3]); rfl)); (case q160 => exact fun _ _ _ h => h); (case w160 => rfl); (case y160 => (intro w' hSw; (try dsimp only at hSw); go_simp; (try with_reducible rfl))); (try simp only [Act.put, s1, s2, s3]))
  (refine takeH (i := 13) (oi := ?o161) (v := ?v161) ?h161 (by kernel_rfl) ?q161 (Or.inl ⟨?w161, ?y161⟩) (by assumption) ?r161; (case h161 => ((simp only [g1, g2, g3]); rfl)); (case q161 => exact fun _ _ _ h => h); (case w161 => rfl); (case y161 => (intro w' hSw; (try dsimp only at hSw); go_simp; (try with_reducible rfl))); (try simp only [Act.put, s1, s2, s3]))
  (refine takeH (i := 14) (oi := ?o162) (v := ?v162) ?h162 (by kernel_rfl) ?q162 (Or.inl ⟨?w162, ?y162⟩) (by assumption) ?r162; (case h162 => ((simp only [g1, g2, g3]); rfl)); (case q162 => exact fun _ _ _ h => h); (case w162 => rfl); (case y162 => (intro w' hSw; (try dsimp only at hSw); go_simp; (try with_reducible rfl))); (try simp only [Act.put, s1, s2, s3]))
  (refine takeH (i := 15) (oi := ?o163) (v := ?v163) ?h163 (by kernel_rfl) ?q163 (Or.inl ⟨?w163, ?y163⟩) (by assumption) ?r163; (case h163 => ((simp only [g1, g2, g3]); rfl)); (case q163 => exact fun _ _ _ h => h); (case w163 => rfl); (case y163 => (intro w' hSw; (try dsimp only at hSw); go_simp; (try with_reducible rfl))); (try simp only [Act.put, s1, s2, s3]))
  (refine wpAnyH_ready (rs := [16]) (by kernel_rfl) (by simp) ?_; refine AllReadyH.cons (o := ?o164) ?h164 (fun K hK => ?s164) AllReadyH.nil; (case h164 => (first | ((simp only [g1, g2, g3]); rfl) | rfl)); go_simp; (try dsimp only); refine hK.out _ _ ?_ (fun hHd => ?_); (focus ((try dsimp only); (first | with_reducible assumption | with_reducible exact held_start _ | with_reducible exact held_next (by assumption) (by assumption) | with_reducible exact held_alloc (by assumption) _ | with_reducible exact held_drew (by assumption) | ((with_reducible refine held_kp ?_); (repeat (first | with_reducible assumption | with_reducible exact Kp.refl _ | with_reducible refine Kp.drew ?_ | with_reducible refine Kp.drewN ?_ _ | with_reducible refine Kp.alloc ?_ _ | ((with_reducible refine Kp.setCell ?_ ?_ _); rotate_left; (focus (first | omega | (simp; done) | (simp; omega)))) | with_reducible refine Kp.trans ?_ (by assumption))))))); clear hK K; (try simp only [Act.put, s1, s2, s3]))
  (refine wpAnyH_ready (rs := [17]) (by kernel_rfl) (by simp) ?_; refine AllReadyH.cons (o := ?o165) ?h165 (fun K hK => ?s165) AllReadyH.nil; (case h165 => (first | ((simp only [g1, g2, g3]); rfl) | rfl)); go_simp; (try dsimp only); refine hK.out _ _ ?_ (fun hHd => ?_); (focus ((try dsimp only); (first | with_reducible assumption | with_reducible exact held_start _ | with_reducible exact held_next (by assumption) (by assumption) | with_reducible exact held_alloc (by assumption) _ | with_reducible exact held_drew (by assumption) | ((with_reducible refine held_kp ?_); (repeat (first | with_reducible assumption | with_reducible exact Kp.refl _ | with_reducible refine Kp.drew ?_ | with_reducible refine Kp.drewN ?_ _ | with_reducible refine Kp.alloc ?_ _ | ((with_reducible refine Kp.setCell ?_ ?_ _); rotate_left; (focus (first | omega | (simp; done) | (simp; omega)))) | with_reducible refine Kp.trans ?_ (by assumption))))))); clear hK K; (try simp only [Act.put, s1, s2, s3]))
  refine wpAnyH_done (by kernel_rfl) ?_ _
  clear hHd
  go_wp2_with fail
  exact ⟨rfl, rfl, (by (repeat (first | with_reducible assumption | with_reducible exact Kp.refl _ | with_reducible refine Kp.drew ?_ | with_reducible refine Kp.drewN ?_ _ | with_reducible refine Kp.alloc ?_ _ | ((with_reducible refine Kp.setCell ?_ ?_ _); rotate_left; (focus (first | omega | (simp; done) | (simp; omega)))) | with_reducible refine Kp.trans ?_ (by assumption))))⟩
set_option maxHeartbeats 2000000 in
theorem putBox_many (a : Option Addr) (n c : Nat) (w : World) (h : n ≠ 3) :
    Calls Tryd.prog 26 #[.agg #[sv wBox, .slice a n c]] w fun e w' => e = .panicked gone ∧ Kp w w' := by
  go_enter Tryd.func26, Tryd.ntmps26
  go_wp2_with fail
  refine (many_no wBox a n c 3 _ h).mono ?_
  rintro e w1 ⟨rfl, k1⟩
  have kw1 : Kp w w1 := ((by (repeat (first | with_reducible assumption | with_reducible exact Kp.refl _ | with_reducible refine Kp.drew ?_ | with_reducible refine Kp.drewN ?_ _ | with_reducible refine Kp.alloc ?_ _ | ((with_reducible refine Kp.setCell ?_ ?_ _); rotate_left; (focus (first | omega | (simp; done) | (simp; omega)))) | with_reducible refine Kp.trans ?_ (by assumption)))) : Kp w _).trans k1
  go_wp2_with fail
  exact ⟨rfl, rfl, kw1⟩
set_option maxHeartbeats 2000000 in
theorem putFloat_many (a : Option Addr) (n c : Nat) (w : World) (h : n ≠ 3) :
    Calls Tryd.prog 26 #[.agg #[sv wFloat, .slice a n c]] w fun e w' => e = .panicked gone ∧ Kp w w' := by
  go_enter Tryd.func26, Tryd.ntmps26
  go_wp2_with fail
  refine (many_no wFloat a n c 3 _ h).mono ?_
  rintro e w1 ⟨rfl, k1⟩
  have kw1 : Kp w w1 := ((by (repeat (first | with_reducible assumption | with_reducible exact Kp.refl _ | with_reducible refine Kp.drew ?_ | with_reducible refine Kp.drewN ?_ _ | with_reducible refine Kp.alloc ?_ _ | ((with_reducible refine Kp.setCell ?_ ?_ _); rotate_left; (focus (first | omega | (simp; done) | (simp; omega)))) | with_reducible refine Kp.trans ?_ (by assumption)))) : Kp w _).trans k1
  go_wp2_with fail
  exact ⟨rfl, rfl, kw1⟩
set_option maxHeartbeats 2000000 in
theorem putRule_many (a : Option Addr) (n c : Nat) (w : World) (h : n ≠ 2) :
    Calls Tryd.prog 26 #[.agg #[sv wRule, .slice a n c]] w fun e w' => e = .panicked gone ∧ Kp w w' := by
  go_enter Tryd.func26, Tryd.ntmps26
  go_wp2_with fail
  refine (many_no wRule a n c 2 _ h).mono ?_
  rintro e w1 ⟨rfl, k1⟩
  have kw1 : Kp w w1 := ((by (repeat (first | with_reducible assumption | with_reducible exact Kp.refl _ | with_reducible refine Kp.drew ?_ | with_reducible refine Kp.drewN ?_ _ | with_reducible refine Kp.alloc ?_ _ | ((with_reducible refine Kp.setCell ?_ ?_ _); rotate_left; (focus (first | omega | (simp; done) | (simp; omega)))) | with_reducible refine Kp.trans ?_ (by assumption)))) : Kp w _).trans k1
  go_wp2_with fail
  exact ⟨rfl, rfl, kw1⟩
set_option maxHeartbeats 2000000 in
theorem putLine_many (a : Option Addr) (n c : Nat) (w : World) (h : n ≠ 4) :
    Calls Tryd.prog 26 #[.agg #[sv wLine, .slice a n c]] w fun e w' => e = .panicked gone ∧ Kp w w' := by
  go_enter Tryd.func26, Tryd.ntmps26
  go_wp2_with fail
  refine (many_no wLine a n c 4 _ h).mono ?_
  rintro e w1 ⟨rfl, k1⟩
  have kw1 : Kp w w1 := ((by (repeat (first | with_reducible assumption | with_reducible exact Kp.refl _ | with_reducible refine Kp.drew ?_ | with_reducible refine Kp.drewN ?_ _ | with_reducible refine Kp.alloc ?_ _ | ((with_reducible refine Kp.setCell ?_ ?_ _); rotate_left; (focus (first | omega | (simp; done) | (simp; omega)))) | with_reducible refine Kp.trans ?_ (by assumption)))) : Kp w _).trans k1
  go_wp2_with fail
  exact ⟨rfl, rfl, kw1⟩
set_option maxHeartbeats 2000000 in
theorem putThing_many (a : Option Addr) (n c : Nat) (w : World) (h : n ≠ 5) :
    Calls Tryd.prog 26 #[.agg #[sv wThing, .slice a n c]] w fun e w' => e = .panicked gone ∧ Kp w w' := by
  go_enter Tryd.func26, Tryd.ntmps26
  go_wp2_with fail
  refine (many_no wThing a n c 5 _ h).mono ?_
  rintro e w1 ⟨rfl, k1⟩
  have kw1 : Kp w w1 := ((by (repeat (first | with_reducible assumption | with_reducible exact Kp.refl _ | with_reducible refine Kp.drew ?_ | with_reducible refine Kp.drewN ?_ _ | with_reducible refine Kp.alloc ?_ _ | ((with_reducible refine Kp.setCell ?_ ?_ _); rotate_left; (focus (first | omega | (simp; done) | (simp; omega)))) | with_reducible refine Kp.trans ?_ (by assumption)))) : Kp w _).trans k1
  go_wp2_with fail
  exact ⟨rfl, rfl, kw1⟩
set_option maxHeartbeats 2000000 in
theorem putOther_no (wd : List UInt8) (a : Option Addr) (n c : Nat) (w : World) (h1 : wd ≠ wBox) (h2 : wd ≠ wFloat) (h3 : wd ≠ wRule) (h4 : wd ≠ wLine) (h5 : wd ≠ wThing) :
    Calls Tryd.prog 26 #[.agg #[sv wd, .slice a n c]] w fun e w' => e = .panicked gone ∧ Kp w w' := by
  have e1 : (wd == [98, 111, 120]) = false := beq_eq_false_iff_ne.2 h1
  have e2 : (wd == [102, 108, 111, 97, 116]) = false := beq_eq_false_iff_ne.2 h2
  have e3 : (wd == [114, 117, 108, 101]) = false := beq_eq_false_iff_ne.2 h3
  have e4 : (wd == [108, 105, 110, 101]) = false := beq_eq_false_iff_ne.2 h4
  have e5 : (wd == [116, 104, 105, 110, 103]) = false := beq_eq_false_iff_ne.2 h5
  go_enter Tryd.func26, Tryd.ntmps26
  go_wp2_with fail
  exact ⟨rfl, rfl, (by (repeat (first | with_reducible assumption | with_reducible exact Kp.refl _ | with_reducible refine Kp.drew ?_ | with_reducible refine Kp.drewN ?_ _ | with_reducible refine Kp.alloc ?_ _ | ((with_reducible refine Kp.setCell ?_ ?_ _); rotate_left; (focus (first | omega | (simp; done) | (simp; omega)))) | with_reducible refine Kp.trans ?_ (by assumption))))⟩
end Go.Proofs.YteadhacoglcbfaaDoor
