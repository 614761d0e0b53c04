/- A galley's lines: the thing of a line. -/
import Derived.Test.YtkglkbkikgncoaaDoorG4

namespace Go.Proofs.YtkglkbkikgncoaaDoor

open Go.ChangeShapes Go.WideShapes Go.ChangeAt Go.RowKit Go.Shelf

set_option maxRecDepth 100000 in
set_option maxHeartbeats 4000000 in
theorem putBox_yes (a : Option Addr) (c : Nat) (n y x : Int) (w : World) (hl : SlOk w 1 enc1 a 3 c [n, y, x]) :
    Calls Tryd.prog 26 #[.agg #[sv wBox, .slice a 3 c]] w fun e w' => e = .returned (.agg (Put.cells ⟨1, n, 0, y, x⟩).toArray) ∧ Kp w w' := by
  have hcl := hl.2.1
  have hcm := hl.2.2.1
  unfold maxLen at hcm
  rcases hl.2.2.2 with e | ⟨ga, oa, rfl, hga, r1⟩
  · cases e
  have d0 := r1 0 _ rfl 0 _ rfl
  have d1 := r1 1 _ rfl 0 _ rfl
  have d2 := r1 2 _ rfl 0 _ rfl
  simp only [Nat.add_zero, Nat.mul_one] at d0 d1 d2
  clear hl r1
  go_enter Tryd.func26, Tryd.ntmps26
  go_wp2_with fail
  refine (many_yes wBox (some ⟨ga, oa, none⟩) 3 c _).mono ?_
  rintro e w1 ⟨rfl, k1⟩
  have kw1 : Kp w w1 := ((by (repeat (first | with_reducible assumption | with_reducible exact Kp.refl _ | with_reducible refine Kp.drew ?_ | with_reducible refine Kp.drewN ?_ _ | with_reducible refine Kp.alloc ?_ _ | ((with_reducible refine Kp.setCell ?_ ?_ _); rotate_left; (focus (first | omega | (simp; done) | (simp; omega)))) | with_reducible refine Kp.trans ?_ (by assumption)))) : Kp w _).trans k1
  have bl : Blk w1 w.heap.size [sv wBox, .slice (some ⟨ga, oa, none⟩) 3 c] 58 := Blk.kp (by (repeat (first | with_reducible assumption | ((with_reducible refine Blk.newL ?_ ?_); (focus (first | (simp; done) | omega)); rfl) | with_reducible refine Blk.drew ?_ | with_reducible refine Blk.drewN ?_ _ | with_reducible refine Blk.alloc ?_ _ | ((with_reducible refine Blk.other ?_ ?_ _); rotate_left; (focus (first | with_reducible assumption | omega | (simp; done) | (simp; omega))))))) k1
  have bp : Blk w1 (w.heap.size + 1) [.int .i64 0, .int .i64 0, .int .i64 0, .int .i64 0, .int .i64 0] 33 := Blk.kp (by (repeat (first | with_reducible assumption | ((with_reducible refine Blk.newL ?_ ?_); (focus (first | (simp; done) | omega)); rfl) | with_reducible refine Blk.drew ?_ | with_reducible refine Blk.drewN ?_ _ | with_reducible refine Blk.alloc ?_ _ | ((with_reducible refine Blk.other ?_ ?_ _); rotate_left; (focus (first | with_reducible assumption | omega | (simp; done) | (simp; omega))))))) k1
  have bl0 := bl.cell 0 rfl
  have f0 := bp.free 0
  have z0 := bp.cell 0 rfl
  have f1 := bp.free 1
  have z1 := bp.cell 1 rfl
  have f2 := bp.free 2
  have z2 := bp.cell 2 rfl
  have f3 := bp.free 3
  have z3 := bp.cell 3 rfl
  have f4 := bp.free 4
  have z4 := bp.cell 4 rfl
  clear k1
  go_wp2_with fail
  (refine wp_region_held_drew (S := (fun w' => (∀ b o, b < w.heap.size → w'.cell? ⟨b, o, none⟩ = w.cell? ⟨b, o, none⟩) ∧ Kp w w')) (by kernel_rfl) ?_ (fun hHd => ?_); (focus ((try dsimp only); (first | with_reducible assumption | with_reducible exact held_start _ | with_reducible exact held_next (by assumption) (by assumption) | with_reducible exact held_alloc (by assumption) _ | with_reducible exact held_drew (by assumption) | ((with_reducible refine held_kp ?_); (repeat (first | with_reducible assumption | with_reducible exact Kp.refl _ | with_reducible refine Kp.drew ?_ | with_reducible refine Kp.drewN ?_ _ | with_reducible refine Kp.alloc ?_ _ | ((with_reducible refine Kp.setCell ?_ ?_ _); rotate_left; (focus (first | omega | (simp; done) | (simp; omega)))) | with_reducible refine Kp.trans ?_ (by assumption))))))))
  (refine takeH (i := 0) (oi := ?o164) (v := ?v164) ?h164 (by kernel_rfl) ?q164 (Or.inl ⟨?w164, ?y164⟩) (by assumption) ?r164; (case h164 => ((simp only [g1, g3]); rfl)); (case q164 => exact fun _ _ _ h => h); (case w164 => rfl); (case y164 => (intro w' hSw; (try dsimp only at hSw); go_simp; (try with_reducible rfl))); (try simp only [Act.put, s1, s2, s3]))
  (refine takeH (i := 1) (oi := ?o165) (v := ?v165) ?h165 (by kernel_rfl) ?q165 (Or.inl ⟨?w165, ?y165⟩) (by assumption) ?r165; (case h165 => ((simp only [g1, g2, g3]); rfl)); (case q165 => exact fun _ _ _ h => h); (case w165 => rfl); (case y165 => (intro w' hSw; (try dsimp only at hSw); go_simp; (try with_reducible rfl))); (try simp only [Act.put, s1, s2, s3]))
  (refine takeH (i := 2) (oi := ?o166) (v := ?v166) ?h166 (by kernel_rfl) ?q166 (Or.inl ⟨?w166, ?y166⟩) (by assumption) ?r166; (case h166 => ((simp only [g1, g2, g3]); rfl)); (case q166 => exact fun _ _ _ h => h); (case w166 => rfl); (case y166 => (intro w' hSw; (try dsimp only at hSw); go_simp; (try with_reducible rfl))); (try simp only [Act.put, s1, s2, s3]))
  (refine takeH (i := 3) (oi := ?o167) (v := ?v167) ?h167 (by kernel_rfl) ?q167 (Or.inl ⟨?w167, ?y167⟩) (by assumption) ?r167; (case h167 => ((simp only [g1, g2, g3]); rfl)); (case q167 => exact fun _ _ _ h => h); (case w167 => rfl); (case y167 => (intro w' hSw; (try dsimp only at hSw); go_simp; (try with_reducible rfl))); (try simp only [Act.put, s1, s2, s3]))
  (refine takeH (i := 4) (oi := ?o168) (v := ?v168) ?h168 (by kernel_rfl) ?q168 (Or.inl ⟨?w168, ?y168⟩) (by assumption) ?r168; (case h168 => ((simp only [g1, g2, g3]); rfl)); (case q168 => exact fun _ _ _ h => h); (case w168 => rfl); (case y168 => (intro w' hSw; (try dsimp only at hSw); go_simp; (try with_reducible rfl))); (try simp only [Act.put, s1, s2, s3]))
  (refine takeH (i := 5) (oi := ?o169) (v := ?v169) ?h169 (by kernel_rfl) ?q169 (Or.inl ⟨?w169, ?y169⟩) (by assumption) ?r169; (case h169 => ((simp only [g1, g2, g3]); rfl)); (case q169 => exact fun _ _ _ h => h); (case w169 => rfl); (case y169 => (intro w' hSw; (try dsimp only at hSw); go_simp; (try with_reducible rfl))); (try simp only [Act.put, s1, s2, s3]))
  (refine takeH (i := 6) (oi := ?o170) (v := ?v170) ?h170 (by kernel_rfl) ?q170 (Or.inl ⟨?w170, ?y170⟩) (by assumption) ?r170; (case h170 => ((simp only [g1, g2, g3]); rfl)); (case q170 => exact fun _ _ _ h => h); (case w170 => rfl); (case y170 => (intro w' hSw; (try dsimp only at hSw); go_simp; (try with_reducible rfl))); (try simp only [Act.put, s1, s2, s3]))
  (refine takeH (i := 7) (oi := ?o171) (v := ?v171) ?h171 (by kernel_rfl) ?q171 (Or.inl ⟨?w171, ?y171⟩) (by assumption) ?r171; (case h171 => ((simp only [g1, g2, g3]); rfl)); (case q171 => exact fun _ _ _ h => h); (case w171 => rfl); (case y171 => (intro w' hSw; (try dsimp only at hSw); go_simp; (try with_reducible rfl))); (try simp only [Act.put, s1, s2, s3]))
  (refine takeH (i := 8) (oi := ?o172) (v := ?v172) ?h172 (by kernel_rfl) ?q172 (Or.inl ⟨?w172, ?y172⟩) (by assumption) ?r172; (case h172 => ((simp only [g1, g2, g3]); rfl)); (case q172 => exact fun _ _ _ h => h); (case w172 => rfl); (case y172 => (intro w' hSw; (try dsimp only at hSw); go_simp; (try with_reducible rfl))); (try simp only [Act.put, s1, s2, s3]))
  (refine takeH (i := 9) (oi := ?o173) (v := ?v173) ?h173 (by kernel_rfl) ?q173 (Or.inl ⟨?w173, ?y173⟩) (by assumption) ?r173; (case h173 => ((simp only [g1, g2, g3]); rfl)); (case q173 => exact fun _ _ _ h => h); (case w173 => rfl); (case y173 => (intro w' hSw; (try dsimp only at hSw); go_simp; (try with_reducible rfl))); (try simp only [Act.put, s1, s2, s3]))
  (refine wpAnyH_ready (rs := [10]) (by kernel_rfl) (by simp) ?_; refine AllReadyH.cons (o := ?o174) ?h174 (fun K hK => ?s174) AllReadyH.nil; (case h174 => (first | ((simp only [g1, g2, g3]); rfl) | rfl)); go_simp; (try dsimp only); refine hK.out _ _ ?_ (fun hHd => ?_); (focus ((try dsimp only); (first | with_reducible assumption | with_reducible exact held_start _ | with_reducible exact held_next (by assumption) (by assumption) | with_reducible exact held_alloc (by assumption) _ | with_reducible exact held_drew (by assumption) | ((with_reducible refine held_kp ?_); (repeat (first | with_reducible assumption | with_reducible exact Kp.refl _ | with_reducible refine Kp.drew ?_ | with_reducible refine Kp.drewN ?_ _ | with_reducible refine Kp.alloc ?_ _ | ((with_reducible refine Kp.setCell ?_ ?_ _); rotate_left; (focus (first | omega | (simp; done) | (simp; omega)))) | with_reducible refine Kp.trans ?_ (by assumption))))))); clear hK K; (try simp only [Act.put, s1, s2, s3]))
  (refine wpAnyH_ready (rs := [11]) (by kernel_rfl) (by simp) ?_; refine AllReadyH.cons (o := ?o175) ?h175 (fun K hK => ?s175) AllReadyH.nil; (case h175 => (first | ((simp only [g1, g2, g3]); rfl) | rfl)); go_simp; (try dsimp only); refine hK.out _ _ ?_ (fun hHd => ?_); (focus ((try dsimp only); (first | with_reducible assumption | with_reducible exact held_start _ | with_reducible exact held_next (by assumption) (by assumption) | with_reducible exact held_alloc (by assumption) _ | with_reducible exact held_drew (by assumption) | ((with_reducible refine held_kp ?_); (repeat (first | with_reducible assumption | with_reducible exact Kp.refl _ | with_reducible refine Kp.drew ?_ | with_reducible refine Kp.drewN ?_ _ | with_reducible refine Kp.alloc ?_ _ | ((with_reducible refine Kp.setCell ?_ ?_ _); rotate_left; (focus (first | omega | (simp; done) | (simp; omega)))) | with_reducible refine Kp.trans ?_ (by assumption))))))); clear hK K; (try simp only [Act.put, s1, s2, s3]))
  refine wpAnyH_done (by kernel_rfl) ?_ _
  clear hHd
  have bl2 := (bl.alloc (.cells #[.int .i64 1, .int .i64 n, .int .i64 0, .int .i64 y, .int .i64 x] 33)).cell 0 rfl
  clear bl0
  have bp2 : Blk _ (w.heap.size + 1) _ _ := bp.alloc (.cells #[.int .i64 1, .int .i64 n, .int .i64 0, .int .i64 y, .int .i64 x] 33)
  clear f0 z0 f1 z1 f2 z2 f3 z3 f4 z4
  have f0 := bp2.free 0
  have z0 := bp2.cell 0 rfl
  have f1 := bp2.free 1
  have z1 := bp2.cell 1 rfl
  have f2 := bp2.free 2
  have z2 := bp2.cell 2 rfl
  have f3 := bp2.free 3
  have z3 := bp2.cell 3 rfl
  have f4 := bp2.free 4
  have z4 := bp2.cell 4 rfl
  go_wp2_with fail
  have zz := (((((bp2.set 0 (.int .i64 1)).set 1 (.int .i64 n)).set 2 (.int .i64 0)).set 3 (.int .i64 y)).set 4 (.int .i64 x)).drew
  have q0 := zz.cell 0 rfl
  have q1 := zz.cell 1 rfl
  have q2 := zz.cell 2 rfl
  have q3 := zz.cell 3 rfl
  have q4 := zz.cell 4 rfl
  clear z0 z1 z2 z3 z4
  refine bodyPost_ret (v := .agg #[.int .i64 1, .int .i64 n, .int .i64 0, .int .i64 y, .int .i64 x]) (by simp [results, Tryd.results26, go_sem, q0, q1, q2, q3, q4]) rfl ?_
  exact ⟨rfl, (by (repeat (first | with_reducible assumption | with_reducible exact Kp.refl _ | with_reducible refine Kp.drew ?_ | with_reducible refine Kp.drewN ?_ _ | with_reducible refine Kp.alloc ?_ _ | ((with_reducible refine Kp.setCell ?_ ?_ _); rotate_left; (focus (first | omega | (simp; done) | (simp; omega)))) | with_reducible refine Kp.trans ?_ (by assumption))))⟩
set_option maxRecDepth 100000 in
set_option maxHeartbeats 4000000 in
theorem putFloat_yes (a : Option Addr) (c : Nat) (n y x : Int) (w : World) (hl : SlOk w 1 enc1 a 3 c [n, y, x]) :
    Calls Tryd.prog 26 #[.agg #[sv wFloat, .slice a 3 c]] w fun e w' => e = .returned (.agg (Put.cells ⟨2, n, 0, y, x⟩).toArray) ∧ Kp w w' := by
  have hcl := hl.2.1
  have hcm := hl.2.2.1
  unfold maxLen at hcm
  rcases hl.2.2.2 with e | ⟨ga, oa, rfl, hga, r1⟩
  · cases e
  have d0 := r1 0 _ rfl 0 _ rfl
  have d1 := r1 1 _ rfl 0 _ rfl
  have d2 := r1 2 _ rfl 0 _ rfl
  simp only [Nat.add_zero, Nat.mul_one] at d0 d1 d2
  clear hl r1
  go_enter Tryd.func26, Tryd.ntmps26
  go_wp2_with fail
  refine (many_yes wFloat (some ⟨ga, oa, none⟩) 3 c _).mono ?_
  rintro e w1 ⟨rfl, k1⟩
  have kw1 : Kp w w1 := ((by (repeat (first | with_reducible assumption | with_reducible exact Kp.refl _ | with_reducible refine Kp.drew ?_ | with_reducible refine Kp.drewN ?_ _ | with_reducible refine Kp.alloc ?_ _ | ((with_reducible refine Kp.setCell ?_ ?_ _); rotate_left; (focus (first | omega | (simp; done) | (simp; omega)))) | with_reducible refine Kp.trans ?_ (by assumption)))) : Kp w _).trans k1
  have bl : Blk w1 w.heap.size [sv wFloat, .slice (some ⟨ga, oa, none⟩) 3 c] 58 := Blk.kp (by (repeat (first | with_reducible assumption | ((with_reducible refine Blk.newL ?_ ?_); (focus (first | (simp; done) | omega)); rfl) | with_reducible refine Blk.drew ?_ | with_reducible refine Blk.drewN ?_ _ | with_reducible refine Blk.alloc ?_ _ | ((with_reducible refine Blk.other ?_ ?_ _); rotate_left; (focus (first | with_reducible assumption | omega | (simp; done) | (simp; omega))))))) k1
  have bp : Blk w1 (w.heap.size + 1) [.int .i64 0, .int .i64 0, .int .i64 0, .int .i64 0, .int .i64 0] 33 := Blk.kp (by (repeat (first | with_reducible assumption | ((with_reducible refine Blk.newL ?_ ?_); (focus (first | (simp; done) | omega)); rfl) | with_reducible refine Blk.drew ?_ | with_reducible refine Blk.drewN ?_ _ | with_reducible refine Blk.alloc ?_ _ | ((with_reducible refine Blk.other ?_ ?_ _); rotate_left; (focus (first | with_reducible assumption | omega | (simp; done) | (simp; omega))))))) k1
  have bl0 := bl.cell 0 rfl
  have f0 := bp.free 0
  have z0 := bp.cell 0 rfl
  have f1 := bp.free 1
  have z1 := bp.cell 1 rfl
  have f2 := bp.free 2
  have z2 := bp.cell 2 rfl
  have f3 := bp.free 3
  have z3 := bp.cell 3 rfl
  have f4 := bp.free 4
  have z4 := bp.cell 4 rfl
  clear k1
  go_wp2_with fail
  (refine wp_region_held_drew (S := (fun w' => (∀ b o, b < w.heap.size → w'.cell? ⟨b, o, none⟩ = w.cell? ⟨b, o, none⟩) ∧ Kp w w')) (by kernel_rfl) ?_ (fun hHd => ?_); (focus ((try dsimp only); (first | with_reducible assumption | with_reducible exact held_start _ | with_reducible exact held_next (by assumption) (by assumption) | with_reducible exact held_alloc (by assumption) _ | with_reducible exact held_drew (by assumption) | ((with_reducible refine held_kp ?_); (repeat (first | with_reducible assumption | with_reducible exact Kp.refl _ | with_reducible refine Kp.drew ?_ | with_reducible refine Kp.drewN ?_ _ | with_reducible refine Kp.alloc ?_ _ | ((with_reducible refine Kp.setCell ?_ ?_ _); rotate_left; (focus (first | omega | (simp; done) | (simp; omega)))) | with_reducible refine Kp.trans ?_ (by assumption))))))))
  (refine takeH (i := 0) (oi := ?o176) (v := ?v176) ?h176 (by kernel_rfl) ?q176 (Or.inl ⟨?w176, ?y176⟩) (by assumption) ?r176; (case h176 => ((simp only [g1, g3]); rfl)); (case q176 => exact fun _ _ _ h => h); (case w176 => rfl); (case y176 => (intro w' hSw; (try dsimp only at hSw); go_simp; (try with_reducible rfl))); (try simp only [Act.put, s1, s2, s3]))
  (refine takeH (i := 1) (oi := ?o177) (v := ?v177) ?h177 (by kernel_rfl) ?q177 (Or.inl ⟨?w177, ?y177⟩) (by assumption) ?r177; (case h177 => ((simp only [g1, g2, g3]); rfl)); (case q177 => exact fun _ _ _ h => h); (case w177 => rfl); (case y177 => (intro w' hSw; (try dsimp only at hSw); go_simp; (try with_reducible rfl))); (try simp only [Act.put, s1, s2, s3]))
  (refine takeH (i := 2) (oi := ?o178) (v := ?v178) ?h178 (by kernel_rfl) ?q178 (Or.inl ⟨?w178, ?y178⟩) (by assumption) ?r178; (case h178 => ((simp only [g1, g2, g3]); rfl)); (case q178 => exact fun _ _ _ h => h); (case w178 => rfl); (case y178 => (intro w' hSw; (try dsimp only at hSw); go_simp; (try with_reducible rfl))); (try simp only [Act.put, s1, s2, s3]))
  (refine takeH (i := 3) (oi := ?o179) (v := ?v179) ?h179 (by kernel_rfl) ?q179 (Or.inl ⟨?w179, ?y179⟩) (by assumption) ?r179; (case h179 => ((simp only [g1, g2, g3]); rfl)); (case q179 => exact fun _ _ _ h => h); (case w179 => rfl); (case y179 => (intro w' hSw; (try dsimp only at hSw); go_simp; (try with_reducible rfl))); (try simp only [Act.put, s1, s2, s3]))
  (refine takeH (i := 4) (oi := ?o180) (v := ?v180) ?h180 (by kernel_rfl) ?q180 (Or.inl ⟨?w180, ?y180⟩) (by assumption) ?r180; (case h180 => ((simp only [g1, g2, g3]); rfl)); (case q180 => exact fun _ _ _ h => h); (case w180 => rfl); (case y180 => (intro w' hSw; (try dsimp only at hSw); go_simp; (try with_reducible rfl))); (try simp only [Act.put, s1, s2, s3]))
  (refine takeH (i := 5) (oi := ?o181) (v := ?v181) ?h181 (by kernel_rfl) ?q181 (Or.inl ⟨?w181, ?y181⟩) (by assumption) ?r181; (case h181 => ((simp only [g1, g2, g3]); rfl)); (case q181 => exact fun _ _ _ h => h); (case w181 => rfl); (case y181 => (intro w' hSw; (try dsimp only at hSw); go_simp; (try with_reducible rfl))); (try simp only [Act.put, s1, s2, s3]))
  (refine takeH (i := 6) (oi := ?o182) (v := ?v182) ?h182 (by kernel_rfl) ?q182 (Or.inl ⟨?w182, ?y182⟩) (by assumption) ?r182; (case h182 => ((simp only [g1, g2, g3]); rfl)); (case q182 => exact fun _ _ _ h => h); (case w182 => rfl); (case y182 => (intro w' hSw; (try dsimp only at hSw); go_simp; (try with_reducible rfl))); (try simp only [Act.put, s1, s2, s3]))
  (refine takeH (i := 7) (oi := ?o183) (v := ?v183) ?h183 (by kernel_rfl) ?q183 (Or.inl ⟨?w183, ?y183⟩) (by assumption) ?r183; (case h183 => ((simp only [g1, g2, g3]); rfl)); (case q183 => exact fun _ _ _ h => h); (case w183 => rfl); (case y183 => (intro w' hSw; (try dsimp only at hSw); go_simp; (try with_reducible rfl))); (try simp only [Act.put, s1, s2, s3]))
  (refine takeH (i := 8) (oi := ?o184) (v := ?v184) ?h184 (by kernel_rfl) ?q184 (Or.inl ⟨?w184, ?y184⟩) (by assumption) ?r184; (case h184 => ((simp only [g1, g2, g3]); rfl)); (case q184 => exact fun _ _ _ h => h); (case w184 => rfl); (case y184 => (intro w' hSw; (try dsimp only at hSw); go_simp; (try with_reducible rfl))); (try simp only [Act.put, s1, s2, s3]))
  (refine takeH (i := 9) (oi := ?o185) (v := ?v185) ?h185 (by kernel_rfl) ?q185 (Or.inl ⟨?w185, ?y185⟩) (by assumption) ?r185; (case h185 => ((simp only [g1, g2, g3]); rfl)); (case q185 => exact fun _ _ _ h => h); (case w185 => rfl); (case y185 => (intro w' hSw; (try dsimp only at hSw); go_simp; (try with_reducible rfl))); (try simp only [Act.put, s1, s2, s3]))
  (refine wpAnyH_ready (rs := [10]) (by kernel_rfl) (by simp) ?_; refine AllReadyH.cons (o := ?o186) ?h186 (fun K hK => ?s186) AllReadyH.nil; (case h186 => (first | ((simp only [g1, g2, g3]); rfl) | rfl)); go_simp; (try dsimp only); refine hK.out _ _ ?_ (fun hHd => ?_); (focus ((try dsimp only); (first | with_reducible assumption | with_reducible exact held_start _ | with_reducible exact held_next (by assumption) (by assumption) | with_reducible exact held_alloc (by assumption) _ | with_reducible exact held_drew (by assumption) | ((with_reducible refine held_kp ?_); (repeat (first | with_reducible assumption | with_reducible exact Kp.refl _ | with_reducible refine Kp.drew ?_ | with_reducible refine Kp.drewN ?_ _ | with_reducible refine Kp.alloc ?_ _ | ((with_reducible refine Kp.setCell ?_ ?_ _); rotate_left; (focus (first | omega | (simp; done) | (simp; omega)))) | with_reducible refine Kp.trans ?_ (by assumption))))))); clear hK K; (try simp only [Act.put, s1, s2, s3]))
  (refine wpAnyH_ready (rs := [11]) (by kernel_rfl) (by simp) ?_; refine AllReadyH.cons (o := ?o187) ?h187 (fun K hK => ?s187) AllReadyH.nil; (case h187 => (first | ((simp only [g1, g2, g3]); rfl) | rfl)); go_simp; (try dsimp only); refine hK.out _ _ ?_ (fun hHd => ?_); (focus ((try dsimp only); (first | with_reducible assumption | with_reducible exact held_start _ | with_reducible exact held_next (by assumption) (by assumption) | with_reducible exact held_alloc (by assumption) _ | with_reducible exact held_drew (by assumption) | ((with_reducible refine held_kp ?_); (repeat (first | with_reducible assumption | with_reducible exact Kp.refl _ | with_reducible refine Kp.drew ?_ | with_reducible refine Kp.drewN ?_ _ | with_reducible refine Kp.alloc ?_ _ | ((with_reducible refine Kp.setCell ?_ ?_ _); rotate_left; (focus (first | omega | (simp; done) | (simp; omega)))) | with_reducible refine Kp.trans ?_ (by assumption))))))); clear hK K; (try simp only [Act.put, s1, s2, s3]))
  refine wpAnyH_done (by kernel_rfl) ?_ _
  clear hHd
  have bl2 := (bl.alloc (.cells #[.int .i64 1, .int .i64 n, .int .i64 0, .int .i64 y, .int .i64 x] 33)).cell 0 rfl
  clear bl0
  have bp2 : Blk _ (w.heap.size + 1) _ _ := bp.alloc (.cells #[.int .i64 2, .int .i64 n, .int .i64 0, .int .i64 y, .int .i64 x] 33)
  clear f0 z0 f1 z1 f2 z2 f3 z3 f4 z4
  have f0 := bp2.free 0
  have z0 := bp2.cell 0 rfl
  have f1 := bp2.free 1
  have z1 := bp2.cell 1 rfl
  have f2 := bp2.free 2
  have z2 := bp2.cell 2 rfl
  have f3 := bp2.free 3
  have z3 := bp2.cell 3 rfl
  have f4 := bp2.free 4
  have z4 := bp2.cell 4 rfl
  go_wp2_with fail
  have zz := (((((bp2.set 0 (.int .i64 2)).set 1 (.int .i64 n)).set 2 (.int .i64 0)).set 3 (.int .i64 y)).set 4 (.int .i64 x)).drew
  have q0 := zz.cell 0 rfl
  have q1 := zz.cell 1 rfl
  have q2 := zz.cell 2 rfl
  have q3 := zz.cell 3 rfl
  have q4 := zz.cell 4 rfl
  clear z0 z1 z2 z3 z4
  refine bodyPost_ret (v := .agg #[.int .i64 2, .int .i64 n, .int .i64 0, .int .i64 y, .int .i64 x]) (by simp [results, Tryd.results26, go_sem, q0, q1, q2, q3, q4]) rfl ?_
  exact ⟨rfl, (by (repeat (first | with_reducible assumption | with_reducible exact Kp.refl _ | with_reducible refine Kp.drew ?_ | with_reducible refine Kp.drewN ?_ _ | with_reducible refine Kp.alloc ?_ _ | ((with_reducible refine Kp.setCell ?_ ?_ _); rotate_left; (focus (first | omega | (simp; done) | (simp; omega)))) | with_reducible refine Kp.trans ?_ (by assumption))))⟩
set_option maxRecDepth 100000 in
set_option maxHeartbeats 4000000 in
theorem putRule_yes (a : Option Addr) (c : Nat) (y x : Int) (w : World) (hl : SlOk w 1 enc1 a 2 c [y, x]) :
    Calls Tryd.prog 26 #[.agg #[sv wRule, .slice a 2 c]] w fun e w' => e = .returned (.agg (Put.cells ⟨3, 0, 0, y, x⟩).toArray) ∧ Kp w w' := by
  have hcl := hl.2.1
  have hcm := hl.2.2.1
  unfold maxLen at hcm
  rcases hl.2.2.2 with e | ⟨ga, oa, rfl, hga, r1⟩
  · cases e
  have d0 := r1 0 _ rfl 0 _ rfl
  have d1 := r1 1 _ rfl 0 _ rfl
  simp only [Nat.add_zero, Nat.mul_one] at d0 d1
  clear hl r1
  go_enter Tryd.func26, Tryd.ntmps26
  go_wp2_with fail
  refine (many_yes wRule (some ⟨ga, oa, none⟩) 2 c _).mono ?_
  rintro e w1 ⟨rfl, k1⟩
  have kw1 : Kp w w1 := ((by (repeat (first | with_reducible assumption | with_reducible exact Kp.refl _ | with_reducible refine Kp.drew ?_ | with_reducible refine Kp.drewN ?_ _ | with_reducible refine Kp.alloc ?_ _ | ((with_reducible refine Kp.setCell ?_ ?_ _); rotate_left; (focus (first | omega | (simp; done) | (simp; omega)))) | with_reducible refine Kp.trans ?_ (by assumption)))) : Kp w _).trans k1
  have bl : Blk w1 w.heap.size [sv wRule, .slice (some ⟨ga, oa, none⟩) 2 c] 58 := Blk.kp (by (repeat (first | with_reducible assumption | ((with_reducible refine Blk.newL ?_ ?_); (focus (first | (simp; done) | omega)); rfl) | with_reducible refine Blk.drew ?_ | with_reducible refine Blk.drewN ?_ _ | with_reducible refine Blk.alloc ?_ _ | ((with_reducible refine Blk.other ?_ ?_ _); rotate_left; (focus (first | with_reducible assumption | omega | (simp; done) | (simp; omega))))))) k1
  have bp : Blk w1 (w.heap.size + 1) [.int .i64 0, .int .i64 0, .int .i64 0, .int .i64 0, .int .i64 0] 33 := Blk.kp (by (repeat (first | with_reducible assumption | ((with_reducible refine Blk.newL ?_ ?_); (focus (first | (simp; done) | omega)); rfl) | with_reducible refine Blk.drew ?_ | with_reducible refine Blk.drewN ?_ _ | with_reducible refine Blk.alloc ?_ _ | ((with_reducible refine Blk.other ?_ ?_ _); rotate_left; (focus (first | with_reducible assumption | omega | (simp; done) | (simp; omega))))))) k1
  have bl0 := bl.cell 0 rfl
  have f0 := bp.free 0
  have z0 := bp.cell 0 rfl
  have f1 := bp.free 1
  have z1 := bp.cell 1 rfl
  have f2 := bp.free 2
  have z2 := bp.cell 2 rfl
  have f3 := bp.free 3
  have z3 := bp.cell 3 rfl
  have f4 := bp.free 4
  have z4 := bp.cell 4 rfl
  clear k1
  go_wp2_with fail
  (refine wp_region_held_drew (S := (fun w' => (∀ b o, b < w.heap.size → w'.cell? ⟨b, o, none⟩ = w.cell? ⟨b, o, none⟩) ∧ Kp w w')) (by kernel_rfl) ?_ (fun hHd => ?_); (focus ((try dsimp only); (first | with_reducible assumption | with_reducible exact held_start _ | with_reducible exact held_next (by assumption) (by assumption) | with_reducible exact held_alloc (by assumption) _ | with_reducible exact held_drew (by assumption) | ((with_reducible refine held_kp ?_); (repeat (first | with_reducible assumption | with_reducible exact Kp.refl _ | with_reducible refine Kp.drew ?_ | with_reducible refine Kp.drewN ?_ _ | with_reducible refine Kp.alloc ?_ _ | ((with_reducible refine Kp.setCell ?_ ?_ _); rotate_left; (focus (first | omega | (simp; done) | (simp; omega)))) | with_reducible refine Kp.trans ?_ (by assumption))))))))
  (refine takeH (i := 0) (oi := ?o188) (v := ?v188) ?h188 (by kernel_rfl) ?q188 (Or.inl ⟨?w188, ?y188⟩) (by assumption) ?r188; (case h188 => ((simp only [g1, g3]); rfl)); (case q188 => exact fun _ _ _ h => h); (case w188 => rfl); (case y188 => (intro w' hSw; (try dsimp only at hSw); go_simp; (try with_reducible rfl))); (try simp only [Act.put, s1, s2, s3]))
  (refine takeH (i := 1) (oi := ?o189) (v := ?v189) ?h189 (by kernel_rfl) ?q189 (Or.inl ⟨?w189, ?y189⟩) (by assumption) ?r189; (case h189 => ((simp only [g1, g2, g3]); rfl)); (case q189 => exact fun _ _ _ h => h); (case w189 => rfl); (case y189 => (intro w' hSw; (try dsimp only at hSw); go_simp; (try with_reducible rfl))); (try simp only [Act.put, s1, s2, s3]))
  (refine takeH (i := 2) (oi := ?o190) (v := ?v190) ?h190 (by kernel_rfl) ?q190 (Or.inl ⟨?w190, ?y190⟩) (by assumption) ?r190; (case h190 => ((simp only [g1, g2, g3]); rfl)); (case q190 => exact fun _ _ _ h => h); (case w190 => rfl); (case y190 => (intro w' hSw; (try dsimp only at hSw); go_simp; (try with_reducible rfl))); (try simp only [Act.put, s1, s2, s3]))
  (refine takeH (i := 3) (oi := ?o191) (v := ?v191) ?h191 (by kernel_rfl) ?q191 (Or.inl ⟨?w191, ?y191⟩) (by assumption) ?r191; (case h191 => ((simp only [g1, g2, g3]); rfl)); (case q191 => exact fun _ _ _ h => h); (case w191 => rfl); (case y191 => (intro w' hSw; (try dsimp only at hSw); go_simp; (try with_reducible rfl))); (try simp only [Act.put, s1, s2, s3]))
  (refine takeH (i := 4) (oi := ?o192) (v := ?v192) ?h192 (by kernel_rfl) ?q192 (Or.inl ⟨?w192, ?y192⟩) (by assumption) ?r192; (case h192 => ((simp only [g1, g2, g3]); rfl)); (case q192 => exact fun _ _ _ h => h); (case w192 => rfl); (case y192 => (intro w' hSw; (try dsimp only at hSw); go_simp; (try with_reducible rfl))); (try simp only [Act.put, s1, s2, s3]))
  (refine takeH (i := 5) (oi := ?o193) (v := ?v193) ?h193 (by kernel_rfl) ?q193 (Or.inl ⟨?w193, ?y193⟩) (by assumption) ?r193; (case h193 => ((simp only [g1, g2, g3]); rfl)); (case q193 => exact fun _ _ _ h => h); (case w193 => rfl); (case y193 => (intro w' hSw; (try dsimp only at hSw); go_simp; (try with_reducible rfl))); (try simp only [Act.put, s1, s2, s3]))
  (refine takeH (i := 6) (oi := ?o194) (v := ?v194) ?h194 (by kernel_rfl) ?q194 (Or.inl ⟨?w194, ?y194⟩) (by assumption) ?r194; (case h194 => ((simp only [g1, g2, g3]); rfl)); (case q194 => exact fun _ _ _ h => h); (case w194 => rfl); (case y194 => (intro w' hSw; (try dsimp only at hSw); go_simp; (try with_reducible rfl))); (try simp only [Act.put, s1, s2, s3]))
  (refine wpAnyH_ready (rs := [7]) (by kernel_rfl) (by simp) ?_; refine AllReadyH.cons (o := ?o195) ?h195 (fun K hK => ?s195) AllReadyH.nil; (case h195 => (first | ((simp only [g1, g2, g3]); rfl) | rfl)); go_simp; (try dsimp only); refine hK.out _ _ ?_ (fun hHd => ?_); (focus ((try dsimp only); (first | with_reducible assumption | with_reducible exact held_start _ | with_reducible exact held_next (by assumption) (by assumption) | with_reducible exact held_alloc (by assumption) _ | with_reducible exact held_drew (by assumption) | ((with_reducible refine held_kp ?_); (repeat (first | with_reducible assumption | with_reducible exact Kp.refl _ | with_reducible refine Kp.drew ?_ | with_reducible refine Kp.drewN ?_ _ | with_reducible refine Kp.alloc ?_ _ | ((with_reducible refine Kp.setCell ?_ ?_ _); rotate_left; (focus (first | omega | (simp; done) | (simp; omega)))) | with_reducible refine Kp.trans ?_ (by assumption))))))); clear hK K; (try simp only [Act.put, s1, s2, s3]))
  refine wpAnyH_done (by kernel_rfl) ?_ _
  clear hHd
  go_wp2_with fail
  have zz := (((((bp.set 0 (.int .i64 3)).set 1 (.int .i64 0)).set 2 (.int .i64 0)).set 3 (.int .i64 y)).set 4 (.int .i64 x)).drew
  have q0 := zz.cell 0 rfl
  have q1 := zz.cell 1 rfl
  have q2 := zz.cell 2 rfl
  have q3 := zz.cell 3 rfl
  have q4 := zz.cell 4 rfl
  clear z0 z1 z2 z3 z4
  refine bodyPost_ret (v := .agg #[.int .i64 3, .int .i64 0, .int .i64 0, .int .i64 y, .int .i64 x]) (by simp [results, Tryd.results26, go_sem, q0, q1, q2, q3, q4]) rfl ?_
  exact ⟨rfl, (by (repeat (first | with_reducible assumption | with_reducible exact Kp.refl _ | with_reducible refine Kp.drew ?_ | with_reducible refine Kp.drewN ?_ _ | with_reducible refine Kp.alloc ?_ _ | ((with_reducible refine Kp.setCell ?_ ?_ _); rotate_left; (focus (first | omega | (simp; done) | (simp; omega)))) | with_reducible refine Kp.trans ?_ (by assumption))))⟩
set_option maxRecDepth 100000 in
set_option maxHeartbeats 4000000 in
theorem putLine_yes (a : Option Addr) (c : Nat) (n l y x : Int) (w : World) (hl : SlOk w 1 enc1 a 4 c [n, l, y, x]) :
    Calls Tryd.prog 26 #[.agg #[sv wLine, .slice a 4 c]] w fun e w' => e = .returned (.agg (Put.cells ⟨4, n, l, y, x⟩).toArray) ∧ Kp w w' := by
  have hcl := hl.2.1
  have hcm := hl.2.2.1
  unfold maxLen at hcm
  rcases hl.2.2.2 with e | ⟨ga, oa, rfl, hga, r1⟩
  · cases e
  have d0 := r1 0 _ rfl 0 _ rfl
  have d1 := r1 1 _ rfl 0 _ rfl
  have d2 := r1 2 _ rfl 0 _ rfl
  have d3 := r1 3 _ rfl 0 _ rfl
  simp only [Nat.add_zero, Nat.mul_one] at d0 d1 d2 d3
  clear hl r1
  go_enter Tryd.func26, Tryd.ntmps26
  go_wp2_with fail
  refine (many_yes wLine (some ⟨ga, oa, none⟩) 4 c _).mono ?_
  rintro e w1 ⟨rfl, k1⟩
  have kw1 : Kp w w1 := ((by (repeat (first | with_reducible assumption | with_reducible exact Kp.refl _ | with_reducible refine Kp.drew ?_ | with_reducible refine Kp.drewN ?_ _ | with_reducible refine Kp.alloc ?_ _ | ((with_reducible refine Kp.setCell ?_ ?_ _); rotate_left; (focus (first | omega | (simp; done) | (simp; omega)))) | with_reducible refine Kp.trans ?_ (by assumption)))) : Kp w _).trans k1
  have bl : Blk w1 w.heap.size [sv wLine, .slice (some ⟨ga, oa, none⟩) 4 c] 58 := Blk.kp (by (repeat (first | with_reducible assumption | ((with_reducible refine Blk.newL ?_ ?_); (focus (first | (simp; done) | omega)); rfl) | with_reducible refine Blk.drew ?_ | with_reducible refine Blk.drewN ?_ _ | with_reducible refine Blk.alloc ?_ _ | ((with_reducible refine Blk.other ?_ ?_ _); rotate_left; (focus (first | with_reducible assumption | omega | (simp; done) | (simp; omega))))))) k1
  have bp : Blk w1 (w.heap.size + 1) [.int .i64 0, .int .i64 0, .int .i64 0, .int .i64 0, .int .i64 0] 33 := Blk.kp (by (repeat (first | with_reducible assumption | ((with_reducible refine Blk.newL ?_ ?_); (focus (first | (simp; done) | omega)); rfl) | with_reducible refine Blk.drew ?_ | with_reducible refine Blk.drewN ?_ _ | with_reducible refine Blk.alloc ?_ _ | ((with_reducible refine Blk.other ?_ ?_ _); rotate_left; (focus (first | with_reducible assumption | omega | (simp; done) | (simp; omega))))))) k1
  have bl0 := bl.cell 0 rfl
  have f0 := bp.free 0
  have z0 := bp.cell 0 rfl
  have f1 := bp.free 1
  have z1 := bp.cell 1 rfl
  have f2 := bp.free 2
  have z2 := bp.cell 2 rfl
  have f3 := bp.free 3
  have z3 := bp.cell 3 rfl
  have f4 := bp.free 4
  have z4 := bp.cell 4 rfl
  clear k1
  go_wp2_with fail
  (refine wp_region_held_drew (S := (fun w' => (∀ b o, b < w.heap.size → w'.cell? ⟨b, o, none⟩ = w.cell? ⟨b, o, none⟩) ∧ Kp w w')) (by kernel_rfl) ?_ (fun hHd => ?_); (focus ((try dsimp only); (first | with_reducible assumption | with_reducible exact held_start _ | with_reducible exact held_next (by assumption) (by assumption) | with_reducible exact held_alloc (by assumption) _ | with_reducible exact held_drew (by assumption) | ((with_reducible refine held_kp ?_); (repeat (first | with_reducible assumption | with_reducible exact Kp.refl _ | with_reducible refine Kp.drew ?_ | with_reducible refine Kp.drewN ?_ _ | with_reducible refine Kp.alloc ?_ _ | ((with_reducible refine Kp.setCell ?_ ?_ _); rotate_left; (focus (first | omega | (simp; done) | (simp; omega)))) | with_reducible refine Kp.trans ?_ (by assumption))))))))
  (refine takeH (i := 0) (oi := ?o196) (v := ?v196) ?h196 (by kernel_rfl) ?q196 (Or.inl ⟨?w196, ?y196⟩) (by assumption) ?r196; (case h196 => ((simp only [g1, g3]); rfl)); (case q196 => exact fun _ _ _ h => h); (case w196 => rfl); (case y196 => (intro w' hSw; (try dsimp only at hSw); go_simp; (try with_reducible rfl))); (try simp only [Act.put, s1, s2, s3]))
  (refine takeH (i := 1) (oi := ?o197) (v := ?v197) ?h197 (by kernel_rfl) ?q197 (Or.inl ⟨?w197, ?y197⟩) (by assumption) ?r197; (case h197 => ((simp only [g1, g2, g3]); rfl)); (case q197 => exact fun _ _ _ h => h); (case w197 => rfl); (case y197 => (intro w' hSw; (try dsimp only at hSw); go_simp; (try with_reducible rfl))); (try simp only [Act.put, s1, s2, s3]))
  (refine takeH (i := 2) (oi := ?o198) (v := ?v198) ?h198 (by kernel_rfl) ?q198 (Or.inl ⟨?w198, ?y198⟩) (by assumption) ?r198; (case h198 => ((simp only [g1, g2, g3]); rfl)); (case q198 => exact fun _ _ _ h => h); (case w198 => rfl); (case y198 => (intro w' hSw; (try dsimp only at hSw); go_simp; (try with_reducible rfl))); (try simp only [Act.put, s1, s2, s3]))
  (refine takeH (i := 3) (oi := ?o199) (v := ?v199) ?h199 (by kernel_rfl) ?q199 (Or.inl ⟨?w199, ?y199⟩) (by assumption) ?r199; (case h199 => ((simp only [g1, g2, g3]); rfl)); (case q199 => exact fun _ _ _ h => h); (case w199 => rfl); (case y199 => (intro w' hSw; (try dsimp only at hSw); go_simp; (try with_reducible rfl))); (try simp only [Act.put, s1, s2, s3]))
  (refine takeH (i := 4) (oi := ?o200) (v := ?v200) ?h200 (by kernel_rfl) ?q200 (Or.inl ⟨?w200, ?y200⟩) (by assumption) ?r200; (case h200 => ((simp only [g1, g2, g3]); rfl)); (case q200 => exact fun _ _ _ h => h); (case w200 => rfl); (case y200 => (intro w' hSw; (try dsimp only at hSw); go_simp; (try with_reducible rfl))); (try simp only [Act.put, s1, s2, s3]))
  (refine takeH (i := 5) (oi := ?o201) (v := ?v201) ?h201 (by kernel_rfl) ?q201 (Or.inl ⟨?w201, ?y201⟩) (by assumption) ?r201; (case h201 => ((simp only [g1, g2, g3]); rfl)); (case q201 => exact fun _ _ _ h => h); (case w201 => rfl); (case y201 => (intro w' hSw; (try dsimp only at hSw); go_simp; (try with_reducible rfl))); (try simp only [Act.put, s1, s2, s3]))
  (refine takeH (i := 6) (oi := ?o202) (v := ?v202) ?h202 (by kernel_rfl) ?q202 (Or.inl ⟨?w202, ?y202⟩) (by assumption) ?r202; (case h202 => ((simp only [g1, g2, g3]); rfl)); (case q202 => exact fun _ _ _ h => h); (case w202 => rfl); (case y202 => (intro w' hSw; (try dsimp only at hSw); go_simp; (try with_reducible rfl))); (try simp only [Act.put, s1, s2, s3]))
  (refine takeH (i := 7) (oi := ?o203) (v := ?v203) ?h203 (by kernel_rfl) ?q203 (Or.inl ⟨?w203, ?y203⟩) (by assumption) ?r203; (case h203 => ((simp only [g1, g2, g3]); rfl)); (case q203 => exact fun _ _ _ h => h); (case w203 => rfl); (case y203 => (intro w' hSw; (try dsimp only at hSw); go_simp; (try with_reducible rfl))); (try simp only [Act.put, s1, s2, s3]))
  (refine takeH (i := 8) (oi := ?o204) (v := ?v204) ?h204 (by kernel_rfl) ?q204 (Or.inl ⟨?w204, ?y204⟩) (by assumption) ?r204; (case h204 => ((simp only [g1, g2, g3]); rfl)); (case q204 => exact fun _ _ _ h => h); (case w204 => rfl); (case y204 => (intro w' hSw; (try dsimp only at hSw); go_simp; (try with_reducible rfl))); (try simp only [Act.put, s1, s2, s3]))
  (refine takeH (i := 9) (oi := ?o205) (v := ?v205) ?h205 (by kernel_rfl) ?q205 (Or.inl ⟨?w205, ?y205⟩) (by assumption) ?r205; (case h205 => ((simp only [g1, g2, g3]); rfl)); (case q205 => exact fun _ _ _ h => h); (case w205 => rfl); (case y205 => (intro w' hSw; (try dsimp only at hSw); go_simp; (try with_reducible rfl))); (try simp only [Act.put, s1, s2, s3]))
  (refine takeH (i := 10) (oi := ?o206) (v := ?v206) ?h206 (by kernel_rfl) ?q206 (Or.inl ⟨?w206, ?y206⟩) (by assumption) ?r206; (case h206 => ((simp only [g1, g2, g3]); rfl)); (case q206 => exact fun _ _ _ h => h); (case w206 => rfl); (case y206 => (intro w' hSw; (try dsimp only at hSw); go_simp; (try with_reducible rfl))); (try simp only [Act.put, s1, s2, s3]))
  (refine takeH (i := 11) (oi := ?o207) (v := ?v207) ?h207 (by kernel_rfl) ?q207 (Or.inl ⟨?w207, ?y207⟩) (by assumption) ?r207; (case h207 => ((simp only [g1, g2, g3]); rfl)); (case q207 => exact fun _ _ _ h => h); (case w207 => rfl); (case y207 => (intro w' hSw; (try dsimp only at hSw); go_simp; (try with_reducible rfl))); (try simp only [Act.put, s1, s2, s3]))
  (refine takeH (i := 12) (oi := ?o208) (v := ?v208) ?h208 (by kernel_rfl) ?q208 (Or.inl ⟨?w208, ?y208⟩) (by assumption) ?r208; (case h208 => ((simp only [g1, g2, g3]); rfl)); (case q208 => exact fun _ _ _ h => h); (case w208 => rfl); (case y208 => (intro w' hSw; (try dsimp only at hSw); go_simp; (try with_reducible rfl))); (try simp only [Act.put, s1, s2, s3]))
  (refine wpAnyH_ready (rs := [13]) (by kernel_rfl) (by simp) ?_; refine AllReadyH.cons (o := ?o209) ?h209 (fun K hK => ?s209) AllReadyH.nil; (case h209 => (first | ((simp only [g1, g2, g3]); rfl) | rfl)); go_simp; (try dsimp only); refine hK.out _ _ ?_ (fun hHd => ?_); (focus ((try dsimp only); (first | with_reducible assumption | with_reducible exact held_start _ | with_reducible exact held_next (by assumption) (by assumption) | with_reducible exact held_alloc (by assumption) _ | with_reducible exact held_drew (by assumption) | ((with_reducible refine held_kp ?_); (repeat (first | with_reducible assumption | with_reducible exact Kp.refl _ | with_reducible refine Kp.drew ?_ | with_reducible refine Kp.drewN ?_ _ | with_reducible refine Kp.alloc ?_ _ | ((with_reducible refine Kp.setCell ?_ ?_ _); rotate_left; (focus (first | omega | (simp; done) | (simp; omega)))) | with_reducible refine Kp.trans ?_ (by assumption))))))); clear hK K; (try simp only [Act.put, s1, s2, s3]))
  refine wpAnyH_done (by kernel_rfl) ?_ _
  clear hHd
  go_wp2_with fail
  have zz := (((((bp.set 0 (.int .i64 4)).set 1 (.int .i64 n)).set 2 (.int .i64 l)).set 3 (.int .i64 y)).set 4 (.int .i64 x)).drew
  have q0 := zz.cell 0 rfl
  have q1 := zz.cell 1 rfl
  have q2 := zz.cell 2 rfl
  have q3 := zz.cell 3 rfl
  have q4 := zz.cell 4 rfl
  clear z0 z1 z2 z3 z4
  refine bodyPost_ret (v := .agg #[.int .i64 4, .int .i64 n, .int .i64 l, .int .i64 y, .int .i64 x]) (by simp [results, Tryd.results26, go_sem, q0, q1, q2, q3, q4]) rfl ?_
  exact ⟨rfl, (by (repeat (first | with_reducible assumption | with_reducible exact Kp.refl _ | with_reducible refine Kp.drew ?_ | with_reducible refine Kp.drewN ?_ _ | with_reducible refine Kp.alloc ?_ _ | ((with_reducible refine Kp.setCell ?_ ?_ _); rotate_left; (focus (first | omega | (simp; done) | (simp; omega)))) | with_reducible refine Kp.trans ?_ (by assumption))))⟩
set_option maxRecDepth 100000 in
set_option maxHeartbeats 4000000 in
theorem putThing_low (a : Option Addr) (c : Nat) (k n l y x : Int) (w : World) (hl : SlOk w 1 enc1 a 5 c [k, n, l, y, x]) (hk : k < 1) :
    Calls Tryd.prog 26 #[.agg #[sv wThing, .slice a 5 c]] w fun e w' => e = .returned (.agg (Put.cells ⟨k, n, l, y, x⟩).toArray) ∧ Kp w w' := by
  have t0 : decide (k < 1) = true := decide_eq_true (by omega)
  have hcl := hl.2.1
  have hcm := hl.2.2.1
  unfold maxLen at hcm
  rcases hl.2.2.2 with e | ⟨ga, oa, rfl, hga, r1⟩
  · cases e
  have d0 := r1 0 _ rfl 0 _ rfl
  have d1 := r1 1 _ rfl 0 _ rfl
  have d2 := r1 2 _ rfl 0 _ rfl
  have d3 := r1 3 _ rfl 0 _ rfl
  have d4 := r1 4 _ rfl 0 _ rfl
  simp only [Nat.add_zero, Nat.mul_one] at d0 d1 d2 d3 d4
  clear hl r1
  go_enter Tryd.func26, Tryd.ntmps26
  go_wp2_with fail
  refine (many_yes wThing (some ⟨ga, oa, none⟩) 5 c _).mono ?_
  rintro e w1 ⟨rfl, k1⟩
  have kw1 : Kp w w1 := ((by (repeat (first | with_reducible assumption | with_reducible exact Kp.refl _ | with_reducible refine Kp.drew ?_ | with_reducible refine Kp.drewN ?_ _ | with_reducible refine Kp.alloc ?_ _ | ((with_reducible refine Kp.setCell ?_ ?_ _); rotate_left; (focus (first | omega | (simp; done) | (simp; omega)))) | with_reducible refine Kp.trans ?_ (by assumption)))) : Kp w _).trans k1
  have bl : Blk w1 w.heap.size [sv wThing, .slice (some ⟨ga, oa, none⟩) 5 c] 58 := Blk.kp (by (repeat (first | with_reducible assumption | ((with_reducible refine Blk.newL ?_ ?_); (focus (first | (simp; done) | omega)); rfl) | with_reducible refine Blk.drew ?_ | with_reducible refine Blk.drewN ?_ _ | with_reducible refine Blk.alloc ?_ _ | ((with_reducible refine Blk.other ?_ ?_ _); rotate_left; (focus (first | with_reducible assumption | omega | (simp; done) | (simp; omega))))))) k1
  have bp : Blk w1 (w.heap.size + 1) [.int .i64 0, .int .i64 0, .int .i64 0, .int .i64 0, .int .i64 0] 33 := Blk.kp (by (repeat (first | with_reducible assumption | ((with_reducible refine Blk.newL ?_ ?_); (focus (first | (simp; done) | omega)); rfl) | with_reducible refine Blk.drew ?_ | with_reducible refine Blk.drewN ?_ _ | with_reducible refine Blk.alloc ?_ _ | ((with_reducible refine Blk.other ?_ ?_ _); rotate_left; (focus (first | with_reducible assumption | omega | (simp; done) | (simp; omega))))))) k1
  have bl0 := bl.cell 0 rfl
  have f0 := bp.free 0
  have z0 := bp.cell 0 rfl
  have f1 := bp.free 1
  have z1 := bp.cell 1 rfl
  have f2 := bp.free 2
  have z2 := bp.cell 2 rfl
  have f3 := bp.free 3
  have z3 := bp.cell 3 rfl
  have f4 := bp.free 4
  have z4 := bp.cell 4 rfl
  clear k1
  go_wp2_with fail
  (refine wp_region_held_drew (S := (fun w' => (∀ b o, b < w.heap.size → w'.cell? ⟨b, o, none⟩ = w.cell? ⟨b, o, none⟩) ∧ Kp w w')) (by kernel_rfl) ?_ (fun hHd => ?_); (focus ((try dsimp only); (first | with_reducible assumption | with_reducible exact held_start _ | with_reducible exact held_next (by assumption) (by assumption) | with_reducible exact held_alloc (by assumption) _ | with_reducible exact held_drew (by assumption) | ((with_reducible refine held_kp ?_); (repeat (first | with_reducible assumption | with_reducible exact Kp.refl _ | with_reducible refine Kp.drew ?_ | with_reducible refine Kp.drewN ?_ _ | with_reducible refine Kp.alloc ?_ _ | ((with_reducible refine Kp.setCell ?_ ?_ _); rotate_left; (focus (first | omega | (simp; done) | (simp; omega)))) | with_reducible refine Kp.trans ?_ (by assumption))))))))
  (refine takeH (i := 0) (oi := ?o210) (v := ?v210) ?h210 (by kernel_rfl) ?q210 (Or.inl ⟨?w210, ?y210⟩) (by assumption) ?r210; (case h210 => ((simp only [g1, g3]); rfl)); (case q210 => exact fun _ _ _ h => h); (case w210 => rfl); (case y210 => (intro w' hSw; (try dsimp only at hSw); go_simp; (try with_reducible rfl))); (try simp only [Act.put, s1, s2, s3]))
  (refine takeH (i := 1) (oi := ?o211) (v := ?v211) ?h211 (by kernel_rfl) ?q211 (Or.inl ⟨?w211, ?y211⟩) (by assumption) ?r211; (case h211 => ((simp only [g1, g2, g3]); rfl)); (case q211 => exact fun _ _ _ h => h); (case w211 => rfl); (case y211 => (intro w' hSw; (try dsimp only at hSw); go_simp; (try with_reducible rfl))); (try simp only [Act.put, s1, s2, s3]))
  (refine takeH (i := 2) (oi := ?o212) (v := ?v212) ?h212 (by kernel_rfl) ?q212 (Or.inl ⟨?w212, ?y212⟩) (by assumption) ?r212; (case h212 => ((simp only [g1, g2, g3]); rfl)); (case q212 => exact fun _ _ _ h => h); (case w212 => rfl); (case y212 => (intro w' hSw; (try dsimp only at hSw); go_simp; (try with_reducible rfl))); (try simp only [Act.put, s1, s2, s3]))
  (refine takeH (i := 3) (oi := ?o213) (v := ?v213) ?h213 (by kernel_rfl) ?q213 (Or.inl ⟨?w213, ?y213⟩) (by assumption) ?r213; (case h213 => ((simp only [g1, g2, g3]); rfl)); (case q213 => exact fun _ _ _ h => h); (case w213 => rfl); (case y213 => (intro w' hSw; (try dsimp only at hSw); go_simp; (try with_reducible rfl))); (try simp only [Act.put, s1, s2, s3]))
  (refine takeH (i := 4) (oi := ?o214) (v := ?v214) ?h214 (by kernel_rfl) ?q214 (Or.inl ⟨?w214, ?y214⟩) (by assumption) ?r214; (case h214 => ((simp only [g1, g2, g3]); rfl)); (case q214 => exact fun _ _ _ h => h); (case w214 => rfl); (case y214 => (intro w' hSw; (try dsimp only at hSw); go_simp; (try with_reducible rfl))); (try simp only [Act.put, s1, s2, s3]))
  (refine takeH (i := 5) (oi := ?o215) (v := ?v215) ?h215 (by kernel_rfl) ?q215 (Or.inl ⟨?w215, ?y215⟩) (by assumption) ?r215; (case h215 => ((simp only [g1, g2, g3]); rfl)); (case q215 => exact fun _ _ _ h => h); (case w215 => rfl); (case y215 => (intro w' hSw; (try dsimp only at hSw); go_simp; (try with_reducible rfl))); (try simp only [Act.put, s1, s2, s3]))
  (refine takeH (i := 6) (oi := ?o216) (v := ?v216) ?h216 (by kernel_rfl) ?q216 (Or.inl ⟨?w216, ?y216⟩) (by assumption) ?r216; (case h216 => ((simp only [g1, g2, g3]); rfl)); (case q216 => exact fun _ _ _ h => h); (case w216 => rfl); (case y216 => (intro w' hSw; (try dsimp only at hSw); go_simp; (try with_reducible rfl))); (try simp only [Act.put, s1, s2, s3]))
  (refine takeH (i := 7) (oi := ?o217) (v := ?v217) ?h217 (by kernel_rfl) ?q217 (Or.inl ⟨?w217, ?y217⟩) (by assumption) ?r217; (case h217 => ((simp only [g1, g2, g3]); rfl)); (case q217 => exact fun _ _ _ h => h); (case w217 => rfl); (case y217 => (intro w' hSw; (try dsimp only at hSw); go_simp; (try with_reducible rfl))); (try simp only [Act.put, s1, s2, s3]))
  (refine takeH (i := 8) (oi := ?o218) (v := ?v218) ?h218 (by kernel_rfl) ?q218 (Or.inl ⟨?w218, ?y218⟩) (by assumption) ?r218; (case h218 => ((simp only [g1, g2, g3]); rfl)); (case q218 => exact fun _ _ _ h => h); (case w218 => rfl); (case y218 => (intro w' hSw; (try dsimp only at hSw); go_simp; (try with_reducible rfl))); (try simp only [Act.put, s1, s2, s3]))
  (refine takeH (i := 9) (oi := ?o219) (v := ?v219) ?h219 (by kernel_rfl) ?q219 (Or.inl ⟨?w219, ?y219⟩) (by assumption) ?r219; (case h219 => ((simp only [g1, g2, g3]); rfl)); (case q219 => exact fun _ _ _ h => h); (case w219 => rfl); (case y219 => (intro w' hSw; (try dsimp only at hSw); go_simp; (try with_reducible rfl))); (try simp only [Act.put, s1, s2, s3]))
  (refine takeH (i := 10) (oi := ?o220) (v := ?v220) ?h220 (by kernel_rfl) ?q220 (Or.inl ⟨?w220, ?y220⟩) (by assumption) ?r220; (case h220 => ((simp only [g1, g2, g3]); rfl)); (case q220 => exact fun _ _ _ h => h); (case w220 => rfl); (case y220 => (intro w' hSw; (try dsimp only at hSw); go_simp; (try with_reducible rfl))); (try simp only [Act.put, s1, s2, s3]))
  (refine takeH (i := 11) (oi := ?o221) (v := ?v221) ?h221 (by kernel_rfl) ?q221 (Or.inl ⟨?w221, ?y221⟩) (by assumption) ?r221; (case h221 => ((simp only [g1, g2, g3]); rfl)); (case q221 => exact fun _ _ _ h => h); (case w221 => rfl); (case y221 => (intro w' hSw; (try dsimp only at hSw); go_simp; (try with_reducible rfl))); (try simp only [Act.put, s1, s2, s3]))
  (refine takeH (i := 12) (oi := ?o222) (v := ?v222) ?h222 (by kernel_rfl) ?q222 (Or.inl ⟨?w222, ?y222⟩) (by assumption) ?r222; (case h222 => ((simp only [g1, g2, g3]); rfl)); (case q222 => exact fun _ _ _ h => h); (case w222 => rfl); (case y222 => (intro w' hSw; (try dsimp only at hSw); go_simp; (try with_reducible rfl))); (try simp only [Act.put, s1, s2, s3]))
  (refine takeH (i := 13) (oi := ?o223) (v := ?v223) ?h223 (by kernel_rfl) ?q223 (Or.inl ⟨?w223, ?y223⟩) (by assumption) ?r223; (case h223 => ((simp only [g1, g2, g3]); rfl)); (case q223 => exact fun _ _ _ h => h); (case w223 => rfl); (case y223 => (intro w' hSw; (try dsimp only at hSw); go_simp; (try with_reducible rfl))); (try simp only [Act.put, s1, s2, s3]))
  (refine takeH (i := 14) (oi := ?o224) (v := ?v224) ?h224 (by kernel_rfl) ?q224 (Or.inl ⟨?w224, ?y224⟩) (by assumption) ?r224; (case h224 => ((simp only [g1, g2, g3]); rfl)); (case q224 => exact fun _ _ _ h => h); (case w224 => rfl); (case y224 => (intro w' hSw; (try dsimp only at hSw); go_simp; (try with_reducible rfl))); (try simp only [Act.put, s1, s2, s3]))
  (refine takeH (i := 15) (oi := ?o225) (v := ?v225) ?h225 (by kernel_rfl) ?q225 (Or.inl ⟨?w225, ?y225⟩) (by assumption) ?r225; (case h225 => ((simp only [g1, g2, g3]); rfl)); (case q225 => exact fun _ _ _ h => h); (case w225 => rfl); (case y225 => (intro w' hSw; (try dsimp only at hSw); go_simp; (try with_reducible rfl))); (try simp only [Act.put, s1, s2, s3]))
  (refine wpAnyH_ready (rs := [16]) (by kernel_rfl) (by simp) ?_; refine AllReadyH.cons (o := ?o226) ?h226 (fun K hK => ?s226) AllReadyH.nil; (case h226 => (first | ((simp only [g1, g2, g3]); rfl) | rfl)); go_simp; (try dsimp only); refine hK.out _ _ ?_ (fun hHd => ?_); (focus ((try dsimp only); (first | with_reducible assumption | with_reducible exact held_start _ | with_reducible exact held_next (by assumption) (by assumption) | with_reducible exact held_alloc (by assumption) _ | with_reducible exact held_drew (by assumption) | ((with_reducible refine held_kp ?_); (repeat (first | with_reducible assumption | with_reducible exact Kp.refl _ | with_reducible refine Kp.drew ?_ | with_reducible refine Kp.drewN ?_ _ | with_reducible refine Kp.alloc ?_ _ | ((with_reducible refine Kp.setCell ?_ ?_ _); rotate_left; (focus (first | omega | (simp; done) | (simp; omega)))) | with_reducible refine Kp.trans ?_ (by assumption))))))); clear hK K; (try simp only [Act.put, s1, s2, s3]))
  (refine wpAnyH_ready (rs := [17]) (by kernel_rfl) (by simp) ?_; refine AllReadyH.cons (o := ?o227) ?h227 (fun K hK => ?s227) AllReadyH.nil; (case h227 => (first | ((simp only [g1, g2, g3]); rfl) | rfl)); go_simp; (try dsimp only); refine hK.out _ _ ?_ (fun hHd => ?_); (focus ((try dsimp only); (first | with_reducible assumption | with_reducible exact held_start _ | with_reducible exact held_next (by assumption) (by assumption) | with_reducible exact held_alloc (by assumption) _ | with_reducible exact held_drew (by assumption) | ((with_reducible refine held_kp ?_); (repeat (first | with_reducible assumption | with_reducible exact Kp.refl _ | with_reducible refine Kp.drew ?_ | with_reducible refine Kp.drewN ?_ _ | with_reducible refine Kp.alloc ?_ _ | ((with_reducible refine Kp.setCell ?_ ?_ _); rotate_left; (focus (first | omega | (simp; done) | (simp; omega)))) | with_reducible refine Kp.trans ?_ (by assumption))))))); clear hK K; (try simp only [Act.put, s1, s2, s3]))
  refine wpAnyH_done (by kernel_rfl) ?_ _
  clear hHd
  have bl2 := (bl.alloc (.cells #[.int .i64 k, .int .i64 n, .int .i64 l, .int .i64 y, .int .i64 x] 33)).cell 0 rfl
  clear bl0
  have bp2 : Blk _ (w.heap.size + 1) _ _ := bp.alloc (.cells #[.int .i64 k, .int .i64 n, .int .i64 l, .int .i64 y, .int .i64 x] 33)
  clear f0 z0 f1 z1 f2 z2 f3 z3 f4 z4
  have f0 := bp2.free 0
  have z0 := bp2.cell 0 rfl
  have f1 := bp2.free 1
  have z1 := bp2.cell 1 rfl
  have f2 := bp2.free 2
  have z2 := bp2.cell 2 rfl
  have f3 := bp2.free 3
  have z3 := bp2.cell 3 rfl
  have f4 := bp2.free 4
  have z4 := bp2.cell 4 rfl
  go_wp2_with fail
  have zz := (((((bp2.set 0 (.int .i64 k)).set 1 (.int .i64 n)).set 2 (.int .i64 l)).set 3 (.int .i64 y)).set 4 (.int .i64 x)).drew
  have q0 := zz.cell 0 rfl
  have q1 := zz.cell 1 rfl
  have q2 := zz.cell 2 rfl
  have q3 := zz.cell 3 rfl
  have q4 := zz.cell 4 rfl
  clear z0 z1 z2 z3 z4
  refine bodyPost_ret (v := .agg #[.int .i64 k, .int .i64 n, .int .i64 l, .int .i64 y, .int .i64 x]) (by simp [results, Tryd.results26, go_sem, q0, q1, q2, q3, q4]) rfl ?_
  exact ⟨rfl, (by (repeat (first | with_reducible assumption | with_reducible exact Kp.refl _ | with_reducible refine Kp.drew ?_ | with_reducible refine Kp.drewN ?_ _ | with_reducible refine Kp.alloc ?_ _ | ((with_reducible refine Kp.setCell ?_ ?_ _); rotate_left; (focus (first | omega | (simp; done) | (simp; omega)))) | with_reducible refine Kp.trans ?_ (by assumption))))⟩
set_option maxRecDepth 100000 in
set_option maxHeartbeats 4000000 in
theorem putThing_high (a : Option Addr) (c : Nat) (k n l y x : Int) (w : World) (hl : SlOk w 1 enc1 a 5 c [k, n, l, y, x]) (hk : ¬ k < 1) (hk4 : 4 < k) :
    Calls Tryd.prog 26 #[.agg #[sv wThing, .slice a 5 c]] w fun e w' => e = .returned (.agg (Put.cells ⟨k, n, l, y, x⟩).toArray) ∧ Kp w w' := by
  have t0 : decide (k < 1) = false := decide_eq_false (by omega)
  have t1 : decide (4 < k) = true := decide_eq_true (by omega)
  have hcl := hl.2.1
  have hcm := hl.2.2.1
  unfold maxLen at hcm
  rcases hl.2.2.2 with e | ⟨ga, oa, rfl, hga, r1⟩
  · cases e
  have d0 := r1 0 _ rfl 0 _ rfl
  have d1 := r1 1 _ rfl 0 _ rfl
  have d2 := r1 2 _ rfl 0 _ rfl
  have d3 := r1 3 _ rfl 0 _ rfl
  have d4 := r1 4 _ rfl 0 _ rfl
  simp only [Nat.add_zero, Nat.mul_one] at d0 d1 d2 d3 d4
  clear hl r1
  go_enter Tryd.func26, Tryd.ntmps26
  go_wp2_with fail
  refine (many_yes wThing (some ⟨ga, oa, none⟩) 5 c _).mono ?_
  rintro e w1 ⟨rfl, k1⟩
  have kw1 : Kp w w1 := ((by (repeat (first | with_reducible assumption | with_reducible exact Kp.refl _ | with_reducible refine Kp.drew ?_ | with_reducible refine Kp.drewN ?_ _ | with_reducible refine Kp.alloc ?_ _ | ((with_reducible refine Kp.setCell ?_ ?_ _); rotate_left; (focus (first | omega | (simp; done) | (simp; omega)))) | with_reducible refine Kp.trans ?_ (by assumption)))) : Kp w _).trans k1
  have bl : Blk w1 w.heap.size [sv wThing, .slice (some ⟨ga, oa, none⟩) 5 c] 58 := Blk.kp (by (repeat (first | with_reducible assumption | ((with_reducible refine Blk.newL ?_ ?_); (focus (first | (simp; done) | omega)); rfl) | with_reducible refine Blk.drew ?_ | with_reducible refine Blk.drewN ?_ _ | with_reducible refine Blk.alloc ?_ _ | ((with_reducible refine Blk.other ?_ ?_ _); rotate_left; (focus (first | with_reducible assumption | omega | (simp; done) | (simp; omega))))))) k1
  have bp : Blk w1 (w.heap.size + 1) [.int .i64 0, .int .i64 0, .int .i64 0, .int .i64 0, .int .i64 0] 33 := Blk.kp (by (repeat (first | with_reducible assumption | ((with_reducible refine Blk.newL ?_ ?_); (focus (first | (simp; done) | omega)); rfl) | with_reducible refine Blk.drew ?_ | with_reducible refine Blk.drewN ?_ _ | with_reducible refine Blk.alloc ?_ _ | ((with_reducible refine Blk.other ?_ ?_ _); rotate_left; (focus (first | with_reducible assumption | omega | (simp; done) | (simp; omega))))))) k1
  have bl0 := bl.cell 0 rfl
  have f0 := bp.free 0
  have z0 := bp.cell 0 rfl
  have f1 := bp.free 1
  have z1 := bp.cell 1 rfl
  have f2 := bp.free 2
  have z2 := bp.cell 2 rfl
  have f3 := bp.free 3
  have z3 := bp.cell 3 rfl
  have f4 := bp.free 4
  have z4 := bp.cell 4 rfl
  clear k1
  go_wp2_with fail
  (refine wp_region_held_drew (S := (fun w' => (∀ b o, b < w.heap.size → w'.cell? ⟨b, o, none⟩ = w.cell? ⟨b, o, none⟩) ∧ Kp w w')) (by kernel_rfl) ?_ (fun hHd => ?_); (focus ((try dsimp only); (first | with_reducible assumption | with_reducible exact held_start _ | with_reducible exact held_next (by assumption) (by assumption) | with_reducible exact held_alloc (by assumption) _ | with_reducible exact held_drew (by assumption) | ((with_reducible refine held_kp ?_); (repeat (first | with_reducible assumption | with_reducible exact Kp.refl _ | with_reducible refine Kp.drew ?_ | with_reducible refine Kp.drewN ?_ _ | with_reducible refine Kp.alloc ?_ _ | ((with_reducible refine Kp.setCell ?_ ?_ _); rotate_left; (focus (first | omega | (simp; done) | (simp; omega)))) | with_reducible refine Kp.trans ?_ (by assumption))))))))
  (refine takeH (i := 0) (oi := ?o228) (v := ?v228) ?h228 (by kernel_rfl) ?q228 (Or.inl ⟨?w228, ?y228⟩) (by assumption) ?r228; (case h228 => ((simp only [g1, g3]); rfl)); (case q228 => exact fun _ _ _ h => h); (case w228 => rfl); (case y228 => (intro w' hSw; (try dsimp only at hSw); go_simp; (try with_reducible rfl))); (try simp only [Act.put, s1, s2, s3]))
  (refine takeH (i := 1) (oi := ?o229) (v := ?v229) ?h229 (by kernel_rfl) ?q229 (Or.inl ⟨?w229, ?y229⟩) (by assumption) ?r229; (case h229 => ((simp only [g1, g2, g3]); rfl)); (case q229 => exact fun _ _ _ h => h); (case w229 => rfl); (case y229 => (intro w' hSw; (try dsimp only at hSw); go_simp; (try with_reducible rfl))); (try simp only [Act.put, s1, s2, s3]))
  (refine takeH (i := 2) (oi := ?o230) (v := ?v230) ?h230 (by kernel_rfl) ?q230 (Or.inl ⟨?w230, ?y230⟩) (by assumption) ?r230; (case h230 => ((simp only [g1, g2, g3]); rfl)); (case q230 => exact fun _ _ _ h => h); (case w230 => rfl); (case y230 => (intro w' hSw; (try dsimp only at hSw); go_simp; (try with_reducible rfl))); (try simp only [Act.put, s1, s2, s3]))
  (refine takeH (i := 3) (oi := ?o231) (v := ?v231) ?h231 (by kernel_rfl) ?q231 (Or.inl ⟨?w231, ?y231⟩) (by assumption) ?r231; (case h231 => ((simp only [g1, g2, g3]); rfl)); (case q231 => exact fun _ _ _ h => h); (case w231 => rfl); (case y231 => (intro w' hSw; (try dsimp only at hSw); go_simp; (try with_reducible rfl))); (try simp only [Act.put, s1, s2, s3]))
  (refine takeH (i := 4) (oi := ?o232) (v := ?v232) ?h232 (by kernel_rfl) ?q232 (Or.inl ⟨?w232, ?y232⟩) (by assumption) ?r232; (case h232 => ((simp only [g1, g2, g3]); rfl)); (case q232 => exact fun _ _ _ h => h); (case w232 => rfl); (case y232 => (intro w' hSw; (try dsimp only at hSw); go_simp; (try with_reducible rfl))); (try simp only [Act.put, s1, s2, s3]))
  (refine takeH (i := 5) (oi := ?o233) (v := ?v233) ?h233 (by kernel_rfl) ?q233 (Or.inl ⟨?w233, ?y233⟩) (by assumption) ?r233; (case h233 => ((simp only [g1, g2, g3]); rfl)); (case q233 => exact fun _ _ _ h => h); (case w233 => rfl); (case y233 => (intro w' hSw; (try dsimp only at hSw); go_simp; (try with_reducible rfl))); (try simp only [Act.put, s1, s2, s3]))
  (refine takeH (i := 6) (oi := ?o234) (v := ?v234) ?h234 (by kernel_rfl) ?q234 (Or.inl ⟨?w234, ?y234⟩) (by assumption) ?r234; (case h234 => ((simp only [g1, g2, g3]); rfl)); (case q234 => exact fun _ _ _ h => h); (case w234 => rfl); (case y234 => (intro w' hSw; (try dsimp only at hSw); go_simp; (try with_reducible rfl))); (try simp only [Act.put, s1, s2, s3]))
  (refine takeH (i := 7) (oi := ?o235) (v := ?v235) ?h235 (by kernel_rfl) ?q235 (Or.inl ⟨?w235, ?y235⟩) (by assumption) ?r235; (case h235 => ((simp only [g1, g2, g3]); rfl)); (case q235 => exact fun _ _ _ h => h); (case w235 => rfl); (case y235 => (intro w' hSw; (try dsimp only at hSw); go_simp; (try with_reducible rfl))); (try simp only [Act.put, s1, s2, s3]))
  (refine takeH (i := 8) (oi := ?o236) (v := ?v236) ?h236 (by kernel_rfl) ?q236 (Or.inl ⟨?w236, ?y236⟩) (by assumption) ?r236; (case h236 => ((simp only [g1, g2, g3]); rfl)); (case q236 => exact fun _ _ _ h => h); (case w236 => rfl); (case y236 => (intro w' hSw; (try dsimp only at hSw); go_simp; (try with_reducible rfl))); (try simp only [Act.put, s1, s2, s3]))
  (refine takeH (i := 9) (oi := ?o237) (v := ?v237) ?h237 (by kernel_rfl) ?q237 (Or.inl ⟨?w237, ?y237⟩) (by assumption) ?r237; (case h237 => ((simp only [g1, g2, g3]); rfl)); (case q237 => exact fun _ _ _ h => h); (case w237 => rfl); (case y237 => (intro w' hSw; (try dsimp only at hSw); go_simp; (try with_reducible rfl))); (try simp only [Act.put, s1, s2, s3]))
  (refine takeH (i := 10) (oi := ?o238) (v := ?v238) ?h238 (by kernel_rfl) ?q238 (Or.inl ⟨?w238, ?y238⟩) (by assumption) ?r238; (case h238 => ((simp only [g1, g2, g3]); rfl)); (case q238 => exact fun _ _ _ h => h); (case w238 => rfl); (case y238 => (intro w' hSw; (try dsimp only at hSw); go_simp; (try with_reducible rfl))); (try simp only [Act.put, s1, s2, s3]))
  (refine takeH (i := 11) (oi := ?o239) (v := ?v239) ?h239 (by kernel_rfl) ?q239 (Or.inl ⟨?w239, ?y239⟩) (by assumption) ?r239; (case h239 => ((simp only [g1, g2, g3]); rfl)); (case q239 => exact fun _ _ _ h => h); (case w239 => rfl); (case y239 => (intro w' hSw; (try dsimp only at hSw); go_simp; (try with_reducible rfl))); (try simp only [Act.put, s1, s2, s3]))
  (refine takeH (i := 12) (oi := ?o240) (v := ?v240) ?h240 (by kernel_rfl) ?q240 (Or.inl ⟨?w240, ?y240⟩) (by assumption) ?r240; (case h240 => ((simp only [g1, g2, g3]); rfl)); (case q240 => exact fun _ _ _ h => h); (case w240 => rfl); (case y240 => (intro w' hSw; (try dsimp only at hSw); go_simp; (try with_reducible rfl))); (try simp only [Act.put, s1, s2, s3]))
  (refine takeH (i := 13) (oi := ?o241) (v := ?v241) ?h241 (by kernel_rfl) ?q241 (Or.inl ⟨?w241, ?y241⟩) (by assumption) ?r241; (case h241 => ((simp only [g1, g2, g3]); rfl)); (case q241 => exact fun _ _ _ h => h); (case w241 => rfl); (case y241 => (intro w' hSw; (try dsimp only at hSw); go_simp; (try with_reducible rfl))); (try simp only [Act.put, s1, s2, s3]))
  (refine takeH (i := 14) (oi := ?o242) (v := ?v242) ?h242 (by kernel_rfl) ?q242 (Or.inl ⟨?w242, ?y242⟩) (by assumption) ?r242; (case h242 => ((simp only [g1, g2, g3]); rfl)); (case q242 => exact fun _ _ _ h => h); (case w242 => rfl); (case y242 => (intro w' hSw; (try dsimp only at hSw); go_simp; (try with_reducible rfl))); (try simp only [Act.put, s1, s2, s3]))
  (refine takeH (i := 15) (oi := ?o243) (v := ?v243) ?h243 (by kernel_rfl) ?q243 (Or.inl ⟨?w243, ?y243⟩) (by assumption) ?r243; (case h243 => ((simp only [g1, g2, g3]); rfl)); (case q243 => exact fun _ _ _ h => h); (case w243 => rfl); (case y243 => (intro w' hSw; (try dsimp only at hSw); go_simp; (try with_reducible rfl))); (try simp only [Act.put, s1, s2, s3]))
  (refine wpAnyH_ready (rs := [16]) (by kernel_rfl) (by simp) ?_; refine AllReadyH.cons (o := ?o244) ?h244 (fun K hK => ?s244) AllReadyH.nil; (case h244 => (first | ((simp only [g1, g2, g3]); rfl) | rfl)); go_simp; (try dsimp only); refine hK.out _ _ ?_ (fun hHd => ?_); (focus ((try dsimp only); (first | with_reducible assumption | with_reducible exact held_start _ | with_reducible exact held_next (by assumption) (by assumption) | with_reducible exact held_alloc (by assumption) _ | with_reducible exact held_drew (by assumption) | ((with_reducible refine held_kp ?_); (repeat (first | with_reducible assumption | with_reducible exact Kp.refl _ | with_reducible refine Kp.drew ?_ | with_reducible refine Kp.drewN ?_ _ | with_reducible refine Kp.alloc ?_ _ | ((with_reducible refine Kp.setCell ?_ ?_ _); rotate_left; (focus (first | omega | (simp; done) | (simp; omega)))) | with_reducible refine Kp.trans ?_ (by assumption))))))); clear hK K; (try simp only [Act.put, s1, s2, s3]))
  (refine wpAnyH_ready (rs := [17]) (by kernel_rfl) (by simp) ?_; refine AllReadyH.cons (o := ?o245) ?h245 (fun K hK => ?s245) AllReadyH.nil; (case h245 => (first | ((simp only [g1, g2, g3]); rfl) | rfl)); go_simp; (try dsimp only); refine hK.out _ _ ?_ (fun hHd => ?_); (focus ((try dsimp only); (first | with_reducible assumption | with_reducible exact held_start _ | with_reducible exact held_next (by assumption) (by assumption) | with_reducible exact held_alloc (by assumption) _ | with_reducible exact held_drew (by assumption) | ((with_reducible refine held_kp ?_); (repeat (first | with_reducible assumption | with_reducible exact Kp.refl _ | with_reducible refine Kp.drew ?_ | with_reducible refine Kp.drewN ?_ _ | with_reducible refine Kp.alloc ?_ _ | ((with_reducible refine Kp.setCell ?_ ?_ _); rotate_left; (focus (first | omega | (simp; done) | (simp; omega)))) | with_reducible refine Kp.trans ?_ (by assumption))))))); clear hK K; (try simp only [Act.put, s1, s2, s3]))
  refine wpAnyH_done (by kernel_rfl) ?_ _
  clear hHd
  have bl2 := (bl.alloc (.cells #[.int .i64 k, .int .i64 n, .int .i64 l, .int .i64 y, .int .i64 x] 33)).cell 0 rfl
  clear bl0
  have bp2 : Blk _ (w.heap.size + 1) _ _ := bp.alloc (.cells #[.int .i64 k, .int .i64 n, .int .i64 l, .int .i64 y, .int .i64 x] 33)
  clear f0 z0 f1 z1 f2 z2 f3 z3 f4 z4
  have f0 := bp2.free 0
  have z0 := bp2.cell 0 rfl
  have f1 := bp2.free 1
  have z1 := bp2.cell 1 rfl
  have f2 := bp2.free 2
  have z2 := bp2.cell 2 rfl
  have f3 := bp2.free 3
  have z3 := bp2.cell 3 rfl
  have f4 := bp2.free 4
  have z4 := bp2.cell 4 rfl
  go_wp2_with fail
  have zz := (((((bp2.set 0 (.int .i64 k)).set 1 (.int .i64 n)).set 2 (.int .i64 l)).set 3 (.int .i64 y)).set 4 (.int .i64 x)).drew
  have q0 := zz.cell 0 rfl
  have q1 := zz.cell 1 rfl
  have q2 := zz.cell 2 rfl
  have q3 := zz.cell 3 rfl
  have q4 := zz.cell 4 rfl
  clear z0 z1 z2 z3 z4
  refine bodyPost_ret (v := .agg #[.int .i64 k, .int .i64 n, .int .i64 l, .int .i64 y, .int .i64 x]) (by simp [results, Tryd.results26, go_sem, q0, q1, q2, q3, q4]) rfl ?_
  exact ⟨rfl, (by (repeat (first | with_reducible assumption | with_reducible exact Kp.refl _ | with_reducible refine Kp.drew ?_ | with_reducible refine Kp.drewN ?_ _ | with_reducible refine Kp.alloc ?_ _ | ((with_reducible refine Kp.setCell ?_ ?_ _); rotate_left; (focus (first | omega | (simp; done) | (simp; omega)))) | with_reducible refine Kp.trans ?_ (by assumption))))⟩
set_option maxRecDepth 100000 in
set_option maxHeartbeats 4000000 in
theorem putThing_no (a : Option Addr) (c : Nat) (k n l y x : Int) (w : World) (hl : SlOk w 1 enc1 a 5 c [k, n, l, y, x]) (hk : ¬ k < 1) (hk4 : ¬ 4 < k) :
    Calls Tryd.prog 26 #[.agg #[sv wThing, .slice a 5 c]] w fun e w' => e = .panicked gone ∧ Kp w w' := by
  have t0 : decide (k < 1) = false := decide_eq_false hk
  have t1 : decide (4 < k) = false := decide_eq_false hk4
  have hcl := hl.2.1
  have hcm := hl.2.2.1
  unfold maxLen at hcm
  rcases hl.2.2.2 with e | ⟨ga, oa, rfl, hga, r1⟩
  · cases e
  have d0 := r1 0 _ rfl 0 _ rfl
  have d1 := r1 1 _ rfl 0 _ rfl
  have d2 := r1 2 _ rfl 0 _ rfl
  have d3 := r1 3 _ rfl 0 _ rfl
  have d4 := r1 4 _ rfl 0 _ rfl
  simp only [Nat.add_zero, Nat.mul_one] at d0 d1 d2 d3 d4
  clear hl r1
  go_enter Tryd.func26, Tryd.ntmps26
  go_wp2_with fail
  refine (many_yes wThing (some ⟨ga, oa, none⟩) 5 c _).mono ?_
  rintro e w1 ⟨rfl, k1⟩
  have kw1 : Kp w w1 := ((by (repeat (first | with_reducible assumption | with_reducible exact Kp.refl _ | with_reducible refine Kp.drew ?_ | with_reducible refine Kp.drewN ?_ _ | with_reducible refine Kp.alloc ?_ _ | ((with_reducible refine Kp.setCell ?_ ?_ _); rotate_left; (focus (first | omega | (simp; done) | (simp; omega)))) | with_reducible refine Kp.trans ?_ (by assumption)))) : Kp w _).trans k1
  have bl : Blk w1 w.heap.size [sv wThing, .slice (some ⟨ga, oa, none⟩) 5 c] 58 := Blk.kp (by (repeat (first | with_reducible assumption | ((with_reducible refine Blk.newL ?_ ?_); (focus (first | (simp; done) | omega)); rfl) | with_reducible refine Blk.drew ?_ | with_reducible refine Blk.drewN ?_ _ | with_reducible refine Blk.alloc ?_ _ | ((with_reducible refine Blk.other ?_ ?_ _); rotate_left; (focus (first | with_reducible assumption | omega | (simp; done) | (simp; omega))))))) k1
  have bp : Blk w1 (w.heap.size + 1) [.int .i64 0, .int .i64 0, .int .i64 0, .int .i64 0, .int .i64 0] 33 := Blk.kp (by (repeat (first | with_reducible assumption | ((with_reducible refine Blk.newL ?_ ?_); (focus (first | (simp; done) | omega)); rfl) | with_reducible refine Blk.drew ?_ | with_reducible refine Blk.drewN ?_ _ | with_reducible refine Blk.alloc ?_ _ | ((with_reducible refine Blk.other ?_ ?_ _); rotate_left; (focus (first | with_reducible assumption | omega | (simp; done) | (simp; omega))))))) k1
  have bl0 := bl.cell 0 rfl
  have f0 := bp.free 0
  have z0 := bp.cell 0 rfl
  have f1 := bp.free 1
  have z1 := bp.cell 1 rfl
  have f2 := bp.free 2
  have z2 := bp.cell 2 rfl
  have f3 := bp.free 3
  have z3 := bp.cell 3 rfl
  have f4 := bp.free 4
  have z4 := bp.cell 4 rfl
  clear k1
  go_wp2_with fail
  (refine wp_region_held_drew (S := (fun w' => (∀ b o, b < w.heap.size → w'.cell? ⟨b, o, none⟩ = w.cell? ⟨b, o, none⟩) ∧ Kp w w')) (by kernel_rfl) ?_ (fun hHd => ?_); (focus ((try dsimp only); (first | with_reducible assumption | with_reducible exact held_start _ | with_reducible exact held_next (by assumption) (by assumption) | with_reducible exact held_alloc (by assumption) _ | with_reducible exact held_drew (by assumption) | ((with_reducible refine held_kp ?_); (repeat (first | with_reducible assumption | with_reducible exact Kp.refl _ | with_reducible refine Kp.drew ?_ | with_reducible refine Kp.drewN ?_ _ | with_reducible refine Kp.alloc ?_ _ | ((with_reducible refine Kp.setCell ?_ ?_ _); rotate_left; (focus (first | omega | (simp; done) | (simp; omega)))) | with_reducible refine Kp.trans ?_ (by assumption))))))))
  (refine takeH (i := 0) (oi := ?o246) (v := ?v246) ?h246 (by kernel_rfl) ?q246 (Or.inl ⟨?w246, ?y246⟩) (by assumption) ?r246; (case h246 => ((simp only [g1, g3]); rfl)); (case q246 => exact fun _ _ _ h => h); (case w246 => rfl); (case y246 => (intro w' hSw; (try dsimp only at hSw); go_simp; (try with_reducible rfl))); (try simp only [Act.put, s1, s2, s3]))
  (refine takeH (i := 1) (oi := ?o247) (v := ?v247) ?h247 (by kernel_rfl) ?q247 (Or.inl ⟨?w247, ?y247⟩) (by assumption) ?r247; (case h247 => ((simp only [g1, g2, g3]); rfl)); (case q247 => exact fun _ _ _ h => h); (case w247 => rfl); (case y247 => (intro w' hSw; (try dsimp only at hSw); go_simp; (try with_reducible rfl))); (try simp only [Act.put, s1, s2, s3]))
  (refine takeH (i := 2) (oi := ?o248) (v := ?v248) ?h248 (by kernel_rfl) ?q248 (Or.inl ⟨?w248, ?y248⟩) (by assumption) ?r248; (case h248 => ((simp only [g1, g2, g3]); rfl)); (case q248 => exact fun _ _ _ h => h); (case w248 => rfl); (case y248 => (intro w' hSw; (try dsimp only at hSw); go_simp; (try with_reducible rfl))); (try simp only [Act.put, s1, s2, s3]))
  (refine takeH (i := 3) (oi := ?o249) (v := ?v249) ?h249 (by kernel_rfl) ?q249 (Or.inl ⟨?w249, ?y249⟩) (by assumption) ?r249; (case h249 => ((simp only [g1, g2, g3]); rfl)); (case q249 => exact fun _ _ _ h => h); (case w249 => rfl); (case y249 => (intro w' hSw; (try dsimp only at hSw); go_simp; (try with_reducible rfl))); (try simp only [Act.put, s1, s2, s3]))
  (refine takeH (i := 4) (oi := ?o250) (v := ?v250) ?h250 (by kernel_rfl) ?q250 (Or.inl ⟨?w250, ?y250⟩) (by assumption) ?r250; (case h250 => ((simp only [g1, g2, g3]); rfl)); (case q250 => exact fun _ _ _ h => h); (case w250 => rfl); (case y250 => (intro w' hSw; (try dsimp only at hSw); go_simp; (try with_reducible rfl))); (try simp only [Act.put, s1, s2, s3]))
  (refine takeH (i := 5) (oi := ?o251) (v := ?v251) ?h251 (by kernel_rfl) ?q251 (Or.inl ⟨?w251, ?y251⟩) (by assumption) ?r251; (case h251 => ((simp only [g1, g2, g3]); rfl)); (case q251 => exact fun _ _ _ h => h); (case w251 => rfl); (case y251 => (intro w' hSw; (try dsimp only at hSw); go_simp; (try with_reducible rfl))); (try simp only [Act.put, s1, s2, s3]))
  (refine takeH (i := 6) (oi := ?o252) (v := ?v252) ?h252 (by kernel_rfl) ?q252 (Or.inl ⟨?w252, ?y252⟩) (by assumption) ?r252; (case h252 => ((simp only [g1, g2, g3]); rfl)); (case q252 => exact fun _ _ _ h => h); (case w252 => rfl); (case y252 => (intro w' hSw; (try dsimp only at hSw); go_simp; (try with_reducible rfl))); (try simp only [Act.put, s1, s2, s3]))
  (refine takeH (i := 7) (oi := ?o253) (v := ?v253) ?h253 (by kernel_rfl) ?q253 (Or.inl ⟨?w253, ?y253⟩) (by assumption) ?r253; (case h253 => ((simp only [g1, g2, g3]); rfl)); (case q253 => exact fun _ _ _ h => h); (case w253 => rfl); (case y253 => (intro w' hSw; (try dsimp only at hSw); go_simp; (try with_reducible rfl))); (try simp only [Act.put, s1, s2, s3]))
  (refine takeH (i := 8) (oi := ?o254) (v := ?v254) ?h254 (by kernel_rfl) ?q254 (Or.inl ⟨?w254, ?y254⟩) (by assumption) ?r254; (case h254 => ((simp only [g1, g2, g3]); rfl)); (case q254 => exact fun _ _ _ h => h); (case w254 => rfl); (case y254 => (intro w' hSw; (try dsimp only at hSw); go_simp; (try with_reducible rfl))); (try simp only [Act.put, s1, s2, s3]))
  (refine takeH (i := 9) (oi := ?o255) (v := ?v255) ?h255 (by kernel_rfl) ?q255 (Or.inl ⟨?w255, ?y255⟩) (by assumption) ?r255; (case h255 => ((simp only [g1, g2, g3]); rfl)); (case q255 => exact fun _ _ _ h => h); (case w255 => rfl); (case y255 => (intro w' hSw; (try dsimp only at hSw); go_simp; (try with_reducible rfl))); (try simp only [Act.put, s1, s2, s3]))
  (refine takeH (i := 10) (oi := ?o256) (v := ?v256) ?h256 (by kernel_rfl) ?q256 (Or.inl ⟨?w256, ?y256⟩) (by assumption) ?r256; (case h256 => ((simp only [g1, g2, g3]); rfl)); (case q256 => exact fun _ _ _ h => h); (case w256 => rfl); (case y256 => (intro w' hSw; (try dsimp only at hSw); go_simp; (try with_reducible rfl))); (try simp only [Act.put, s1, s2, s3]))
  (refine takeH (i := 11) (oi := ?o257) (v := ?v257) ?h257 (by kernel_rfl) ?q257 (Or.inl ⟨?w257, ?y257⟩) (by assumption) ?r257; (case h257 => ((simp only [g1, g2, g3]); rfl)); (case q257 => exact fun _ _ _ h => h); (case w257 => rfl); (case y257 => (intro w' hSw; (try dsimp only at hSw); go_simp; (try with_reducible rfl))); (try simp only [Act.put, s1, s2, s3]))
  (refine takeH (i := 12) (oi := ?o258) (v := ?v258) ?h258 (by kernel_rfl) ?q258 (Or.inl ⟨?w258, ?y258⟩) (by assumption) ?r258; (case h258 => ((simp only [g1, g2, g3]); rfl)); (case q258 => exact fun _ _ _ h => h); (case w258 => rfl); (case y258 => (intro w' hSw; (try dsimp only at hSw); go_simp; (try with_reducible rfl))); (try simp only [Act.put, s1, s2, s3]))
  (refine takeH (i := 13) (oi := ?o259) (v := ?v259) ?h259 (by kernel_rfl) ?q259 (Or.inl ⟨?w259, ?y259⟩) (by assumption) ?r259; (case h259 => ((simp only [g1, g2, g3]); rfl)); (case q259 => exact fun _ _ _ h => h); (case w259 => rfl); (case y259 => (intro w' hSw; (try dsimp only at hSw); go_simp; (try with_reducible rfl))); (try simp only [Act.put, s1, s2, s3]))
  (refine takeH (i := 14) (oi := ?o260) (v := ?v260) ?h260 (by kernel_rfl) ?q260 (Or.inl ⟨?w260, ?y260⟩) (by assumption) ?r260; (case h260 => ((simp only [g1, g2, g3]); rfl)); (case q260 => exact fun _ _ _ h => h); (case w260 => rfl); (case y260 => (intro w' hSw; (try dsimp only at hSw); go_simp; (try with_reducible rfl))); (try simp only [Act.put, s1, s2, s3]))
  (refine takeH (i := 15) (oi := ?o261) (v := ?v261) ?h261 (by kernel_rfl) ?q261 (Or.inl ⟨?w261, ?y261⟩) (by assumption) ?r261; (case h261 => ((simp only [g1, g2, g3]); rfl)); (case q261 => exact fun _ _ _ h => h); (case w261 => rfl); (case y261 => (intro w' hSw; (try dsimp only at hSw); go_simp; (try with_reducible rfl))); (try simp only [Act.put, s1, s2, s3]))
  (refine wpAnyH_ready (rs := [16]) (by kernel_rfl) (by simp) ?_; refine AllReadyH.cons (o := ?o262) ?h262 (fun K hK => ?s262) AllReadyH.nil; (case h262 => (first | ((simp only [g1, g2, g3]); rfl) | rfl)); go_simp; (try dsimp only); refine hK.out _ _ ?_ (fun hHd => ?_); (focus ((try dsimp only); (first | with_reducible assumption | with_reducible exact held_start _ | with_reducible exact held_next (by assumption) (by assumption) | with_reducible exact held_alloc (by assumption) _ | with_reducible exact held_drew (by assumption) | ((with_reducible refine held_kp ?_); (repeat (first | with_reducible assumption | with_reducible exact Kp.refl _ | with_reducible refine Kp.drew ?_ | with_reducible refine Kp.drewN ?_ _ | with_reducible refine Kp.alloc ?_ _ | ((with_reducible refine Kp.setCell ?_ ?_ _); rotate_left; (focus (first | omega | (simp; done) | (simp; omega)))) | with_reducible refine Kp.trans ?_ (by assumption))))))); clear hK K; (try simp only [Act.put, s1, s2, s3]))
  (refine wpAnyH_ready (rs := [17]) (by kernel_rfl) (by simp) ?_; refine AllReadyH.cons (o := ?o263) ?h263 (fun K hK => ?s263) AllReadyH.nil; (case h263 => (first | ((simp only [g1, g2, g3]); rfl) | rfl)); go_simp; (try dsimp only); refine hK.out _ _ ?_ (fun hHd => ?_); (focus ((try dsimp only); (first | with_reducible assumption | with_reducible exact held_start _ | with_reducible exact held_next (by assumption) (by assumption) | with_reducible exact held_alloc (by assumption) _ | with_reducible exact held_drew (by assumption) | ((with_reducible refine held_kp ?_); (repeat (first | with_reducible assumption | with_reducible exact Kp.refl _ | with_reducible refine Kp.drew ?_ | with_reducible refine Kp.drewN ?_ _ | with_reducible refine Kp.alloc ?_ _ | ((with_reducible refine Kp.setCell ?_ ?_ _); rotate_left; (focus (first | omega | (simp; done) | (simp; omega)))) | with_reducible refine Kp.trans ?_ (by assumption))))))); clear hK K; (try simp only [Act.put, s1, s2, s3]))
  refine wpAnyH_done (by kernel_rfl) ?_ _
  clear hHd
  go_wp2_with fail
  exact ⟨rfl, rfl, (by (repeat (first | with_reducible assumption | with_reducible exact Kp.refl _ | with_reducible refine Kp.drew ?_ | with_reducible refine Kp.drewN ?_ _ | with_reducible refine Kp.alloc ?_ _ | ((with_reducible refine Kp.setCell ?_ ?_ _); rotate_left; (focus (first | omega | (simp; done) | (simp; omega)))) | with_reducible refine Kp.trans ?_ (by assumption))))⟩
set_option maxHeartbeats 2000000 in
theorem putBox_many (a : Option Addr) (n c : Nat) (w : World) (h : n ≠ 3) :
    Calls Tryd.prog 26 #[.agg #[sv wBox, .slice a n c]] w fun e w' => e = .panicked gone ∧ Kp w w' := by
  go_enter Tryd.func26, Tryd.ntmps26
  go_wp2_with fail
  refine (many_no wBox a n c 3 _ h).mono ?_
  rintro e w1 ⟨rfl, k1⟩
  have kw1 : Kp w w1 := ((by (repeat (first | with_reducible assumption | with_reducible exact Kp.refl _ | with_reducible refine Kp.drew ?_ | with_reducible refine Kp.drewN ?_ _ | with_reducible refine Kp.alloc ?_ _ | ((with_reducible refine Kp.setCell ?_ ?_ _); rotate_left; (focus (first | omega | (simp; done) | (simp; omega)))) | with_reducible refine Kp.trans ?_ (by assumption)))) : Kp w _).trans k1
  go_wp2_with fail
  exact ⟨rfl, rfl, kw1⟩
set_option maxHeartbeats 2000000 in
theorem putFloat_many (a : Option Addr) (n c : Nat) (w : World) (h : n ≠ 3) :
    Calls Tryd.prog 26 #[.agg #[sv wFloat, .slice a n c]] w fun e w' => e = .panicked gone ∧ Kp w w' := by
  go_enter Tryd.func26, Tryd.ntmps26
  go_wp2_with fail
  refine (many_no wFloat a n c 3 _ h).mono ?_
  rintro e w1 ⟨rfl, k1⟩
  have kw1 : Kp w w1 := ((by (repeat (first | with_reducible assumption | with_reducible exact Kp.refl _ | with_reducible refine Kp.drew ?_ | with_reducible refine Kp.drewN ?_ _ | with_reducible refine Kp.alloc ?_ _ | ((with_reducible refine Kp.setCell ?_ ?_ _); rotate_left; (focus (first | omega | (simp; done) | (simp; omega)))) | with_reducible refine Kp.trans ?_ (by assumption)))) : Kp w _).trans k1
  go_wp2_with fail
  exact ⟨rfl, rfl, kw1⟩
set_option maxHeartbeats 2000000 in
theorem putRule_many (a : Option Addr) (n c : Nat) (w : World) (h : n ≠ 2) :
    Calls Tryd.prog 26 #[.agg #[sv wRule, .slice a n c]] w fun e w' => e = .panicked gone ∧ Kp w w' := by
  go_enter Tryd.func26, Tryd.ntmps26
  go_wp2_with fail
  refine (many_no wRule a n c 2 _ h).mono ?_
  rintro e w1 ⟨rfl, k1⟩
  have kw1 : Kp w w1 := ((by (repeat (first | with_reducible assumption | with_reducible exact Kp.refl _ | with_reducible refine Kp.drew ?_ | with_reducible refine Kp.drewN ?_ _ | with_reducible refine Kp.alloc ?_ _ | ((with_reducible refine Kp.setCell ?_ ?_ _); rotate_left; (focus (first | omega | (simp; done) | (simp; omega)))) | with_reducible refine Kp.trans ?_ (by assumption)))) : Kp w _).trans k1
  go_wp2_with fail
  exact ⟨rfl, rfl, kw1⟩
set_option maxHeartbeats 2000000 in
theorem putLine_many (a : Option Addr) (n c : Nat) (w : World) (h : n ≠ 4) :
    Calls Tryd.prog 26 #[.agg #[sv wLine, .slice a n c]] w fun e w' => e = .panicked gone ∧ Kp w w' := by
  go_enter Tryd.func26, Tryd.ntmps26
  go_wp2_with fail
  refine (many_no wLine a n c 4 _ h).mono ?_
  rintro e w1 ⟨rfl, k1⟩
  have kw1 : Kp w w1 := ((by (repeat (first | with_reducible assumption | with_reducible exact Kp.refl _ | with_reducible refine Kp.drew ?_ | with_reducible refine Kp.drewN ?_ _ | with_reducible refine Kp.alloc ?_ _ | ((with_reducible refine Kp.setCell ?_ ?_ _); rotate_left; (focus (first | omega | (simp; done) | (simp; omega)))) | with_reducible refine Kp.trans ?_ (by assumption)))) : Kp w _).trans k1
  go_wp2_with fail
  exact ⟨rfl, rfl, kw1⟩
set_option maxHeartbeats 2000000 in
theorem putThing_many (a : Option Addr) (n c : Nat) (w : World) (h : n ≠ 5) :
    Calls Tryd.prog 26 #[.agg #[sv wThing, .slice a n c]] w fun e w' => e = .panicked gone ∧ Kp w w' := by
  go_enter Tryd.func26, Tryd.ntmps26
  go_wp2_with fail
  refine (many_no wThing a n c 5 _ h).mono ?_
  rintro e w1 ⟨rfl, k1⟩
  have kw1 : Kp w w1 := ((by (repeat (first | with_reducible assumption | with_reducible exact Kp.refl _ | with_reducible refine Kp.drew ?_ | with_reducible refine Kp.drewN ?_ _ | with_reducible refine Kp.alloc ?_ _ | ((with_reducible refine Kp.setCell ?_ ?_ _); rotate_left; (focus (first | omega | (simp; done) | (simp; omega)))) | with_reducible refine Kp.trans ?_ (by assumption)))) : Kp w _).trans k1
  go_wp2_with fail
  exact ⟨rfl, rfl, kw1⟩
set_option maxHeartbeats 2000000 in
theorem putOther_no (wd : List UInt8) (a : Option Addr) (n c : Nat) (w : World) (h1 : wd ≠ wBox) (h2 : wd ≠ wFloat) (h3 : wd ≠ wRule) (h4 : wd ≠ wLine) (h5 : wd ≠ wThing) :
    Calls Tryd.prog 26 #[.agg #[sv wd, .slice a n c]] w fun e w' => e = .panicked gone ∧ Kp w w' := by
  have e1 : (wd == [98, 111, 120]) = false := beq_eq_false_iff_ne.2 h1
  have e2 : (wd == [102, 108, 111, 97, 116]) = false := beq_eq_false_iff_ne.2 h2
  have e3 : (wd == [114, 117, 108, 101]) = false := beq_eq_false_iff_ne.2 h3
  have e4 : (wd == [108, 105, 110, 101]) = false := beq_eq_false_iff_ne.2 h4
  have e5 : (wd == [116, 104, 105, 110, 103]) = false := beq_eq_false_iff_ne.2 h5
  go_enter Tryd.func26, Tryd.ntmps26
  go_wp2_with fail
  exact ⟨rfl, rfl, (by (repeat (first | with_reducible assumption | with_reducible exact Kp.refl _ | with_reducible refine Kp.drew ?_ | with_reducible refine Kp.drewN ?_ _ | with_reducible refine Kp.alloc ?_ _ | ((with_reducible refine Kp.setCell ?_ ?_ _); rotate_left; (focus (first | omega | (simp; done) | (simp; omega)))) | with_reducible refine Kp.trans ?_ (by assumption))))⟩
end Go.Proofs.YtkglkbkikgncoaaDoor
