/- Part 14 of the proof: The document's pages with a line more: a line that is no page. -/
import Derived.Test.YteadhacoglcbfaaDoorZ13
namespace Go.Proofs.YteadhacoglcbfaaDoor

open Go.ChangeShapes Go.WideShapes Go.ChangeAt Go.RowKit Go.Shelf

set_option maxRecDepth 100000 in
set_option maxHeartbeats 8000000 in
theorem one_nopage (line : List UInt8) (w0 : List UInt8) (ws : List (List UInt8)) (hw : splitW line = w0 :: ws) (hw1 : w0 ≠ wPage) (n0 n1 n2 n3 : Int) (hn : (numsL line)[0]? = some n0 ∧ (numsL line)[1]? = some n1 ∧ (numsL line)[2]? = some n2 ∧ (numsL line)[3]? = some n3) (hs : line.length ≤ 10000) (w : World) :
    Calls Tryd.prog 22 #[.slice none 0 0, sv line] w fun e w' => e = .returned (.agg #[.slice none 0 0, .int .i64 0, .bool false]) ∧ Kp w w' := by
  have CN := Lib.hid (fun w' => nums_any line hs w')
  have CW := Lib.hid (fun w' => words_any line hs w')
  rw [hw] at CW
  have HN := Lib.hid hn
  have h6 := numsL_len line
  have t1 : (w0 == [112, 97, 103, 101]) = false := beq_eq_false_iff_ne.2 hw1
  clear hw1
  clear hn hw
  go_enter Tryd.func22, Tryd.ntmps22
  go_wp2_with fail
  refine (CN.out _).mono ?_
  rintro e w1 ⟨v1, rfl, hr1, k1⟩
  obtain ⟨a1, c1, rfl, sl1⟩ := hr1.sl (fun _ => rfl)
  have m1 := sl1.2.1
  have m2 := sl1.2.2.1
  unfold maxLen at m2
  rcases sl1.2.2.2 with e | ⟨gn, o, rfl, hgn, r1⟩
  · rw [e] at h6; simp at h6
  have d0 := r1 0 _ HN.out.1 0 _ rfl
  have d1 := r1 1 _ HN.out.2.1 0 _ rfl
  have d2 := r1 2 _ HN.out.2.2.1 0 _ rfl
  have d3 := r1 3 _ HN.out.2.2.2 0 _ rfl
  simp only [Nat.add_zero, Nat.mul_one] at d0 d1 d2 d3
  have br1 : Blk w1 w.heap.size [.slice none 0 0, .int .i64 0, .bool false] 27 := Blk.kp (by (repeat (first | with_reducible assumption | ((with_reducible refine Blk.newL ?_ ?_); (focus (first | (simp; done) | omega)); rfl) | with_reducible refine Blk.drew ?_ | with_reducible refine Blk.drewN ?_ _ | with_reducible refine Blk.alloc ?_ _ | ((with_reducible refine Blk.other ?_ ?_ _); rotate_left; (focus (first | with_reducible assumption | omega | (simp; done) | (simp; omega))))))) k1
  have kw1 : Kp w w1 := ((by (repeat (first | with_reducible assumption | with_reducible exact Kp.refl _ | with_reducible refine Kp.drew ?_ | with_reducible refine Kp.drewN ?_ _ | with_reducible refine Kp.alloc ?_ _ | ((with_reducible refine Kp.setCell ?_ ?_ _); rotate_left; (focus (first | omega | (simp; done) | (simp; omega)))) | with_reducible refine Kp.trans ?_ (by assumption)))) : Kp w _).trans k1
  obtain ⟨L, hL⟩ : ∃ L, (numsL line).length = L := ⟨_, rfl⟩
  rw [hL] at h6 m1 ⊢
  have l0 : 0 < L := by omega
  have l1 : (1 : Int) < (L : Int) := by omega
  have l2 : (2 : Int) < (L : Int) := by omega
  have l3 : (3 : Int) < (L : Int) := by omega
  clear hr1 sl1 r1 k1 hL HN CN
  go_wp2_with fail
  (refine wp_region_held_drew (S := (fun w' => (∀ b o, b < w1.heap.size → w'.cell? ⟨b, o, none⟩ = w1.cell? ⟨b, o, none⟩) ∧ Kp w1 w')) (by kernel_rfl) ?_ (fun hHd => ?_); (focus ((try dsimp only); (first | with_reducible assumption | with_reducible exact held_start _ | with_reducible exact held_next (by assumption) (by assumption) | with_reducible exact held_alloc (by assumption) _ | with_reducible exact held_drew (by assumption) | ((with_reducible refine held_kp ?_); (repeat (first | with_reducible assumption | with_reducible exact Kp.refl _ | with_reducible refine Kp.drew ?_ | with_reducible refine Kp.drewN ?_ _ | with_reducible refine Kp.alloc ?_ _ | ((with_reducible refine Kp.setCell ?_ ?_ _); rotate_left; (focus (first | omega | (simp; done) | (simp; omega)))) | with_reducible refine Kp.trans ?_ (by assumption))))))))
  (refine takeH (i := 0) (oi := ?o65) (v := ?v65) ?h65 (by kernel_rfl) ?q65 (Or.inl ⟨?w65, ?y65⟩) (by assumption) ?r65; (case h65 => ((simp only [g1, g3]); rfl)); (case q65 => exact fun _ _ _ h => h); (case w65 => rfl); (case y65 => (intro w' hSw; (try dsimp only at hSw); go_simp; (try with_reducible rfl))); (try simp only [Act.put, s1, s2, s3]))
  (refine takeH (i := 1) (oi := ?o66) (v := ?v66) ?h66 (by kernel_rfl) ?q66 (Or.inl ⟨?w66, ?y66⟩) (by assumption) ?r66; (case h66 => ((simp only [g1, g2, g3]); rfl)); (case q66 => exact fun _ _ _ h => h); (case w66 => rfl); (case y66 => (intro w' hSw; (try dsimp only at hSw); go_simp; (try with_reducible rfl))); (try simp only [Act.put, s1, s2, s3]))
  (refine takeH (i := 2) (oi := ?o67) (v := ?v67) ?h67 (by kernel_rfl) ?q67 (Or.inl ⟨?w67, ?y67⟩) (by assumption) ?r67; (case h67 => ((simp only [g1, g2, g3]); rfl)); (case q67 => exact fun _ _ _ h => h); (case w67 => rfl); (case y67 => (intro w' hSw; (try dsimp only at hSw); go_simp; (try with_reducible rfl))); (try simp only [Act.put, s1, s2, s3]))
  (refine takeH (i := 3) (oi := ?o68) (v := ?v68) ?h68 (by kernel_rfl) ?q68 (Or.inl ⟨?w68, ?y68⟩) (by assumption) ?r68; (case h68 => ((simp only [g1, g2, g3]); rfl)); (case q68 => exact fun _ _ _ h => h); (case w68 => rfl); (case y68 => (intro w' hSw; (try dsimp only at hSw); go_simp; (try with_reducible rfl))); (try simp only [Act.put, s1, s2, s3]))
  (refine takeH (i := 4) (oi := ?o69) (v := ?v69) ?h69 (by kernel_rfl) ?q69 (Or.inl ⟨?w69, ?y69⟩) (by assumption) ?r69; (case h69 => ((simp only [g1, g2, g3]); rfl)); (case q69 => exact fun _ _ _ h => h); (case w69 => rfl); (case y69 => (intro w' hSw; (try dsimp only at hSw); go_simp; (try with_reducible rfl))); (try simp only [Act.put, s1, s2, s3]))
  (refine takeH (i := 5) (oi := ?o70) (v := ?v70) ?h70 (by kernel_rfl) ?q70 (Or.inl ⟨?w70, ?y70⟩) (by assumption) ?r70; (case h70 => ((simp only [g1, g2, g3]); rfl)); (case q70 => exact fun _ _ _ h => h); (case w70 => rfl); (case y70 => (intro w' hSw; (try dsimp only at hSw); go_simp; (try with_reducible rfl))); (try simp only [Act.put, s1, s2, s3]))
  (refine takeH (i := 6) (oi := ?o71) (v := ?v71) ?h71 (by kernel_rfl) ?q71 (Or.inl ⟨?w71, ?y71⟩) (by assumption) ?r71; (case h71 => ((simp only [g1, g2, g3]); rfl)); (case q71 => exact fun _ _ _ h => h); (case w71 => rfl); (case y71 => (intro w' hSw; (try dsimp only at hSw); go_simp; (try with_reducible rfl))); (try simp only [Act.put, s1, s2, s3]))
  (refine takeH (i := 7) (oi := ?o72) (v := ?v72) ?h72 (by kernel_rfl) ?q72 (Or.inl ⟨?w72, ?y72⟩) (by assumption) ?r72; (case h72 => ((simp only [g1, g2, g3]); rfl)); (case q72 => exact fun _ _ _ h => h); (case w72 => rfl); (case y72 => (intro w' hSw; (try dsimp only at hSw); go_simp; (try with_reducible rfl))); (try simp only [Act.put, s1, s2, s3]))
  (refine takeH (i := 8) (oi := ?o73) (v := ?v73) ?h73 (by kernel_rfl) ?q73 (Or.inl ⟨?w73, ?y73⟩) (by assumption) ?r73; (case h73 => ((simp only [g1, g2, g3]); rfl)); (case q73 => exact fun _ _ _ h => h); (case w73 => rfl); (case y73 => (intro w' hSw; (try dsimp only at hSw); go_simp; (try with_reducible rfl))); (try simp only [Act.put, s1, s2, s3]))
  (refine takeH (i := 9) (oi := ?o74) (v := ?v74) ?h74 (by kernel_rfl) ?q74 (Or.inl ⟨?w74, ?y74⟩) (by assumption) ?r74; (case h74 => ((simp only [g1, g2, g3]); rfl)); (case q74 => exact fun _ _ _ h => h); (case w74 => rfl); (case y74 => (intro w' hSw; (try dsimp only at hSw); go_simp; (try with_reducible rfl))); (try simp only [Act.put, s1, s2, s3]))
  (refine wpAnyH_ready (rs := [10]) (by kernel_rfl) (by simp) ?_; refine AllReadyH.cons (o := ?o75) ?h75 (fun K hK => ?s75) AllReadyH.nil; (case h75 => (first | ((simp only [g1, g2, g3]); rfl) | rfl)); go_simp; (try dsimp only); refine hK.out _ _ ?_ (fun hHd => ?_); (focus ((try dsimp only); (first | with_reducible assumption | with_reducible exact held_start _ | with_reducible exact held_next (by assumption) (by assumption) | with_reducible exact held_alloc (by assumption) _ | with_reducible exact held_drew (by assumption) | ((with_reducible refine held_kp ?_); (repeat (first | with_reducible assumption | with_reducible exact Kp.refl _ | with_reducible refine Kp.drew ?_ | with_reducible refine Kp.drewN ?_ _ | with_reducible refine Kp.alloc ?_ _ | ((with_reducible refine Kp.setCell ?_ ?_ _); rotate_left; (focus (first | omega | (simp; done) | (simp; omega)))) | with_reducible refine Kp.trans ?_ (by assumption))))))); clear hK K; (try simp only [Act.put, s1, s2, s3]))
  (refine wpAnyH_ready (rs := [11]) (by kernel_rfl) (by simp) ?_; refine AllReadyH.cons (o := ?o76) ?h76 (fun K hK => ?s76) AllReadyH.nil; (case h76 => (first | ((simp only [g1, g2, g3]); rfl) | rfl)); go_simp; (try dsimp only); refine hK.out _ _ ?_ (fun hHd => ?_); (focus ((try dsimp only); (first | with_reducible assumption | with_reducible exact held_start _ | with_reducible exact held_next (by assumption) (by assumption) | with_reducible exact held_alloc (by assumption) _ | with_reducible exact held_drew (by assumption) | ((with_reducible refine held_kp ?_); (repeat (first | with_reducible assumption | with_reducible exact Kp.refl _ | with_reducible refine Kp.drew ?_ | with_reducible refine Kp.drewN ?_ _ | with_reducible refine Kp.alloc ?_ _ | ((with_reducible refine Kp.setCell ?_ ?_ _); rotate_left; (focus (first | omega | (simp; done) | (simp; omega)))) | with_reducible refine Kp.trans ?_ (by assumption))))))); clear hK K; (try simp only [Act.put, s1, s2, s3]))
  refine wpAnyH_done (by kernel_rfl) ?_ _
  clear hHd
  go_wp2_with fail
  refine (CW.out _).mono ?_
  rintro e w2 ⟨v2, rfl, hr2, k2⟩
  obtain ⟨a2, c2, rfl, sl2⟩ := hr2.sl (fun _ => rfl)
  have m3 := sl2.2.1
  have m4 := sl2.2.2.1
  unfold maxLen at m4
  rcases sl2.2.2.2 with e | ⟨g2', o2, rfl, hg2, r2⟩
  · cases e
  have q0 := r2 0 _ rfl 0 _ rfl
  simp only [Nat.add_zero, Nat.mul_one] at q0
  have kw2 : Kp w1 w2 := ((by (repeat (first | with_reducible assumption | with_reducible exact Kp.refl _ | with_reducible refine Kp.drew ?_ | with_reducible refine Kp.drewN ?_ _ | with_reducible refine Kp.alloc ?_ _ | ((with_reducible refine Kp.setCell ?_ ?_ _); rotate_left; (focus (first | omega | (simp; done) | (simp; omega)))) | with_reducible refine Kp.trans ?_ (by assumption)))) : Kp w1 _).trans k2
  have br := br1.kp kw2
  have brl := br1.lt
  clear hr2 sl2 r2 k2 br1 CW
  have y0 := br.cell 0 rfl
  have y1 := br.cell 1 rfl
  have y2 := br.cell 2 rfl
  have f0 := br.free 0
  have f1 := br.free 1
  have f2 := br.free 2
  go_wp2_with fail
  have zz := (((br.set 0 (.slice none 0 0)).set 1 (.int .i64 0)).set 2 (.bool false))
  have x0 := zz.cell 0 rfl
  have x1 := zz.cell 1 rfl
  have x2 := zz.cell 2 rfl
  clear y0 y1 y2
  refine bodyPost_ret (v := .agg #[.slice none 0 0, .int .i64 0, .bool false]) (by simp [results, Tryd.results22, go_sem, x0, x1, x2]) rfl ?_
  exact ⟨rfl, (by (repeat (first | with_reducible assumption | with_reducible exact Kp.refl _ | with_reducible refine Kp.drew ?_ | with_reducible refine Kp.drewN ?_ _ | with_reducible refine Kp.alloc ?_ _ | ((with_reducible refine Kp.setCell ?_ ?_ _); rotate_left; (focus (first | omega | (simp; done) | (simp; omega)))) | with_reducible refine Kp.trans ?_ (by assumption))))⟩
set_option maxRecDepth 100000 in
set_option maxHeartbeats 8000000 in
theorem one_nolane (line : List UInt8) (w0 : List UInt8) (ws : List (List UInt8)) (hw : splitW line = w0 :: ws) (hw1 : w0 ≠ wPage) (n0 n1 n2 n3 : Int) (hn : (numsL line)[0]? = some n0 ∧ (numsL line)[1]? = some n1 ∧ (numsL line)[2]? = some n2 ∧ (numsL line)[3]? = some n3) (hs : line.length ≤ 10000) (hw2 : w0 ≠ wLane) (base : Nat) (qs : List Page) (k g vc : Nat) (la : Option Addr) (n lc : Nat) (ll : List Lane) (pt pf pl : Int) (hk : qs.length = k) (hps : k ≤ 1000000) (w : World) (hr : Row w base 49 4 Page.cells (.slice (some ⟨g, 0, none⟩) (k + 1) vc) (qs ++ [⟨⟨la, n, lc, ll⟩, pt, pf, pl⟩])) (P : Put) (b : Bool) (hP : refGot line = gotV P b) (hn0 : n = 0) :
    Calls Tryd.prog 22 #[.slice (some ⟨g, 0, none⟩) (k + 1) vc, sv line] w fun e w' => e = .returned (.agg #[.slice none 0 0, .int .i64 0, .bool false]) ∧ Kp w w' := by
  obtain ⟨pk, pn, pll, py, ph⟩ := P
  subst hn0
  have CP := Lib.hid (fun w' => refPut51_any line hs w')
  rw [hP] at CP
  unfold gotV at CP
  clear hP
  have CW2 := Lib.hid (fun w' => words_any line hs w')
  rw [hw] at CW2
  have hgg := (hr.lt g rfl).2
  obtain ⟨-, hvc1, hvm⟩ := hr.shape1 (by rw [List.length_append, List.length_singleton]; omega)
  unfold maxLen at hvm
  have P0 := Row.cellN (enc := Page.cells) (fun _ => rfl) hr rfl (get_last hk) (j := 0) rfl
  simp only [Nat.add_zero] at P0
  have ek : (k : Int) < (k : Int) + 1 := by omega
  have j2 : decide ((k : Int) + 1 = 0) = false := decide_eq_false (by omega)
  have j3 : (((k : Int) + 1) == 0) = false := beq_eq_false_iff_ne.2 (by omega)
  clear hr
  have CN := Lib.hid (fun w' => nums_any line hs w')
  have CW := Lib.hid (fun w' => words_any line hs w')
  rw [hw] at CW
  have HN := Lib.hid hn
  have h6 := numsL_len line
  have t1 : (w0 == [112, 97, 103, 101]) = false := beq_eq_false_iff_ne.2 hw1
  clear hw1
  have t2 : (w0 == [108, 97, 110, 101]) = false := beq_eq_false_iff_ne.2 hw2
  clear hw2
  clear hn hw
  go_enter Tryd.func22, Tryd.ntmps22
  go_wp2_with fail
  refine (CN.out _).mono ?_
  rintro e w1 ⟨v1, rfl, hr1, k1⟩
  obtain ⟨a1, c1, rfl, sl1⟩ := hr1.sl (fun _ => rfl)
  have m1 := sl1.2.1
  have m2 := sl1.2.2.1
  unfold maxLen at m2
  rcases sl1.2.2.2 with e | ⟨gn, o, rfl, hgn, r1⟩
  · rw [e] at h6; simp at h6
  have d0 := r1 0 _ HN.out.1 0 _ rfl
  have d1 := r1 1 _ HN.out.2.1 0 _ rfl
  have d2 := r1 2 _ HN.out.2.2.1 0 _ rfl
  have d3 := r1 3 _ HN.out.2.2.2 0 _ rfl
  simp only [Nat.add_zero, Nat.mul_one] at d0 d1 d2 d3
  have br1 : Blk w1 w.heap.size [.slice none 0 0, .int .i64 0, .bool false] 27 := Blk.kp (by (repeat (first | with_reducible assumption | ((with_reducible refine Blk.newL ?_ ?_); (focus (first | (simp; done) | omega)); rfl) | with_reducible refine Blk.drew ?_ | with_reducible refine Blk.drewN ?_ _ | with_reducible refine Blk.alloc ?_ _ | ((with_reducible refine Blk.other ?_ ?_ _); rotate_left; (focus (first | with_reducible assumption | omega | (simp; done) | (simp; omega))))))) k1
  have kw1 : Kp w w1 := ((by (repeat (first | with_reducible assumption | with_reducible exact Kp.refl _ | with_reducible refine Kp.drew ?_ | with_reducible refine Kp.drewN ?_ _ | with_reducible refine Kp.alloc ?_ _ | ((with_reducible refine Kp.setCell ?_ ?_ _); rotate_left; (focus (first | omega | (simp; done) | (simp; omega)))) | with_reducible refine Kp.trans ?_ (by assumption)))) : Kp w _).trans k1
  obtain ⟨L, hL⟩ : ∃ L, (numsL line).length = L := ⟨_, rfl⟩
  rw [hL] at h6 m1 ⊢
  have l0 : 0 < L := by omega
  have l1 : (1 : Int) < (L : Int) := by omega
  have l2 : (2 : Int) < (L : Int) := by omega
  have l3 : (3 : Int) < (L : Int) := by omega
  clear hr1 sl1 r1 k1 hL HN CN
  go_wp2_with fail
  (refine wp_region_held_drew (S := (fun w' => (∀ b o, b < w1.heap.size → w'.cell? ⟨b, o, none⟩ = w1.cell? ⟨b, o, none⟩) ∧ Kp w1 w')) (by kernel_rfl) ?_ (fun hHd => ?_); (focus ((try dsimp only); (first | with_reducible assumption | with_reducible exact held_start _ | with_reducible exact held_next (by assumption) (by assumption) | with_reducible exact held_alloc (by assumption) _ | with_reducible exact held_drew (by assumption) | ((with_reducible refine held_kp ?_); (repeat (first | with_reducible assumption | with_reducible exact Kp.refl _ | with_reducible refine Kp.drew ?_ | with_reducible refine Kp.drewN ?_ _ | with_reducible refine Kp.alloc ?_ _ | ((with_reducible refine Kp.setCell ?_ ?_ _); rotate_left; (focus (first | omega | (simp; done) | (simp; omega)))) | with_reducible refine Kp.trans ?_ (by assumption))))))))
  (refine takeH (i := 0) (oi := ?o77) (v := ?v77) ?h77 (by kernel_rfl) ?q77 (Or.inl ⟨?w77, ?y77⟩) (by assumption) ?r77; (case h77 => ((simp only [g1, g3]); rfl)); (case q77 => exact fun _ _ _ h => h); (case w77 => rfl); (case y77 => (intro w' hSw; (try dsimp only at hSw); go_simp; (try with_reducible rfl))); (try simp only [Act.put, s1, s2, s3]))
  (refine takeH (i := 1) (oi := ?o78) (v := ?v78) ?h78 (by kernel_rfl) ?q78 (Or.inl ⟨?w78, ?y78⟩) (by assumption) ?r78; (case h78 => ((simp only [g1, g2, g3]); rfl)); (case q78 => exact fun _ _ _ h => h); (case w78 => rfl); (case y78 => (intro w' hSw; (try dsimp only at hSw); go_simp; (try with_reducible rfl))); (try simp only [Act.put, s1, s2, s3]))
  (refine takeH (i := 2) (oi := ?o79) (v := ?v79) ?h79 (by kernel_rfl) ?q79 (Or.inl ⟨?w79, ?y79⟩) (by assumption) ?r79; (case h79 => ((simp only [g1, g2, g3]); rfl)); (case q79 => exact fun _ _ _ h => h); (case w79 => rfl); (case y79 => (intro w' hSw; (try dsimp only at hSw); go_simp; (try with_reducible rfl))); (try simp only [Act.put, s1, s2, s3]))
  (refine takeH (i := 3) (oi := ?o80) (v := ?v80) ?h80 (by kernel_rfl) ?q80 (Or.inl ⟨?w80, ?y80⟩) (by assumption) ?r80; (case h80 => ((simp only [g1, g2, g3]); rfl)); (case q80 => exact fun _ _ _ h => h); (case w80 => rfl); (case y80 => (intro w' hSw; (try dsimp only at hSw); go_simp; (try with_reducible rfl))); (try simp only [Act.put, s1, s2, s3]))
  (refine takeH (i := 4) (oi := ?o81) (v := ?v81) ?h81 (by kernel_rfl) ?q81 (Or.inl ⟨?w81, ?y81⟩) (by assumption) ?r81; (case h81 => ((simp only [g1, g2, g3]); rfl)); (case q81 => exact fun _ _ _ h => h); (case w81 => rfl); (case y81 => (intro w' hSw; (try dsimp only at hSw); go_simp; (try with_reducible rfl))); (try simp only [Act.put, s1, s2, s3]))
  (refine takeH (i := 5) (oi := ?o82) (v := ?v82) ?h82 (by kernel_rfl) ?q82 (Or.inl ⟨?w82, ?y82⟩) (by assumption) ?r82; (case h82 => ((simp only [g1, g2, g3]); rfl)); (case q82 => exact fun _ _ _ h => h); (case w82 => rfl); (case y82 => (intro w' hSw; (try dsimp only at hSw); go_simp; (try with_reducible rfl))); (try simp only [Act.put, s1, s2, s3]))
  (refine takeH (i := 6) (oi := ?o83) (v := ?v83) ?h83 (by kernel_rfl) ?q83 (Or.inl ⟨?w83, ?y83⟩) (by assumption) ?r83; (case h83 => ((simp only [g1, g2, g3]); rfl)); (case q83 => exact fun _ _ _ h => h); (case w83 => rfl); (case y83 => (intro w' hSw; (try dsimp only at hSw); go_simp; (try with_reducible rfl))); (try simp only [Act.put, s1, s2, s3]))
  (refine takeH (i := 7) (oi := ?o84) (v := ?v84) ?h84 (by kernel_rfl) ?q84 (Or.inl ⟨?w84, ?y84⟩) (by assumption) ?r84; (case h84 => ((simp only [g1, g2, g3]); rfl)); (case q84 => exact fun _ _ _ h => h); (case w84 => rfl); (case y84 => (intro w' hSw; (try dsimp only at hSw); go_simp; (try with_reducible rfl))); (try simp only [Act.put, s1, s2, s3]))
  (refine takeH (i := 8) (oi := ?o85) (v := ?v85) ?h85 (by kernel_rfl) ?q85 (Or.inl ⟨?w85, ?y85⟩) (by assumption) ?r85; (case h85 => ((simp only [g1, g2, g3]); rfl)); (case q85 => exact fun _ _ _ h => h); (case w85 => rfl); (case y85 => (intro w' hSw; (try dsimp only at hSw); go_simp; (try with_reducible rfl))); (try simp only [Act.put, s1, s2, s3]))
  (refine takeH (i := 9) (oi := ?o86) (v := ?v86) ?h86 (by kernel_rfl) ?q86 (Or.inl ⟨?w86, ?y86⟩) (by assumption) ?r86; (case h86 => ((simp only [g1, g2, g3]); rfl)); (case q86 => exact fun _ _ _ h => h); (case w86 => rfl); (case y86 => (intro w' hSw; (try dsimp only at hSw); go_simp; (try with_reducible rfl))); (try simp only [Act.put, s1, s2, s3]))
  (refine wpAnyH_ready (rs := [10]) (by kernel_rfl) (by simp) ?_; refine AllReadyH.cons (o := ?o87) ?h87 (fun K hK => ?s87) AllReadyH.nil; (case h87 => (first | ((simp only [g1, g2, g3]); rfl) | rfl)); go_simp; (try dsimp only); refine hK.out _ _ ?_ (fun hHd => ?_); (focus ((try dsimp only); (first | with_reducible assumption | with_reducible exact held_start _ | with_reducible exact held_next (by assumption) (by assumption) | with_reducible exact held_alloc (by assumption) _ | with_reducible exact held_drew (by assumption) | ((with_reducible refine held_kp ?_); (repeat (first | with_reducible assumption | with_reducible exact Kp.refl _ | with_reducible refine Kp.drew ?_ | with_reducible refine Kp.drewN ?_ _ | with_reducible refine Kp.alloc ?_ _ | ((with_reducible refine Kp.setCell ?_ ?_ _); rotate_left; (focus (first | omega | (simp; done) | (simp; omega)))) | with_reducible refine Kp.trans ?_ (by assumption))))))); clear hK K; (try simp only [Act.put, s1, s2, s3]))
  (refine wpAnyH_ready (rs := [11]) (by kernel_rfl) (by simp) ?_; refine AllReadyH.cons (o := ?o88) ?h88 (fun K hK => ?s88) AllReadyH.nil; (case h88 => (first | ((simp only [g1, g2, g3]); rfl) | rfl)); go_simp; (try dsimp only); refine hK.out _ _ ?_ (fun hHd => ?_); (focus ((try dsimp only); (first | with_reducible assumption | with_reducible exact held_start _ | with_reducible exact held_next (by assumption) (by assumption) | with_reducible exact held_alloc (by assumption) _ | with_reducible exact held_drew (by assumption) | ((with_reducible refine held_kp ?_); (repeat (first | with_reducible assumption | with_reducible exact Kp.refl _ | with_reducible refine Kp.drew ?_ | with_reducible refine Kp.drewN ?_ _ | with_reducible refine Kp.alloc ?_ _ | ((with_reducible refine Kp.setCell ?_ ?_ _); rotate_left; (focus (first | omega | (simp; done) | (simp; omega)))) | with_reducible refine Kp.trans ?_ (by assumption))))))); clear hK K; (try simp only [Act.put, s1, s2, s3]))
  refine wpAnyH_done (by kernel_rfl) ?_ _
  clear hHd
  go_wp2_with fail
  refine (CW.out _).mono ?_
  rintro e w2 ⟨v2, rfl, hr2, k2⟩
  obtain ⟨a2, c2, rfl, sl2⟩ := hr2.sl (fun _ => rfl)
  have m3 := sl2.2.1
  have m4 := sl2.2.2.1
  unfold maxLen at m4
  rcases sl2.2.2.2 with e | ⟨g2', o2, rfl, hg2, r2⟩
  · cases e
  have q0 := r2 0 _ rfl 0 _ rfl
  simp only [Nat.add_zero, Nat.mul_one] at q0
  have kw2 : Kp w1 w2 := ((by (repeat (first | with_reducible assumption | with_reducible exact Kp.refl _ | with_reducible refine Kp.drew ?_ | with_reducible refine Kp.drewN ?_ _ | with_reducible refine Kp.alloc ?_ _ | ((with_reducible refine Kp.setCell ?_ ?_ _); rotate_left; (focus (first | omega | (simp; done) | (simp; omega)))) | with_reducible refine Kp.trans ?_ (by assumption)))) : Kp w1 _).trans k2
  have br := br1.kp kw2
  have brl := br1.lt
  clear hr2 sl2 r2 k2 CW
  have hX2 := kw2.size
  have kww : Kp w w2 := kw1.trans kw2
  have p2 := (kww.cell (p := ⟨g, k * 4, none⟩) hgg).trans P0
  have hgg2 := Nat.lt_of_lt_of_le hgg kww.size
  go_wp2_with fail
  refine (CW2.out _).mono ?_
  rintro e w3 ⟨v3, rfl, hr3, k3⟩
  obtain ⟨a3, c3, rfl, sl3⟩ := hr3.sl (fun _ => rfl)
  have m5 := sl3.2.1
  have m6 := sl3.2.2.1
  unfold maxLen at m6
  rcases sl3.2.2.2 with e | ⟨g3', o3, rfl, hg3, r3⟩
  · cases e
  have q3 := r3 0 _ rfl 0 _ rfl
  simp only [Nat.add_zero, Nat.mul_one] at q3
  clear hr3 sl3 r3 CW2
  go_wp2_with fail
  refine (CP.out _).mono ?_
  rintro e w4 ⟨rfl, k4⟩
  have kw24 : Kp w2 w4 := ((by (repeat (first | with_reducible assumption | with_reducible exact Kp.refl _ | with_reducible refine Kp.drew ?_ | with_reducible refine Kp.drewN ?_ _ | with_reducible refine Kp.alloc ?_ _ | ((with_reducible refine Kp.setCell ?_ ?_ _); rotate_left; (focus (first | omega | (simp; done) | (simp; omega)))) | with_reducible refine Kp.trans ?_ (by assumption)))) : Kp w2 _).trans k4
  have kw14 : Kp w1 w4 := kw2.trans kw24
  have kw4 : Kp w w4 := kww.trans kw24
  clear kw24
  have br4 := br1.kp kw14
  have p4 := (kw4.cell (p := ⟨g, k * 4, none⟩) hgg).trans P0
  have hgg4 := Nat.lt_of_lt_of_le hgg kw4.size
  clear k3 k4 br br1
  have y0 := br4.cell 0 rfl
  have y1 := br4.cell 1 rfl
  have y2 := br4.cell 2 rfl
  have f0 := br4.free 0
  have f1 := br4.free 1
  have f2 := br4.free 2
  have brl4 := br4.lt
  go_wp2_with fail
  have zz := Blk.alloc (((br4.set 0 (.slice none 0 0)).set 1 (.int .i64 0)).set 2 (.bool false)) (.cells #[.int .i64 pk, .int .i64 pn, .int .i64 pll, .int .i64 py, .int .i64 ph, .bool b] 37)
  have x0 := zz.cell 0 rfl
  have x1 := zz.cell 1 rfl
  have x2 := zz.cell 2 rfl
  clear y0 y1 y2
  refine bodyPost_ret (v := .agg #[.slice none 0 0, .int .i64 0, .bool false]) (by simp [results, Tryd.results22, go_sem, x0, x1, x2]) rfl ?_
  exact ⟨rfl, (by (repeat (first | with_reducible assumption | with_reducible exact Kp.refl _ | with_reducible refine Kp.drew ?_ | with_reducible refine Kp.drewN ?_ _ | with_reducible refine Kp.alloc ?_ _ | ((with_reducible refine Kp.setCell ?_ ?_ _); rotate_left; (focus (first | omega | (simp; done) | (simp; omega)))) | with_reducible refine Kp.trans ?_ (by assumption))))⟩
set_option maxRecDepth 100000 in
set_option maxHeartbeats 8000000 in
theorem one_noput (line : List UInt8) (w0 : List UInt8) (ws : List (List UInt8)) (hw : splitW line = w0 :: ws) (hw1 : w0 ≠ wPage) (n0 n1 n2 n3 : Int) (hn : (numsL line)[0]? = some n0 ∧ (numsL line)[1]? = some n1 ∧ (numsL line)[2]? = some n2 ∧ (numsL line)[3]? = some n3) (hs : line.length ≤ 10000) (hw2 : w0 ≠ wLane) (base : Nat) (qs : List Page) (k g vc : Nat) (la : Option Addr) (n lc : Nat) (ll : List Lane) (pt pf pl : Int) (hk : qs.length = k) (hps : k ≤ 1000000) (w : World) (hr : Row w base 49 4 Page.cells (.slice (some ⟨g, 0, none⟩) (k + 1) vc) (qs ++ [⟨⟨la, n, lc, ll⟩, pt, pf, pl⟩])) (P : Put) (b : Bool) (hP : refGot line = gotV P b) (hn0 : n ≠ 0) (hb0 : b = false) :
    Calls Tryd.prog 22 #[.slice (some ⟨g, 0, none⟩) (k + 1) vc, sv line] w fun e w' => e = .returned (.agg #[.slice none 0 0, .int .i64 0, .bool false]) ∧ Kp w w' := by
  obtain ⟨pk, pn, pll, py, ph⟩ := P
  subst hb0
  have j4 : ((n : Int) == 0) = false := beq_eq_false_iff_ne.2 (by omega)
  have j5 : (n == 0) = false := beq_eq_false_iff_ne.2 hn0
  have j6 : decide ((n : Int) = 0) = false := decide_eq_false (by omega)
  have CP := Lib.hid (fun w' => refPut51_any line hs w')
  rw [hP] at CP
  unfold gotV at CP
  clear hP
  have CW2 := Lib.hid (fun w' => words_any line hs w')
  rw [hw] at CW2
  have hgg := (hr.lt g rfl).2
  obtain ⟨-, hvc1, hvm⟩ := hr.shape1 (by rw [List.length_append, List.length_singleton]; omega)
  unfold maxLen at hvm
  have P0 := Row.cellN (enc := Page.cells) (fun _ => rfl) hr rfl (get_last hk) (j := 0) rfl
  simp only [Nat.add_zero] at P0
  have ek : (k : Int) < (k : Int) + 1 := by omega
  have j2 : decide ((k : Int) + 1 = 0) = false := decide_eq_false (by omega)
  have j3 : (((k : Int) + 1) == 0) = false := beq_eq_false_iff_ne.2 (by omega)
  clear hr
  have CN := Lib.hid (fun w' => nums_any line hs w')
  have CW := Lib.hid (fun w' => words_any line hs w')
  rw [hw] at CW
  have HN := Lib.hid hn
  have h6 := numsL_len line
  have t1 : (w0 == [112, 97, 103, 101]) = false := beq_eq_false_iff_ne.2 hw1
  clear hw1
  have t2 : (w0 == [108, 97, 110, 101]) = false := beq_eq_false_iff_ne.2 hw2
  clear hw2
  clear hn hw
  go_enter Tryd.func22, Tryd.ntmps22
  go_wp2_with fail
  refine (CN.out _).mono ?_
  rintro e w1 ⟨v1, rfl, hr1, k1⟩
  obtain ⟨a1, c1, rfl, sl1⟩ := hr1.sl (fun _ => rfl)
  have m1 := sl1.2.1
  have m2 := sl1.2.2.1
  unfold maxLen at m2
  rcases sl1.2.2.2 with e | ⟨gn, o, rfl, hgn, r1⟩
  · rw [e] at h6; simp at h6
  have d0 := r1 0 _ HN.out.1 0 _ rfl
  have d1 := r1 1 _ HN.out.2.1 0 _ rfl
  have d2 := r1 2 _ HN.out.2.2.1 0 _ rfl
  have d3 := r1 3 _ HN.out.2.2.2 0 _ rfl
  simp only [Nat.add_zero, Nat.mul_one] at d0 d1 d2 d3
  have br1 : Blk w1 w.heap.size [.slice none 0 0, .int .i64 0, .bool false] 27 := Blk.kp (by (repeat (first | with_reducible assumption | ((with_reducible refine Blk.newL ?_ ?_); (focus (first | (simp; done) | omega)); rfl) | with_reducible refine Blk.drew ?_ | with_reducible refine Blk.drewN ?_ _ | with_reducible refine Blk.alloc ?_ _ | ((with_reducible refine Blk.other ?_ ?_ _); rotate_left; (focus (first | with_reducible assumption | omega | (simp; done) | (simp; omega))))))) k1
  have kw1 : Kp w w1 := ((by (repeat (first | with_reducible assumption | with_reducible exact Kp.refl _ | with_reducible refine Kp.drew ?_ | with_reducible refine Kp.drewN ?_ _ | with_reducible refine Kp.alloc ?_ _ | ((with_reducible refine Kp.setCell ?_ ?_ _); rotate_left; (focus (first | omega | (simp; done) | (simp; omega)))) | with_reducible refine Kp.trans ?_ (by assumption)))) : Kp w _).trans k1
  obtain ⟨L, hL⟩ : ∃ L, (numsL line).length = L := ⟨_, rfl⟩
  rw [hL] at h6 m1 ⊢
  have l0 : 0 < L := by omega
  have l1 : (1 : Int) < (L : Int) := by omega
  have l2 : (2 : Int) < (L : Int) := by omega
  have l3 : (3 : Int) < (L : Int) := by omega
  clear hr1 sl1 r1 k1 hL HN CN
  go_wp2_with fail
  (refine wp_region_held_drew (S := (fun w' => (∀ b o, b < w1.heap.size → w'.cell? ⟨b, o, none⟩ = w1.cell? ⟨b, o, none⟩) ∧ Kp w1 w')) (by kernel_rfl) ?_ (fun hHd => ?_); (focus ((try dsimp only); (first | with_reducible assumption | with_reducible exact held_start _ | with_reducible exact held_next (by assumption) (by assumption) | with_reducible exact held_alloc (by assumption) _ | with_reducible exact held_drew (by assumption) | ((with_reducible refine held_kp ?_); (repeat (first | with_reducible assumption | with_reducible exact Kp.refl _ | with_reducible refine Kp.drew ?_ | with_reducible refine Kp.drewN ?_ _ | with_reducible refine Kp.alloc ?_ _ | ((with_reducible refine Kp.setCell ?_ ?_ _); rotate_left; (focus (first | omega | (simp; done) | (simp; omega)))) | with_reducible refine Kp.trans ?_ (by assumption))))))))
  (refine takeH (i := 0) (oi := ?o89) (v := ?v89) ?h89 (by kernel_rfl) ?q89 (Or.inl ⟨?w89, ?y89⟩) (by assumption) ?r89; (case h89 => ((simp only [g1, g3]); rfl)); (case q89 => exact fun _ _ _ h => h); (case w89 => rfl); (case y89 => (intro w' hSw; (try dsimp only at hSw); go_simp; (try with_reducible rfl))); (try simp only [Act.put, s1, s2, s3]))
  (refine takeH (i := 1) (oi := ?o90) (v := ?v90) ?h90 (by kernel_rfl) ?q90 (Or.inl ⟨?w90, ?y90⟩) (by assumption) ?r90; (case h90 => ((simp only [g1, g2, g3]); rfl)); (case q90 => exact fun _ _ _ h => h); (case w90 => rfl); (case y90 => (intro w' hSw; (try dsimp only at hSw); go_simp; (try with_reducible rfl))); (try simp only [Act.put, s1, s2, s3]))
  (refine takeH (i := 2) (oi := ?o91) (v := ?v91) ?h91 (by kernel_rfl) ?q91 (Or.inl ⟨?w91, ?y91⟩) (by assumption) ?r91; (case h91 => ((simp only [g1, g2, g3]); rfl)); (case q91 => exact fun _ _ _ h => h); (case w91 => rfl); (case y91 => (intro w' hSw; (try dsimp only at hSw); go_simp; (try with_reducible rfl))); (try simp only [Act.put, s1, s2, s3]))
  (refine takeH (i := 3) (oi := ?o92) (v := ?v92) ?h92 (by kernel_rfl) ?q92 (Or.inl ⟨?w92, ?y92⟩) (by assumption) ?r92; (case h92 => ((simp only [g1, g2, g3]); rfl)); (case q92 => exact fun _ _ _ h => h); (case w92 => rfl); (case y92 => (intro w' hSw; (try dsimp only at hSw); go_simp; (try with_reducible rfl))); (try simp only [Act.put, s1, s2, s3]))
  (refine takeH (i := 4) (oi := ?o93) (v := ?v93) ?h93 (by kernel_rfl) ?q93 (Or.inl ⟨?w93, ?y93⟩) (by assumption) ?r93; (case h93 => ((simp only [g1, g2, g3]); rfl)); (case q93 => exact fun _ _ _ h => h); (case w93 => rfl); (case y93 => (intro w' hSw; (try dsimp only at hSw); go_simp; (try with_reducible rfl))); (try simp only [Act.put, s1, s2, s3]))
  (refine takeH (i := 5) (oi := ?o94) (v := ?v94) ?h94 (by kernel_rfl) ?q94 (Or.inl ⟨?w94, ?y94⟩) (by assumption) ?r94; (case h94 => ((simp only [g1, g2, g3]); rfl)); (case q94 => exact fun _ _ _ h => h); (case w94 => rfl); (case y94 => (intro w' hSw; (try dsimp only at hSw); go_simp; (try with_reducible rfl))); (try simp only [Act.put, s1, s2, s3]))
  (refine takeH (i := 6) (oi := ?o95) (v := ?v95) ?h95 (by kernel_rfl) ?q95 (Or.inl ⟨?w95, ?y95⟩) (by assumption) ?r95; (case h95 => ((simp only [g1, g2, g3]); rfl)); (case q95 => exact fun _ _ _ h => h); (case w95 => rfl); (case y95 => (intro w' hSw; (try dsimp only at hSw); go_simp; (try with_reducible rfl))); (try simp only [Act.put, s1, s2, s3]))
  (refine takeH (i := 7) (oi := ?o96) (v := ?v96) ?h96 (by kernel_rfl) ?q96 (Or.inl ⟨?w96, ?y96⟩) (by assumption) ?r96; (case h96 => ((simp only [g1, g2, g3]); rfl)); (case q96 => exact fun _ _ _ h => h); (case w96 => rfl); (case y96 => (intro w' hSw; (try dsimp only at hSw); go_simp; (try with_reducible rfl))); (try simp only [Act.put, s1, s2, s3]))
  (refine takeH (i := 8) (oi := ?o97) (v := ?v97) ?h97 (by kernel_rfl) ?q97 (Or.inl ⟨?w97, ?y97⟩) (by assumption) ?r97; (case h97 => ((simp only [g1, g2, g3]); rfl)); (case q97 => exact fun _ _ _ h => h); (case w97 => rfl); (case y97 => (intro w' hSw; (try dsimp only at hSw); go_simp; (try with_reducible rfl))); (try simp only [Act.put, s1, s2, s3]))
  (refine takeH (i := 9) (oi := ?o98) (v := ?v98) ?h98 (by kernel_rfl) ?q98 (Or.inl ⟨?w98, ?y98⟩) (by assumption) ?r98; (case h98 => ((simp only [g1, g2, g3]); rfl)); (case q98 => exact fun _ _ _ h => h); (case w98 => rfl); (case y98 => (intro w' hSw; (try dsimp only at hSw); go_simp; (try with_reducible rfl))); (try simp only [Act.put, s1, s2, s3]))
  (refine wpAnyH_ready (rs := [10]) (by kernel_rfl) (by simp) ?_; refine AllReadyH.cons (o := ?o99) ?h99 (fun K hK => ?s99) AllReadyH.nil; (case h99 => (first | ((simp only [g1, g2, g3]); rfl) | rfl)); go_simp; (try dsimp only); refine hK.out _ _ ?_ (fun hHd => ?_); (focus ((try dsimp only); (first | with_reducible assumption | with_reducible exact held_start _ | with_reducible exact held_next (by assumption) (by assumption) | with_reducible exact held_alloc (by assumption) _ | with_reducible exact held_drew (by assumption) | ((with_reducible refine held_kp ?_); (repeat (first | with_reducible assumption | with_reducible exact Kp.refl _ | with_reducible refine Kp.drew ?_ | with_reducible refine Kp.drewN ?_ _ | with_reducible refine Kp.alloc ?_ _ | ((with_reducible refine Kp.setCell ?_ ?_ _); rotate_left; (focus (first | omega | (simp; done) | (simp; omega)))) | with_reducible refine Kp.trans ?_ (by assumption))))))); clear hK K; (try simp only [Act.put, s1, s2, s3]))
  (refine wpAnyH_ready (rs := [11]) (by kernel_rfl) (by simp) ?_; refine AllReadyH.cons (o := ?o100) ?h100 (fun K hK => ?s100) AllReadyH.nil; (case h100 => (first | ((simp only [g1, g2, g3]); rfl) | rfl)); go_simp; (try dsimp only); refine hK.out _ _ ?_ (fun hHd => ?_); (focus ((try dsimp only); (first | with_reducible assumption | with_reducible exact held_start _ | with_reducible exact held_next (by assumption) (by assumption) | with_reducible exact held_alloc (by assumption) _ | with_reducible exact held_drew (by assumption) | ((with_reducible refine held_kp ?_); (repeat (first | with_reducible assumption | with_reducible exact Kp.refl _ | with_reducible refine Kp.drew ?_ | with_reducible refine Kp.drewN ?_ _ | with_reducible refine Kp.alloc ?_ _ | ((with_reducible refine Kp.setCell ?_ ?_ _); rotate_left; (focus (first | omega | (simp; done) | (simp; omega)))) | with_reducible refine Kp.trans ?_ (by assumption))))))); clear hK K; (try simp only [Act.put, s1, s2, s3]))
  refine wpAnyH_done (by kernel_rfl) ?_ _
  clear hHd
  go_wp2_with fail
  refine (CW.out _).mono ?_
  rintro e w2 ⟨v2, rfl, hr2, k2⟩
  obtain ⟨a2, c2, rfl, sl2⟩ := hr2.sl (fun _ => rfl)
  have m3 := sl2.2.1
  have m4 := sl2.2.2.1
  unfold maxLen at m4
  rcases sl2.2.2.2 with e | ⟨g2', o2, rfl, hg2, r2⟩
  · cases e
  have q0 := r2 0 _ rfl 0 _ rfl
  simp only [Nat.add_zero, Nat.mul_one] at q0
  have kw2 : Kp w1 w2 := ((by (repeat (first | with_reducible assumption | with_reducible exact Kp.refl _ | with_reducible refine Kp.drew ?_ | with_reducible refine Kp.drewN ?_ _ | with_reducible refine Kp.alloc ?_ _ | ((with_reducible refine Kp.setCell ?_ ?_ _); rotate_left; (focus (first | omega | (simp; done) | (simp; omega)))) | with_reducible refine Kp.trans ?_ (by assumption)))) : Kp w1 _).trans k2
  have br := br1.kp kw2
  have brl := br1.lt
  clear hr2 sl2 r2 k2 CW
  have hX2 := kw2.size
  have kww : Kp w w2 := kw1.trans kw2
  have p2 := (kww.cell (p := ⟨g, k * 4, none⟩) hgg).trans P0
  have hgg2 := Nat.lt_of_lt_of_le hgg kww.size
  go_wp2_with fail
  refine (CW2.out _).mono ?_
  rintro e w3 ⟨v3, rfl, hr3, k3⟩
  obtain ⟨a3, c3, rfl, sl3⟩ := hr3.sl (fun _ => rfl)
  have m5 := sl3.2.1
  have m6 := sl3.2.2.1
  unfold maxLen at m6
  rcases sl3.2.2.2 with e | ⟨g3', o3, rfl, hg3, r3⟩
  · cases e
  have q3 := r3 0 _ rfl 0 _ rfl
  simp only [Nat.add_zero, Nat.mul_one] at q3
  clear hr3 sl3 r3 CW2
  go_wp2_with fail
  refine (CP.out _).mono ?_
  rintro e w4 ⟨rfl, k4⟩
  have kw24 : Kp w2 w4 := ((by (repeat (first | with_reducible assumption | with_reducible exact Kp.refl _ | with_reducible refine Kp.drew ?_ | with_reducible refine Kp.drewN ?_ _ | with_reducible refine Kp.alloc ?_ _ | ((with_reducible refine Kp.setCell ?_ ?_ _); rotate_left; (focus (first | omega | (simp; done) | (simp; omega)))) | with_reducible refine Kp.trans ?_ (by assumption)))) : Kp w2 _).trans k4
  have kw14 : Kp w1 w4 := kw2.trans kw24
  have kw4 : Kp w w4 := kww.trans kw24
  clear kw24
  have br4 := br1.kp kw14
  have p4 := (kw4.cell (p := ⟨g, k * 4, none⟩) hgg).trans P0
  have hgg4 := Nat.lt_of_lt_of_le hgg kw4.size
  clear k3 k4 br br1
  have y0 := br4.cell 0 rfl
  have y1 := br4.cell 1 rfl
  have y2 := br4.cell 2 rfl
  have f0 := br4.free 0
  have f1 := br4.free 1
  have f2 := br4.free 2
  have brl4 := br4.lt
  go_wp2_with fail
  have zz := Blk.alloc (((br4.set 0 (.slice none 0 0)).set 1 (.int .i64 0)).set 2 (.bool false)) (.cells #[.int .i64 pk, .int .i64 pn, .int .i64 pll, .int .i64 py, .int .i64 ph, .bool false] 37)
  have x0 := zz.cell 0 rfl
  have x1 := zz.cell 1 rfl
  have x2 := zz.cell 2 rfl
  clear y0 y1 y2
  refine bodyPost_ret (v := .agg #[.slice none 0 0, .int .i64 0, .bool false]) (by simp [results, Tryd.results22, go_sem, x0, x1, x2]) rfl ?_
  exact ⟨rfl, (by (repeat (first | with_reducible assumption | with_reducible exact Kp.refl _ | with_reducible refine Kp.drew ?_ | with_reducible refine Kp.drewN ?_ _ | with_reducible refine Kp.alloc ?_ _ | ((with_reducible refine Kp.setCell ?_ ?_ _); rotate_left; (focus (first | omega | (simp; done) | (simp; omega)))) | with_reducible refine Kp.trans ?_ (by assumption))))⟩
end Go.Proofs.YteadhacoglcbfaaDoor
